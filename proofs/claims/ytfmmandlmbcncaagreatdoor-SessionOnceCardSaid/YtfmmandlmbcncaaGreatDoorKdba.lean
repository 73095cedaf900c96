/-
  A part of the proof.
-/
import Derived.Test.YtfmmandlmbcncaaGreatDoorKdaz
set_option maxHeartbeats 40000000
set_option maxRecDepth 100000
namespace Go.Proofs.YtfmmandlmbcncaaGreatDoor.Msg
open Go.RowKit Go.Lib Mem Tlv
theorem BC (W:World)(k:Int):QAt W (jT k) ⟨[],[]⟩:=⟨⟨Rd.nil _ _,fun _ hp=>absurd hp List.not_mem_nil⟩,Rd.nil _ _,Nat.zero_le _⟩
def kU (c:QC):Prop:=(∀p∈c.ents,au p.1 p.2=true)->(dm c.ents).length<=4194304
theorem vG {v:QV}{c:QC}(h:v.code=0)(hl:kU c):bf v c=!(decide (1000<v.en)||(c.ents.any fun u=>!au u.1 u.2)||decide (4000<v.cn)):=by
 unfold bf;rw[if_pos h];cases ha:(c.ents.any fun u=>!au u.1 u.2) with
 | true=>simp
 | false=>
  have hall:∀p∈c.ents,au p.1 p.2=true:=fun p hp=>by
   have:=List.any_eq_false.1 ha p hp;simpa using this
  rw[decide_eq_true (hl hall),Bool.and_true]
theorem rX (v:QV)(c:QC)(w:World)(h:QAt w v c)(hlen:kU c):Calls Tryz.prog 106 #[v.val] w (aY (bf v c) w):=by
 have hb0:Below w.heap.size w (w.alloc v.box):=(Below.refl _ _).alloc (Nat.le_refl _) _;have k0:(w.alloc v.box).heap[w.heap.size]?=some v.box:=by show (w.heap.push _)[w.heap.size]?=some _;exact Array.getElem?_push_size
 unfold QV.box QV.cells at hb0 k0;unfold QV.val QV.cells;by_cases hc0:v.code=0
 case neg=>
  have f1:(v.code==0)=false:=by simp[hc0]
  have g1:(v.code != 0)=true:=by simp[hc0]
  have HM:Hid (bf v c=(decide (0<v.code)&&decide (v.code<=14)&&aN v c (jT v.code) ⟨[],[]⟩)):=hid (by unfold bf;rw[if_neg hc0]);clear hc0;go_in;go_upto_region 1 with fail;generalize hg:w.alloc _=W0 at *;have q0:W0.heap[w.heap.size]?=some v.box:=k0;clear hg k0;obtain⟨c0,c1,c2,c3,-⟩:=aj q0;by_cases h1:0<v.code
  ·have f2:decide (0<v.code)=true:=decide_eq_true h1;have H1:=hid h1;clear h1;by_cases h2:v.code<=14
   ·have f3:decide (v.code<=14)=true:=decide_eq_true h2;have H2:=hid h2;clear h2;have hs:=vT v (jT v.code) c ⟨[],[]⟩ W0 (h.later hb0) (BC _ _);unfold QV.val QV.cells jT at hs;dsimp only at hs;go_wp2_with fail;refine hs.mono ?_;rintro e W1 ⟨rfl,hb1⟩;go_wp2_with fail;go_ret;exact⟨by rw[HM.out,decide_eq_true H1.out,decide_eq_true H2.out];simp only[Bool.true_and];rfl,hb0.trans (hb1.mono hb0.size)⟩
   have f3:decide (v.code<=14)=false:=decide_eq_false h2;have H2:=hid h2;clear h2;go_wp2_with fail;go_ret;exact⟨by rw[HM.out,decide_eq_false (by have:=H2.out;omega:¬v.code<=14)];simp,hb0⟩
  have f2:decide (0<v.code)=false:=decide_eq_false h1;have H1:=hid h1;clear h1;go_wp2_with fail;go_ret;exact⟨by rw[HM.out,decide_eq_false (by have:=H1.out;omega:¬0<v.code)];simp,hb0⟩
 have f1:(v.code==0)=true:=by simp[hc0]
 have g1:(v.code != 0)=false:=by simp[hc0]
 have HM:Hid (bf v c=!(decide (1000<v.en)||(c.ents.any fun u=>!au u.1 u.2)||decide (4000<v.cn))):=hid (vG hc0 hlen);have HC:=hid hc0;clear hc0;go_in;go_upto_region 1 with fail;generalize hg:w.alloc _=W0 at *;have q0:W0.heap[w.heap.size]?=some v.box:=k0;clear hg k0;obtain⟨c0,c1,c2,c3,-⟩:=aj q0;by_cases hn:1000<v.en
 case pos=>
  have f2:decide ((1000:Int)<(v.en:Int))=true:=decide_eq_true (by omega);have HN:=hid hn;clear hn;go_wp2_with fail;go_ret;exact⟨by rw[HM.out,decide_eq_true HN.out];simp,hb0⟩
 have f2:decide ((1000:Int)<(v.en:Int))=false:=decide_eq_false (by omega);have HN:=hid hn;clear hn;go_wp2_with fail;refine (BF v.eo v.en v.ec c.ents W0 (h.later hb0).e).mono ?_;rintro e W1 ⟨rfl,hb1⟩;have q1:=(hb1.block _ (Array.getElem?_eq_some_iff.1 q0).1).trans q0;have hbel:=hb0.trans (hb1.mono hb0.size);clear c0 c1 c2 c3;obtain⟨c0,c1,c2,c3,-⟩:=aj q1;cases ha:(c.ents.any fun u=>!au u.1 u.2) with
 | true=>
  have HA:=hid ha;clear ha;go_wp2_with fail;go_ret;exact⟨by rw[HM.out,HA.out];simp,hbel⟩
 | false=>
  have HA:=hid ha;clear ha;by_cases hcn:4000<v.cn
  ·have f3:decide ((4000:Int)<(v.cn:Int))=true:=decide_eq_true (by omega);have HK:=hid hcn;clear hcn;go_wp2_with fail;go_ret;exact⟨by rw[HM.out,decide_eq_true HK.out];simp,hbel⟩
  have f3:decide ((4000:Int)<(v.cn:Int))=false:=decide_eq_false (by omega);have HK:=hid hcn;have hrb:=sK v c W1 (h.later hbel) (by rw[HC.out];decide) (by rw[HC.out];decide) (by have:=HN.out;omega) (fun p hp=>by
   have:=List.any_eq_false.1 HA.out p hp;simpa using this) (hlen (fun p hp=>by
   have:=List.any_eq_false.1 HA.out p hp;simpa using this)) (by omega)
  unfold QV.val QV.cells at hrb;clear hcn;go_wp2_with (refine zLr rfl q1 ?_;go_simp);refine hrb.mono ?_;rintro e W2 ⟨a2,x2,rfl,-,hb2,-⟩;go_wp2_with fail;go_ret;exact⟨by rw[HM.out,HA.out,decide_eq_false (by have:=HK.out;omega:¬4000<v.cn),decide_eq_false (by have:=HN.out;omega:¬1000<v.en)];rfl,hbel.trans (hb2.mono hbel.size)⟩
structure FitQ (v:QV)(c:QC):Prop where
 c0:0<=v.code
 c14:v.code<=14
 en:v.en<=1000
 all:∀p∈c.ents,au p.1 p.2=true
 len:(dm c.ents).length<=4194304
 cn:v.cn<=4000
theorem Bj:∀ {l:List EP},aH l []=true->l=[]
 | [],_=>rfl
 | _::_,h=>by simp[aH] at h
theorem FitQ.of {W:World}{v:QV}{c:QC}(h:QAt W v c)(hm:bf v c=true):FitQ v c:=by
 have lx:=h.e.len;have lc:c.cursor.length=v.cn:=by have:=h.c.1;rw[aS] at this;omega
 unfold bf at hm;by_cases h0:v.code=0
 ·rw[if_pos h0] at hm;simp only[Bool.and_eq_true,Bool.not_eq_true',Bool.or_eq_false_iff,decide_eq_false_iff_not,decide_eq_true_eq] at hm;obtain⟨⟨⟨h1,h2⟩,h3⟩,h4⟩:=hm;exact⟨by omega,by omega,by omega,fun p hp=>(by
   have:=List.any_eq_false.1 h2 p hp;simpa using this),h4,by omega⟩
 rw[if_neg h0] at hm;simp only[Bool.and_eq_true,decide_eq_true_eq] at hm;obtain⟨⟨h1,h2⟩,h3⟩:=hm;unfold aN at h3;simp only[Bool.and_eq_true,decide_eq_true_eq] at h3;obtain⟨-,-,h4,h5⟩:=h3;have e1:=Bj h4;rw[e1] at lx;rw[h5] at lc;have l0:([]:List EP).length=0:=rfl;have l1:([]:List UInt8).length=0:=rfl;refine⟨by omega,by omega,by omega,fun p hp=>?_,?_,by omega⟩
 ·rw[e1] at hp;cases hp
 rw[e1];exact Nat.zero_le _
def NM (v:QV)(c:QC)(w:World)(e:Ending)(w':World):Prop:=∃(l:List UInt8) (ax:Option Addr) (cx:Nat) (ex:Int),e=.returned (.tuple #[.slice ax l.length cx,.int .i64 ex])/\Rd w' 1 ax l.length cx (byV l)/\Below w.heap.size w w'/\(∀a,ax=some a->w.heap.size<=a.block)/\(bf v c=true->l=dG v c/\ex=0)/\(bf v c=false->l=[]/\ex=2)
theorem lT {v:QV}{c:QC}:(dG v c).length=29+(dm c.ents).length+c.cursor.length:=by unfold dG;simp only[List.length_append,ae,ah,List.length_cons,List.length_nil];omega
theorem zT (v:QV)(c:QC)(w:World)(h:QAt w v c)(hs:kU c):Calls Tryz.prog 197 #[v.val] w (NM v c w):=by
 have hb0:Below w.heap.size w (w.alloc v.box):=(Below.refl _ _).alloc (Nat.le_refl _) _;have k0:(w.alloc v.box).heap[w.heap.size]?=some v.box:=by show (w.heap.push _)[w.heap.size]?=some _;exact Array.getElem?_push_size
 unfold QV.box QV.cells at hb0 k0;unfold QV.val QV.cells;go_in;go_upto_region 1 with fail;generalize hg:w.alloc _=W0 at *;have q0:W0.heap[w.heap.size]?=some v.box:=k0;have hm0:=rX v c W0 (h.later hb0) hs;unfold QV.val QV.cells at hm0;clear hg k0;obtain⟨c0,c1,c2,c3,-⟩:=aj q0;go_wp2_with fail;refine hm0.mono ?_;rintro e W1 ⟨rfl,hb1⟩;have q1:=(hb1.block _ (Array.getElem?_eq_some_iff.1 q0).1).trans q0;have hbel:=hb0.trans (hb1.mono hb0.size);clear c0 c1 c2 c3 hm0;cases hm:bf v c with
 | false=>
  have HM:=hid hm;clear hm;go_wp2_with fail;go_ret2;exact⟨[],none,0,2,rfl,Rd.nil _ _,hbel,(fun a ha=>by cases ha),fun h=>(by rw[HM.out] at h;cases h),fun _=>⟨rfl,rfl⟩⟩
 | true=>
  have F:=FitQ.of h hm;have HM:=hid hm;have hr:=sK v c W1 (h.later hbel) F.c0 (by have:=F.c14;omega) F.en F.all F.len F.cn;unfold QV.val QV.cells at hr;clear hm F;go_wp2_with (refine zLr rfl q1 ?_;go_simp);refine hr.mono ?_;rintro e W2 ⟨ax,cx,rfl,hrd,hb2,hfr⟩;go_wp2_with fail;go_ret2;exact⟨_,ax,cx,0,rfl,hrd,hbel.trans (hb2.mono hbel.size),fun a ha=>Nat.le_trans hbel.size (hfr a ha),fun _=>⟨rfl,rfl⟩,fun h=>(by rw[HM.out] at h;cases h)⟩
theorem zS {v v':EV}{x x':List (ByteArray×ByteArray)}(h:bJ v x v' x'=true):au v x=au v' x'/\eu v x=eu v' x':=by
 unfold bJ at h;simp only[Bool.and_eq_true,decide_eq_true_eq] at h;obtain⟨h1,rfl⟩:=h;unfold au eu;rw[h1];exact⟨rfl,rfl⟩
theorem sH:∀ {l m:List EP},aH l m=true->(l.any fun u=>!au u.1 u.2)=(m.any fun u=>!au u.1 u.2)/\dm l=dm m
 | [],[],_=>⟨rfl,rfl⟩
 | [],_::_,h=>by simp[aH] at h
 | _::_,[],h=>by simp[aH] at h
 | p::l,q::m,h=>by
  unfold aH at h;simp only[Bool.and_eq_true] at h;obtain⟨h1,h2⟩:=h;obtain⟨a1,a2⟩:=zS h1;obtain⟨b1,b2⟩:=sH h2;rw[List.any_cons,List.any_cons,a1,b1,jq,jq,a2,b2];exact⟨rfl,rfl⟩
theorem yD {l m:List EP}(h:aH l m=true):aH l []=aH m []:=by
 have:=jG h;cases l with
 | nil=>cases m with
  | nil=>rfl
  | cons q m=>simp at this
 | cons p l=>cases m with
  | nil=>simp at this
  | cons q m=>rfl
theorem vW {W W':World}{v v':QV}{c c':QC}(h:QAt W v c)(h':QAt W' v' c')(hs:aN v c v' c'=true):bf v c=bf v' c':=by
 have lx:=h.e.len;have lx':=h'.e.len;have lc:c.cursor.length=v.cn:=by have:=h.c.1;rw[aS] at this;omega
 have lc':c'.cursor.length=v'.cn:=by have:=h'.c.1;rw[aS] at this;omega
 unfold aN at hs;simp only[Bool.and_eq_true,decide_eq_true_eq] at hs;obtain⟨h1,h2,h3,h4⟩:=hs;obtain⟨a1,a2⟩:=sH h3;have e1:v.en=v'.en:=by have:=jG h3;omega
 have e2:v.cn=v'.cn:=by rw[<-lc,<-lc',h4]
 unfold bf aN jT;dsimp only;rw[h1,h2,e1,e2,a1,a2,h4,yD h3]
theorem N7 {W W':World}{v v':QV}{c c':QC}(h:QAt W v c)(h':QAt W' v' c')(hm:bf v c=true)(hm':bf v' c'=true)(e:dG v c=dG v' c'):aN v c v' c'=true:=by
 have F:=FitQ.of h hm;have F':=FitQ.of h' hm';have lc:c.cursor.length=v.cn:=by have:=h.c.1;rw[aS] at this;omega
 have lc':c'.cursor.length=v'.cn:=by have:=h'.c.1;rw[aS] at this;omega
 have a0:=F.c0;have a1:=F.c14;have a2:=F.len;have a3:=F.cn;have b0:=F'.c0;have b1:=F'.c14;have b2:=F'.len;have b3:=F'.cn;unfold dG at e;obtain⟨h1,e⟩:=ak (by decide) (by rw[ah];omega) (by rw[ah];omega) e;obtain⟨h2,e⟩:=ak (by decide) (by simp) (by simp) e;obtain⟨h3,e⟩:=ak (by decide) (by omega) (by omega) e;obtain⟨h4,-⟩:=ak (by decide) (by omega) (by omega) e;have e1:=gV (by omega) (by omega) h1;have e2:v.yes=v'.yes:=by
  cases hy:v.yes<;>cases hy':v'.yes<;>rw[hy,hy'] at h2<;>first | rfl | (simp at h2)
 have e3:=qO _ _ F.all F'.all h3;unfold aN;rw[decide_eq_true (show v.code=v'.code by omega),decide_eq_true e2,e3,decide_eq_true h4];rfl
def rC (b:List UInt8):Prop:=∀W v c,QAt W v c->bf v c=true->dG v c≠b
theorem C9 {α β:Type}{body:α->List UInt8}{may good:α->Prop}{body':β->List UInt8}{may' good':β->Prop}{f:α->β}{s s':RS}{y:α}(h:Took body may good s y s')(hb:∀z,body z=body' (f z))(hm:∀Y,may' Y->∃z,may z/\f z=Y)(hg:∀z,good z->good' (f z)):Took body' may' good' s (f y) s':=
 ⟨fun h1=>by obtain⟨a,b,c⟩:=h.yes h1;exact⟨a,by rw[<-hb];exact b,hg _ c⟩,fun h1=>(h.no h1).imp id (fun k Y r hY=>by obtain⟨z,hz,rfl⟩:=hm Y hY;rw[<-hb];exact k z r hz),h.le⟩
def Ad (Y:List UInt8):Prop:=∃l:List EP,Y=dm l/\(∀p∈l,au p.1 p.2=true)/\l.length<=1000/\(dm l).length<=4194304
section
variable {b cur Y:List UInt8} {s1 s2 s3 s4:RS} {n1:Nat} {y2:Bool}
 (T1:Took (fun n:Nat=>val 1 (az n)) (fun n=>n<=14) (fun n=>n<18446744073709551616) ⟨b,false⟩ n1 s1)
 (T2:Took (fun y:Bool=>val 2 [if y then 1 else 0]) (fun _=>True) (fun _=>True) s1 y2 s2)
 (T3:Took (val 3) Ad (fun z=>z.length<=4194304) s2 Y s3)
 (T4:Took (val 4) (fun z=>z.length<=4194304) (fun z=>z.length<=4194304) s3 cur s4)
include T1 T2 T3 T4
theorem nR (h:(s4.bad=true\/0<s4.l.length)\/∀W v c,QAt W v c->bf v c=true->v.code=(n1:Int)->v.yes=y2->dm c.ents=Y->c.cursor=cur->False):rC b:=by
 intro W v c ho hm e;have F:=FitQ.of ho hm;have lx:=ho.e.len;have lc:c.cursor.length=v.cn:=by have:=ho.c.1;rw[aS] at this;omega
 have a0:=F.c0;have a1:=F.c14;have a2:=F.len;have a3:=F.cn;unfold dG at e;cases h1:s1.bad with
 | true=>
  rcases T1.no h1 with h | h
  ·cases h
  exact h v.code.toNat _ (by omega) e.symm
 | false=>
  obtain⟨-,e1,g1⟩:=T1.yes h1;dsimp only at e1;rw[e1] at e;obtain⟨k1,e⟩:=ak (by decide) (by rw[ah];omega) (by rw[ah];omega) e;cases h2:s2.bad with
  | true=>
   rcases T2.no h2 with h | h
   ·rw[h1] at h;cases h
   exact h v.yes _ trivial e.symm
  | false=>
   obtain⟨-,e2,g2⟩:=T2.yes h2;rw[e2] at e;obtain⟨k2,e⟩:=ak (by decide) (by simp) (by simp) e;cases h3:s3.bad with
   | true=>
    rcases T3.no h3 with h | h
    ·rw[h2] at h;cases h
    exact h (dm c.ents) _ ⟨c.ents,rfl,F.all,by have:=F.en;omega,a2⟩ e.symm
   | false=>
    obtain⟨-,e3,g3⟩:=T3.yes h3;rw[e3] at e;obtain⟨k3,e⟩:=ak (by decide) (by omega) g3 e;cases h4:s4.bad with
    | true=>
     rcases T4.no h4 with h | h
     ·rw[h3] at h;cases h
     exact h c.cursor [] (by omega) e.symm
    | false=>
     obtain⟨-,e4,g4⟩:=T4.yes h4;rw[e4] at e;obtain⟨k4,e⟩:=ak (by decide) (by omega) g4 e;rcases h with (h | h) | h
     ·rw[h4] at h;cases h
     ·rw[<-e] at h;simp at h
     have q1:=gV (by omega) (by omega) k1;have q2:v.yes=y2:=by
      cases hy:v.yes<;>cases hy':y2<;>rw[hy,hy'] at k2<;>first | rfl | (simp at k2)
     exact h W v c ho hm (by omega) q2 k3 k4
theorem Cb (h4:s4.bad=false)(hl:s4.l=[]):b=val 1 (az n1)++(val 2 [if y2 then 1 else 0]++(val 3 Y++(val 4 cur++[])))/\n1<18446744073709551616/\Y.length<=4194304/\cur.length<=4194304:=by
 obtain⟨h3,e4,g4⟩:=T4.yes h4;obtain⟨h2,e3,g3⟩:=T3.yes h3;obtain⟨h1,e2,-⟩:=T2.yes h2;obtain⟨-,e1,g1⟩:=T1.yes h1;dsimp only at e1;exact⟨by rw[e1,e2,e3,e4,hl],g1,g3,g4⟩
end
def dY {α:Type}(el:α->List UInt8)(l:List α):List UInt8:=l.flatMap el
theorem mZ {α:Type}(el:α->List UInt8)(z:α)(l:List α):dY el (z::l)=el z++dY el l:=rfl
theorem EM {α:Type}(el:α->List UInt8)(l:List α)(z:α):dY el (l++[z])=dY el l++el z:=by simp[dY]
theorem vU {α:Type}{el:α->List UInt8}{may:α->Prop}(hinj:∀z z' r r',may z->may z'->el z++r=el z'++r'->r=r')(hpos:∀z,0<(el z).length):∀(l ys:List α) (b:List UInt8),(∀y∈l,may y)->(∀y∈ys,may y)->dY el ys=dY el l++b->∃zs,(∀z∈zs,may z)/\ys.length=l.length+zs.length/\b=dY el zs
 | [],ys,b,_,hy,h=>⟨ys,hy,by simp,h.symm⟩
 | u::l,[],b,_,_,h=>by
  have:=congrArg List.length h;rw[mZ,List.length_append,List.length_append] at this;have e0:(dY el []).length=0:=rfl;have:=hpos u;omega
 | u::l,y::ys,b,hl,hy,h=>by
  rw[mZ,mZ,List.append_assoc] at h;have h2:=hinj _ _ _ _ (hy y (by simp)) (hl u (by simp)) h;obtain⟨zs,k1,k2,k3⟩:=vU hinj hpos l ys b (fun z hz=>hl z (by simp[hz])) (fun z hz=>hy z (by simp[hz])) h2;exact⟨zs,k1,by rw[List.length_cons,List.length_cons];omega,k3⟩
theorem xC {α:Type}{el:α->List UInt8}(hpos:∀z,0<(el z).length)(l:List α):l.length<=(dY el l).length:=by
 induction l with
 | nil=>simp
 | cons u l ih=>rw[mZ,List.length_append,List.length_cons];have:=hpos u;omega
def Dt {α:Type}(B g:Nat)(t:UInt8)(s:RS)(xs:List Nat)(el:α->List UInt8)(may:α->Prop)(N:Nat)(St:Nat->List α->World->Prop)(W:World)(e:Ending)(w':World):Prop:=
 (∃r,e=.returned r)/\∃s' q l,RdS B g s' w'/\W.heap.size<=q/\St q l w'/\BelX W.heap.size (g::xs) W w'/\l.length<=20000000 /\
  Took (fun ys=>val t (dY el ys)) (fun ys=>(∀y∈ys,may y)/\ys.length<=N/\(dY el ys).length<=4194304) (fun ys=>(∀y∈ys,may y)/\ys.length<=N/\(dY el ys).length<=4194304) s l s'
def Qj {α:Type}(B g:Nat)(t:UInt8)(s:RS)(xs:List Nat)(el:α->List UInt8)(may:α->Prop)(N:Nat)(St:Nat->List α->World->Prop)(W:World)(q:Nat)(rest b:List UInt8)(wr:World):Prop:=
 ∃(x:List UInt8) (w1:World) (l:List α),s.take t=(some x,⟨rest,false⟩)/\w1.heap.size=q/\RdS B g ⟨rest,false⟩ w1/\W.grownBy w1 (some g)/\BelX q xs w1 wr/\RdS q q ⟨b,false⟩ wr/\St q l wr/\x=dY el l++b/\(∀y∈l,may y)/\l.length<=N
def Qv {α:Type}(B g:Nat)(t:UInt8)(s:RS)(xs:List Nat)(el:α->List UInt8)(may:α->Prop)(N:Nat)(St:Nat->List α->World->Prop)(W:World)(rest:List UInt8)(wr:World):Prop:=
 ∃(x:List UInt8) (w1:World) (l:List α),s.take t=(some x,⟨rest,false⟩)/\RdS B g ⟨rest,false⟩ w1/\W.grownBy w1 (some g)/\BelX w1.heap.size xs w1 wr/\St w1.heap.size l wr/\l.length<=20000000/\∀ys,(∀y∈ys,may y)->ys.length<=N->(dY el ys).length<=4194304->dY el ys≠x
def rU {α:Type}(q:Nat)(xs:List Nat)(el:α->List UInt8)(may:α->Prop)(N:Nat)(St:Nat->List α->World->Prop)(l:List α)(b:List UInt8)(wr:World)(e:Ending)(w':World):Prop:=
 ∃r s' y,e=.returned (.bool r)/\RdS q q s' w'/\St q (l++[y]) w'/\BelX q xs wr w'/\s'.l.length<=b.length/\(r=true->s'.bad=false->l.length<N/\b=el y++s'.l/\may y)/\(r=false\/s'.bad=true->N<=l.length\/∀z rest,may z->b≠el z++rest)
theorem ut {α:Type}(B g:Nat)(s:RS)(t:UInt8)(f:FuncId)(caps:Array Value)(W:World)(ht:0<t.toNat)(hr:RdS B g s W)(hl:s.l.length<=100000000)
  (hf:∀args w,(callFunc f args).run Tryz.prog w=.ok (.enter f args) w)
  (xs:List Nat) (hxs:∀k∈xs,k≠g/\∃o,W.heap[k]?=some o/\∀c fr,o≠.cells c 5 fr)
  (el:α->List UInt8) (may:α->Prop) (N:Nat) (hinj:∀z z' r r',may z->may z'->el z++r=el z'++r'->r=r') (hpos:∀z,0<(el z).length)
  (St:Nat->List α->World->Prop) (hst:∀q w1,W.grownBy w1 (some g)->St q [] w1)
  (hset:∀q l wx cs v,W.heap.size<=q->St q l wx->wx.heap[g]?=some (.cells cs 237)->St q l (wx.setCell ⟨g,1,none⟩ v))
  (hstep:∀q l b wr,W.heap.size<=q->St q l wr->RdS q q ⟨b,false⟩ wr->b.length<=4194304->l.length<=4194304->l.length<=N->Calls Tryz.prog f (#[.pointer (some ⟨q,0,none⟩)]++caps) wr (rU q xs el may N St l b wr)) :
  Calls Tryz.prog 207 #[.pointer (some ⟨g,0,none⟩),.int .u8 (t.toNat:Int),.func (.func f) #[] caps] W (Dt B g t s xs el may N St W):=by
 have hgs:g<W.heap.size:=by obtain⟨_,_,h⟩:=hr;exact h.lt
 have htc:=iG s t ht;have hlow:∀w1:World,W.grownBy w1 (some g)->∀k∈xs,∃o,w1.heap[k]?=some o/\∀c fr,o≠.cells c 5 fr:=by
  intro w1 h k hk;obtain⟨h1,o,h2,h3⟩:=hxs k hk;exact⟨o,(h.block _ (Array.getElem?_eq_some_iff.1 h2).1 (fun e=>h1 (Option.some.inj e))).trans h2,h3⟩
 have hgx:g∉xs:=fun h=>(hxs g h).1 rfl;have hX:∀(w1 w':World),W.grownBy w1 (some g)->BelX w1.heap.size xs w1 w'->BelX W.heap.size (g::xs) W w':=fun w1 w' h k=>
  ((BelX.of_grown h).mono (Nat.le_refl _) (fun k hk _=>by rw[List.mem_singleton.1 hk];simp)).trans (k.mono h.size (fun k hk _=>List.mem_cons_of_mem _ hk))
 refine (oW B g s t f caps W hr hl hf (Qj B g t s xs el may N St W) (Qv B g t s xs el may N St W) ?bad (fun q rest b w' h=>by obtain⟨x,w1,l,_,_,_,_,_,h,_⟩:=h;exact h) ?init ?step).mono ?post
 case bad=>
  rintro rest w' ⟨x,w1,l,_,k2,k3,k4,_⟩;exact RdS.belX k2 k4 hgx (hlow w1 k3)
 case init=>
  intro x rest ao cap w1 htk hgr hrg hrd hty;have hb1:Below w1.heap.size w1 (w1.alloc (.cells #[.slice ao x.length cap,.bool false,.bool true] 237)):=(Below.refl _ _).alloc (Nat.le_refl _) _;refine⟨x,w1,[],htk,rfl,hrg,hgr,BelX.of_below hb1 _,⟨ao,cap,?_,Nat.le_refl _,hrd.later hb1,hty.later hb1⟩,hst _ _ (aV hgr (fG hb1 _)),rfl,fun y hy=>(by cases hy),Nat.zero_le _⟩;show (w1.heap.push _)[w1.heap.size]?=some _;simp
 case step=>
  rintro q rest b wr hb ⟨x,w1,l,htk,k1,k2,k3,k4,k5,k6,k8,k9,k10⟩;obtain⟨_,_,_,t4,_⟩:=dJ htk;have hxl:=t4;rw[k8,List.length_append] at hxl;have hlong:=xC hpos l;have hWq:W.heap.size<=q:=by rw[<-k1];exact k3.size
  refine (hstep q l b wr hWq k6 k5 (by omega) (by omega) k10).mono ?_;rintro e w' ⟨r,s',y,rfl,m1,m2,m4,m5,m6,m7⟩;have hlen:(l++[y]).length<=20000000:=by rw[List.length_append,List.length_singleton];omega
  refine⟨r,s',rfl,m1,m5,fun hn=>⟨x,w1,l++[y],htk,k2,k3,?_,?_,hlen,fun ys hm hy1 hy2 e=>?_⟩,fun hr hb' hlt=>⟨x,w1,l++[y],htk,k1,k2,k3,k4.trans m4,rM m1 hb',m2,?_,?_,?_⟩⟩
  ·rw[k1];exact k4.trans m4
  ·rw[k1];exact m2
  ·rw[k8] at e;obtain⟨zs,hzm,hzl,hz⟩:=vU hinj hpos l ys b k9 hm e
   match zs,hz with
   | [],hz=>rw[hz] at hb;simp[dY] at hb
   | z::zs,hz=>
    rw[List.length_cons] at hzl;by_cases hc:r=false\/s'.bad=true
    ·rcases m7 hc with h | h
     ·omega
     exact h z (dY el zs) (hzm z (by simp)) hz
    simp only[not_or,Bool.not_eq_false,Bool.not_eq_true] at hc;obtain⟨_,h3,_⟩:=m6 hc.1 hc.2;refine hn ⟨hc.1,hc.2,?_⟩;have:=congrArg List.length h3;rw[List.length_append] at this;have:=hpos y;omega
  ·obtain⟨_,h3,_⟩:=m6 hr hb';rw[EM,List.append_assoc,<-h3];exact k8
  ·obtain⟨_,_,h3⟩:=m6 hr hb';intro z hz;rcases List.mem_append.1 hz with hz | hz
   ·exact k9 z hz
   rw[List.mem_singleton] at hz;subst hz;exact h3
  have:=(m6 hr hb').1;rw[List.length_append,List.length_singleton];omega
 case post=>
  rintro e w' (⟨hx,rfl,m1,m2⟩ | ⟨x,rest,hx,⟨rfl,q,x',w1,l,hx',k1,k2,k3,k4,k5,k6,k8,k9,k10⟩ | ⟨rfl,wx,⟨x',w1,l,hx',k2,k3,k4,k6,k8,k9⟩,rfl⟩⟩)
  ·rcases htc with ⟨x,rest,h,_⟩ | ⟨s',h,e1,e2,e3⟩
   ·rw[h] at hx;cases hx
   refine⟨⟨_,rfl⟩,(s.take t).2,W.heap.size,[],m1,Nat.le_refl _,hst _ _ m2,hX w' w' m2 (BelX.refl _ _ _),Nat.zero_le _,⟨fun hb=>?_,fun _=>e3.imp id (fun h ys rest hy=>h _ rest hy.2.2),?_⟩⟩
   ·rw[h] at hb;rw[show s'.bad=true from e1] at hb;cases hb
   rw[h];exact Nat.le_of_eq (congrArg List.length e2)
  ·rw[hx] at hx';obtain rfl:=Option.some.inj (congrArg Prod.fst hx');obtain⟨t1,_,t3,t4,_⟩:=dJ hx;rw[List.append_nil] at k8;have hlong:=xC hpos l;subst k8;refine⟨⟨_,rfl⟩,⟨rest,false⟩,q,l,RdS.belX k2 (k1▸k4) hgx (hlow w1 k3),by rw[<-k1];exact k3.size,k6,hX w1 w' k3 (k1▸k4),by omega,⟨fun _=>⟨t1,t3,k9,k10,t4⟩,fun h=>(by cases h),?_⟩⟩;rw[t3];exact fJ _ _ _
  rw[hx] at hx';obtain rfl:=Option.some.inj (congrArg Prod.fst hx');obtain⟨t1,_,t3,t4,_⟩:=dJ hx;have hR:=RdS.belX k2 k4 hgx (hlow w1 k3);obtain⟨ao,cap,hR⟩:=hR;refine⟨⟨_,rfl⟩,⟨rest,true⟩,w1.heap.size,l,⟨ao,cap,hR.fail⟩,k3.size,hset _ _ _ _ _ k3.size k6 hR.at_,(hX w1 wx k3 k4).set _ _ _ (.inl (by simp)),k8,⟨fun h=>(by cases h),fun _=>.inr fun ys rest' hy e=>?_,?_⟩⟩
  ·rw[t3] at e;exact k9 ys hy.1 hy.2.1 hy.2.2 (ak ht t4 hy.2.2 e).1.symm
  rw[t3];exact fJ _ _ _
end Go.Proofs.YtfmmandlmbcncaaGreatDoor.Msg
namespace Go.Proofs.YtfmmandlmbcncaaGreatDoor.Msg
open Go.RowKit Go.Lib Mem Utf Tlv
theorem wX (xs:List El)(k:Nat)(u:El)(h:xs[k]?=some u):(lsV xs)[k]?=some (.slice u.ao u.it.2.length u.cap):=by simp[lsV,h]
theorem Np (xs:List El):(lsV xs).length=xs.length:=by simp[lsV]
def elB (xs:List El):List (List UInt8):=xs.map fun x=>x.it.2
theorem FM (xs:List El)(k:Nat)(u:El)(h:xs[k]?=some u):aP 1 (elB (xs.take (k+1)))=aP 1 (elB (xs.take k))++val 1 u.it.2:=by
 rw[List.take_add_one,h];simp[elB,aP]
theorem Lh (xs:List El)(k:Nat):(aP 1 (elB (xs.take k))).length<=(aP 1 (elB xs)).length:=by
 have e:aP 1 (elB xs)=aP 1 (elB (xs.take k))++aP 1 (elB (xs.drop k)):=by
  unfold aP elB;rw[<-List.flatMap_append,<-List.map_append,List.take_append_drop]
 rw[e,List.length_append];omega
theorem F6:∀ {xs:List El} {u:El},u∈xs->u.it.2.length+5<=(aP 1 (elB xs)).length
 | [],_,h=>by cases h
 | x::xs,u,h=>by
  have e:aP 1 (elB (x::xs))=val 1 x.it.2++aP 1 (elB xs):=rfl;rw[e,List.length_append,ae];rcases List.mem_cons.1 h with rfl | h
  ·omega
  have:=F6 h;omega
theorem DX:∀(xs:List El),5*xs.length<=(aP 1 (elB xs)).length
 | []=>Nat.zero_le _
 | x::xs=>by
  have e:aP 1 (elB (x::xs))=val 1 x.it.2++aP 1 (elB xs):=rfl;have:=DX xs;rw[e,List.length_append,ae,List.length_cons];omega
def KW (l:List UInt8)(w:World)(e:Ending)(w':World):Prop:=∃v,e=.returned (.tuple #[v,.bool true])/\w'.ownsRow w.heap.size 5 1 v l.length (byV l)/\Below w.heap.size w w'
theorem KI (t:UInt8)(ao:Option Addr)(n cap:Nat)(x:List El)(w:World)(hx:Rd w 1 ao n cap (lsV x))(hu:∀u∈x,elG u w)(hl:(aP 1 (elB x)).length<=4194304) :
  Calls Tryz.prog 87 #[.int .u8 (t.toNat:Int),.slice ao n cap] w (KW (val t (aP 1 (elB x))) w):=by
 have lx:x.length=n:=by have:=hx.1;rw[Np] at this;omega
 have hn:n<=1000000:=by have:=DX x;omega
 have LX:=hid lx;have HL:=hid hl;clear lx hl;have own0:w.ownsRow w.heap.size 5 1 (.slice none 0 0) (aP 1 (elB (x.take 0))).length (byV (aP 1 (elB (x.take 0)))):=World.ownsRow_nil _ _ _ _;go_in;go_wp2_with fail;go_loopw [6,7] (fun bv p wr=>∃k:Nat,k<=n/\p=.int .i64 (k:Int)/\wr.ownsRow w.heap.size 5 1 bv (aP 1 (elB (x.take k))).length (byV (aP 1 (elB (x.take k))))/\Below w.heap.size w wr) (fun _ p _=>n-(intOf p).toNat)
 case atStart=>exact⟨0,Nat.zero_le _,rfl,own0,Below.refl _ _⟩
 case round=>
  obtain⟨k,hk,rfl,own,hbr⟩:=hrel;by_cases hkn:k<n
  ·obtain⟨b1,o1,rfl,hl1,hc1⟩:=hx.some (by have:=hx.le;omega);obtain⟨u,hue⟩:∃u,x[k]?=some u:=⟨_,List.getElem?_eq_getElem (by rw[LX.out];exact hkn)⟩
   have c1:=(hbr.cell (p:=⟨b1,o1+k,none⟩) hl1).trans (hc1 k _ (wX x k u hue));have c2:wr.cell? ⟨b1,o1+k*1,none⟩=some (.slice u.ao u.it.2.length u.cap):=by rw[Nat.mul_one];exact c1
   have hr1:Rd wr 1 u.ao u.it.2.length u.cap (byV u.it.2):=Rd.later (hu u (List.mem_of_getElem? hue)) hbr;have hn1:u.it.2.length<=4194304:=by have:=F6 (List.mem_of_getElem? hue);have:=HL.out;omega
   have hL:(aP 1 (elB (x.take k))).length<=4194304:=Nat.le_trans (Lh x k) HL.out;have hnext:=hid (FM x k u hue);obtain⟨V1,hv1⟩:∃V1,val 1 u.it.2=V1:=⟨_,rfl⟩
   obtain⟨A,hA⟩:∃A,aP 1 (elB (x.take k))=A:=⟨_,rfl⟩
   have hV1:V1.length=u.it.2.length+5:=by rw[<-hv1,ae];omega
   have hN:Hid (aP 1 (elB (x.take (k+1)))=A++V1):=hid (by rw[hnext.out,hv1,hA]);rw[hA] at hL;have h17:A.length+V1.length<=maxLen:=by rw[hV1];unfold maxLen;omega
   have h17b:(A.length+V1.length)*1<=140737488355328:=by rw[hV1];omega
   rw[hA] at own;have Hv1:=hid hv1;clear hv1 hA hL hnext hV1 hc1 hue;have i0:(0:Int)<=(k:Int):=by omega
   have i1:(k:Int)<(n:Int):=by omega
   have z0:=hbr.size;go_wp2_with fail;refine (di 1 u.it.2 _ _ _ wr hn1 hr1).mono ?_;rintro e W2 ⟨v1,rfl,o2,hb2⟩;rw[Hv1.out] at o2;obtain⟨a2,k2,e2,r2⟩:=Rd.of_own o2;subst e2;have own2:=aF own hb2;have hB2:=hbr.trans (hb2.mono z0);have z2:=hB2.size;clear c1 c2 own o2 hn1 hr1;go_wp2_with (at_builtin;refine gz _ rfl (.tmp 14) (.tmp 19) 34 rfl w.heap.size 5 (.int .u8 0) 1 1 Tlv.byT u6 _ _ rfl own2 a2 _ k2 _ rfl r2 (eP _) h17 h17b z2 ?_;intro ao3 cap3 W3 o3 _ hb3 _);have o4:W3.ownsRow w.heap.size 5 1 (.slice ao3 (A.length+V1.length) cap3) (aP 1 (elB (x.take (k+1)))).length (byV (aP 1 (elB (x.take (k+1))))):=by rw[hN.out,List.length_append,iy];exact o3
   clear h17 h17b;go_roundw
   case rel=>exact⟨k+1,by omega,by go_num,o4,hB2.trans hb3⟩
   case measure=>simp[intOf];omega
  have hke:k=n:=by omega
  have hfull:x.take k=x:=List.take_of_length_le (by rw[LX.out];omega);rw[hfull] at own;obtain⟨ao',cap',e',hr'⟩:=Rd.of_own own;subst e';have z0:=hbr.size;have hlen:=HL.out;have f0:decide (((aP 1 (elB x)).length:Int)<=4194304)=true:=decide_eq_true (by omega);clear hke hfull;obtain⟨A,hA⟩:∃A,aP 1 (elB x)=A:=⟨_,rfl⟩
  rw[hA] at f0 hr' hlen ⊢;have HA:=hid hA;clear hA own;go_wp2_with fail;refine (di t A ao' _ cap' wr hlen hr').mono ?_;rintro e W1 ⟨v1,rfl,o1,hb1⟩;go_wp2_with fail;go_ret2;exact⟨v1,rfl,own_base (by rw[HA.out];exact o1) z0,hbr.trans (hb1.mono z0)⟩
end Go.Proofs.YtfmmandlmbcncaaGreatDoor.Msg
