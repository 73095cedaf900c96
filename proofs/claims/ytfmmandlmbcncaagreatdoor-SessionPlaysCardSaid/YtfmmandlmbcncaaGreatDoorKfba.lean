/-A part of the proof.-/
import Derived.Test.YtfmmandlmbcncaaGreatDoorKfaz
set_option maxHeartbeats 40000000
set_option maxRecDepth 100000
set_option linter.all false
namespace Go.Proofs.YtfmmandlmbcncaaGreatDoor
namespace Msg
open Go.RowKit Go.Lib Mem Tlv
variable{W:World}{c c' d:MC}{k x:Int}{m m' o:MV}{wh:Bool}
def uO (r:RV)(c:OC):Int×Int×Int×ByteArray×ByteArray×List (ByteArray×ByteArray)×List ByteArray×List UInt8×Int:=(r.cl,r.nu,r.op.k,r.op.name,r.op.to,c.attrs,c.parts,c.cursor,r.op.n)
theorem gy{r r':RV}{c c':OC}:bQ r c r' c'=true↔uO r c=uO r' c':=by
 unfold bQ bg uO;simp only[yaq,yaG,ybU,and_assoc]
def lT (l:List EP):List (ByteArray×List (ByteArray×ByteArray)):=l.map fun p=>(p.1.name,p.2)
theorem vZ:∀ {l l':List EP},aP l l'=true↔lT l=lT l'
 | [],[]=>⟨fun _=>rfl,fun _=>rfl⟩
 | [],_::_=>⟨fun h=>(by cases h),fun h=>(by cases h)⟩
 | _::_,[]=>⟨fun h=>(by cases h),fun h=>(by cases h)⟩
 | p::l,q::m=>by
  show (bZ p.1 p.2 q.1 q.2&&aP l m)=true↔(p.1.name,p.2)::lT l=(q.1.name,q.2)::lT m;unfold bZ;rw[yaq,yaq,yaG,yaG,vZ,List.cons.injEq,ybU]
def vX (v:QV)(c:QC):Int×Bool×List (ByteArray×List (ByteArray×ByteArray))×List UInt8:=(v.code,v.yes,lT c.ents,c.cursor)
theorem fK{v v':QV}{c c':QC}:aF v c v' c'=true↔vX v c=vX v' c':=by
 unfold aF vX;rw[yaq,yaq,yaq,yaG,yaG,yaG,vZ,ybU,ybU,ybU]
def uJ (l:List RP):List (Int×Int×Int×ByteArray×ByteArray×List (ByteArray×ByteArray)×List ByteArray×List UInt8×Int):=l.map fun p=>uO p.1 p.2
theorem gu:∀ {l l':List RP},bH l l'=true↔uJ l=uJ l'
 | [],[]=>⟨fun _=>rfl,fun _=>rfl⟩
 | [],_::_=>⟨fun h=>(by cases h),fun h=>(by cases h)⟩
 | _::_,[]=>⟨fun h=>(by cases h),fun h=>(by cases h)⟩
 | p::l,q::m=>by
  show (bQ p.1 p.2 q.1 q.2&&bH l m)=true↔uO p.1 p.2::uJ l=uO q.1 q.2::uJ m;rw[yaq,gy,gu,List.cons.injEq]
theorem iR(h:agree x m c m' c'=true):agree x m' c' m c=true:=by
 by_cases e118:x=118
 ·subst e118;exact (yai).2 ((yai).1 h).symm
 by_cases e110:x=110
 ·subst e110;exact (yai).2 ((yai).1 h).symm
 by_cases e102:x=102
 ·subst e102;exact (yai).2 ((yai).1 h).symm
 by_cases e99:x=99
 ·subst e99;exact (yai).2 ((yai).1 h).symm
 by_cases e117:x=117
 ·subst e117;exact (yai).2 ((yai).1 h).symm
 by_cases e113:x=113
 ·subst e113;exact gy.2 (gy.1 h).symm
 by_cases e114:x=114
 ·subst e114;exact fK.2 (fK.1 h).symm
 by_cases e97:x=97
 ·subst e97;exact (yai).2 ((yai).1 h).symm
 by_cases e109:x=109
 ·subst e109;exact (yai).2 ((yai).1 h).symm
 by_cases e98:x=98
 ·subst e98;exact (yai).2 ((yai).1 h).symm
 by_cases e115:x=115
 ·subst e115;exact (yai).2 ((yai).1 h).symm
 by_cases e108:x=108
 ·subst e108;exact gu.2 (gu.1 h).symm
 by_cases e111:x=111
 ·subst e111;exact (yai).2 ((yai).1 h).symm
 by_cases e119:x=119
 ·subst e119;exact (yai).2 ((yai).1 h).symm
 have hd:∀(m m':MV) (c c':MC),agree x m c m' c'=decide (c.seen=c'.seen):=fun m m' c c'=>by unfold agree;simp only[e118,e110,e102,e99,e117,e113,e114,e97,e109,e98,e115,e108,e111,e119,if_false]
 rw[hd] at h ⊢;exact yaa (yar h).symm
theorem dU{n:MV}(h:agree x m c m' c'=true)(h':agree x m' c' n d=true):agree x m c n d=true:=by
 by_cases e118:x=118
 ·subst e118;exact (yai).2 (((yai).1 h).trans ((yai).1 h'))
 by_cases e110:x=110
 ·subst e110;exact (yai).2 (((yai).1 h).trans ((yai).1 h'))
 by_cases e102:x=102
 ·subst e102;exact (yai).2 (((yai).1 h).trans ((yai).1 h'))
 by_cases e99:x=99
 ·subst e99;exact (yai).2 (((yai).1 h).trans ((yai).1 h'))
 by_cases e117:x=117
 ·subst e117;exact (yai).2 (((yai).1 h).trans ((yai).1 h'))
 by_cases e113:x=113
 ·subst e113;exact gy.2 ((gy.1 h).trans (gy.1 h'))
 by_cases e114:x=114
 ·subst e114;exact fK.2 ((fK.1 h).trans (fK.1 h'))
 by_cases e97:x=97
 ·subst e97;exact (yai).2 (((yai).1 h).trans ((yai).1 h'))
 by_cases e109:x=109
 ·subst e109;exact (yai).2 (((yai).1 h).trans ((yai).1 h'))
 by_cases e98:x=98
 ·subst e98;exact (yai).2 (((yai).1 h).trans ((yai).1 h'))
 by_cases e115:x=115
 ·subst e115;exact (yai).2 (((yai).1 h).trans ((yai).1 h'))
 by_cases e108:x=108
 ·subst e108;exact gu.2 ((gu.1 h).trans (gu.1 h'))
 by_cases e111:x=111
 ·subst e111;exact (yai).2 (((yai).1 h).trans ((yai).1 h'))
 by_cases e119:x=119
 ·subst e119;exact (yai).2 (((yai).1 h).trans ((yai).1 h'))
 have hd:∀(m m':MV) (c c':MC),agree x m c m' c'=decide (c.seen=c'.seen):=fun m m' c c'=>by unfold agree;simp only[e118,e110,e102,e99,e117,e113,e114,e97,e109,e98,e115,e108,e111,e119,if_false]
 rw[hd] at h h' ⊢;exact yaa ((yar h).trans (yar h'))
theorem oQ(x:Int)(m:MV)(c:MC):agree x m c m c=true:=by
 by_cases e118:x=118
 ·subst e118;exact (yai).2 rfl
 by_cases e110:x=110
 ·subst e110;exact (yai).2 rfl
 by_cases e102:x=102
 ·subst e102;exact (yai).2 rfl
 by_cases e99:x=99
 ·subst e99;exact (yai).2 rfl
 by_cases e117:x=117
 ·subst e117;exact (yai).2 rfl
 by_cases e113:x=113
 ·subst e113;exact gy.2 rfl
 by_cases e114:x=114
 ·subst e114;exact fK.2 rfl
 by_cases e97:x=97
 ·subst e97;exact (yai).2 rfl
 by_cases e109:x=109
 ·subst e109;exact (yai).2 rfl
 by_cases e98:x=98
 ·subst e98;exact (yai).2 rfl
 by_cases e115:x=115
 ·subst e115;exact (yai).2 rfl
 by_cases e108:x=108
 ·subst e108;exact gu.2 rfl
 by_cases e111:x=111
 ·subst e111;exact (yai).2 rfl
 by_cases e119:x=119
 ·subst e119;exact (yai).2 rfl
 have hd:agree x m c m c=decide (c.seen=c.seen):=by unfold agree;simp only[e118,e110,e102,e99,e117,e113,e114,e97,e109,e98,e115,e108,e111,e119,if_false]
 rw[hd];exact yaa rfl
theorem same_iff:aH m c m' c'=true↔m.k=m'.k/\∀x∈dF,agree x m c m' c'=true:=by
 constructor
 ·intro h;unfold aH at h;simp only[yaq] at h;obtain⟨h1,h2,h3,h4,h5,h6,h7,h8,h9,h10,h11,h12,h13,h14,h15,h16⟩:=h;refine⟨yar h1,fun x hx=>?_⟩;simp only[dF,yas,yal,or_false] at hx;rcases hx with rfl|rfl|rfl|rfl|rfl|rfl|rfl|rfl|rfl|rfl|rfl|rfl|rfl|rfl|rfl
  ·exact h2
  ·exact h3
  ·exact h4
  ·exact h5
  ·exact h6
  ·exact h7
  ·exact h8
  ·exact h9
  ·exact h10
  ·exact h11
  ·exact h12
  ·exact h13
  ·exact h14
  ·exact h15
  exact h16
 rintro⟨hk,h⟩;unfold aH;simp only[yaq];exact⟨yaa hk,h 118 (by decide),h 110 (by decide),h 102 (by decide),h 99 (by decide),h 117 (by decide),h 113 (by decide),h 114 (by decide),h 97 (by decide),h 109 (by decide),h 98 (by decide),h 115 (by decide),h 108 (by decide),h 111 (by decide),h 119 (by decide),h 101 (by decide)⟩
theorem IE(x:Int)(m0 m:MV)(c0 c:MC)(hx:x∈dF):agree x (aJ x m0 m) (dA x c0 c) m c=true:=by
 simp only[dF,yas,yal,or_false] at hx;rcases hx with rfl|rfl|rfl|rfl|rfl|rfl|rfl|rfl|rfl|rfl|rfl|rfl|rfl|rfl|rfl
 ·show decide (m.vi=m.vi)=true;exact (yai).2 rfl
 ·show decide (m.no=m.no)=true;exact (yai).2 rfl
 ·show decide (m.fr=m.fr)=true;exact (yai).2 rfl
 ·show decide (m.cl=m.cl)=true;exact (yai).2 rfl
 ·show decide (m.nu=m.nu)=true;exact (yai).2 rfl
 ·show bQ m.rq c.rq m.rq c.rq=true;exact gy.2 rfl
 ·show aF m.rs c.rs m.rs c.rs=true;exact fK.2 rfl
 ·show decide (m.at_=m.at_)=true;exact (yai).2 rfl
 ·show decide (m.cm=m.cm)=true;exact (yai).2 rfl
 ·show decide (m.bs=m.bs)=true;exact (yai).2 rfl
 ·show decide (c.snap=c.snap)=true;exact (yai).2 rfl
 ·show bH c.log c.log=true;exact gu.2 rfl
 ·show decide (m.nc=m.nc)=true;exact (yai).2 rfl
 ·show decide (m.wh=m.wh)=true;exact (yai).2 rfl
 show decide (c.seen=c.seen)=true;exact (yai).2 rfl
theorem nZ(x y:Int)(m0 m:MV)(c0 c:MC)(hx:x∈dF)(hy:y∈dF)(hne:x≠y):agree x (aJ y m0 m) (dA y c0 c) m0 c0=true:=by
 simp only[dF,yas,yal,or_false] at hx hy;rcases hx with rfl|rfl|rfl|rfl|rfl|rfl|rfl|rfl|rfl|rfl|rfl|rfl|rfl|rfl|rfl
 ·rcases hy with rfl|rfl|rfl|rfl|rfl|rfl|rfl|rfl|rfl|rfl|rfl|rfl|rfl|rfl|rfl<;>first | exact absurd rfl hne | (show decide (m0.vi=m0.vi)=true;exact (yai).2 rfl)
 ·rcases hy with rfl|rfl|rfl|rfl|rfl|rfl|rfl|rfl|rfl|rfl|rfl|rfl|rfl|rfl|rfl<;>first | exact absurd rfl hne | (show decide (m0.no=m0.no)=true;exact (yai).2 rfl)
 ·rcases hy with rfl|rfl|rfl|rfl|rfl|rfl|rfl|rfl|rfl|rfl|rfl|rfl|rfl|rfl|rfl<;>first | exact absurd rfl hne | (show decide (m0.fr=m0.fr)=true;exact (yai).2 rfl)
 ·rcases hy with rfl|rfl|rfl|rfl|rfl|rfl|rfl|rfl|rfl|rfl|rfl|rfl|rfl|rfl|rfl<;>first | exact absurd rfl hne | (show decide (m0.cl=m0.cl)=true;exact (yai).2 rfl)
 ·rcases hy with rfl|rfl|rfl|rfl|rfl|rfl|rfl|rfl|rfl|rfl|rfl|rfl|rfl|rfl|rfl<;>first | exact absurd rfl hne | (show decide (m0.nu=m0.nu)=true;exact (yai).2 rfl)
 ·rcases hy with rfl|rfl|rfl|rfl|rfl|rfl|rfl|rfl|rfl|rfl|rfl|rfl|rfl|rfl|rfl<;>first | exact absurd rfl hne | (show bQ m0.rq c0.rq m0.rq c0.rq=true;exact gy.2 rfl)
 ·rcases hy with rfl|rfl|rfl|rfl|rfl|rfl|rfl|rfl|rfl|rfl|rfl|rfl|rfl|rfl|rfl<;>first | exact absurd rfl hne | (show aF m0.rs c0.rs m0.rs c0.rs=true;exact fK.2 rfl)
 ·rcases hy with rfl|rfl|rfl|rfl|rfl|rfl|rfl|rfl|rfl|rfl|rfl|rfl|rfl|rfl|rfl<;>first | exact absurd rfl hne | (show decide (m0.at_=m0.at_)=true;exact (yai).2 rfl)
 ·rcases hy with rfl|rfl|rfl|rfl|rfl|rfl|rfl|rfl|rfl|rfl|rfl|rfl|rfl|rfl|rfl<;>first | exact absurd rfl hne | (show decide (m0.cm=m0.cm)=true;exact (yai).2 rfl)
 ·rcases hy with rfl|rfl|rfl|rfl|rfl|rfl|rfl|rfl|rfl|rfl|rfl|rfl|rfl|rfl|rfl<;>first | exact absurd rfl hne | (show decide (m0.bs=m0.bs)=true;exact (yai).2 rfl)
 ·rcases hy with rfl|rfl|rfl|rfl|rfl|rfl|rfl|rfl|rfl|rfl|rfl|rfl|rfl|rfl|rfl<;>first | exact absurd rfl hne | (show decide (c0.snap=c0.snap)=true;exact (yai).2 rfl)
 ·rcases hy with rfl|rfl|rfl|rfl|rfl|rfl|rfl|rfl|rfl|rfl|rfl|rfl|rfl|rfl|rfl<;>first | exact absurd rfl hne | (show bH c0.log c0.log=true;exact gu.2 rfl)
 ·rcases hy with rfl|rfl|rfl|rfl|rfl|rfl|rfl|rfl|rfl|rfl|rfl|rfl|rfl|rfl|rfl<;>first | exact absurd rfl hne | (show decide (m0.nc=m0.nc)=true;exact (yai).2 rfl)
 ·rcases hy with rfl|rfl|rfl|rfl|rfl|rfl|rfl|rfl|rfl|rfl|rfl|rfl|rfl|rfl|rfl<;>first | exact absurd rfl hne | (show decide (m0.wh=m0.wh)=true;exact (yai).2 rfl)
 rcases hy with rfl|rfl|rfl|rfl|rfl|rfl|rfl|rfl|rfl|rfl|rfl|rfl|rfl|rfl|rfl<;>first | exact absurd rfl hne | (show decide (c0.seen=c0.seen)=true;exact (yai).2 rfl)
theorem sZ(m:MV)(c:MC):∀(ls:List Int),(∀x∈ls,x∈dF)->∀x∈dF,∀(m0:MV) (c0:MC),(x∈ls->agree x (ls.foldl (fun b y=>aJ y b m) m0) (ls.foldl (fun b y=>dA y b c) c0) m c=true)/\(x∉ls->agree x (ls.foldl (fun b y=>aJ y b m) m0) (ls.foldl (fun b y=>dA y b c) c0) m0 c0=true)
 | [],_,x,_,m0,c0=>⟨fun h=>absurd h yal,fun _=>oQ x m0 c0⟩
 | y::ls,hls,x,hx,m0,c0=>by
  obtain⟨h1,h2⟩:=sZ m c ls (fun z hz=>hls z (by simp[hz])) x hx (aJ y m0 m) (dA y c0 c);refine⟨fun h=>?_,fun h=>?_⟩
  ·by_cases hm:x∈ls
   ·exact h1 hm
   obtain rfl:x=y:=by
    rcases yas.1 h with h | h
    ·exact h
    exact absurd h hm
   exact dU (h2 hm) (IE x m0 m c0 c hx)
  have hne:x≠y:=fun e=>h (by simp[e]);exact dU (h2 (fun hm=>h (by simp[hm]))) (nZ x y m0 m c0 c hx (hls y (by simp)) hne)
theorem CU(y:Int)(m0 m:MV):(aJ y m0 m).k=m0.k:=by
 by_cases e118:y=118
 ·subst e118;rfl
 by_cases e110:y=110
 ·subst e110;rfl
 by_cases e102:y=102
 ·subst e102;rfl
 by_cases e99:y=99
 ·subst e99;rfl
 by_cases e117:y=117
 ·subst e117;rfl
 by_cases e113:y=113
 ·subst e113;rfl
 by_cases e114:y=114
 ·subst e114;rfl
 by_cases e97:y=97
 ·subst e97;rfl
 by_cases e109:y=109
 ·subst e109;rfl
 by_cases e98:y=98
 ·subst e98;rfl
 by_cases e115:y=115
 ·subst e115;rfl
 by_cases e108:y=108
 ·subst e108;rfl
 by_cases e111:y=111
 ·subst e111;rfl
 by_cases e119:y=119
 ·subst e119;rfl
 by_cases e101:y=101
 ·subst e101;rfl
 unfold aJ;simp only[e118,e110,e102,e99,e117,e113,e114,e97,e109,e98,e115,e108,e111,e119,e101,if_false]
theorem DD(m:MV):∀(ls:List Int) (m0:MV),(ls.foldl (fun b y=>aJ y b m) m0).k=m0.k
 | [],_=>rfl
 | y::ls,m0=>by rw[List.foldl_cons,DD m ls,CU]
theorem KE{ls:List Int}(hls:∀x∈ls,x∈dF)(hk:o.k=m.k)(hag:∀x∈ls,agree x o d m c=true)(hz:∀x∈dF,x∉ls->agree x o d (ay m.k) dO=true):aH o d m c=aH m c (jY ls m) (nJ ls c):=by
 rw[ybk,same_iff,same_iff];have hkept:=fun x hx=>sZ m c ls hls x hx (ay m.k) dO;constructor
 ·rintro⟨-,h⟩;refine⟨(DD m ls (ay m.k)).symm,fun x hx=>?_⟩;by_cases hm:x∈ls
  ·exact iR ((hkept x hx).1 hm)
  exact dU (iR (h x hx)) (dU (hz x hx hm) (iR ((hkept x hx).2 hm)))
 rintro⟨-,h⟩;refine⟨hk,fun x hx=>?_⟩;by_cases hm:x∈ls
 ·exact hag x hm
 exact dU (hz x hx hm) (dU (iR ((hkept x hx).2 hm)) (iR (h x hx)))
def jW (x:Int):UInt8:=
 if x=118 then 2 else if x=110 then 3 else if x=102 then 4 else if x=99 then 5 else if x=117 then 6 else if x=113 then 7 else if x=114 then 8 else if x=97 then 9 else if x=109 then 10 else if x=98 then 11 else if x=115 then 12 else if x=108 then 13 else if x=111 then 14 else if x=119 then 15 else 16
def eP (k:Int)(wh:Bool):List UInt8:=(lettersOf k wh).map jW
def jK (l:List UInt8)(w:World)(e:Ending)(w':World):Prop:=∃ao cap,e=.returned (.slice ao l.length cap)/\Rd w' 1 ao l.length cap (byV l)/\Below w.heap.size w w'/\TyX 5 w' ao cap
theorem Ig(l:List UInt8)(n:Nat)(c:Array Value)(w:World)(hn:l.length=n)(hc:c.toList=byV l)(h0:0<n)(hs:n<=100):jK l w (.returned (.slice (some ⟨w.heap.size,0,none⟩) (n:Int).toNat (n:Int).toNat)) (w.alloc (.cells c 5)):=by
 subst hn;have hk:=aN w (.cells c 5)
 refine⟨some ⟨w.heap.size,0,none⟩,l.length,by simp,⟨by rw[aV,ycf],yag _,by unfold maxLen;omega,(fun h=>by cases h),fun _ a ha=>?_⟩,bN _ _,fun _ a ha=>?_⟩
 ·cases ha;have hz:(w.alloc (.cells c 5)).heap.size=w.heap.size+1:=by simp
  refine⟨rfl,by rw[hz];exact ybY _,fun j u hu=>?_⟩;rw[<-hc] at hu;simp only[World.cell?,hk];simpa using hu
 cases ha;exact⟨c,_,hk⟩
theorem J8(h:¬(1<=k/\k<=12))(wh:Bool):lettersOf k wh=[]:=by
 rcases kinds k wh with h0 | h0
 ·exact h0
 exfalso;omega
theorem uq(k:Int)(wh:Bool)(w:World):Calls Tryz.prog 51 #[.int .i64 k,.bool wh] w (jK (eP k wh) w):=by
 by_cases h:1<=k/\k<=12
 ·rcases (by omega:k=1\/k=2\/k=3\/k=4\/k=5\/k=6\/k=7\/k=8\/k=9\/k=10\/k=11\/k=12) with rfl|rfl|rfl|rfl|rfl|rfl|rfl|rfl|rfl|rfl|rfl|rfl<;>clear h<;>cases wh
  all_goals
   go_in;go_wp2_with fail;go_ret;exact Ig _ _ _ w rfl rfl (by decide) (by decide)
 have e:eP k wh=[]:=by unfold eP;rw[J8 h];rfl
 rw[e];have f1:(k==1)=false:=by rw[yap];omega
 have f2:(k==2)=false:=by rw[yap];omega
 have f3:(k==3)=false:=by rw[yap];omega
 have f4:(k==4)=false:=by rw[yap];omega
 have f5:(k==5)=false:=by rw[yap];omega
 have f6:(k==6)=false:=by rw[yap];omega
 have f7:(k==7)=false:=by rw[yap];omega
 have f8:(k==8)=false:=by rw[yap];omega
 have f9:(k==9)=false:=by rw[yap];omega
 have f10:(k==10)=false:=by rw[yap];omega
 have f11:(k==11)=false:=by rw[yap];omega
 have f12:(k==12)=false:=by rw[yap];omega
 clear h e;go_in;go_wp2_with fail;go_ret;exact⟨none,0,rfl,Rd.nil _ _,yaj _ _,fun h=>absurd h (by decide)⟩
theorem I4(x:Int)(hx:x∈dF)(m:MV)(c:MC)(w:World)(h:MAt w m c)(hu:U64M m c)(hf:FitsM m c)(hs:m.sn<=4194304)(hn:m.hn<=322639)(hl:m.ln<=1000000) :
  Calls Tryz.prog 53 #[m.val,.int .u8 ((jW x).toNat:Int)] w (lw x m c w):=by
 simp only[dF,yas,yal,or_false] at hx;rcases hx with rfl|rfl|rfl|rfl|rfl|rfl|rfl|rfl|rfl|rfl|rfl|rfl|rfl|rfl|rfl
 ·exact jA 118 2 m.vi m c w hu.vi (by decide) (fun _=>by kernel_rfl) rfl rfl
 ·exact jA 110 3 m.no m c w hu.no (by decide) (fun _=>by kernel_rfl) rfl rfl
 ·exact G6 m c w
 ·exact jA 99 5 m.cl m c w hu.cl (by decide) (fun _=>by kernel_rfl) rfl rfl
 ·exact jA 117 6 m.nu m c w hu.nu (by decide) (fun _=>by kernel_rfl) rfl rfl
 ·exact Ii m c w h hu
 ·exact J7 m c w h hf
 ·exact jA 97 9 m.at_ m c w hu.at_ (by decide) (fun _=>by kernel_rfl) rfl rfl
 ·exact jA 109 10 m.cm m c w hu.cm (by decide) (fun _=>by kernel_rfl) rfl rfl
 ·exact jA 98 11 m.bs m c w hu.bs (by decide) (fun _=>by kernel_rfl) rfl rfl
 ·exact IP m c w h hs
 ·exact IX m c w h hu hf hl
 ·exact jA 111 14 m.nc m c w hu.nc (by decide) (fun _=>by kernel_rfl) rfl rfl
 ·exact G8 m c w
 exact GI m c w h hu hn
theorem xh(hf:FitsM m c)(hs:m.sn<=4194304)(hb:fC x m c=true):MayF x m c:=by
 refine⟨fun e=>?_,fun e=>?_,fun e=>?_,fun _=>hs,fun e=>?_,fun e=>?_⟩
 ·subst e;have h1:(decide (0<=m.fr)&&decide (m.fr<7))=true:=hb;simpa using h1
 ·subst e;exact hb
 ·subst e;have h1:bz m.rs c.rs=true:=hb;exact⟨h1,hf.rl h1⟩
 ·subst e;have h1:(!(c.log.any fun u=>!aA u.1.op u.2)&&decide (m.ln<=4096))=true:=hb;rw[yaq] at h1;have h2:∀p∈c.log,aA p.1.op p.2=true:=fun p hp=>by
   have:=yaS.1 (by simpa using h1.1:(c.log.any fun u=>!aA u.1.op u.2)=false) p hp;simpa using this
  exact⟨h2,hf.lg h2,yar h1.2⟩
 subst e;exact yar hb
theorem FU(h:MAt W m c)(hu:U64M m c)(hf:FitsM m c)(hs:m.sn<=4194304)(hn:lettersOf m.k m.wh≠[])(hall:∀x∈lettersOf m.k m.wh,fC x m c=true):MayM W m c:=by
 have hk:1<=m.k/\m.k<=12:=by
  rcases kinds m.k m.wh with h0 | h0
  ·exact absurd h0 hn
  omega
 exact⟨h,hu,hk,fun x hx=>xh hf hs (hall x hx)⟩
theorem TP(h:k=1\/k=3):(113:Int)∈lettersOf k wh:=by
 rcases h with rfl|rfl<;>cases wh<;>decide
theorem U0(h:k=2):(114:Int)∈lettersOf k wh:=by
 subst h;cases wh<;>decide
theorem qC(h:MAt W m c)(hs:m.sn<=4194304):eu m c=true↔lettersOf m.k m.wh≠[]/\(∀x∈lettersOf m.k m.wh,fC x m c=true)/\aH m c (jY (lettersOf m.k m.wh) m) (nJ (lettersOf m.k m.wh) c)=true:=by
 constructor
 ·intro hw;have F:=WellP.of hw;refine⟨F.ls,fun x hx=>?_,F.same⟩;unfold fC;by_cases e102:x=102
  ·subst e102;rw[if_pos rfl,yaa F.f0,yaa F.f7];rfl
  rw[if_neg e102];by_cases e113:x=113
  ·subst e113;rw[if_pos rfl];exact F.rq (BA hx)
  rw[if_neg e113];by_cases e114:x=114
  ·subst e114;rw[if_pos rfl];exact F.rs (Bo hx)
  rw[if_neg e114];by_cases e108:x=108
  ·subst e108;rw[if_pos rfl,yaa F.ln,yaS.2 (fun p hp=>by simp[F.log p hp])];rfl
  rw[if_neg e108];by_cases e101:x=101
  ·subst e101;rw[if_pos rfl];exact yaa F.hn
  rw[if_neg e101]
 rintro⟨h1,h2,h3⟩;obtain⟨-,hag⟩:=same_iff.1 h3;have hall:∀x∈lettersOf m.k m.wh,x∈dF:=jb;have hz:∀x∈dF,x∉lettersOf m.k m.wh->agree x m c (ay m.k) dO=true:=fun x hx hn=>dU (hag x hx) ((sZ m c _ hall x hx (ay m.k) dO).2 hn);have lg:=h.lg.len;have ls:=h.se.1;rw[iq] at ls;have hfr:0<=m.fr/\m.fr<7:=by
  by_cases hm:(102:Int)∈lettersOf m.k m.wh
  ·have:(decide (0<=m.fr)&&decide (m.fr<7))=true:=h2 102 hm;simpa using this
  have:m.fr=0:=yar (hz 102 (by decide) hm);omega
 have hlog:(∀p∈c.log,aA p.1.op p.2=true)/\m.ln<=4096:=by
  by_cases hm:(108:Int)∈lettersOf m.k m.wh
  ·have h4:(!(c.log.any fun u=>!aA u.1.op u.2)&&decide (m.ln<=4096))=true:=h2 108 hm;rw[yaq] at h4;refine⟨fun p hp=>?_,yar h4.2⟩;have:=yaS.1 (by simpa using h4.1:(c.log.any fun u=>!aA u.1.op u.2)=false) p hp;simpa using this
  have h4:bH c.log []=true:=hz 108 (by decide) hm;have h5:=jB h4;have h6:c.log=[]:=yat h5;rw[h6] at lg ⊢;exact⟨fun p hp=>absurd hp yal,by simp at lg;omega⟩
 have hsn:m.hn<=7:=by
  by_cases hm:(101:Int)∈lettersOf m.k m.wh
  ·exact yar (show decide (m.hn<=7)=true from h2 101 hm)
  have h4:c.seen=[]:=yar (show decide (c.seen=[])=true from hz 101 (by decide) hm);rw[h4] at ls;simp at ls;omega
 unfold eu;rw[yaa h1,h3,yaa hfr.1,yaa hfr.2,yaa hlog.2,yaa hs,yaa hsn,yaS.2 (fun p hp=>by simp[hlog.1 p hp])];simp only[yaX,Bool.not_false];by_cases hq:m.k=1\/m.k=3
 ·rw[if_pos hq];exact h2 113 (TP hq)
 rw[if_neg hq];by_cases hr:m.k=2
 ·rw[if_pos hr];exact h2 114 (U0 hr)
 rw[if_neg hr]
def Kept (o:MV)(d:MC):Prop:=∀x∈dF,x∉lettersOf o.k o.wh->agree x o d (ay o.k) dO=true
theorem JQ{W':World}{s':RS}(T:TookM ⟨dL m c,false⟩ o d s')(hM:MayM W m c)(ho:MAt W' o d)(hu:U64M o d)(hk:1<=o.k/\o.k<=12)(hz:s'.bad=false->Kept o d) :
  aH o d m c=aH m c (jY (lettersOf m.k m.wh) m) (nJ (lettersOf m.k m.wh) c):=by
 obtain⟨h1,h2⟩:=T.go rfl W m c [] hM (by simp);obtain⟨-,e,g,-⟩:=T.yes h1;dsimp only at e;obtain⟨k1,k2,k3,-⟩:=zU (r:=[]) hM.at_ ho hM.u hu hM.k hk (fun x hx=>(hM.may x hx).g hM.at_) g (by rw[yaD];exact e);refine KE jb k1.symm (fun x hx=>iR (k3 x hx)) (fun x hx hn=>?_);rw[k1];exact hz h1 x hx (by rw[<-k2];exact hn)
theorem Jh(h:MAt W m c)(hs:m.sn<=4194304)(hn:lettersOf m.k m.wh≠[])(hall:∀x∈lettersOf m.k m.wh,fC x m c=true) :
  bY m c=(aH m c (jY (lettersOf m.k m.wh) m) (nJ (lettersOf m.k m.wh) c)&&decide ((dL m c).length<=8388608)):=by
 unfold bY
 congr 1
 rw[ybk,qC h hs];exact⟨fun a=>a.2.2,fun a=>⟨hn,hall,a⟩⟩
theorem Oh(h:MAt W m c)(hs:m.sn<=4194304)(hn:lettersOf m.k m.wh=[]):bY m c=false:=by
 cases hm:eu m c with
 | false=>unfold bY;rw[hm];rfl
 | true=>exact absurd hn ((qC h hs).1 hm).1
theorem PE(h:MAt W m c)(hs:m.sn<=4194304)(hx:x∈lettersOf m.k m.wh)(hf:fC x m c=false):bY m c=false:=by
 cases hm:eu m c with
 | false=>unfold bY;rw[hm];rfl
 | true=>
  have:=((qC h hs).1 hm).2.1 x hx;rw[hf] at this;cases this
structure MTyB (B:Nat)(W:World)(m:MV)(c:MC):Prop where
 rq:OpTyB B W m.rq.op
 rs:QTyB B W m.rs c.rs
 sn:TyB B W m.so m.sc
 lo:TyX 55 W m.lo m.lc
 log:∀p∈c.log,OpTyB B W p.1.op
 ho:TyX 22 W m.ho m.hc
structure FitK (o:MV)(c:MC):Prop where
 rs:mQ c.rs
 rl:bz o.rs c.rs=true->(dM o.rs c.rs).length<=4194304
 lg:(∀p∈c.log,aA p.1.op p.2=true)->(gq c.log).length<=4194304
 sn:o.sn<=4194304
 hn:o.hn<=322639
 ln:o.ln<=1000000
theorem FitK.fits(h:FitK o c):FitsM o c:=⟨h.rs,h.rl,h.lg⟩
theorem Tu(k:Int):FitK (ay k) dO:=⟨fun _=>yam _,fun _=>by rw[nV];decide,fun _=>yam _,yam _,yam _,yam _⟩
def xe (B g:Nat)(s:RS)(W:World)(e:Ending)(w':World):Prop:=∃s':RS,RfS B g s' w'/\BelX W.heap.size [g] W w' /\
 ((∃(m:MV) (c:MC),e=.returned (.tuple #[m.val,.bool true])/\MAt w' m c/\U64M m c/\MTyB B w' m c/\(1<=m.k/\m.k<=12)/\(s'.bad=false->Kept m c)/\TookM s m c s'/\FitK m c/\∃r,s.l=val 1 (au m.k.toNat)++r) \/
 (e=.returned (.tuple #[(ay 0).val,.bool false])/\(∀(n:Nat) (r:List UInt8),s.bad=false->1<=n->n<=12->s.l≠val 1 (au n)++r)/\∀(W0:World) (m:MV) (d:MC) (r:List UInt8),s.bad=false->MayM W0 m d->s.l≠dL m d++r))
end Msg
namespace Tlv
open Go.RowKit Mem
variable{B g:Nat}{W:World}{s:RS}
theorem RfAt.flag{ao:Option Addr}{cap:Nat}(h:RfAt B g s ao cap W)(b:Bool):RfAt B g ⟨s.l,b⟩ ao cap (W.setCell ⟨g,1,none⟩ (.bool b)):=by
 have hn:=h.ne;have hg:=ak W g 1 (.bool b);refine⟨vg h.at_ _,h.le,fO h.rd hg (fun h0 a ha e=>hn h0 a ha (yaf e)),h.ty.grown hg (fun h0 a ha e=>hn h0 a ha (yaf e))⟩
theorem RfS.flag(h:RfS B g s W)(b:Bool):RfS B g ⟨s.l,b⟩ (W.setCell ⟨g,1,none⟩ (.bool b)):=by
 obtain⟨ao,cap,h⟩:=h;exact⟨ao,cap,h.flag b⟩
theorem RfS.cell1(h:RfS B g s W):W.cell? ⟨g,1,none⟩=some (.bool s.bad):=by
 obtain⟨ao,cap,h⟩:=h;exact (gz h).2.1
theorem RfS.cell0(h:RfS B g s W):∃ao cap,W.cell? ⟨g,0,none⟩=some (.slice ao s.l.length cap):=by
 obtain⟨ao,cap,h⟩:=h;exact⟨ao,cap,(gz h).1⟩
theorem RfS.fz1(h:RfS B g s W):W.frozen? ⟨g,1,none⟩=false:=by
 obtain⟨ao,cap,h⟩:=h;exact (gz h).2.2.2
theorem RfS.at_(h:RfS B g s W):∃cs,W.heap[g]?=some (.cells cs 119):=by
 obtain⟨ao,cap,h⟩:=h;exact⟨_,h.at_⟩
end Tlv
namespace Msg
open Go.RowKit Go.Lib Mem Tlv
variable{M cap i j n:Nat}{a b w':World}{ao:Option Addr}{cs:Array Value}{e:Ending}{fr:Nat×Nat}{q:QV}{r:RV}{t:TypeId}{v:Value}{x:Int}{y:List UInt8}{ys:List Nat}
def kC (o:MV):MV:={ o with vi:=0,no:=0,fr:=0,cl:=0,nu:=0,at_:=0,cm:=0,bs:=0,nc:=0 }
def jM (o:MV):Array Value:=dP o.vi o.no o.fr o.cl o.nu 0 0 o.at_ o.cm o.bs 0 0 o.nc 0 0
theorem bJ:¬gZ 59:=fun h=>by rcases h with h | h | h | h | h | h<;>exact absurd h (by decide)
theorem vY:¬gZ 154:=fun h=>by rcases h with h | h | h | h | h | h<;>exact absurd h (by decide)
theorem LgAt.kpn{B:Nat}{l:List RP}(h:LgAt a ao n cap l)(hy:TyX 55 a ao cap)(hyo:∀p∈l,OpTyB B a p.1.op)(hk:KeepN B a b):LgAt b ao n cap l:=
 ⟨kS tK h.r hy hk.km,fun p hp=>(h.each p hp).kpb (hyo p hp) hk.kb⟩
theorem MTyB.kpn{B:Nat}{m:MV}{c:MC}(h:MTyB B a m c)(hk:KeepN B a b):MTyB B b m c:=
 ⟨h.rq.kpb hk.kb,h.rs.kpn hk,TyB.kpb h.sn hk.kb,h.lo.kpm tK hk.km,fun p hp=>(h.log p hp).kpb hk.kb,h.ho.kpm uG hk.km⟩
theorem MAt.kpn{B:Nat}{m:MV}{c:MC}(h:MAt a m c)(hy:MTyB B a m c)(hk:KeepN B a b):MAt b m c:=
 ⟨h.rq.kpb hy.rq hk.kb,h.rs.kpn hy.rs hk,ji h.sn hy.sn hk.kb,h.lg.kpn hy.lo hy.log hk,kS uG h.se hy.ho hk.km,h.ls,h.lh⟩
theorem gK{P:Program}{o:Oper}{a:Act}{w:World}{ty:TypeId}{p:Operand}{g:Nat}
  (hg:w.heap[g]?=some (.cells cs t fr)) (hop:o.op=.load ty p) (hp:a.eval p=.pointer (some ⟨g,0,none⟩)) (hu:lG P ty=true) (hi:(P.info? ty).map (·.size)=some cs.size):(execOp a.eval o).run P w=.ok (.value (.agg cs)) w:=by
 obtain⟨d,h1,h2⟩:=nO hu;have hl:(Instr.loadAt ty (.pointer (some ⟨g,0,none⟩))).run P w=.ok (.agg cs) w:=by
  simp only[Instr.loadAt,Instr.sureAddr,yaY,ybp,Result.andThen];cases d<;>first | exact run_loadVar_row w g t ty cs fr _ hg h1 rfl hi | cases h2
 unfold execOp;rw[hop];simp only[hp,yaY,hl,Result.andThen,ybp]
def jr (W:World)(b:Nat)(r:RV):World:=((((((((W.setCell ⟨b,6,none⟩ (.int .u64 r.cl)).setCell ⟨b,7,none⟩ (.int .u64 r.nu)).setCell ⟨b,8,none⟩ (.int .i64 r.op.k)).setCell ⟨b,9,none⟩ (.string r.op.name)).setCell ⟨b,10,none⟩ (.string r.op.to)).setCell ⟨b,11,none⟩ (.slice r.op.ao r.op.an r.op.ac)).setCell ⟨b,12,none⟩ (.slice r.op.bo r.op.bn r.op.bc)).setCell ⟨b,13,none⟩ (.slice r.op.co r.op.cn r.op.cc)).setCell ⟨b,14,none⟩ (.int .i64 r.op.n)
theorem Em{W:World}{b:Nat}{m:MV}(h:W.heap[b]?=some m.box):(jr W b r).heap[b]?=some (MV.box { m with rq:=r }):=by
 unfold MV.box MV.cells at h;have h0:=at_set (i:=6) (x:=.int .u64 r.cl) h;have h1:=at_set (i:=7) (x:=.int .u64 r.nu) h0;have h2:=at_set (i:=8) (x:=.int .i64 r.op.k) h1;have h3:=at_set (i:=9) (x:=.string r.op.name) h2;have h4:=at_set (i:=10) (x:=.string r.op.to) h3;have h5:=at_set (i:=11) (x:=.slice r.op.ao r.op.an r.op.ac) h4;have h6:=at_set (i:=12) (x:=.slice r.op.bo r.op.bn r.op.bc) h5;have h7:=at_set (i:=13) (x:=.slice r.op.co r.op.cn r.op.cc) h6;have h8:=at_set (i:=14) (x:=.int .i64 r.op.n) h7;exact h8.trans (by kernel_rfl)
theorem zi{b:Nat}(hb:b∈ys\/M<=b):BelX M ys a (jr a b r):=(((((((((BelX.refl M ys a).set b 6 _ hb).set b 7 _ hb).set b 8 _ hb).set b 9 _ hb).set b 10 _ hb).set b 11 _ hb).set b 12 _ hb).set b 13 _ hb).set b 14 _ hb
theorem Eu{W:World}{b:Nat}{o:Obj}(h:W.heap[j]?=some o)(hne:j≠b):(jr W b r).heap[j]?=some o:=ah (ah (ah (ah (ah (ah (ah (ah (ah h hne) hne) hne) hne) hne) hne) hne) hne) hne
def jl (W:World)(b:Nat)(q:QV):World:=(((W.setCell ⟨b,15,none⟩ (.int .i64 q.code)).setCell ⟨b,16,none⟩ (.bool q.yes)).setCell ⟨b,17,none⟩ (.slice q.eo q.en q.ec)).setCell ⟨b,18,none⟩ (.slice q.co q.cn q.cc)
theorem DW{W:World}{b:Nat}{m:MV}(h:W.heap[b]?=some m.box):(jl W b q).heap[b]?=some (MV.box { m with rs:=q }):=by
 unfold MV.box MV.cells at h;have h0:=at_set (i:=15) (x:=.int .i64 q.code) h;have h1:=at_set (i:=16) (x:=.bool q.yes) h0;have h2:=at_set (i:=17) (x:=.slice q.eo q.en q.ec) h1;have h3:=at_set (i:=18) (x:=.slice q.co q.cn q.cc) h2;exact h3.trans (by kernel_rfl)
theorem zl{b:Nat}(hb:b∈ys\/M<=b):BelX M ys a (jl a b q):=((((BelX.refl M ys a).set b 15 _ hb).set b 16 _ hb).set b 17 _ hb).set b 18 _ hb
theorem ED{W:World}{b:Nat}{o:Obj}(h:W.heap[j]?=some o)(hne:j≠b):(jl W b q).heap[j]?=some o:=ah (ah (ah (ah h hne) hne) hne) hne
theorem Dn{B:Nat}{w:World}(h:xg (OpTyB B) (.bool true) (.bool false) y w e w'):∃(ok:Bool) (r:RV) (x:OC),e=.returned (.tuple #[r.val,.bool ok])/\OpAt w' r.op x/\OpTyB B w' r.op/\U64R r/\Below w.heap.size w w'/\(ok=false->aA r.op x=false)/\((ok=true/\aA r.op x=true/\dG r (opL r.op x)=y)\/(ok=false/\qW y)):=by
 obtain⟨hb,⟨r,x,rfl,h1,h2,h3,h4,h5⟩ | ⟨rfl,n1⟩⟩:=h
 ·exact⟨true,r,x,rfl,h1,h2,h3,hb,(fun e=>by cases e),.inl ⟨rfl,h4,h5⟩⟩
 exact⟨false,bG,⟨[],[],[]⟩,rfl,⟨Rd.nil _ _,Rd.nil _ _,Rd.nil _ _,yam _,yam _,yam _⟩,⟨fun h=>absurd h (yaw 0),fun h=>absurd h (yaw 0),fun h=>absurd h (yaw 0)⟩,⟨by decide,by decide,by decide,by decide⟩,hb,(fun _=>by decide),.inr ⟨rfl,n1⟩⟩
theorem ND{B:Nat}{w:World}(h:xu (QTyB B) (.bool true) (.bool false) y w e w'):∃(ok:Bool) (q:QV) (x:QC),e=.returned (.tuple #[q.val,.bool ok])/\QAt w' q x/\QTyB B w' q x/\Below w.heap.size w w'/\(ok=false->(dM q x).length<=29)/\((ok=true/\bz q x=true/\dM q x=y)\/(ok=false/\uI y)):=by
 obtain⟨hb,⟨q,x,rfl,h1,h2,h4,h5⟩ | ⟨rfl,n1⟩⟩:=h
 ·exact⟨true,q,x,rfl,h1,h2,hb,(fun e=>by cases e),.inl ⟨rfl,h4,h5⟩⟩
 exact⟨false,aG,⟨[],[]⟩,rfl,⟨⟨Rd.nil _ _,fun _ hp=>absurd hp yal⟩,Rd.nil _ _,yam _⟩,⟨fun h=>absurd h (yaw 0),fun _ hp=>absurd hp yal,fun h=>absurd h (yaw 0)⟩,hb,(fun _=>by rw[nV];decide),.inr ⟨rfl,n1⟩⟩
theorem FQ(k:Int)(wh:Bool)(j:Nat)(x:Int)(h:(lettersOf k wh)[j]?=some x):(byV (eP k wh))[j]?=some (.int .u8 ((jW x).toNat:Int)):=by
 simp[eP,byV,h]
structure TkM (B g ob nb rb:Nat)(w:World)(T:Option Addr)(l8:List UInt8)(tc:Nat)(o:MV)(c:MC)(s:RS)(W:World):Prop where
 rf:RfS B g s W
 X:BelX w.heap.size [g] w W
 q:W.heap[ob]?=some (kC o).box
 na:W.heap[nb]?=some (.cells (jM o) 154)
 at_:MAt W o c
 u:U64M o c
 ty:MTyB B W o c
 fr:0<=o.fr/\o.fr<18446744073709551616
 tags:Rd W 1 T l8.length tc (byV l8)
 tty:TyX 5 W T tc
 rz:W.heap[rb]?=some (ay 0).box
 gw:g<w.heap.size
 Bg:B<=g
 wo:w.heap.size<=ob
 wn:w.heap.size<=nb
 wr:w.heap.size<=rb
 ro:rb≠ob
 ft:FitK o c
section
variable {B g ob nb rb:Nat} {w:World} {T:Option Addr} {l8:List UInt8} {tc:Nat} {o:MV} {c:MC} {s:RS} {W W':World}
theorem TkM.no(h:TkM B g ob nb rb w T l8 tc o c s W):nb≠ob/\nb≠rb:=by
 constructor
 ·rintro rfl;have h1:=h.na;rw[h.q] at h1;cases h1
 rintro rfl;have h1:=h.na;rw[h.rz] at h1;cases h1
theorem TkM.lt(h:TkM B g ob nb rb w T l8 tc o c s W):ob<W.heap.size/\nb<W.heap.size/\rb<W.heap.size:=⟨(lA h.q),(lA h.na),(lA h.rz)⟩
theorem TkM.grown{s':RS}(h:TkM B g ob nb rb w T l8 tc o c s W)(hg:W.grownBy W' (some g))(hr:RfS B g s' W'):TkM B g ob nb rb w T l8 tc o c s' W':=by
 have hk:KeepN B W W':=IG h.rf hg;have hX:BelX W.heap.size [g] W W':=BelX.of_grown hg;have hs:=h.X.size;obtain⟨l1,l2,l3⟩:=h.lt;have ho:∀k,w.heap.size<=k->k∉[g]:=fun k hk hm=>by have:=yah.1 hm;have:=h.gw;omega
 exact⟨hr,h.X.trans (hX.mono hs (fun _ hk _=>hk)),hX.at_ h.q l1 (ho _ h.wo),hX.at_ h.na l2 (ho _ h.wn),h.at_.kpn h.ty hk,h.u,h.ty.kpn hk,h.fr,kS iI h.tags h.tty hk.km,h.tty.kpm iI hk.km,hX.at_ h.rz l3 (ho _ h.wr),h.gw,h.Bg,h.wo,h.wn,h.wr,h.ro,h.ft⟩
theorem TkM.later(h:TkM B g ob nb rb w T l8 tc o c s W)(hb:Below W.heap.size W W'):TkM B g ob nb rb w T l8 tc o c s W':=h.grown (gU hb _) (h.rf.later hb)
theorem TkM.flag(h:TkM B g ob nb rb w T l8 tc o c s W)(b:Bool):TkM B g ob nb rb w T l8 tc o c ⟨s.l,b⟩ (W.setCell ⟨g,1,none⟩ (.bool b)):=h.grown (ak _ _ _ _) (h.rf.flag b)
theorem TkM.not_u8(ht:¬gZ t):∀(c:Array Value) (fr':Nat×Nat),(Obj.cells cs t fr)≠.cells c 5 fr':=fun c fr' e=>by cases e;exact ht iI
theorem TkM.box{o':MV}{c':MC}(h:TkM B g ob nb rb w T l8 tc o c s W)(hX:BelX W.heap.size [ob] W W')(hq:W'.heap[ob]?=some (kC o').box)(hn:jM o'=jM o)(hfr:o'.fr=o.fr)(hat:MAt W' o' c')(hu:U64M o' c')(hty:MTyB B W' o' c')(hft:FitK o' c'):TkM B g ob nb rb w T l8 tc o' c' s W':=by
 have hB:B<=ob:=by have:=h.Bg;have:=h.gw;have:=h.wo;omega
 have hk:KeepN B W W':=KeepN.of_belX hX h.q bJ hB;have hs:=h.X.size;obtain⟨l1,l2,l3⟩:=h.lt;have hgo:g∉[ob]:=fun hm=>by have:=yah.1 hm;have:=h.gw;have:=h.wo;omega
 have hrf:RfS B g s W':=h.rf.belX hX hgo (fun k hk=>by rw[yah.1 hk];exact hB) (fun k hk=>by rw[yah.1 hk];exact⟨_,h.q,TkM.not_u8 bJ⟩);exact⟨hrf,h.X.trans (hX.mono hs (fun k hk hlt=>by have:=yah.1 hk;have:=h.wo;omega)),hq,hn▸hX.at_ h.na l2 (by simpa using h.no.1),hat,hu,hty,hfr▸h.fr,kS iI h.tags h.tty hk.km,h.tty.kpm iI hk.km,hX.at_ h.rz l3 (by simpa using h.ro),h.gw,h.Bg,h.wo,h.wn,h.wr,h.ro,hft⟩
theorem TkM.keep(h:TkM B g ob nb rb w T l8 tc o c s W)(hX:BelX W.heap.size [ob] W W'):KeepN B W W':=KeepN.of_belX hX h.q bJ (by have:=h.Bg;have:=h.gw;have:=h.wo;omega)
theorem TkM.nums{o':MV}(h:TkM B g ob nb rb w T l8 tc o c s W)(hX:BelX W.heap.size [nb] W W')(hn:W'.heap[nb]?=some (.cells (jM o') 154))(hr:kC o'=kC o)(hu:U64M o' c)(hfr:0<=o'.fr/\o'.fr<18446744073709551616):TkM B g ob nb rb w T l8 tc o' c s W':=by
 have hB:B<=nb:=by have:=h.Bg;have:=h.gw;have:=h.wn;omega
 have hk:KeepN B W W':=KeepN.of_belX hX h.na vY hB;have hs:=h.X.size;obtain⟨l1,l2,l3⟩:=h.lt;obtain⟨n1,n2⟩:=h.no;have hgo:g∉[nb]:=fun hm=>by have:=yah.1 hm;have:=h.gw;have:=h.wn;omega
 have hrf:RfS B g s W':=h.rf.belX hX hgo (fun k hk=>by rw[yah.1 hk];exact hB) (fun k hk=>by rw[yah.1 hk];exact⟨_,h.na,TkM.not_u8 vY⟩);have a:=h.at_.kpn h.ty hk;have b:=h.ty.kpn hk;have f1:FitK (kC o) c:=⟨h.ft.rs,h.ft.rl,h.ft.lg,h.ft.sn,h.ft.hn,h.ft.ln⟩
 have a1:MAt W' (kC o) c:=⟨a.rq,a.rs,a.sn,a.lg,a.se,a.ls,a.lh⟩
 have a2:MTyB B W' (kC o) c:=⟨b.rq,b.rs,b.sn,b.lo,b.log,b.ho⟩
 rw[<-hr] at a1 a2 f1;have a3:MAt W' o' c:=⟨a1.rq,a1.rs,a1.sn,a1.lg,a1.se,a1.ls,a1.lh⟩
 have a4:MTyB B W' o' c:=⟨a2.rq,a2.rs,a2.sn,a2.lo,a2.log,a2.ho⟩
 exact⟨hrf,h.X.trans (hX.mono hs (fun k hk hlt=>by have:=yah.1 hk;have:=h.wn;omega)),hr▸hX.at_ h.q l1 (by simpa using fun e=>n1 e.symm),hn,a3,hu,a4,hfr,kS iI h.tags h.tty hk.km,h.tty.kpm iI hk.km,hX.at_ h.rz l3 (by simpa using fun e=>n2 e.symm),h.gw,h.Bg,h.wo,h.wn,h.wr,h.ro,⟨f1.rs,f1.rl,f1.lg,f1.sn,f1.hn,f1.ln⟩⟩
theorem TkM.turn{o':MV}{c':MC}{s':RS}(h:TkM B g ob nb rb w T l8 tc o c s W)(hk:KeepN B W W')(hX:BelX W.heap.size ys W W')(hys:∀k∈ys,k=ob\/k=g\/(k≠nb/\k≠rb/\w.heap.size<=k))(hrf:RfS B g s' W')(hq:W'.heap[ob]?=some (kC o').box)(hn:jM o'=jM o)(hfr:o'.fr=o.fr)(hat:MAt W' o' c')(hu:U64M o' c')(hty:MTyB B W' o' c')(hft:FitK o' c'):TkM B g ob nb rb w T l8 tc o' c' s' W':=by
 have hs:=h.X.size;obtain⟨l1,l2,l3⟩:=h.lt;obtain⟨n1,n2⟩:=h.no;have hw:=h.wo;have hwn:=h.wn;have hwr:=h.wr;have hgw:=h.gw;have hro:=h.ro;exact⟨hrf,h.X.trans (hX.mono hs (fun k hk hlt=>by rcases hys k hk with e | e | e<;>simp<;>omega)),hq,hn▸hX.at_ h.na l2 (fun hm=>by rcases hys _ hm with e | e | e<;>omega),hat,hu,hty,hfr▸h.fr,kS iI h.tags h.tty hk.km,h.tty.kpm iI hk.km,hX.at_ h.rz l3 (fun hm=>by rcases hys _ hm with e | e | e<;>omega),h.gw,h.Bg,h.wo,h.wn,h.wr,h.ro,hft⟩
theorem TkM.tag{T':Option Addr}{l8':List UInt8}{tc':Nat}(h:TkM B g ob nb rb w T l8 tc o c s W)(ht:Rd W 1 T' l8'.length tc' (byV l8'))(hy:TyX 5 W T' tc'):TkM B g ob nb rb w T' l8' tc' o c s W:=
 ⟨h.rf,h.X,h.q,h.na,h.at_,h.u,h.ty,h.fr,ht,hy,h.rz,h.gw,h.Bg,h.wo,h.wn,h.wr,h.ro,h.ft⟩
end
theorem wK(x y:Int)(m0 m:MV)(c0 c:MC)(hx:x∈dF)(hy:y∈dF)(hne:x≠y):bW x (aJ y m0 m) (dA y c0 c)=bW x m0 c0:=by
 simp only[dF,yas,yal,or_false] at hx hy;rcases hx with rfl|rfl|rfl|rfl|rfl|rfl|rfl|rfl|rfl|rfl|rfl|rfl|rfl|rfl|rfl
 all_goals
  rcases hy with rfl|rfl|rfl|rfl|rfl|rfl|rfl|rfl|rfl|rfl|rfl|rfl|rfl|rfl|rfl<;>first | exact absurd rfl hne | rfl
theorem zA(x y:Int)(m0 m:MV)(c0 c:MC)(hy:y∈dF)(hne:x≠y)(h:MayG x m0 c0):MayG x (aJ y m0 m) (dA y c0 c):=by
 simp only[dF,yas,yal,or_false] at hy;refine⟨fun e=>?_,fun e=>?_,fun e=>?_,fun e=>?_,fun e=>?_,fun e=>?_⟩
 ·have k:=h.fr e;subst e;rcases hy with rfl|rfl|rfl|rfl|rfl|rfl|rfl|rfl|rfl|rfl|rfl|rfl|rfl|rfl|rfl<;>first | exact absurd rfl hne | exact k
 ·have k:=h.rq e;subst e;rcases hy with rfl|rfl|rfl|rfl|rfl|rfl|rfl|rfl|rfl|rfl|rfl|rfl|rfl|rfl|rfl<;>first | exact absurd rfl hne | exact k
 ·have k:=h.rs e;subst e;rcases hy with rfl|rfl|rfl|rfl|rfl|rfl|rfl|rfl|rfl|rfl|rfl|rfl|rfl|rfl|rfl<;>first | exact absurd rfl hne | exact k
 ·have k:=h.sn e;subst e;rcases hy with rfl|rfl|rfl|rfl|rfl|rfl|rfl|rfl|rfl|rfl|rfl|rfl|rfl|rfl|rfl<;>first | exact absurd rfl hne | exact k
 ·have k:=h.log e;subst e;rcases hy with rfl|rfl|rfl|rfl|rfl|rfl|rfl|rfl|rfl|rfl|rfl|rfl|rfl|rfl|rfl<;>first | exact absurd rfl hne | exact k
 have k:=h.seen e;subst e;rcases hy with rfl|rfl|rfl|rfl|rfl|rfl|rfl|rfl|rfl|rfl|rfl|rfl|rfl|rfl|rfl<;>first | exact absurd rfl hne | exact k
def NilS (ls:List Int)(o:MV):Prop:=((108:Int)∉ls->o.lo=none/\o.ln=0/\o.lc=0)/\((101:Int)∉ls->o.ho=none/\o.hn=0/\o.hc=0)
theorem NilS.set{ls:List Int}{o m:MV}(h:NilS ls o)(hx:x∈dF):NilS (ls++[x]) (aJ x o m):=by
 simp only[dF,yas,yal,or_false] at hx;constructor
 ·intro hn;have h1:=h.1 (fun hm=>hn (yaN _ hm));rcases hx with rfl|rfl|rfl|rfl|rfl|rfl|rfl|rfl|rfl|rfl|rfl|rfl|rfl|rfl|rfl<;>first | exact absurd (ybP ls (yah.2 rfl)) hn | exact h1
 intro hn;have h1:=h.2 (fun hm=>hn (yaN _ hm));rcases hx with rfl|rfl|rfl|rfl|rfl|rfl|rfl|rfl|rfl|rfl|rfl|rfl|rfl|rfl|rfl<;>first | exact absurd (ybP ls (yah.2 rfl)) hn | exact h1
structure TkI (B g ob nb rb:Nat)(s:RS)(w:World)(kk:Int)(wh:Bool)(T:Option Addr)(tc:Nat)(j:Nat)(W:World):Prop where
 k:1<=kk/\kk<=12
 hw:wh=true->kk=10
 ex:∃(o:MV) (c:MC) (s':RS),TkM B g ob nb rb w T (eP kk wh) tc o c s' W/\o.k=kk/\ReadM s kk (lettersOf kk wh) j (decide (kk≠10\/2<=j)) o c s'/\(wh=true->2<=j)/\(∀x∈dF,x∉(lettersOf kk wh).take j->agree x o c (ay kk) dO=true)/\NilS ((lettersOf kk wh).take j) o
def SwM (B g ob nb rb:Nat)(w:World)(T:Option Addr)(l8:List UInt8)(tc:Nat)(x:Int)(o:MV)(c:MC)(s:RS)(W':World):Prop:=∃(m:MV) (d:MC) (s':RS),TkM B g ob nb rb w T l8 tc (aJ x o m) (dA x c d) s' W'/\StepX x s (aJ x o m) (dA x c d) s'
theorem lM(k:Int)(wh:Bool):(lettersOf k wh).Nodup:=List.Pairwise.filter _ (by unfold dF;decide)
theorem uf{l:List Int}(hl:l.Nodup)(hx:l[j]?=some x):x∉l.take j:=by
 intro hm;obtain⟨i,hi,e⟩:=List.getElem_of_mem hm;rw[List.getElem_take] at e;obtain⟨hj,ej⟩:=yao.1 hx;rw[yaV] at hi;exact List.pairwise_iff_getElem.1 hl i j (by omega) hj (by omega) (e.trans ej.symm)
theorem TkI.next{B g ob nb rb:Nat}{s:RS}{w:World}{kk:Int}{wh:Bool}{T:Option Addr}{tc:Nat}{W':World}{o:MV}{c:MC}{s':RS}(ho:o.k=kk)
  (R:ReadM s kk (lettersOf kk wh) j (decide (kk≠10\/2<=j)) o c s') (hj:wh=true->2<=j) (hz:∀x∈dF,x∉(lettersOf kk wh).take j->agree x o c (ay kk) dO=true) (hns:NilS ((lettersOf kk wh).take j) o)
  (hx:(lettersOf kk wh)[j]?=some x) (S:SwM B g ob nb rb w T (eP kk wh) tc x o c s' W') :
  ∃(o':MV) (c':MC) (s2:RS),TkM B g ob nb rb w T (eP kk wh) tc o' c' s2 W'/\o'.k=kk/\ReadM s kk (lettersOf kk wh) (j+1) (decide (kk≠10\/2<=j)) o' c' s2/\(∀x∈dF,x∉(lettersOf kk wh).take (j+1)->agree x o' c' (ay kk) dO=true)/\NilS ((lettersOf kk wh).take (j+1)) o':=by
 obtain⟨m,d,s2,h1,h2⟩:=S;have hxa:=jb x (yan hx);have hnd:=lM kk wh;refine⟨_,_,s2,h1,(CU x o m).trans ho,R.step ?_ hx h2 (fun y hy=>?_),fun y hy hn=>?_,?_⟩
 ·by_cases h10:kk≠10\/2<=j
  ·exact .inl (yaa h10)
  have e10:kk=10:=by
   by_cases e:kk=10
   ·exact e
   exact absurd (.inl e) h10
  have hj2:j<2:=by
   by_cases e:j<2
   ·exact e
   exact absurd (.inr (by omega)) h10
  refine .inr ⟨e10,hj2,?_⟩;cases wh with
  | false=>rw[e10]
  | true=>have:=hj rfl;omega
 ·have hya:=jb y (ycz hy);have hne:y≠x:=fun e=>uf hnd hx (e▸hy);exact⟨wK y x o m c d hya hxa hne,zA y x o m c d hxa hne⟩
 ·rw[yaE,hx,yaQ] at hn;have hne:y≠x:=fun e=>hn (.inr (by simp[e]));exact dU (nZ y x o m c d hy hxa hne) (hz y hy (fun hm=>hn (.inl hm)))
 rw[yaE,hx];exact hns.set hxa
theorem NS(s:RS):s.tag=s.tagR:=by
 unfold RS.tag RS.tagR;by_cases h1:s.bad=true
 ·rw[if_pos h1,if_pos (.inl h1)]
 by_cases h2:fs s.l=0
 ·rw[if_neg h1,if_pos h2,if_pos (.inr h2)]
 rw[if_neg h1,if_neg h2,if_neg (by simp[h1,h2])]
theorem FN(s:RS)(t:UInt8):(s.num t).1<18446744073709551616:=by
 unfold RS.num;split
 ·show 0<18446744073709551616;decide
 split
 ·exact pF _ 8
 show 0<18446744073709551616;decide
structure MTyP (W:World)(m:MV)(c:MC):Prop where
 rq:OpTy W m.rq.op
 rs:QTy W m.rs c.rs
 sn:TyX 5 W m.so m.sc
 lo:TyX 55 W m.lo m.lc
 log:∀p∈c.log,OpTy W p.1.op
 ho:TyX 22 W m.ho m.hc
theorem LgAt.kpm{l:List RP}(h:LgAt a ao n cap l)(hy:TyX 55 a ao cap)(hyo:∀p∈l,OpTy a p.1.op)(hk:KeepM a b):LgAt b ao n cap l:=
 ⟨kS tK h.r hy hk,fun p hp=>(h.each p hp).kpr (hyo p hp) hk.kr⟩
theorem MTyP.kpm{m:MV}{c:MC}(h:MTyP a m c)(hk:KeepM a b):MTyP b m c:=
 ⟨h.rq.kpr hk.kr,h.rs.kpm hk,h.sn.kpm iI hk,h.lo.kpm tK hk,fun p hp=>(h.log p hp).kpr hk.kr,h.ho.kpm uG hk⟩
theorem MAt.kpm{m:MV}{c:MC}(h:MAt a m c)(hy:MTyP a m c)(hk:KeepM a b):MAt b m c:=
 ⟨h.rq.kpr hy.rq hk.kr,h.rs.kpm hy.rs hk,kS iI h.sn hy.sn hk,h.lg.kpm hy.lo hy.log hk,kS uG h.se hy.ho hk,h.ls,h.lh⟩
structure RdM (B g ob:Nat)(w:World)(o:MV)(c:MC)(s:RS)(W:World):Prop where
 rd:RdS B g s W
 X:BelX w.heap.size [g,ob] w W
 q:W.heap[ob]?=some o.box
 at_:MAt W o c
 u:U64M o c
 ty:MTyP W o c
 fr:0<=o.fr/\o.fr<7
 cnt:s.bad=false->o.ln<=4096/\o.hn<=7
 gw:g<w.heap.size
 ow:ob<w.heap.size
 ne:g≠ob
section
variable {B g ob:Nat} {w:World} {o o' m:MV} {c c' d:MC} {s s':RS} {W W' W1:World}
theorem RdM.lt(h:RdM B g ob w o c s W):g<W.heap.size/\ob<W.heap.size:=⟨by obtain⟨_,_,h⟩:=h.rd;exact h.lt,(lA h.q)⟩
theorem RdM.kg(h:RdM B g ob w o c s W)(hg:W.grownBy W' (some g)):KeepM W W':=by
 obtain⟨_,_,hr⟩:=h.rd;exact KeepM.grown hg hr.at_ pX
theorem RdM.grown(h:RdM B g ob w o c s W)(hg:W.grownBy W' (some g))(hr:RdS B g s' W')(hb:s'.bad=false->s.bad=false):RdM B g ob w o c s' W':=by
 have hk:=h.kg hg;have hX:BelX W.heap.size [g] W W':=BelX.of_grown hg;have hne:ob∉[g]:=fun hm=>h.ne (yah.1 hm).symm;exact⟨hr,h.X.trans (hX.mono h.X.size (fun k hk _=>by rw[yah.1 hk];simp)),hX.at_ h.q h.lt.2 hne,h.at_.kpm h.ty hk,h.u,h.ty.kpm hk,h.fr,fun e=>h.cnt (hb e),h.gw,h.ow,h.ne⟩
theorem RdM.later(h:RdM B g ob w o c s W)(hb:Below W.heap.size W W'):RdM B g ob w o c s W':=h.grown (gU hb _) (h.rd.later hb) id
theorem RdM.not_u8(ht:¬gZ t):∀(c:Array Value) (fr':Nat×Nat),(Obj.cells cs t fr)≠.cells c 5 fr':=fun c fr' e=>by cases e;exact ht iI
theorem RdM.ko(h:RdM B g ob w o c s W)(hX:BelX W.heap.size [ob] W W'):KeepM W W':=KeepM.of_belX hX (fun k hk=>by
 rw[yah.1 hk];exact⟨_,h.q,fun c t fr ht e=>by cases e;exact bJ ht⟩)
theorem RdM.box(h:RdM B g ob w o c s W)(hX:BelX W.heap.size [ob] W W')(hq:W'.heap[ob]?=some o'.box)(hat:MAt W' o' c')(hu:U64M o' c')(hty:MTyP W' o' c')(hfr:0<=o'.fr/\o'.fr<7)(hcnt:s.bad=false->o'.ln<=4096/\o'.hn<=7):RdM B g ob w o' c' s W':=by
 have hrf:RdS B g s W':=RdS.belX h.rd hX (fun hm=>h.ne (yah.1 hm)) (fun k hk=>by rw[yah.1 hk];exact⟨_,h.q,RdM.not_u8 bJ⟩);exact⟨hrf,h.X.trans (hX.mono h.X.size (fun k hk _=>by rw[yah.1 hk];simp)),hq,hat,hu,hty,hfr,hcnt,h.gw,h.ow,h.ne⟩
theorem RdM.turn(h:RdM B g ob w o c s W)(hX:BelX W.heap.size [g,ob] W W')(hr:RdS B g s' W')(hq:W'.heap[ob]?=some o'.box)(hat:MAt W' o' c')(hu:U64M o' c')(hty:MTyP W' o' c')(hfr:0<=o'.fr/\o'.fr<7)(hcnt:s'.bad=false->o'.ln<=4096/\o'.hn<=7):RdM B g ob w o' c' s' W':=
 ⟨hr,h.X.trans (hX.mono h.X.size (fun _ hk _=>hk)),hq,hat,hu,hty,hfr,hcnt,h.gw,h.ow,h.ne⟩
def SwP (B g ob:Nat)(w:World)(x:Int)(o:MV)(c:MC)(s:RS)(W W':World):Prop:=BelX W.heap.size [g,ob] W W'/\∃(m:MV) (d:MC) (s':RS),RdM B g ob w (aJ x o m) (dA x c d) s' W'/\StepX x s (aJ x o m) (dA x c d) s'
theorem Gn(h:BelX W.heap.size [g] W W1)(h':BelX W1.heap.size [ob] W1 W'):BelX W.heap.size [g,ob] W W':=
 (h.mono (yag _) (fun k hk _=>by rw[yah.1 hk];simp)).trans (h'.mono h.size (fun k hk _=>by rw[yah.1 hk];simp))
theorem RdM.put(h:RdM B g ob w o c s W)(hg:W.grownBy W1 (some g))(hr:RdS B g s' W1)(S:StepX x s (aJ x o m) (dA x c d) s')
  (hbox:(match o.box with | .cells cs t fr=>Obj.cells (cs.setIfInBounds i v) t fr | o=>o)=(aJ x o m).box) (hat:MAt W1 (aJ x o m) (dA x c d)) (hu:U64M (aJ x o m) (dA x c d)) (hty:MTyP W1 (aJ x o m) (dA x c d)) (hfr:0<=(aJ x o m).fr/\(aJ x o m).fr<7) (hcnt:s'.bad=false->(aJ x o m).ln<=4096/\(aJ x o m).hn<=7) :
  SwP B g ob w x o c s W (W1.setCell ⟨ob,i,none⟩ v):=by
 have h1:=h.grown hg hr (fun e=>(S.yes e).1);have hX:BelX W1.heap.size [ob] W1 (W1.setCell ⟨ob,i,none⟩ v):=(BelX.refl _ _ _).set _ _ _ (.inl (by simp));have hk:=h1.ko hX;have hq:=at_set (i:=i) (x:=v) h1.q;exact⟨Gn (BelX.of_grown hg) hX,m,d,s',h1.box hX (hq.trans (congrArg some hbox)) (hat.kpm hty hk) hu (hty.kpm hk) hfr hcnt,S⟩
theorem RdM.num(h:RdM B g ob w o c s W)(hg:W.grownBy W1 (some g))(hr:RdS B g s' W1)(S:StepX x s (aJ x o m) (dA x c c) s')
  (hbox:(match o.box with | .cells cs t fr=>Obj.cells (cs.setIfInBounds i v) t fr | o=>o)=(aJ x o m).box) (hat:∀X,MAt X o c->MAt X (aJ x o m) (dA x c c)) (hu:U64M (aJ x o m) (dA x c c)) (hty:∀X,MTyP X o c->MTyP X (aJ x o m) (dA x c c)) (hfr:0<=(aJ x o m).fr/\(aJ x o m).fr<7) (hl:(aJ x o m).ln=o.ln) (hh:(aJ x o m).hn=o.hn) :
  SwP B g ob w x o c s W (W1.setCell ⟨ob,i,none⟩ v):=
 h.put hg hr S hbox (hat _ (h.at_.kpm h.ty (h.kg hg))) hu (hty _ (h.ty.kpm (h.kg hg))) hfr (fun e=>by rw[hl,hh];exact h.cnt (S.yes e).1)
end
def elQ (p:RP):List UInt8:=val 1 (dG p.1 (opL p.1.op p.2))
structure mayQ (p:RP):Prop where
 may:aA p.1.op p.2=true
 len:(dG p.1 (opL p.1.op p.2)).length<=4194304
 u:U64R p.1
 at_:∃W:World,OpAt W p.1.op p.2
theorem Py(p:RP):0<(elQ p).length:=by unfold elQ;rw[ae];omega
theorem OO(z z':RP)(r r':List UInt8)(h:mayQ z)(h':mayQ z')(e:elQ z++r=elQ z'++r'):r=r':=(az (by decide) h.len h'.len e).2
theorem JW{s s':RS}{l:List RP}{o:MV}{c:MC}(T:Took (fun ys=>val 13 (eU elQ ys)) (fun ys=>(∀y∈ys,mayQ y)/\ys.length<=4096/\(eU elQ ys).length<=4194304) (fun ys=>(∀y∈ys,mayQ y)/\ys.length<=4096/\(eU elQ ys).length<=4194304) s l s')(hc:c.log=l):StepX 108 s o c s' where
 yes:=fun h=>by
  obtain⟨a,b,g1,-,g2⟩:=T.yes h;subst hc;exact⟨a,b,⟨fun e=>absurd e (by decide),fun e=>absurd e (by decide),fun e=>absurd e (by decide),fun e=>absurd e (by decide),fun _=>⟨fun p hp=>(g1 p hp).may,g2⟩,fun e=>absurd e (by decide)⟩⟩
 go:=fun hb W m d r h1 h2 h3 e=>by
  obtain⟨hm,hz,hn⟩:=h3.log rfl;refine jh T (fun z r r' hz hg e=>(az (by decide) hg.2.2 hz.2.2 e).2) hb (z:=d.log) ⟨fun p hp=>⟨hm p hp,?_,h2.log p hp,W,h1.lg.each p hp⟩,by rw[h1.lg.len];exact hn,hz⟩ e;have:=iJ (h1.lg.each p hp) (hm p hp);rw[gX];omega
 le:=T.le
def elN (n:Nat):List UInt8:=val 1 (au n)
def wu (n:Nat):Prop:=n<18446744073709551616
theorem H9(l:List Nat):eU elN l=df l:=rfl
theorem P7(n:Nat):0<(elN n).length:=by unfold elN;rw[ae];omega
theorem QW(z z':Nat)(r r':List UInt8)(_:wu z)(_:wu z')(e:elN z++r=elN z'++r'):r=r':=(az (by decide) (by rw[ai];omega) (by rw[ai];omega) e).2
theorem J5{s s':RS}{l:List Nat}{o:MV}{c:MC}(T:Took (fun ys=>val 16 (eU elN ys)) (fun ys=>(∀y∈ys,wu y)/\ys.length<=7/\(eU elN ys).length<=4194304) (fun ys=>(∀y∈ys,wu y)/\ys.length<=7/\(eU elN ys).length<=4194304) s l s')(hc:c.seen=l):StepX 101 s o c s' where
 yes:=fun h=>by
  obtain⟨a,b,-,-,g2⟩:=T.yes h;subst hc;exact⟨a,b,⟨fun e=>absurd e (by decide),fun e=>absurd e (by decide),fun e=>absurd e (by decide),fun e=>absurd e (by decide),fun e=>absurd e (by decide),fun _=>g2⟩⟩
 go:=fun hb W m d r h1 h2 h3 e=>by
  have hl:=h1.se.1;rw[iq] at hl;have h7:=h3.seen rfl;exact jh T (fun z r r' hz hg e=>(az (by decide) hg.2.2 hz.2.2 e).2) hb (z:=d.seen) ⟨h2.seen,by omega,by rw[H9,jS];omega⟩ e
 le:=T.le
