/-
  A part of the proof.
-/
import Derived.Test.YtgeafnggodkpaaaGreatKabl
import Derived.Test.YtgeafnggodkpaaaGreatKabe
import Derived.Test.YtgeafnggodkpaaaGreatKaab
import Derived.Test.YtgeafnggodkpaaaGreatKabj
import Derived.Test.YtgeafnggodkpaaaGreatKaaj
set_option maxHeartbeats 40000000
namespace Go.Proofs.YtgeafnggodkpaaaGreat.Msg
open Go.RowKit Go.Lib Go.Proofs.YtgeafnggodkpaaaGreat.Mem Go.Proofs.YtgeafnggodkpaaaGreat.Tlv
def reqLs (l:List RP):List (List UInt8):=l.map fun p=>reqL p.1 (opL p.1.op p.2)
theorem reqLs_next (l:List RP)(k:Nat)(p:RP)(h:l[k]?=some p):reqLs (l.take (k+1))=reqLs (l.take k)++[reqL p.1 (opL p.1.op p.2)]:=by
 rw[List.take_add_one,h];simp[reqLs]
theorem logB_tag (l:List RP):ofTag 1 (reqLs l)=logB l:=by simp[ofTag,reqLs,logB,List.flatMap_map]
theorem mayF_log_no {m:MV}{c:MC}{p:RP}(hp:p∈c.log)(hm:mayOp p.1.op p.2=false):mayFb 108 m c=false:=by
 have e:(c.log.any fun u=>!mayOp u.1.op u.2)=true:=List.any_eq_true.2 ⟨p,hp,by simp[hm]⟩
 show ((!(c.log.any fun u=>!mayOp u.1.op u.2))&&decide (m.ln≤4096))=false
 rw[e];rfl
theorem mayF_log_all {m:MV}{c:MC}(h:∀p∈c.log,mayOp p.1.op p.2=true):mayFb 108 m c=decide (m.ln≤4096):=by
 have e:(c.log.any fun u=>!mayOp u.1.op u.2)=false:=List.any_eq_false.2 (fun p hp=>by simp[h p hp])
 show ((!(c.log.any fun u=>!mayOp u.1.op u.2))&&decide (m.ln≤4096))=_
 rw[e];rfl
structure RlLoop (w:World)(m:MV)(c:MC)(k:Nat)(l:Value)(wr:World):Prop where
 q:wr.heap[w.heap.size]?=some m.box
 bel:Below w.heap.size w wr
 ex:∃xs:List El,wr.ownsRow (w.heap.size+1) 25 1 l k (lsV xs)∧elB xs=reqLs (c.log.take k)∧ElAt wr xs
 all:∀p∈c.log.take k,mayOp p.1.op p.2=true
set_option maxRecDepth 100000 in
theorem rfield_108 (m:MV)(c:MC)(w:World)(h:MAt w m c)(hu:U64M m c)(hf:FitsM m c)(hn:m.ln≤1000000):Calls Tryz.prog 106 #[m.val,.int .u8 13] w (GivesFd 108 m c w):=by
 have lx:=h.lg.len
 have LX:=hid lx
 clear lx
 have hb0:Below w.heap.size w (w.alloc m.box):=(Below.refl _ _).alloc (Nat.le_refl _) _
 have k0:(w.alloc m.box).heap[w.heap.size]?=some m.box:=by show (w.heap.push _)[w.heap.size]?=some _;exact Array.getElem?_push_size
 unfold MV.box MV.cells at hb0 k0
 unfold MV.val MV.cells
 go_enter Tryz.func106,Tryz.ntmps106
 go_upto_region 1 with fail
 generalize hg:w.alloc _=W0 at *
 have q0:W0.heap[w.heap.size]?=some m.box:=k0
 clear hg k0
 have s0:RlLoop w m c 0 (.slice none 0 0) W0:=⟨q0,hb0,⟨[],World.ownsRow_nil _ _ _ _,rfl,fun x hx=>by cases hx⟩,fun p hp=>by cases hp⟩
 clear q0 hb0
 go_wp2_with fail
 go_loopw [8,9] (fun l p wr=>∃k:Nat,k≤m.ln∧p=.int .i64 (k:Int)∧RlLoop w m c k l wr) (fun _ p _=>m.ln-(intOf p).toNat)
 case atStart=>exact⟨0,Nat.zero_le _,rfl,s0⟩
 case round=>
  rename_i lv _ _ _
  obtain⟨k,hk,rfl,s1⟩:=hrel
  clear s0
  obtain⟨xs,own,hel,hat⟩:=s1.ex
  obtain⟨u4,k4,rfl,-⟩:=Rd.of_own own
  have Hel:=hid hel
  have Hall:=hid s1.all
  have q:=s1.q
  have bel:=s1.bel
  have c23:=(McAt.of q).c23
  clear hel s1
  by_cases hkn:k<m.ln
  ·have hg:=(h.later bel).lg
   obtain⟨b,o,hao,hlt,hc1⟩:=hg.r.some (by have:=hg.r.le;omega)
   obtain⟨p,hp⟩:∃p,c.log[k]?=some p:=⟨_,List.getElem?_eq_getElem (by rw[LX.out];exact hkn)⟩
   have hpm:=List.mem_of_getElem? hp
   have hOp:=hg.each p hpm
   have hx1:=hg.r
   rw[hao] at hx1 c23
   have hrg:=rp_range hx1 hp
   have hop:∀(j:Nat) (v:Value),p.1.op.cells[j]?=some v→wr.cell? ⟨b,o+k*9+2+j,none⟩=some v:=fun j v hv=>by
    have hj:j<7:=by
     have:=(Array.getElem?_eq_some_iff.1 hv).1
     simpa [OV.cells] using this
    have:=hrg (2+j) v (by rcases (by omega:j=0∨j=1∨j=2∨j=3∨j=4∨j=5∨j=6) with rfl|rfl|rfl|rfl|rfl|rfl|rfl<;>exact hv)
    rw[show o+k*9+(2+j)=o+k*9+2+j by omega] at this
    exact this
   have HPM:=hid hpm
   have HP:=hid hp
   have HA:=hid hao
   have hUp:=hu.log p hpm
   have i0:(0:Int)≤(k:Int):=by omega
   have i1:(k:Int)<(m.ln:Int):=by omega
   have hcap:m.ln≤m.lc:=hg.r.le
   have hme:=rMayOp_any p.1.op p.2 wr hOp
   unfold OV.val at hme
   unfold OV.cells at hop
   clear hg hx1 hc1 hpm hp hao
   go_wp2_with (refine wpList_load_at (ty:=27) hop rfl rfl rfl (by kernel_rfl) (by kernel_rfl) ?_;go_simp)
   refine hme.mono ?_
   rintro e W1 ⟨rfl,hb1⟩
   have q1:=mbox_step q hb1
   have bel1:=bel.trans (hb1.mono bel.size)
   clear hme hop c23 q
   cases hm:mayOp p.1.op p.2 with
   | false=>
    have HN:Hid (mayFb 108 m c=false):=hid (mayF_log_no HPM.out hm)
    clear hm
    go_wp2_with fail
    go_ret2
    exact⟨[],none,0,false,rfl,Rd.nil _ _,bel1,HN.out.symm,fun e=>by cases e⟩
   | true=>
    have HM:=hid hm
    have hr:=rReqBytes_any p.1 p.2 W1 (hOp.later hb1) hm hUp.c0 hUp.c1 hUp.n0 hUp.n1
    rw[opBy_yes hm] at hr
    unfold RV.val RV.cells at hr
    have c23:=(McAt.of q1).c23
    rw[HA.out] at c23
    have hrg1:=range_later hrg hb1
    unfold RV.cells at hrg1
    clear hm hrg
    go_wp2_with (refine wpList_load_at (ty:=43) hrg1 rfl rfl rfl (by kernel_rfl) (by kernel_rfl) ?_;go_simp)
    refine hr.mono ?_
    rintro e W2 ⟨v3,rfl,o3,hb2⟩
    obtain⟨a3,k3,e3,r3⟩:=Rd.of_own o3
    subst e3
    have t3:=TyX.of_own o3
    have q2:=mbox_step q1 hb2
    have bel2:=bel1.trans (hb2.mono bel1.size)
    have own2:=own_later (own_later own hb1) hb2
    have hat2:=((hat.kpr (KeepR.of_below hb1)).kpr (KeepR.of_below hb2)).snoc (x:=⟨(1,reqL p.1 (opL p.1.op p.2)),a3,k3⟩) r3 t3
    have z2:w.heap.size+1≤W2.heap.size:=(Array.getElem?_eq_some_iff.1 q2).1
    clear hr hrg1 c23 own hat o3 r3 t3 q1 hOp hb1 hb2
    go_wp2_with (at_builtin;refine wpList_lit _ rfl (.tmp 82) (.tmp 89) 97 rfl (w.heap.size+1) 25 (.slice none 0 0) 1 24 lsT (by decide) _ k (lsV xs) rfl own2 1 [.slice a3 (reqL p.1 (opL p.1.op p.2)).length k3] rfl rfl (one1 _ rfl) z2 (by omega) ?_;intro ao4 cap4 W4 o4 hg4 hb4 _)
    have hK:KeepR W2 W4:=(KeepR.of_below ((Below.refl _ _).alloc (Nat.le_refl _) _)).trans (kpr_row hg4 (own2.alloc _) (fun t ht e=>by rcases ht with rfl|rfl|rfl<;>exact absurd e (by decide)))
    have hat4:=hat2.kpr hK
    have q4:W4.heap[w.heap.size]?=some m.box:=(hb4.block _ (Nat.lt_succ_self _)).trans q2
    have bel4:=bel2.trans (hb4.mono (Nat.le_succ _))
    have hp2:=HP.out
    go_roundw
    case rel=>
     refine⟨k+1,by omega,by go_num,q4,bel4,⟨xs++[⟨(1,reqL p.1 (opL p.1.op p.2)),a3,k3⟩],?_,?_,hat4⟩,fun z hz=>?_⟩
     ·rw[lsV_app];exact o4
     ·rw[elB_snoc,reqLs_next _ _ _ hp2,Hel.out]
     rw[List.take_add_one,hp2] at hz
     rcases List.mem_append.1 hz with hz | hz
     ·exact Hall.out z hz
     obtain rfl:z=p:=by simpa using hz
     exact HM.out
    case measure=>simp[intOf];omega
  have hke:k=m.ln:=by omega
  have hfull:c.log.take k=c.log:=List.take_of_length_le (by rw[LX.out];omega)
  have hallE:∀p∈c.log,mayOp p.1.op p.2=true:=fun p hp=>Hall.out p (by rw[hfull];exact hp)
  have hlen:=hf.lg hallE
  have htag:ofTag 1 (elB xs)=logB c.log:=by rw[Hel.out,hfull,logB_tag]
  obtain⟨a4,k4',e4,r4⟩:=Rd.of_own own
  obtain⟨rfl,rfl⟩:u4=a4∧k4=k4':=by simpa using e4
  have hlst:=rLst_any 13 u4 _ k4 xs wr r4 (fun u hu=>(hat u hu).1) (by rw[htag];exact hlen)
  rw[htag] at hlst
  have HE:Hid (mayFb 108 m c=decide (m.ln≤4096)):=hid (mayF_log_all hallE)
  obtain⟨Z,hZ⟩:∃Z,val 13 (logB c.log)=Z:=⟨_,rfl⟩
  rw[hZ] at hlst
  have HZ:Hid (fieldL 108 m c=Z):=hid hZ
  subst hke
  clear hfull hallE hlen htag hZ own hat r4 e4
  go_wp2_with fail
  refine hlst.mono ?_
  rintro e W2 ⟨v2,rfl,o2,hb2⟩
  obtain⟨a2,k2,e2,r2⟩:=Rd.of_own o2
  subst e2
  have bel2:=bel.trans (hb2.mono bel.size)
  clear hlst o2 hb2 c23 q
  by_cases h4:m.ln≤4096
  ·have f1:decide ((m.ln:Int)≤4096)=true:=decide_eq_true (by omega)
   have HF:Hid (mayFb 108 m c=true):=hid (by rw[HE.out,decide_eq_true h4])
   clear h4
   go_wp2_with fail
   go_ret2
   exact⟨Z,a2,k2,true,rfl,r2,bel2,HF.out.symm,fun _=>HZ.out.symm⟩
  have f1:decide ((m.ln:Int)≤4096)=false:=decide_eq_false (by omega)
  have HF:Hid (mayFb 108 m c=false):=hid (by rw[HE.out,decide_eq_false h4])
  clear h4
  go_wp2_with fail
  go_ret2
  exact⟨Z,a2,k2,false,rfl,r2,bel2,HF.out.symm,fun e=>by cases e⟩
structure RnLoop (w:World)(m:MV)(c:MC)(k:Nat)(l:Value)(wr:World):Prop where
 q:wr.heap[w.heap.size]?=some m.box
 bel:Below w.heap.size w wr
 own:wr.ownsRow (w.heap.size+1) 5 1 l (seenB (c.seen.take k)).length (byV (seenB (c.seen.take k)))
set_option maxRecDepth 100000 in
theorem rfield_101 (m:MV)(c:MC)(w:World)(h:MAt w m c)(hu:U64M m c)(hn:m.hn≤300000):Calls Tryz.prog 106 #[m.val,.int .u8 16] w (GivesFd 101 m c w):=by
 have hmo:Tryz.prog.follows .mixedOrders=true:=by kernel_rfl
 have lx:c.seen.length=m.hn:=by have:=h.se.1;rw[u64V_len] at this;omega
 have LX:=hid lx
 clear lx
 have hb0:Below w.heap.size w (w.alloc m.box):=(Below.refl _ _).alloc (Nat.le_refl _) _
 have k0:(w.alloc m.box).heap[w.heap.size]?=some m.box:=by show (w.heap.push _)[w.heap.size]?=some _;exact Array.getElem?_push_size
 unfold MV.box MV.cells at hb0 k0
 unfold MV.val MV.cells
 go_enter Tryz.func106,Tryz.ntmps106
 go_upto_region 1 with fail
 generalize hg:w.alloc _=W0 at *
 have q0:W0.heap[w.heap.size]?=some m.box:=k0
 clear hg k0
 have s0:RnLoop w m c 0 (.slice none 0 0) W0:=⟨q0,hb0,World.ownsRow_nil _ _ _ _⟩
 clear q0 hb0
 go_wp2_with fail
 go_loopw [12,13] (fun l p wr=>∃k:Nat,k≤m.hn∧p=.int .i64 (k:Int)∧RnLoop w m c k l wr) (fun _ p _=>m.hn-(intOf p).toNat)
 case atStart=>exact⟨0,Nat.zero_le _,rfl,s0⟩
 case round=>
  rename_i lv _ _ _
  obtain⟨k,hk,rfl,s1⟩:=hrel
  clear s0
  have own:=s1.own
  obtain⟨u4,k4,rfl,r4⟩:=Rd.of_own own
  have q:=s1.q
  have bel:=s1.bel
  have c26:=(McAt.of q).c26
  clear s1
  by_cases hkn:k<m.hn
  ·have hg:=(h.later bel).se
   obtain⟨b,o,hao,hlt,hc1⟩:=hg.some (by have:=hg.le;omega)
   obtain⟨p,hp⟩:∃p,c.seen[k]?=some p:=⟨_,List.getElem?_eq_getElem (by rw[LX.out];exact hkn)⟩
   have hpm:=List.mem_of_getElem? hp
   have hcell:=hc1 k _ (u64V_at _ k p hp)
   rw[hao] at c26
   have HP:=hid hp
   have i0:(0:Int)≤(k:Int):=by omega
   have i1:(k:Int)<(m.hn:Int):=by omega
   have hcap:m.hn≤m.hc:=hg.le
   have hnum:=rnumber_any 1 p wr (hu.seen p hpm)
   have hsn:seenB (c.seen.take (k+1))=seenB (c.seen.take k)++val 1 (num8 p):=by rw[List.take_add_one,hp];exact seenB_snoc _ _
   have HS:=hid hsn
   have hlen:(seenB (c.seen.take k)).length≤4000000:=by rw[seenB_len,List.length_take];omega
   have hvl:(val 1 (num8 p)).length=13:=by rw[val_len,num8_len]
   clear hg hc1 hpm hp hao hsn r4
   go_wp2_with fail
   refine hnum.mono ?_
   rintro e W2 ⟨v3,rfl,o3,hb2⟩
   obtain⟨a3,k3,e3,r3⟩:=Rd.of_own o3
   subst e3
   have q2:=mbox_step q hb2
   have bel2:=bel.trans (hb2.mono bel.size)
   have own2:=own_later own hb2
   have z2:w.heap.size+1≤W2.heap.size:=(Array.getElem?_eq_some_iff.1 q2).1
   clear hnum c26 hcell own o3 q hb2
   go_wp2_with (at_builtin;refine wpList_app _ rfl (.tmp 117) (.tmp 123) 25 rfl (w.heap.size+1) 5 (.int .u8 0) 1 1 byT _ _ (byV (seenB (c.seen.take k))) rfl own2 a3 _ k3 (byV (val 1 (num8 p))) rfl r3 (byV_one _) (by unfold maxLen;omega) (by omega) z2 ?_;intro ao4 cap4 W4 o4 hg4 hb4 _)
   have q4:W4.heap[w.heap.size]?=some m.box:=(hb4.block _ (Nat.lt_succ_self _)).trans q2
   have bel4:=bel2.trans (hb4.mono (Nat.le_succ _))
   go_roundw
   case rel=>
    refine⟨k+1,by omega,by go_num,q4,bel4,?_⟩
    rw[HS.out,List.length_append,byV_app]
    exact o4
   case measure=>simp[intOf];omega
  have hke:k=m.hn:=by omega
  have hfull:c.seen.take k=c.seen:=List.take_of_length_le (by rw[LX.out];omega)
  obtain⟨S,hS⟩:∃S,seenB (c.seen.take k)=S:=⟨_,rfl⟩
  rw[hS] at r4 ⊢
  have hSf:seenB c.seen=S:=by rw[←hS,hfull]
  have hlen:S.length≤4194304:=by rw[←hSf,seenB_len,LX.out];omega
  obtain⟨Z,hZ⟩:∃Z,val 16 S=Z:=⟨_,rfl⟩
  have HZ:Hid (fieldL 101 m c=Z):=hid (by rw[←hZ,←hSf];rfl)
  have HE:Hid (mayFb 101 m c=decide ((m.hn:Int)≤7)):=hid (by show decide (m.hn≤7)=_;by_cases h7:m.hn≤7<;>simp[h7]<;>omega)
  clear hfull own hS hSf hke
  go_upto_region 31 with fail
  refine wp_region_held (S:=fun W=>W.heap[w.heap.size]?=some m.box) hmo ?_
  change wpAnyH _ _ _ _ _ _ _ _ (World.drew wr)
  have hd:Below wr.heap.size wr wr.drew:=(Below.refl _ _).drew
  have t0:=mbox_step q hd
  have hbel:=bel.trans (hd.mono bel.size)
  have hv:=rvalue_any 16 S u4 _ k4 wr.drew hlen (r4.later hd)
  rw[hZ] at hv
  generalize World.drew wr=X0 at *
  clear hd q c26 r4 hlen hZ
  refine zHp 0 (.slice u4 S.length k4) rfl t0 ?_
  go_simp
  refine zHp 2 (.pointer (some ⟨w.heap.size,26,none⟩)) rfl t0 ?_
  go_simp
  refine zHa 3 (.slice m.ho m.hn m.hc) rfl (by rintro w2 h2;have cc:w2.cell? ⟨w.heap.size,26,none⟩=some (.slice m.ho m.hn m.hc):=(McAt.of h2).c26;go_simp) t0 ?_
  go_simp
  refine zHp 4 (.int .i64 (m.hn:Int)) rfl t0 ?_
  go_simp
  refine zHp 5 (.bool (decide ((m.hn:Int)≤7))) rfl t0 ?_
  go_simp
  refine zH1 1 rfl (fun K hK=>?_)
  go_simp
  refine hv.mono ?_
  rintro e X1 ⟨v2,rfl,o2,hb2⟩
  obtain⟨a2,k2,e2,r2⟩:=Rd.of_own o2
  subst e2
  have t1:=mbox_step t0 hb2
  have hbel2:=hbel.trans (hb2.mono hbel.size)
  clear o2 hb2 hv
  go_simp
  refine hK _ _ ⟨t1,?_⟩
  clear hK K
  refine zHp 6 (.slice a2 Z.length k2) rfl t1 ?_
  go_simp
  refine zHp 7 (.bool (decide ((m.hn:Int)≤7))) rfl t1 ?_
  go_simp
  refine wpAnyH_done (by kernel_rfl) ?_ _
  go_wp2_with fail
  go_ret2
  exact⟨Z,a2,k2,_,rfl,r2,hbel2,HE.out.symm,fun _=>HZ.out.symm⟩
theorem tagR_val (t:UInt8)(b r:List UInt8)(ht:0<t.toNat)(hb:b.length≤4194304):RS.tagR ⟨val t b++r,false⟩=t:=by
 unfold RS.tagR
 rw[if_neg (by
  rintro (h | h)
  ·cases h
  rw[fs_val t b r ht hb] at h;omega),hd1_val t b r ht hb]
theorem ReadM.choose {s s':RS}{o:MV}{c:MC}(R:ReadM s 10 (lettersOf 10 false) 2 false o c s'):ReadM s 10 (lettersOf 10 (decide (s'.tagR=10))) 2 true o c s' where
 yes:=fun h=>by
  obtain⟨a,b,g⟩:=R.yes h
  rw[two10] at b g ⊢
  exact⟨a,b,g⟩
 go:=fun hb W m d r hM e=>by
  obtain⟨h1,h2,-,h4,h5⟩:=R.go hb W m d r hM e
  have key:s'.tagR=10↔m.wh=true:=by
   have hs:s'=⟨s'.l,false⟩:=by rw[←h4]
   rw[hs,h5,h1]
   cases hw:m.wh with
   | true=>
    have e1:fieldsL ((lettersOf 10 true).drop 2) m d++r=val 10 (num8 m.cm.toNat)++(fieldsL [98,115,108,111,119,101] m d++r):=by
     rw[←List.append_assoc];rfl
    rw[e1,tagR_val _ _ _ (by decide) (by rw[num8_len];omega)]
    exact⟨fun _=>rfl,fun _=>rfl⟩
   | false=>
    have e1:fieldsL ((lettersOf 10 false).drop 2) m d++r=val 14 (num8 m.nc.toNat)++(fieldsL [119,101] m d++r):=by
     rw[←List.append_assoc];rfl
    rw[e1,tagR_val _ _ _ (by decide) (by rw[num8_len];omega)]
    exact⟨fun h=>absurd h (by decide),fun h=>by cases h⟩
  have hch:decide (s'.tagR=10)=m.wh:=by
   cases hw:m.wh with
   | true=>exact decide_eq_true (key.2 hw)
   | false=>exact decide_eq_false (fun h=>by rw[key.1 h] at hw;cases hw)
  refine⟨h1,by rw[two10,h2,two10],fun _=>by rw[h1,hch],h4,h5⟩
 le:=R.le
theorem step_snap {s s':RS}{y:List UInt8}{o:MV}{c:MC}(T:Took (val 12) (fun z=>z.length≤4194304) (fun z=>z.length≤4194304) s y s')(hc:c.snap=y):StepX 115 s o c s' where
 yes:=fun h=>by
  obtain⟨a,b,g⟩:=T.yes h
  refine⟨a,by show s.l=val 12 c.snap++s'.l;rw[hc];exact b,⟨fun e=>absurd e (by decide),fun e=>absurd e (by decide),fun e=>absurd e (by decide),fun _=>by rw[hc];exact g,fun e=>absurd e (by decide),fun e=>absurd e (by decide)⟩⟩
 go:=fun hb W m d r h1 h2 h3 e=>took_go T (fun z r r' hz hg e=>(val_inj (by decide) hg hz e).2) hb (h3.g h1 |>.sn rfl) e
 le:=T.le
theorem step_whole {s s':RS}{y:Bool}{o:MV}{c:MC}(T:Took (fun b:Bool=>val 15 [if b then 1 else 0]) (fun _=>True) (fun _=>True) s y s')(ho:o.wh=y):StepX 119 s o c s' where
 yes:=fun h=>by
  obtain⟨a,b,g⟩:=T.yes h
  refine⟨a,by show s.l=val 15 [if o.wh then 1 else 0]++s'.l;rw[ho];exact b,⟨fun e=>absurd e (by decide),fun e=>absurd e (by decide),fun e=>absurd e (by decide),fun e=>absurd e (by decide),fun e=>absurd e (by decide),fun e=>absurd e (by decide)⟩⟩
 go:=fun hb W m d r h1 h2 h3 e=>took_go T (fun z r r' _ _ e=>(val_inj (by decide) (by simp) (by simp) e).2) hb trivial (z:=m.wh) e
 le:=T.le
theorem step_req {s s1:RS}{y:List UInt8}{ok:Bool}{o:MV}{c:MC}(T:Took (val 7) (fun z=>z.length≤4194304) (fun z=>z.length≤4194304) s y s1)
  (hok:ok=true→mayOp o.rq.op c.rq=true∧reqL o.rq (opL o.rq.op c.rq)=y) (hno:ok=false→NoReq y):StepX 113 s o c ⟨s1.l,s1.bad||!ok⟩ where
 yes:=fun h=>by
  dsimp only at h
  rw[Bool.or_eq_false_iff] at h
  obtain⟨h1,h2⟩:=h
  have h3:ok=true:=by simpa using h2
  obtain⟨g1,g2⟩:=hok h3
  obtain⟨a,b,g⟩:=T.yes h1
  exact⟨a,by show s.l=val 7 (reqL o.rq (opL o.rq.op c.rq))++s1.l;rw[g2];exact b,⟨fun e=>absurd e (by decide),fun _=>g1,fun e=>absurd e (by decide),fun e=>absurd e (by decide),fun e=>absurd e (by decide),fun e=>absurd e (by decide)⟩⟩
 go:=fun hb W m d r h1 h2 h3 e=>by
  have hm:=h3.rq rfl
  have hl:=opL_len h1.rq hm
  have hz:(reqL m.rq (opL m.rq.op d.rq)).length≤4194304:=by rw[reqL_len];omega
  obtain⟨b1,b2⟩:=took_go T (fun z r r' hz hg e=>(val_inj (by decide) hg hz e).2) hb hz e
  obtain⟨-,e2,g⟩:=T.yes b1
  have hy:=(val_inj (t:=7) (by decide) g hz (e2.symm.trans e)).1
  refine⟨?_,b2⟩
  cases hok2:ok with
  | true=>show (s1.bad||!true)=false;rw[b1];rfl
  | false=>exact absurd hy.symm (hno hok2 W m.rq d.rq h1.rq hm h2.rq)
 le:=T.le
theorem step_res {s s1:RS}{y:List UInt8}{ok:Bool}{o:MV}{c:MC}(T:Took (val 8) (fun z=>z.length≤4194304) (fun z=>z.length≤4194304) s y s1)
  (hok:ok=true→mayRes o.rs c.rs=true∧resL o.rs c.rs=y) (hno:ok=false→NoRes y):StepX 114 s o c ⟨s1.l,s1.bad||!ok⟩ where
 yes:=fun h=>by
  dsimp only at h
  rw[Bool.or_eq_false_iff] at h
  obtain⟨h1,h2⟩:=h
  have h3:ok=true:=by simpa using h2
  obtain⟨g1,g2⟩:=hok h3
  obtain⟨a,b,g⟩:=T.yes h1
  exact⟨a,by show s.l=val 8 (resL o.rs c.rs)++s1.l;rw[g2];exact b,⟨fun e=>absurd e (by decide),fun e=>absurd e (by decide),fun _=>⟨g1,by rw[g2];exact g⟩,fun e=>absurd e (by decide),fun e=>absurd e (by decide),fun e=>absurd e (by decide)⟩⟩
 go:=fun hb W m d r h1 h2 h3 e=>by
  obtain⟨hm,hz⟩:=h3.rs rfl
  obtain⟨b1,b2⟩:=took_go T (fun z r r' hz hg e=>(val_inj (by decide) hg hz e).2) hb hz e
  obtain⟨-,e2,g⟩:=T.yes b1
  have hy:=(val_inj (t:=8) (by decide) g hz (e2.symm.trans e)).1
  refine⟨?_,b2⟩
  cases hok2:ok with
  | true=>show (s1.bad||!true)=false;rw[b1];rfl
  | false=>exact absurd hy.symm (hno hok2 W m.rs d.rs h1.rs hm)
 le:=T.le
theorem step_log {s s1:RS}{L:List (List UInt8)}{ok:Bool}{o:MV}{c:MC}(T:Took (fun L=>val 13 (ofTag 1 L)) (fun L=>(ofTag 1 L).length≤4194304) (fun L=>(ofTag 1 L).length≤4194304) s L s1)
  (hok:ok=true→(∀p∈c.log,mayOp p.1.op p.2=true)∧reqLs c.log=L) (hno:ok=false→∃y∈L,NoReq y):StepX 108 s o c ⟨s1.l,s1.bad||!ok⟩ where
 yes:=fun h=>by
  dsimp only at h
  rw[Bool.or_eq_false_iff] at h
  obtain⟨h1,h2⟩:=h
  have h3:ok=true:=by simpa using h2
  obtain⟨g1,g2⟩:=hok h3
  obtain⟨a,b,g⟩:=T.yes h1
  have e:logB c.log=ofTag 1 L:=by rw[←g2,logB_tag]
  exact⟨a,by show s.l=val 13 (logB c.log)++s1.l;rw[e];exact b,⟨fun e=>absurd e (by decide),fun e=>absurd e (by decide),fun e=>absurd e (by decide),fun e=>absurd e (by decide),fun _=>⟨g1,by rw[e];exact g⟩,fun e=>absurd e (by decide)⟩⟩
 go:=fun hb W m d r h1 h2 h3 e=>by
  obtain⟨hm,hz,-⟩:=h3.log rfl
  have e':s.l=val 13 (ofTag 1 (reqLs d.log))++r:=by rw[logB_tag];exact e
  rw[←logB_tag] at hz
  obtain⟨b1,b2⟩:=took_go T (fun z r r' hz hg e=>(val_inj (by decide) hg hz e).2) hb hz e'
  obtain⟨-,e2,g⟩:=T.yes b1
  have hy:=ofTag_inj (by decide) g (val_inj (t:=13) (by decide) g hz (e2.symm.trans e')).1
  refine⟨?_,b2⟩
  cases hok2:ok with
  | true=>show (s1.bad||!true)=false;rw[b1];rfl
  | false=>
   obtain⟨y,hyL,hn⟩:=hno hok2
   rw[hy] at hyL
   obtain⟨p,hp,rfl⟩:=List.mem_map.1 hyL
   exact absurd rfl (hn W p.1 p.2 (h1.lg.each p hp) (hm p hp) (h2.log p hp))
 le:=T.le
theorem step_seen {s s1:RS}{y:List UInt8}{ok:Bool}{o:MV}{c:MC}(T:Took (val 16) (fun z=>z.length≤4194304) (fun z=>z.length≤4194304) s y s1)
  (hok:ok=true→seenB c.seen=y) (hno:ok=false→∀l:List Nat,(∀n∈l,n<18446744073709551616)→seenB l≠y):StepX 101 s o c ⟨s1.l,s1.bad||!ok⟩ where
 yes:=fun h=>by
  dsimp only at h
  rw[Bool.or_eq_false_iff] at h
  obtain⟨h1,h2⟩:=h
  have h3:ok=true:=by simpa using h2
  have g2:=hok h3
  obtain⟨a,b,g⟩:=T.yes h1
  exact⟨a,by show s.l=val 16 (seenB c.seen)++s1.l;rw[g2];exact b,⟨fun e=>absurd e (by decide),fun e=>absurd e (by decide),fun e=>absurd e (by decide),fun e=>absurd e (by decide),fun e=>absurd e (by decide),fun _=>by rw[g2];exact g⟩⟩
 go:=fun hb W m d r h1 h2 h3 e=>by
  have hz:=(h3.g h1).seen rfl
  obtain⟨b1,b2⟩:=took_go T (fun z r r' hz hg e=>(val_inj (by decide) hg hz e).2) hb hz e
  obtain⟨-,e2,g⟩:=T.yes b1
  have hy:=(val_inj (t:=16) (by decide) g hz (e2.symm.trans e)).1
  refine⟨?_,b2⟩
  cases hok2:ok with
  | true=>show (s1.bad||!true)=false;rw[b1];rfl
  | false=>exact absurd hy.symm (hno hok2 d.seen h2.seen)
 le:=T.le
structure TookM (s:RS)(o:MV)(c:MC)(s':RS):Prop where
 yes:s'.bad=false→s.bad=false∧s.l=msgL o c++s'.l∧(∀x∈lettersOf o.k o.wh,MayG x o c)∧0≤o.fr∧o.fr<7
 go:s.bad=false→∀(W:World) (m:MV) (d:MC) (r:List UInt8),MayM W m d→s.l=msgL m d++r→s'.bad=false∧s'.l=r
 le:s'.l.length≤s.l.length
theorem allX_of {k:Int}{wh:Bool}:∀x∈lettersOf k wh,x∈allX:=fun _ hx=>(List.mem_filter.1 hx).1
theorem letters_10 {a b:Bool}(h:lettersOf 10 a=lettersOf 10 b):a=b:=by
 cases a<;>cases b<;>first | rfl | exact absurd h (by decide)
theorem whole_10 (b:Bool):(119:Int)∈lettersOf 10 b:=by cases b<;>decide
theorem ReadM.done {W':World}{s s':RS}{ls:List Int}{whole:Bool}{o:MV}{c:MC}(R:ReadM s o.k ls ls.length true o c s')(hls:ls=lettersOf o.k whole)(hw:o.k≠10→whole=false∧o.wh=false)
  (hz:(102:Int)∉ls→o.fr=0) (hat:MAt W' o c) (hu:U64M o c) (hfr:0≤o.fr∧o.fr<18446744073709551616) :
  TookM s { o with fr:=o.fr % 7 } c ⟨s'.l,s'.bad||(decide (7≤o.fr)||(whole != o.wh))⟩ where
 yes:=fun h=>by
  dsimp only at h
  rw[Bool.or_eq_false_iff,Bool.or_eq_false_iff] at h
  obtain⟨h1,h2,h3⟩:=h
  have h7:o.fr<7:=by have:=of_decide_eq_false h2;omega
  have h4:whole=o.wh:=by simpa using h3
  have e:({ o with fr:=o.fr % 7 }:MV)=o:=by rw[show o.fr % 7=o.fr by omega]
  rw[e]
  obtain⟨a,b,g⟩:=R.yes h1
  rw[List.take_length] at b g
  rw[hls,h4] at b g
  refine⟨a,?_,g,hfr.1,h7⟩
  unfold msgL
  rw[b]
  simp only[List.append_assoc]
 go:=fun hb W m d r hM e=>by
  obtain⟨h1,-,h3,h4,h5⟩:=R.go hb W m d r hM e
  have hl:=h3 rfl
  rw[hl,List.drop_length] at h5
  obtain⟨-,b,g⟩:=R.yes h4
  rw[List.take_length] at b g
  have e2:fieldsL ls o c++s'.l=fieldsL ls m d++r:=by
   have h6:val 1 (num8 o.k.toNat)++(fieldsL ls o c++s'.l)=val 1 (num8 o.k.toNat)++(fieldsL ls m d++r):=by
    rw[←b,e]
    unfold msgL
    rw[hl,h1]
    simp only[List.append_assoc]
   exact (val_inj (by decide) (by rw[num8_len];omega) (by rw[num8_len];omega) h6).2
  have hag:=(fields_inj hat hM.at_ hu hM.u ls _ _ (fun x hx=>allX_of x (hls▸hx)) g (fun x hx=>(hM.may x (hl▸hx)).g hM.at_) e2).1
  have f7:o.fr<7:=by
   by_cases h:(102:Int)∈ls
   ·have h8:o.fr=m.fr:=of_decide_eq_true (hag 102 h)
    have:=(hM.may 102 (hl▸h)).fr rfl
    omega
   rw[hz h];decide
  have hwh:whole=o.wh:=by
   by_cases h10:o.k=10
   ·have h8:o.wh=m.wh:=of_decide_eq_true (hag 119 (by rw[hls,h10];exact whole_10 _))
    rw[h1,h10,hls,h10] at hl
    rw[h8]
    exact (letters_10 hl).symm
   obtain⟨a1,a2⟩:=hw h10
   rw[a1,a2]
  refine⟨?_,by simpa [fieldsL] using h5⟩
  dsimp only
  rw[h4,decide_eq_false (show ¬7≤o.fr by omega),hwh]
  simp
 le:=R.le
end Go.Proofs.YtgeafnggodkpaaaGreat.Msg
