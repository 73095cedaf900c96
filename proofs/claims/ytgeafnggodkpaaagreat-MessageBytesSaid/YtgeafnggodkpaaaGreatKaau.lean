/-
  A part of the proof.
-/
import Derived.Test.YtgeafnggodkpaaaGreatKaaj
set_option maxHeartbeats 40000000
namespace Go.Proofs.YtgeafnggodkpaaaGreat.Tlv
open Go.RowKit Go.Proofs.YtgeafnggodkpaaaGreat.Mem
theorem own_new (w:World)(e:TypeId)(xs:List Value)(n:Nat)(hl:xs.length=n)(hm:n≤maxLen):(w.alloc (.cells xs.toArray e)).ownsRow w.heap.size e 1 (.slice (some ⟨w.heap.size,0,none⟩) n n) n xs:=
 ⟨by omega,.inr ⟨w.heap.size,n,xs.toArray,rfl,Nat.le_refl _,(by show (w.heap.push _)[w.heap.size]?=some _;simp),Nat.le_refl _,hm,by simp[hl],by rw[List.take_of_length_le (by simp[hl])]⟩⟩
theorem own_base {w:World}{B B' n size:Nat}{e:TypeId}{v:Value}{xs:List Value}(h:w.ownsRow B e size v n xs)(hB:B'≤B):w.ownsRow B' e size v n xs:=by
 refine⟨h.1,?_⟩
 rcases h.2 with h2 | ⟨g,cap,cur,h1,h2,h3⟩
 ·exact .inl h2
 exact .inr ⟨g,cap,cur,h1,Nat.le_trans hB h2,h3⟩
set_option maxRecDepth 100000 in
theorem rvalue_any (t:UInt8)(b:List UInt8)(ao:Option Addr)(n cap:Nat)(W:World)(hn:n≤4194304)(hr:Rd W 1 ao n cap (byV b)) :
  Calls Tryz.prog 77 #[.int .u8 (t.toNat:Int),.slice ao n cap] W (GivesO W (val t b)):=by
 have hbl:b.length=n:=by have:=hr.1;rw[byV_len] at this;omega
 have k63:5+n≤maxLen:=by unfold maxLen;omega
 have kby:(5+n)*1≤140737488355328:=by omega
 have hv:byV (val t b)=[.int .u8 (t.toNat:Int),.int .u8 ((n:Int) / 16777216),.int .u8 ((n:Int) / 65536 % 256),.int .u8 ((n:Int) / 256 % 256),.int .u8 ((n:Int) % 256)]++byV b:=by
  rw[byV_val t b n hbl hn,show (n:Int) / 65536 % 256=(n:Int) / 65536 from by omega]
 have hvl:=val_len t b
 rw[hbl] at hvl
 have Hv:=Lib.hid hv
 have Hvl:=Lib.hid hvl
 clear hv hvl
 have hb0:∀o,Below W.heap.size W (W.alloc o):=fun o=>(Below.refl _ W).alloc (Nat.le_refl _) _
 have ho0:=own_new W 5 [.int .u8 (t.toNat:Int),.int .u8 ((n:Int) / 16777216),.int .u8 ((n:Int) / 65536 % 256),.int .u8 ((n:Int) / 256 % 256),.int .u8 ((n:Int) % 256)] 5 rfl (by decide)
 have hr1:=hr.later (hb0 (.cells [Value.int .u8 (t.toNat:Int),.int .u8 ((n:Int) / 16777216),.int .u8 ((n:Int) / 65536 % 256),.int .u8 ((n:Int) / 256 % 256),.int .u8 ((n:Int) % 256)].toArray 5))
 have hsz:W.heap.size≤(W.alloc (.cells [Value.int .u8 (t.toNat:Int),.int .u8 ((n:Int) / 16777216),.int .u8 ((n:Int) / 65536 % 256),.int .u8 ((n:Int) / 256 % 256),.int .u8 ((n:Int) % 256)].toArray 5)).heap.size:=by simp
 go_enter Tryz.func77,Tryz.ntmps77
 go_wp2_with (at_builtin;refine wpList_app _ rfl (.tmp 25) (.tmp 26) 25 rfl W.heap.size 5 (.int .u8 0) 1 1 byT _ 5 _ rfl ho0 ao n cap (byV b) rfl hr1 (byV_one _) k63 kby hsz ?_;intro ao2 cap2 w2 ho2 hg2 hb2 _)
 go_ret
 refine⟨_,rfl,?_,(hb0 _).trans hb2⟩
 rw[Hvl.out,Hv.out]
 exact ho2
set_option maxRecDepth 100000 in
theorem rflag_any (t:UInt8)(is:Bool)(W:World) :
  Calls Tryz.prog 89 #[.int .u8 (t.toNat:Int),.bool is] W (GivesO W (val t [if is then 1 else 0])):=by
 have hb:∀v,Below W.heap.size W (W.alloc (.cells #[v] 5)):=fun _=>(Below.refl _ W).alloc (Nat.le_refl _) _
 have hc:∀x:UInt8,Calls Tryz.prog 77 #[.int .u8 (t.toNat:Int),.slice (some ⟨W.heap.size,0,none⟩) 1 1] (W.alloc (.cells #[.int .u8 (x.toNat:Int)] 5)) (GivesO W (val t [x])):=fun x=>
  (rvalue_any t [x] _ 1 1 _ (by decide) (Rd.new W [.int .u8 (x.toNat:Int)] 5 (0,0) 1 1 rfl (by decide))).mono fun e w' h=>by
   obtain⟨v,rfl,h1,h2⟩:=h
   exact⟨v,rfl,own_base h1 (hb _).size,(hb _).trans (h2.mono (hb _).size)⟩
 cases is with
 | true=>
  have hc1:=hc 1
  go_enter Tryz.func89,Tryz.ntmps89
  go_wp2_with fail
  refine hc1.mono ?_
  rintro e w' ⟨v,rfl,h2⟩
  go_wp2
  go_ret
  exact⟨v,rfl,h2⟩
 | false=>
  have hc1:=hc 0
  go_enter Tryz.func89,Tryz.ntmps89
  go_wp2_with fail
  refine hc1.mono ?_
  rintro e w' ⟨v,rfl,h2⟩
  go_wp2
  go_ret
  exact⟨v,rfl,h2⟩
set_option maxRecDepth 100000 in
theorem rnumber_any (t:UInt8)(n:Nat)(W:World)(hn:n<18446744073709551616) :
  Calls Tryz.prog 76 #[.int .u8 (t.toNat:Int),.int .u64 (n:Int)] W (GivesO W (val t (num8 n))):=by
 have hmk:(Instr.makeSlice 25 (.int .i64 8) (.int .i64 8)).run Tryz.prog W=.ok (.slice (some ⟨W.heap.size,0,none⟩) 8 8) (W.alloc (.cells (madeCells #[.int .u8 0] 8) 5)):=run_make_row' (P:=Tryz.prog) 25 5 (.int .u8 0) 1 rfl (by kernel_rfl) rfl .i64 .i64 8 (by decide) (by decide) W
 have hrow0:=World.rowIs_made W (.int .u8 0) 8 5
 have hb0:Below W.heap.size W (W.alloc (.cells (madeCells #[.int .u8 0] 8) 5)):=(Below.refl _ W).alloc (Nat.le_refl _) _
 go_enter Tryz.func76,Tryz.ntmps76
 go_wp2_with fail
 go_loopw [1,6] (fun q p wr=>∃k:Nat,k≤8∧q=.int .u64 ((n / 256 ^ k:Nat):Int)∧p=.int .i64 (7-(k:Int))∧wr.rowIs W.heap.size 5 8 (part8 n k)∧Below W.heap.size W wr) (fun _ p _=>(intOf p+1).toNat)
 case atStart=>exact⟨0,by omega,by simp,rfl,hrow0.congr (fun i hi=>by simp only[part8];rw[if_neg (by omega)]),hb0⟩
 case round=>
  obtain⟨k,hk,rfl,rfl,hrow,hbr⟩:=hrel
  by_cases hk8:k=8
  ·subst hk8
   have hown:wr.ownsRow W.heap.size 5 1 (.slice (some ⟨W.heap.size,0,none⟩) 8 8) 8 (byV (num8 n)):=hrow.own (by decide) rfl (by intro j hj;simp[part8,num8,byV,List.getElem?_map,List.getElem?_range hj,UInt8.toNat_ofNat'])
   go_wp2_with fail
   refine (rvalue_any t (num8 n) _ 8 8 wr (by decide) (Rd.of_own_slice hown)).mono ?_
   rintro e w' ⟨v,rfl,h1,h2⟩
   go_wp2
   go_ret
   exact⟨v,rfl,own_base h1 hbr.size,hbr.trans (h2.mono hbr.size)⟩
  have hk7:k<8:=by omega
  have hcell:=hrow.cell (i:=7-k) (by omega)
  have hfr:=hrow.frozen (7-k)
  have f0:decide ((0:Int)≤7-(k:Int))=true:=decide_eq_true (by omega)
  have i0:(0:Int)≤7-(k:Int):=by omega
  have i1:7-(k:Int)<8:=by omega
  have hqn:n / 256 ^ k≤n:=Nat.div_le_self _ _
  have hcl:((n / 256 ^ k:Nat):Int) % 256=((n / 256 ^ (7-(7-k)) % 256:Nat):Int):=by rw[show 7-(7-k)=k by omega];simp
  have hcs:((n / 256 ^ k:Nat):Int) / 256=((n / 256 ^ (k+1):Nat):Int):=by rw[Nat.pow_succ,←Nat.div_div_eq_div_mul];simp
  have Hcl:=Lib.hid hcl
  have Hcs:=Lib.hid hcs
  clear hcl hcs
  generalize hq:n / 256 ^ k=q at *
  clear hq
  have hu:IntKind.u64.wrap ((q:Int) / 256)=(q:Int) / 256:=by rw[IntWalk.u64_in]<;>omega
  go_wp2_with fail
  case roundEnd=>
   have hs:=hrow.set (7-k) (.int .u8 ((q:Int) % 256))
   refine⟨⟨k+1,by omega,by rw[Hcs.out],by congr 1;omega,hs.congr ?_,hbr.setCell (Nat.le_refl _) _⟩,by simp[intOf];omega⟩
   intro j hj
   by_cases hjk:j=7-k
   ·subst hjk
    rw[if_pos rfl]
    unfold part8
    rw[if_pos (by omega),Hcl.out]
   simp only[part8,if_neg hjk]
   by_cases h8:8≤j+k
   ·rw[if_pos h8,if_pos (by omega)]
   rw[if_neg h8,if_neg (by omega)]
structure RS where
 l:List UInt8
 bad:Bool
theorem grown_set (W:World)(b i:Nat)(u:Value):W.grownBy (W.setCell ⟨b,i,none⟩ u) (some b):=
 ⟨rfl,rfl,rfl,by simp,fun k _ hk=>Below.heap_setCell W ⟨b,i,none⟩ u k (fun e=>hk (by rw[e]))⟩
theorem set_at {W:World}{g i:Nat}{cs:Array Value}{t:TypeId}{fr:Nat×Nat}(h:W.heap[g]?=some (.cells cs t fr))(v:Value):(W.setCell ⟨g,i,none⟩ v).heap[g]?=some (.cells (cs.setIfInBounds i v) t fr):=by
 have hlt:=(Array.getElem?_eq_some_iff.1 h).1
 have h2:=(Array.getElem?_eq_some_iff.1 h).2
 simp only[World.setCell,Array.getElem?_eq_getElem,Array.size_modify,hlt,Array.getElem_modify_self,h2]
 rfl
def RS.take (s:RS)(t:UInt8):Option (List UInt8)×RS:=
 if s.bad=true then (none,s) else if fs s.l≠0∧(hd1 s.l).1=t then (some (hd1 s.l).2,⟨s.l.drop (fs s.l),false⟩) else (none,⟨s.l,true⟩)
theorem grown_any {W W':World}(h:Below W.heap.size W W')(row:Option Nat):W.grownBy W' row:=⟨h.os,h.tape,h.output,h.size,fun k hk _=>h.block k hk⟩
theorem grown_trans {a b c:World}{row:Option Nat}(h:a.grownBy b row)(k:b.grownBy c row):a.grownBy c row:=
 ⟨k.os.trans h.os,k.tape.trans h.tape,k.output.trans h.output,Nat.le_trans h.size k.size,fun j hj hn=>(k.block j (Nat.lt_of_lt_of_le hj h.size) hn).trans (h.block j hj hn)⟩
theorem below_of_grown {a b:World}{B g:Nat}(h:a.grownBy b (some g))(hB:B≤g)(hs:g<a.heap.size):Below B a b:=⟨h.os,h.tape,h.output,h.size,fun k hk=>h.block k (by omega) (fun e=>by have:=Option.some.inj e;omega)⟩
def RS.bytes (s:RS)(t:UInt8):List UInt8×RS:=((s.take t).1.getD [],(s.take t).2)
def numK (b:List UInt8):Nat→Nat
 | 0=>0
 | k+1=>numK b k*256+(b[k]?.getD 0).toNat
theorem numK_lt (b:List UInt8):∀k,numK b k<256 ^ k
 | 0=>by simp[numK]
 | k+1=>by
  have ih:=numK_lt b k
  have hc:(b[k]?.getD 0).toNat<256:=UInt8.toNat_lt _
  rw[numK,Nat.pow_succ]
  omega
def RS.num (s:RS)(t:UInt8):Nat×RS:=
 match (s.take t).1 with
 | none=>(0,(s.take t).2)
 | some b=>if b.length=8 then (numK b 8,(s.take t).2) else (0,⟨(s.take t).2.l,true⟩)
def RS.flag (s:RS)(t:UInt8):Bool×RS:=
 match (s.take t).1 with
 | none=>(false,(s.take t).2)
 | some b=>if b.length=1∧(b[0]?.getD 0).toNat≤1 then (decide ((b[0]?.getD 0).toNat=1),(s.take t).2) else (false,⟨(s.take t).2.l,true⟩)
end Go.Proofs.YtgeafnggodkpaaaGreat.Tlv
namespace Go.Proofs.YtgeafnggodkpaaaGreat.Tlv
theorem u8_ofNat (n:Nat)(x:UInt8)(h:n % 256=x.toNat):UInt8.ofNat n=x:=by
 apply UInt8.toNat_inj.1
 rw[UInt8.toNat_ofNat'];exact h
theorem val_hd1 (l:List UInt8)(h:fs l≠0):l=val (hd1 l).1 (hd1 l).2++l.drop (fs l)∧0<(hd1 l).1.toNat∧(hd1 l).2.length≤4194304:=by
 have hc:¬(l.length<5∨l[0]?.getD 0=0∨4194304<ln l∨l.length-5<ln l):=fun hh=>h (fs_no hh)
 have hf:=fs_yes hc
 have hl:=hd1_len l h
 have hle:=fs_le l
 have h0:¬l[0]?.getD 0=0:=fun e=>hc (.inr (.inl e))
 have hq:¬4194304<ln l:=fun e=>hc (.inr (.inr (.inl e)))
 match l,hle,hc with
 | a::b::c::d::e::r,hle,hc=>
  have hln:ln (a::b::c::d::e::r)=16777216*b.toNat+65536*c.toNat+256*d.toNat+e.toNat:=rfl
  have hb:=b.toNat_lt
  have hcc:=c.toNat_lt
  have hd:=d.toNat_lt
  have he:=e.toNat_lt
  have hx:(hd1 (a::b::c::d::e::r)).2=r.take (ln (a::b::c::d::e::r)):=by
   show ((a::b::c::d::e::r).drop 5).take (fs _-5)=_
   rw[hf,show 5+ln (a::b::c::d::e::r)-5=ln (a::b::c::d::e::r) by omega];rfl
  have hn:(hd1 (a::b::c::d::e::r)).2.length=ln (a::b::c::d::e::r):=by omega
  refine⟨?_,?_,by omega⟩
  ·have hdr:(a::b::c::d::e::r).drop (fs (a::b::c::d::e::r))=r.drop (ln (a::b::c::d::e::r)):=by rw[hf,Nat.add_comm];rfl
   rw[hdr]
   unfold val
   rw[hn,hx]
   generalize hqq:ln (a::b::c::d::e::r)=q at *
   rw[u8_ofNat (q / 16777216) b (by omega),u8_ofNat (q / 65536) c (by omega),u8_ofNat (q / 256) d (by omega),u8_ofNat q e (by omega)]
   show _=[a,b,c,d,e]++List.take q r++List.drop q r
   rw[List.append_assoc,List.take_append_drop];rfl
  have:(hd1 (a::b::c::d::e::r)).1=a:=rfl
  rw[this]
  have h1:¬a=0:=h0
  have:¬a.toNat=0:=fun e=>h1 (UInt8.toNat_inj.1 e)
  omega
 | [],_,hc=>exact absurd (.inl (by simp)) hc
 | [_],_,hc=>exact absurd (.inl (by simp)) hc
 | [_,_],_,hc=>exact absurd (.inl (by simp)) hc
 | [_,_,_],_,hc=>exact absurd (.inl (by simp)) hc
 | [_,_,_,_],_,hc=>exact absurd (.inl (by simp)) hc
theorem take_val (t:UInt8)(b rest:List UInt8)(ht:0<t.toNat)(hb:b.length≤4194304):RS.take ⟨val t b++rest,false⟩ t=(some b,⟨rest,false⟩):=by
 have hh:=hd1_val t b rest ht hb
 have hf:=fs_val t b rest ht hb
 unfold RS.take
 rw[if_neg (by simp),if_pos ⟨by dsimp only;omega,by dsimp only;rw[hh]⟩]
 dsimp only
 rw[hh,hf,←val_len t b]
 simp
theorem take_some {s:RS}{t:UInt8}{x:List UInt8}{s':RS}(h:s.take t=(some x,s')):s.bad=false∧s'.bad=false∧s.l=val t x++s'.l∧x.length≤4194304∧0<t.toNat:=by
 unfold RS.take at h
 split at h
 ·cases h
 rename_i hb
 split at h
 ·rename_i h2
  have e1:=Option.some.inj (congrArg Prod.fst h)
  have e2:=congrArg Prod.snd h
  dsimp only at e1 e2
  obtain⟨h3,h4,h5⟩:=val_hd1 s.l h2.1
  subst e1 e2
  refine⟨by simpa using hb,rfl,?_,h5,by rw[←h2.2];exact h4⟩
  rw[h2.2] at h3
  exact h3
 cases h
theorem take_none {s:RS}{t:UInt8}{s':RS}(h:s.take t=(none,s')):s'.bad=true:=by
 unfold RS.take at h
 split at h
 ·rename_i hb;have:=congrArg Prod.snd h;dsimp only at this;rw[←this];exact hb
 split at h
 ·cases h
 have:=congrArg Prod.snd h;dsimp only at this;rw[←this]
theorem num8_get (n k:Nat)(hk:k<8):((num8 n)[k]?.getD 0).toNat=n / 256 ^ (7-k) % 256:=by
 simp[num8,List.getElem?_map,List.getElem?_range hk,UInt8.toNat_ofNat']
theorem numK_num8 (n:Nat)(hn:n<18446744073709551616):numK (num8 n) 8=n:=by
 have h0:=num8_get n 0 (by omega)
 have h1:=num8_get n 1 (by omega)
 have h2:=num8_get n 2 (by omega)
 have h3:=num8_get n 3 (by omega)
 have h4:=num8_get n 4 (by omega)
 have h5:=num8_get n 5 (by omega)
 have h6:=num8_get n 6 (by omega)
 have h7:=num8_get n 7 (by omega)
 simp only[numK,h0,h1,h2,h3,h4,h5,h6,h7]
 omega
theorem num8_numK (b:List UInt8)(hb:b.length=8):num8 (numK b 8)=b:=by
 match b,hb with
 | [b0,b1,b2,b3,b4,b5,b6,b7],_=>
  have t0:=b0.toNat_lt
  have t1:=b1.toNat_lt
  have t2:=b2.toNat_lt
  have t3:=b3.toNat_lt
  have t4:=b4.toNat_lt
  have t5:=b5.toNat_lt
  have t6:=b6.toNat_lt
  have t7:=b7.toNat_lt
  have hq:numK [b0,b1,b2,b3,b4,b5,b6,b7] 8=((((((b0.toNat*256+b1.toNat)*256+b2.toNat)*256+b3.toNat)*256+b4.toNat)*256+b5.toNat)*256+b6.toNat)*256+b7.toNat:=by
   simp only[numK];simp
  rw[hq]
  generalize hqq:((((((b0.toNat*256+b1.toNat)*256+b2.toNat)*256+b3.toNat)*256+b4.toNat)*256+b5.toNat)*256+b6.toNat)*256+b7.toNat=q
  show [UInt8.ofNat (q / 256 ^ (7-0)),UInt8.ofNat (q / 256 ^ (7-1)),UInt8.ofNat (q / 256 ^ (7-2)),UInt8.ofNat (q / 256 ^ (7-3)),UInt8.ofNat (q / 256 ^ (7-4)),UInt8.ofNat (q / 256 ^ (7-5)),UInt8.ofNat (q / 256 ^ (7-6)),UInt8.ofNat (q / 256 ^ (7-7))]=_
  rw[u8_ofNat _ b0 (by omega),u8_ofNat _ b1 (by omega),u8_ofNat _ b2 (by omega),u8_ofNat _ b3 (by omega),u8_ofNat _ b4 (by omega),u8_ofNat _ b5 (by omega),u8_ofNat _ b6 (by omega),u8_ofNat _ b7 (by omega)]
theorem num_none {s s':RS}{t:UInt8}(h:s.take t=(none,s')):s.num t=(0,s'):=by unfold RS.num;rw[h]
theorem num_eight {s s':RS}{t:UInt8}{b:List UInt8}(h:s.take t=(some b,s'))(hb:b.length=8):s.num t=(numK b 8,s'):=by unfold RS.num;rw[h];exact if_pos hb
theorem num_bad {s s':RS}{t:UInt8}{b:List UInt8}(h:s.take t=(some b,s'))(hb:¬b.length=8):s.num t=(0,⟨s'.l,true⟩):=by unfold RS.num;rw[h];exact if_neg hb
theorem flag_none {s s':RS}{t:UInt8}(h:s.take t=(none,s')):s.flag t=(false,s'):=by unfold RS.flag;rw[h]
theorem flag_one {s s':RS}{t:UInt8}{b:List UInt8}(h:s.take t=(some b,s'))(hb:b.length=1∧(b[0]?.getD 0).toNat≤1):s.flag t=(decide ((b[0]?.getD 0).toNat=1),s'):=by unfold RS.flag;rw[h];exact if_pos hb
theorem flag_bad {s s':RS}{t:UInt8}{b:List UInt8}(h:s.take t=(some b,s'))(hb:¬(b.length=1∧(b[0]?.getD 0).toNat≤1)):s.flag t=(false,⟨s'.l,true⟩):=by unfold RS.flag;rw[h];exact if_neg hb
theorem val_inj {t:UInt8}{a b r r':List UInt8}(ht:0<t.toNat)(ha:a.length≤4194304)(hb:b.length≤4194304)(h:val t a++r=val t b++r'):a=b∧r=r':=by
 have h1:=take_val t a r ht ha
 have h2:=take_val t b r' ht hb
 rw[h,h2] at h1
 have e1:=Option.some.inj (congrArg Prod.fst h1)
 have e2:=congrArg RS.l (congrArg Prod.snd h1)
 exact⟨e1.symm,e2.symm⟩
structure Took {α:Type}(body:α→List UInt8)(may good:α→Prop)(s:RS)(y:α)(s':RS):Prop where
 yes:s'.bad=false→s.bad=false∧s.l=body y++s'.l∧good y
 no:s'.bad=true→s.bad=true∨∀z rest,may z→s.l≠body z++rest
 le:s'.l.length≤s.l.length
theorem take_cases (s:RS)(t:UInt8)(ht:0<t.toNat):(∃x rest,s.take t=(some x,⟨rest,false⟩)∧s.bad=false∧s.l=val t x++rest∧x.length≤4194304) ∨
  (∃s',s.take t=(none,s')∧s'.bad=true∧s'.l=s.l∧(s.bad=true∨∀(z rest:List UInt8),z.length≤4194304→s.l≠val t z++rest)):=by
 cases h:s.take t with
 | mk ox s'=>
  cases ox with
  | some x=>
   obtain⟨h1,h2,h3,h4,_⟩:=take_some h
   obtain⟨l,b⟩:=s'
   dsimp only at h2 h3
   subst h2
   exact .inl ⟨x,l,rfl,h1,h3,h4⟩
  | none=>
   refine .inr ⟨s',rfl,take_none h,?_,?_⟩
   ·unfold RS.take at h
    split at h
    ·have:=congrArg Prod.snd h;dsimp only at this;rw[←this]
    split at h
    ·cases h
    have:=congrArg Prod.snd h;dsimp only at this;rw[←this]
   cases hb:s.bad with
   | true=>exact .inl rfl
   | false=>
    refine .inr fun z rest hz e=>?_
    obtain⟨l,b⟩:=s
    dsimp only at hb e
    subst hb e
    rw[take_val t z rest ht hz] at h
    cases h
theorem val_long (t:UInt8)(b r:List UInt8):r.length≤(val t b++r).length:=by rw[List.length_append];omega
theorem took_bytes (s:RS)(t:UInt8)(ht:0<t.toNat):Took (val t) (fun z=>z.length≤4194304) (fun z=>z.length≤4194304) s (s.bytes t).1 (s.bytes t).2:=by
 unfold RS.bytes
 rcases take_cases s t ht with ⟨x,rest,h,h1,h2,h3⟩ | ⟨s',h,h1,h2,h3⟩
 ·rw[h]
  exact⟨fun _=>⟨h1,h2,h3⟩,fun e=>(by cases e),(by rw[h2];exact val_long _ _ _)⟩
 rw[h]
 exact⟨fun e=>(by rw[show s'.bad=true from h1] at e;cases e),fun _=>h3,Nat.le_of_eq (congrArg List.length h2)⟩
theorem took_num (s:RS)(t:UInt8)(ht:0<t.toNat):Took (fun n:Nat=>val t (num8 n)) (fun n=>n<18446744073709551616) (fun n=>n<18446744073709551616) s (s.num t).1 (s.num t).2:=by
 rcases take_cases s t ht with ⟨x,rest,h,h1,h2,h3⟩ | ⟨s',h,h1,h2,h3⟩
 ·by_cases h8:x.length=8
  ·rw[num_eight h h8]
   refine⟨fun _=>⟨h1,?_,numK_lt x 8⟩,fun e=>(by cases e),?_⟩
   ·dsimp only;rw[num8_numK x h8];exact h2
   rw[h2];exact val_long _ _ _
  rw[num_bad h h8]
  refine⟨fun e=>(by cases e),fun _=>.inr fun z r hz e=>?_,?_⟩
  ·rw[h2] at e
   have:=(val_inj ht h3 (by rw[num8_len];omega) e).1
   rw[this,num8_len] at h8
   exact h8 rfl
  rw[h2];exact val_long _ _ _
 rw[num_none h]
 exact⟨fun e=>(by rw[show s'.bad=true from h1] at e;cases e),fun _=>h3.imp id (fun h z r _=>h _ r (by rw[num8_len];omega)),Nat.le_of_eq (congrArg List.length h2)⟩
theorem took_flag (s:RS)(t:UInt8)(ht:0<t.toNat):Took (fun b:Bool=>val t [if b then 1 else 0]) (fun _=>True) (fun _=>True) s (s.flag t).1 (s.flag t).2:=by
 rcases take_cases s t ht with ⟨x,rest,h,h1,h2,h3⟩ | ⟨s',h,h1,h2,h3⟩
 ·by_cases h8:x.length=1∧(x[0]?.getD 0).toNat≤1
  ·rw[flag_one h h8]
   refine⟨fun _=>⟨h1,?_,trivial⟩,fun e=>(by cases e),?_⟩
   ·dsimp only
    rw[h2]
    congr 2
    obtain⟨h8,h9⟩:=h8
    match x,h8,h9 with
    | [a],_,h9=>
     have h9:a.toNat≤1:=h9
     show [a]=[if decide (a.toNat=1)=true then 1 else 0]
     by_cases ha:a.toNat=1
     ·rw[decide_eq_true ha,if_pos rfl,show a=1 from UInt8.toNat_inj.1 ha]
     rw[decide_eq_false ha,if_neg (by decide),show a=0 from UInt8.toNat_inj.1 (by show a.toNat=0;omega)]
   rw[h2];exact val_long _ _ _
  rw[flag_bad h h8]
  refine⟨fun e=>(by cases e),fun _=>.inr fun z r _ e=>?_,?_⟩
  ·rw[h2] at e
   have:=(val_inj ht h3 (by simp) e).1
   rw[this] at h8
   exact h8 (by cases z<;>simp)
  rw[h2];exact val_long _ _ _
 rw[flag_none h]
 exact⟨fun e=>(by rw[show s'.bad=true from h1] at e;cases e),fun _=>h3.imp id (fun h z r _=>h _ r (by simp)),Nat.le_of_eq (congrArg List.length h2)⟩
end Go.Proofs.YtgeafnggodkpaaaGreat.Tlv
