/-
  A part of the proof.
-/
import Derived.Test.YtfmmandlmbcncaaGreatDoorKcao
set_option maxHeartbeats 40000000
set_option maxRecDepth 100000
namespace Go.Proofs.YtfmmandlmbcncaaGreatDoor.Tlv
open Go.RowKit Mem
theorem Nr (t:UInt8)(b:List UInt8)(n:Nat)(hb:b.length=n)(hn:n<=4194400) :
  byV (val t b)=[.int .u8 (t.toNat:Int),.int .u8 ((n:Int) / 16777216),.int .u8 ((n:Int) / 65536),.int .u8 ((n:Int) / 256 % 256),.int .u8 ((n:Int) % 256)]++byV b:=by
 subst hb;have h1:(b.length:Int) / 16777216=((UInt8.ofNat (b.length / 16777216)).toNat:Int):=by rw[UInt8.toNat_ofNat'];omega
 have h2:(b.length:Int) / 65536=((UInt8.ofNat (b.length / 65536)).toNat:Int):=by rw[UInt8.toNat_ofNat'];omega
 have h3:(b.length:Int) / 256 % 256=((UInt8.ofNat (b.length / 256)).toNat:Int):=by rw[UInt8.toNat_ofNat'];omega
 have h4:(b.length:Int) % 256=((UInt8.ofNat b.length).toNat:Int):=by rw[UInt8.toNat_ofNat'];omega
 rw[h1,h2,h3,h4];rfl
theorem DY (t:UInt8)(b:List UInt8)(ao:Option Addr)(n cap:Nat)(W:World)(hn:n<=4194400)(hr:Rd W 1 ao n cap (byV b)) :
  Calls Tryz.prog 84 #[.int .u8 (t.toNat:Int),.slice ao n cap] W (ja W (val t b)):=by
 have hbl:b.length=n:=by have:=hr.1;rw[aP] at this;omega
 have k63:5+n<=maxLen:=by unfold maxLen;omega
 have kby:(5+n)*1<=140737488355328:=by omega
 have hv:byV (val t b)=[.int .u8 (t.toNat:Int),.int .u8 ((n:Int) / 16777216),.int .u8 ((n:Int) / 65536 % 256),.int .u8 ((n:Int) / 256 % 256),.int .u8 ((n:Int) % 256)]++byV b:=by
  rw[Nr t b n hbl hn,show (n:Int) / 65536 % 256=(n:Int) / 65536 from by omega]
 have hvl:=af t b;rw[hbl] at hvl;have Hv:=Lib.hid hv;have Hvl:=Lib.hid hvl;clear hv hvl;have hb0:∀o,Below W.heap.size W (W.alloc o):=fun o=>(Below.refl _ W).alloc (Nat.le_refl _) _;have ho0:=Dn W 5 [.int .u8 (t.toNat:Int),.int .u8 ((n:Int) / 16777216),.int .u8 ((n:Int) / 65536 % 256),.int .u8 ((n:Int) / 256 % 256),.int .u8 ((n:Int) % 256)] 5 rfl (by decide);have hr1:=hr.later (hb0 (.cells [Value.int .u8 (t.toNat:Int),.int .u8 ((n:Int) / 16777216),.int .u8 ((n:Int) / 65536 % 256),.int .u8 ((n:Int) / 256 % 256),.int .u8 ((n:Int) % 256)].toArray 5));have hsz:W.heap.size<=(W.alloc (.cells [Value.int .u8 (t.toNat:Int),.int .u8 ((n:Int) / 16777216),.int .u8 ((n:Int) / 65536 % 256),.int .u8 ((n:Int) / 256 % 256),.int .u8 ((n:Int) % 256)].toArray 5)).heap.size:=by simp
 go_in;go_wp2_with (at_builtin;refine fO _ rfl (.tmp 25) (.tmp 26) 34 rfl W.heap.size 5 (.int .u8 0) 1 1 byT _ 5 _ rfl ho0 ao n cap (byV b) rfl hr1 (bK _) k63 kby hsz ?_;intro ao2 cap2 w2 ho2 hg2 hb2 _);go_ret;refine⟨_,rfl,?_,(hb0 _).trans hb2⟩;rw[Hvl.out,Hv.out];exact ho2
end Go.Proofs.YtfmmandlmbcncaaGreatDoor.Tlv
