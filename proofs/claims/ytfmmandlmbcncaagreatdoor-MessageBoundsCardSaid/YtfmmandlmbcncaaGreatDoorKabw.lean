/-
  A part of the proof.
-/
import Derived.Test.YtfmmandlmbcncaaGreatDoorKabu
import Derived.Test.YtfmmandlmbcncaaGreatDoorKabs
set_option maxHeartbeats 40000000
namespace Go.Proofs.YtfmmandlmbcncaaGreatDoor.Msg
open Go.RowKit Go.Lib Go.Proofs.YtfmmandlmbcncaaGreatDoor.Mem Go.Proofs.YtfmmandlmbcncaaGreatDoor.Tlv
theorem kept_same {m:MV}{c:MC}{ls:List Int}(hls:∀x∈ls,x∈allX)(hz:∀x∈allX,x∉ls→agree x m c (bareM m.k) bareC=true):sameMsg m c (keptM ls m) (keptC ls c)=true:=
 same_iff.2 ⟨(kept_k m ls (bareM m.k)).symm,fun x hx=>by
  have h:=kept_in m c ls hls x hx (bareM m.k) bareC
  by_cases hm:x∈ls
  ·exact agree_symm (h.1 hm)
  exact agree_trans (hz x hx hm) (agree_symm (h.2 hm))⟩
theorem val_num (t:UInt8)(n:Int):(val t (num8 n.toNat)).length=13:=by rw[val_len,num8_len]
def getM (fr:Int):MV:={ bareM 11 with fr:=fr }
theorem may_get (fr:Int):mayMsg (getM fr) bareC=(decide (0≤fr)&&decide (fr<7)):=by
 have hs:sameMsg (getM fr) bareC (keptM (lettersOf (getM fr).k (getM fr).wh) (getM fr)) (keptC (lettersOf (getM fr).k (getM fr).wh) bareC)=true:=kept_same allX_of (fun x hx hn=>by
  simp only[allX,List.mem_cons,List.not_mem_nil,or_false] at hx
  rcases hx with rfl|rfl|rfl|rfl|rfl|rfl|rfl|rfl|rfl|rfl|rfl|rfl|rfl|rfl|rfl<;>first | rfl | exact absurd (show (102:Int)∈lettersOf 11 false by decide) hn)
 have hl:decide (lettersOf (getM fr).k (getM fr).wh≠[])=true:=decide_eq_true (show lettersOf 11 false≠[] by decide)
 have hn:decide ((msgL (getM fr) bareC).length≤8388608)=true:=decide_eq_true (by
  have e:(msgL (getM fr) bareC)=val 1 (num8 (11:Int).toNat)++(val 2 (num8 (0:Int).toNat)++(val 4 (num8 fr.toNat)++(val 9 (num8 (0:Int).toNat)++[]))):=rfl
  rw[e]
  simp only[List.length_append,val_num,List.length_nil]
  decide)
 unfold mayMsg wellM
 rw[hs,hl,hn]
 show (true&&(true&&(decide (0≤fr)&&(decide (fr<7)&&true)))&&true)=_
 simp
def stateM (lo:Option Addr)(ln lc:Nat)(so:Option Addr)(sn sc:Nat):MV:={ bareM 12 with lo:=lo,ln:=ln,lc:=lc,so:=so,sn:=sn,sc:=sc }
def lookV:RV:={ zeroR with op:={ zeroV with k:=6 } }
def lookC:OC:=⟨[],[],[]⟩
def stateC (n sn:Nat):MC:={ bareC with log:=List.replicate n (lookV,lookC),snap:=List.replicate sn 0 }
theorem lookMay:mayOp lookV.op lookC=true:=by decide
theorem look_len:(val 1 (reqL lookV (opL lookV.op lookC))).length=54:=by rw[val_len,reqL_len];decide
theorem logB_rep:∀n:Nat,(logB (List.replicate n (lookV,lookC))).length=54*n
 | 0=>rfl
 | n+1=>by rw[List.replicate_succ,logB_cons,List.length_append,look_len,logB_rep n];omega
theorem may_state (lo:Option Addr)(ln lc:Nat)(so:Option Addr)(sn sc:Nat)(h:54*ln+sn≤8000000):mayMsg (stateM lo ln lc so sn sc) (stateC ln sn)=(decide (ln≤4096)&&decide (sn≤4194304)):=by
 have hs:sameMsg (stateM lo ln lc so sn sc) (stateC ln sn) (keptM (lettersOf (stateM lo ln lc so sn sc).k (stateM lo ln lc so sn sc).wh) (stateM lo ln lc so sn sc)) (keptC (lettersOf (stateM lo ln lc so sn sc).k (stateM lo ln lc so sn sc).wh) (stateC ln sn))=true:=kept_same allX_of (fun x hx hn=>by
  simp only[allX,List.mem_cons,List.not_mem_nil,or_false] at hx
  rcases hx with rfl|rfl|rfl|rfl|rfl|rfl|rfl|rfl|rfl|rfl|rfl|rfl|rfl|rfl|rfl<;>first | exact absurd (show (115:Int)∈lettersOf 12 false by decide) hn | exact absurd (show (108:Int)∈lettersOf 12 false by decide) hn | rfl)
 have hl:decide (lettersOf (stateM lo ln lc so sn sc).k (stateM lo ln lc so sn sc).wh≠[])=true:=decide_eq_true (show lettersOf 12 false≠[] by decide)
 have hn:decide ((msgL (stateM lo ln lc so sn sc) (stateC ln sn)).length≤8388608)=true:=decide_eq_true (by
  have e:(msgL (stateM lo ln lc so sn sc) (stateC ln sn))=val 1 (num8 (12:Int).toNat)++(val 2 (num8 (0:Int).toNat)++(val 10 (num8 (0:Int).toNat)++(val 11 (num8 (0:Int).toNat)++(val 12 (List.replicate sn 0)++(val 13 (logB (List.replicate ln (lookV,lookC)))++[]))))):=rfl
  rw[e]
  simp only[List.length_append,num8_len,List.length_nil,val_len,List.length_replicate,logB_rep]
  omega)
 have ha:((stateC ln sn).log.any fun u=>!mayOp u.1.op u.2)=false:=List.any_eq_false.2 (fun p hp=>by
  have:=List.eq_of_mem_replicate hp
  rw[this]
  simp[lookMay])
 unfold mayMsg wellM
 rw[hs,hl,hn,ha]
 show (true&&(true&&(true&&(true&&(decide (ln≤4096)&&(decide (sn≤4194304)&&(true&&(true&&true)))))))&&true)=_
 simp
def seenM (ho:Option Addr)(hn hc:Nat):MV:={ bareM 6 with ho:=ho,hn:=hn,hc:=hc }
def seenC (n:Nat):MC:={ bareC with seen:=List.replicate n 0 }
theorem may_seen (ho:Option Addr)(hn hc:Nat)(h:hn≤100):mayMsg (seenM ho hn hc) (seenC hn)=decide (hn≤7):=by
 have hs:sameMsg (seenM ho hn hc) (seenC hn) (keptM (lettersOf (seenM ho hn hc).k (seenM ho hn hc).wh) (seenM ho hn hc)) (keptC (lettersOf (seenM ho hn hc).k (seenM ho hn hc).wh) (seenC hn))=true:=kept_same allX_of (fun x hx hx2=>by
  simp only[allX,List.mem_cons,List.not_mem_nil,or_false] at hx
  rcases hx with rfl|rfl|rfl|rfl|rfl|rfl|rfl|rfl|rfl|rfl|rfl|rfl|rfl|rfl|rfl<;>first | exact absurd (show (101:Int)∈lettersOf 6 false by decide) hx2 | rfl)
 have hl:decide (lettersOf (seenM ho hn hc).k (seenM ho hn hc).wh≠[])=true:=decide_eq_true (show lettersOf 6 false≠[] by decide)
 have hm:decide ((msgL (seenM ho hn hc) (seenC hn)).length≤8388608)=true:=decide_eq_true (by
  have e:(msgL (seenM ho hn hc) (seenC hn))=val 1 (num8 (6:Int).toNat)++(val 2 (num8 (0:Int).toNat)++(val 4 (num8 (0:Int).toNat)++(val 16 (seenB (List.replicate hn 0))++[]))):=rfl
  rw[e]
  simp only[List.length_append,num8_len,List.length_nil,val_len,seenB_len,List.length_replicate]
  omega)
 unfold mayMsg wellM
 rw[hs,hl,hm]
 show (true&&(true&&(true&&(true&&(true&&(true&&(decide (hn≤7)&&(true&&true)))))))&&true)=_
 simp
end Go.Proofs.YtfmmandlmbcncaaGreatDoor.Msg
