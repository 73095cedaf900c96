/-
  A part of the proof.
-/
import Derived.LaidLaws
import Derived.LaidHandle
import Derived.Test.YtfmmandlmbcncaaGreatDoorKdbr
set_option maxHeartbeats 40000000
set_option maxRecDepth 100000
namespace Go.Proofs.YtfmmandlmbcncaaGreatDoor.Msg
open Go.RowKit Go.Lib
theorem Qo : Tryz.prog.globalNamed "errors.errorType" = some 0 := by kernel_rfl
theorem Qi : (Tryz.prog.cutTypes.find? (·.1 == "internal/reflectlite.rtype")).map (·.2) = some 187 := by kernel_rfl
theorem P7:((List.range 320).filter fun t=>Tryz.prog.rowNamed t [101,114,114,111,114])=[80]:=by kernel_rfl
theorem MO:Tryz.prog.types.size=320:=by kernel_rfl
theorem Ce {W : World}(h : laidMetH Tryz.prog [("errors.errorType", Rows.laid_errors_errorType)] W) : ErrG W := by
 have h' : laidMet Tryz.prog [] W ∧ handlesMet Tryz.prog [("errors.errorType", Rows.laid_errors_errorType)] W := h
 obtain⟨name,u,ty,e1,e2,e3,e4,e5⟩:=h'.2 _ (List.mem_singleton.2 rfl);have en:name=[101,114,114,111,114]:=(Option.some.inj e1).symm;subst en;obtain rfl:=Option.some.inj (Qi.symm.trans e2);have hm:ty∈(List.range 320).filter fun t=>Tryz.prog.rowNamed t [101,114,114,111,114]:=List.mem_filter.2 ⟨List.mem_range.2 (by rw[<-MO];exact e3),e4⟩;rw[P7] at hm;obtain rfl:=List.mem_singleton.1 hm;have hh:typeHandle Tryz.prog 80=.pointer (some ⟨2,80,none⟩):=by kernel_rfl
 rw[hh] at e5;unfold ErrG;simpa using World.var?_cell Qo e5 0
end Go.Proofs.YtfmmandlmbcncaaGreatDoor.Msg
