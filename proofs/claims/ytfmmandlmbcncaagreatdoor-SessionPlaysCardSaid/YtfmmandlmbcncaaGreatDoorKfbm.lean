/-A part of the proof.-/
import Derived.LaidLaws
import Derived.LaidHandle
import Derived.Test.YtfmmandlmbcncaaGreatDoorKfbi
set_option maxHeartbeats 40000000
set_option maxRecDepth 100000
set_option linter.all false
namespace Go.Proofs.YtfmmandlmbcncaaGreatDoor
namespace Msg
open Go.RowKit Go.Lib
theorem TR:Tryz.prog.globalNamed "errors.errorType"=some 0:=by kernel_rfl
theorem TU:(Tryz.prog.cutTypes.find? (·.1== "internal/reflectlite.rtype")).map (·.2)=some 187:=by kernel_rfl
theorem SB:((List.range 320).filter fun t=>Tryz.prog.rowNamed t [101,114,114,111,114])=[80]:=by kernel_rfl
theorem QT:Tryz.prog.types.size=320:=by kernel_rfl
theorem DC {W:World}(h:laidMetH Tryz.prog [("errors.errorType",Rows.laid_errors_errorType)] W):ErrG W:=by
 have h':laidMet Tryz.prog [] W∧handlesMet Tryz.prog [("errors.errorType",Rows.laid_errors_errorType)] W:=h
 obtain⟨name,u,ty,e1,e2,e3,e4,e5⟩:=h'.2 _ (yah.2 rfl);have en:name=[101,114,114,111,114]:=(yaf e1).symm;subst en;obtain rfl:=yaf (TU.symm.trans e2);have hm:ty∈(List.range 320).filter fun t=>Tryz.prog.rowNamed t [101,114,114,111,114]:=List.mem_filter.2 ⟨List.mem_range.2 (by rw[<-QT];exact e3),e4⟩;rw[SB] at hm;obtain rfl:=yah.1 hm;have hh:typeHandle Tryz.prog 80=.pointer (some ⟨2,80,none⟩):=by kernel_rfl
 rw[hh] at e5;unfold ErrG;simpa using World.var?_cell TR e5 0
