/-
  A part of the proof: what this text holds is told at each of its declarations.
-/
import Derived.BigQuiet
import Derived.Test.YtgeafnggodkpaaaGreatZaak
import Derived.Test.YtgeafnggodkpaaaGreatZaaf
namespace Go.Proofs.YtgeafnggodkpaaaGreat.Msg
open Go.RowKit Go.Lib Go.Proofs.YtgeafnggodkpaaaGreat.Mem Go.Proofs.YtgeafnggodkpaaaGreat.Utf

theorem str_no {l l' : List UInt8} (h : l ≠ l') : ((⟨l.toArray⟩ : ByteArray).toList == (⟨l'.toArray⟩ : ByteArray).toList) = false :=
  tol_no (fun e => h (by have := congrArg (fun b : ByteArray => b.data.toList) e; simpa using this))

end Go.Proofs.YtgeafnggodkpaaaGreat.Msg
