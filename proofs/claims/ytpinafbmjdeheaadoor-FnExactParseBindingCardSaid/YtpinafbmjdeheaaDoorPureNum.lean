/- Places in rows of whole numbers; no condition but small numbers. -/
import Derived.Test.YtpinafbmjdeheaaDoorBase
namespace Go.Proofs.YtpinafbmjdeheaaDoor.P
open Go.RowKit Go.Proofs.YtpinafbmjdeheaaDoorW.PrintWords Go.Proofs.YtpinafbmjdeheaaDoor.Base
set_option linter.unusedVariables false

theorem rd_nat (l : List Int) (i : Nat) : rd l (i : Int) = l.getD i 0 := by unfold rd; rw [Int.toNat_natCast]
theorem nextI (n : Nat) (h : n ≤ 4000000) : wrap64 ((n : Int) + 1) = ((n + 1 : Nat) : Int) := by
  rw [w64 (by omega) (by omega)]; omega
end Go.Proofs.YtpinafbmjdeheaaDoor.P
