/- Places in rows of whole numbers; no condition but small numbers. -/
import Derived.Test.YtmdpiagpkocheaaBase
namespace Go.Proofs.Ytmdpiagpkocheaa.P
open Go.RowKit Go.Proofs.YtmdpiagpkocheaaW.PrintWords Go.Proofs.Ytmdpiagpkocheaa.Base
set_option linter.unusedVariables false

theorem rd_nat (l : List Int) (i : Nat) : rd l (i : Int) = l.getD i 0 := by unfold rd; rw [Int.toNat_natCast]
theorem nextI (n : Nat) (h : n ≤ 4000000) : wrap64 ((n : Int) + 1) = ((n + 1 : Nat) : Int) := by
  rw [w64 (by omega) (by omega)]; omega
end Go.Proofs.Ytmdpiagpkocheaa.P
