/- Tests of bounds; no condition. -/
import Derived.Test.YtmdpiagpkocheaaPx2
import Derived.Test.YtmdpiagpkocheaaPx5
import Derived.Test.YtmdpiagpkocheaaBase
namespace Go.Proofs.Ytmdpiagpkocheaa.P
open Go.RowKit Go.Proofs.YtmdpiagpkocheaaW.PrintWords Go.Proofs.YtmdpiagpkocheaaW.PrintLast Go.Proofs.YtmdpiagpkocheaaW.PrintMore Go.Proofs.Ytmdpiagpkocheaa.Base

theorem l1In_eq (n lo hi : Int) : spec_l1In.f n lo hi = some (inB n lo hi) := by
  unfold spec_l1In.f inB
  by_cases h : lo ≤ n <;> simp [h]
theorem within_eq (n lo hi : Int) : impl_within.f n lo hi = some (inB n lo hi) := by
  unfold impl_within.f inB
  by_cases h : lo ≤ n <;> simp [h]
end Go.Proofs.Ytmdpiagpkocheaa.P
