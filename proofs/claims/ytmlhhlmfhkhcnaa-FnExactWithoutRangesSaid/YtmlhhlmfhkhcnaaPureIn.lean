/- Tests of bounds; no condition. -/
import Derived.Test.YtmlhhlmfhkhcnaaPx3
import Derived.Test.YtmlhhlmfhkhcnaaPx5
import Derived.Test.YtmlhhlmfhkhcnaaBase
namespace Go.Proofs.Ytmlhhlmfhkhcnaa.P
open Go.RowKit Go.Proofs.YtmlhhlmfhkhcnaaW.PrintWords Go.Proofs.YtmlhhlmfhkhcnaaW.PrintLast Go.Proofs.YtmlhhlmfhkhcnaaW.PrintMore Go.Proofs.Ytmlhhlmfhkhcnaa.Base

theorem l1In_eq (n lo hi : Int) : spec_l1In.f n lo hi = some (inB n lo hi) := by
  unfold spec_l1In.f inB
  by_cases h : lo ≤ n <;> simp [h]
theorem within_eq (n lo hi : Int) : impl_within.f n lo hi = some (inB n lo hi) := by
  unfold impl_within.f inB
  by_cases h : lo ≤ n <;> simp [h]
end Go.Proofs.Ytmlhhlmfhkhcnaa.P
