/- Tests of bounds; no condition. -/
import Derived.Test.YtpinafbmjdeheaaPx1
import Derived.Test.YtpinafbmjdeheaaPx3
import Derived.Test.YtpinafbmjdeheaaBase
namespace Go.Proofs.Ytpinafbmjdeheaa.P
open Go.RowKit Go.Proofs.YtpinafbmjdeheaaW.PrintWords Go.Proofs.YtpinafbmjdeheaaW.PrintLast Go.Proofs.YtpinafbmjdeheaaW.PrintMore Go.Proofs.Ytpinafbmjdeheaa.Base

theorem l1In_eq (n lo hi : Int) : spec_l1In.f n lo hi = some (inB n lo hi) := by
  unfold spec_l1In.f inB
  by_cases h : lo ≤ n <;> simp [h]
theorem within_eq (n lo hi : Int) : impl_within.f n lo hi = some (inB n lo hi) := by
  unfold impl_within.f inB
  by_cases h : lo ≤ n <;> simp [h]
end Go.Proofs.Ytpinafbmjdeheaa.P
