/- Tests of bounds; no condition. -/
import Derived.Test.YtpinafbmjdeheaaDoorPx1
import Derived.Test.YtpinafbmjdeheaaDoorPx4
import Derived.Test.YtpinafbmjdeheaaDoorBase
namespace Go.Proofs.YtpinafbmjdeheaaDoor.P
open Go.RowKit Go.Proofs.YtpinafbmjdeheaaDoorW.PrintWords Go.Proofs.YtpinafbmjdeheaaDoorW.PrintLast Go.Proofs.YtpinafbmjdeheaaDoorW.PrintMore Go.Proofs.YtpinafbmjdeheaaDoor.Base

theorem l1In_eq (n lo hi : Int) : spec_l1In.f n lo hi = some (inB n lo hi) := by
  unfold spec_l1In.f inB
  by_cases h : lo ≤ n <;> simp [h]
theorem within_eq (n lo hi : Int) : impl_within.f n lo hi = some (inB n lo hi) := by
  unfold impl_within.f inB
  by_cases h : lo ≤ n <;> simp [h]
end Go.Proofs.YtpinafbmjdeheaaDoor.P
