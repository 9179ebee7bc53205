/- The law of FirstDesk answers true; no condition. -/
import Derived.Test.YtmcingnpbececaaPx5
namespace Go.Proofs.Ytmcingnpbececaa.Pure
open Go.RowKit Go.Proofs.YtmcingnpbececaaW.PrintWords Go.Proofs.Ytmcingnpbececaa.P

set_option maxRecDepth 100000 in
theorem FnExactFirstDesk : laws_FnExactFirstDesk.Pure := ⟨64, by decide +kernel⟩
end Go.Proofs.Ytmcingnpbececaa.Pure
