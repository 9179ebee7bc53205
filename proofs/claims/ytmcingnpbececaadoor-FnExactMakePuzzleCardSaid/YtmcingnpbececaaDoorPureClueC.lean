/- A clue's test on numbers. -/
import Derived.Test.YtmcingnpbececaaDoorPureIn
namespace Go.Proofs.YtmcingnpbececaaDoor.P
open Go.RowKit Go.Proofs.YtmcingnpbececaaDoorW.PrintWords Go.Proofs.YtmcingnpbececaaDoorW.PrintLast Go.Proofs.YtmcingnpbececaaDoorW.PrintMore Go.Proofs.YtmcingnpbececaaDoor.Base
set_option linter.unusedVariables false

def clueB (a b c : Int) : Bool :=
  inB c 0 1000 && (if a = 0 ∨ a = 1 ∨ a = 5 then b == 0 else if a = 2 then inB b 0 9 else if a = 3 then inB b 1 40 && decide (c ≤ 1) else if a = 4 then inB b 2 9 && decide (c ≤ 1) else false)
def clueOk (x : S51) : Bool := clueB x.f0 x.f1 x.f2
theorem lt2 (c : Int) : decide (c < 2) = decide (c ≤ 1) := by
  by_cases h : c ≤ 1
  · rw [decide_eq_true h, decide_eq_true (show c < 2 by omega)]
  · rw [decide_eq_false h, decide_eq_false (show ¬ c < 2 by omega)]
end Go.Proofs.YtmcingnpbececaaDoor.P
