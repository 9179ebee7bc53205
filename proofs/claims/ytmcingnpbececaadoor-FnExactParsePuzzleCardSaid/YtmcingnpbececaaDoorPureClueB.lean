/- A clue's test, as the program and as the reference compute it; no condition. -/
import Derived.Test.YtmcingnpbececaaDoorPx3
import Derived.Test.YtmcingnpbececaaDoorPx6
import Derived.Test.YtmcingnpbececaaDoorPureIn
namespace Go.Proofs.YtmcingnpbececaaDoor.P
open Go.RowKit Go.Proofs.YtmcingnpbececaaDoorW.PrintWords Go.Proofs.YtmcingnpbececaaDoorW.PrintLast Go.Proofs.YtmcingnpbececaaDoorW.PrintMore Go.Proofs.YtmcingnpbececaaDoor.Base
set_option linter.unusedVariables false

def clueB (a b c : Int) : Bool :=
  inB c 0 1000 && (if a = 0 ∨ a = 1 ∨ a = 5 then b == 0 else if a = 2 then inB b 0 9 else if a = 3 then inB b 1 40 && decide (c ≤ 1) else if a = 4 then inB b 2 9 && decide (c ≤ 1) else false)
def clueOk (x : S51) : Bool := clueB x.f0 x.f1 x.f2
theorem lt2 (c : Int) : decide (c < 2) = decide (c ≤ 1) := by
  by_cases h : c ≤ 1
  · rw [decide_eq_true h, decide_eq_true (show c < 2 by omega)]
  · rw [decide_eq_false h, decide_eq_false (show ¬ c < 2 by omega)]
theorem spec_clue (k : Nat) (a b c : Int) : spec_pzClue.f (k + 1) a b c = some (clueB a b c) := by
  simp only [spec_pzClue.f, spec_pzClue.j0, l1In_eq, Option.bind_some, clueB, lt2]
  cases inB c 0 1000
  · simp
  by_cases h0 : a = 0
  · simp [h0]
  by_cases h1 : a = 1
  · simp [h1]
  by_cases h5 : a = 5
  · simp [h5]
  by_cases h2 : a = 2
  · simp [h2]
  by_cases h3 : a = 3
  · simp [h3]
    cases inB b 1 40 <;> simp
  by_cases h4 : a = 4
  · simp [h4]
    cases inB b 2 9 <;> simp
  simp [h0, h1, h5, h2, h3, h4]
theorem impl_clue (k : Nat) (a b c : Int) : impl_IsClue.f (k + 1) a b c = some (clueB a b c) := by
  simp only [impl_IsClue.f, impl_IsClue.j0, within_eq, Option.bind_some, clueB]
  cases inB c 0 1000
  · simp
  by_cases h0 : a = 0
  · simp [h0]
  by_cases h1 : a = 1
  · simp [h1]
  by_cases h5 : a = 5
  · simp [h5]
  by_cases h2 : a = 2
  · simp [h2]
  by_cases h3 : a = 3
  · simp [h3]
    cases inB b 1 40 <;> simp
  by_cases h4 : a = 4
  · simp [h4]
    cases inB b 2 9 <;> simp
  simp [h0, h1, h5, h2, h3, h4]
end Go.Proofs.YtmcingnpbececaaDoor.P
