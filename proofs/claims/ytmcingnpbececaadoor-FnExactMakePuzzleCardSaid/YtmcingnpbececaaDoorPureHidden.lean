/- What is a hidden book; no condition. -/
import Derived.Test.YtmcingnpbececaaDoorPx1
import Derived.Test.YtmcingnpbececaaDoorPx6
import Derived.Test.YtmcingnpbececaaDoorPureIn
namespace Go.Proofs.YtmcingnpbececaaDoor.P
open Go.RowKit Go.Proofs.YtmcingnpbececaaDoorW.PrintWords Go.Proofs.YtmcingnpbececaaDoorW.PrintLast Go.Proofs.YtmcingnpbececaaDoorW.PrintMore Go.Proofs.YtmcingnpbececaaDoor.Base
set_option linter.unusedVariables false

def hiddenB (a b : Int) : Bool := inB a 2 40 && inB b 1 (wrap64 (Int.tdiv a 2))
theorem spec_hidden (a b : Int) : spec_pzBook.f a b = some (hiddenB a b) := by
  simp only [spec_pzBook.f, l1In_eq, Option.bind_some, hiddenB]
  cases inB a 2 40 <;> simp
theorem impl_hidden (a b : Int) : impl_IsHidden.f a b = some (hiddenB a b) := by
  simp only [impl_IsHidden.f, within_eq, Option.bind_some, hiddenB]
  cases inB a 2 40 <;> simp
theorem hidden_in {a b : Int} (h : hiddenB a b = true) : ∃ p l : Nat, a = p ∧ b = l ∧ 2 ≤ p ∧ p ≤ 40 ∧ 1 ≤ l ∧ 2 * l ≤ p := by
  simp only [hiddenB, inB, Bool.and_eq_true, decide_eq_true_eq] at h
  obtain ⟨⟨h1, h2⟩, h3, h4⟩ := h
  have e : wrap64 (Int.tdiv a 2) = a / 2 := by
    rw [Int.tdiv_eq_ediv_of_nonneg (by omega), w64 (by omega) (by omega)]
  rw [e] at h4
  exact ⟨a.toNat, b.toNat, by omega, by omega, by omega, by omega, by omega, by omega⟩

end Go.Proofs.YtmcingnpbececaaDoor.P
