/- The law of IsHidden answers true at all numbers; no condition. -/
import Derived.Test.YtjgjodmiamkegaaPx1
namespace Go.Proofs.Ytjgjodmiamkegaa.Pure
open Go.RowKit Go.Proofs.Ytjgjodmiamkegaa.P

def inB (n lo hi : Int) : Bool := decide (lo ≤ n ∧ n ≤ hi)
theorem l1In_eq (n lo hi : Int) : spec_l1In.f n lo hi = some (inB n lo hi) := by
  unfold spec_l1In.f inB
  by_cases h : lo ≤ n <;> simp [h]
theorem within_eq (n lo hi : Int) : impl_within.f n lo hi = some (inB n lo hi) := by
  unfold impl_within.f inB
  by_cases h : lo ≤ n <;> simp [h]
def hiddenB (a b : Int) : Bool := inB a 2 40 && inB b 1 (wrap64 (Int.tdiv a 2))
theorem spec_hidden (a b : Int) : spec_IsHidden.f a b = some (hiddenB a b) := by
  simp only [spec_IsHidden.f, spec_pzBook.f, l1In_eq, Option.bind_some, hiddenB]
  cases inB a 2 40 <;> simp
theorem impl_hidden (a b : Int) : impl_IsHidden.f a b = some (hiddenB a b) := by
  simp only [impl_IsHidden.f, within_eq, Option.bind_some, hiddenB]
  cases inB a 2 40 <;> simp
theorem FnExactIsHidden : laws_FnExactIsHidden.Pure := by
  intro a b _ _
  simp only [laws_FnExactIsHidden.f, laws_toHidden.f, Option.bind_some, spec_hidden, impl_hidden]
  simp

end Go.Proofs.Ytjgjodmiamkegaa.Pure
