/- A part of a binding: the program and the reference tell the same. -/
import Derived.Test.YtmdpiagpkocheaaPx3
import Derived.Test.YtmdpiagpkocheaaPx6
import Derived.Test.YtmdpiagpkocheaaPureBind
namespace Go.Proofs.Ytmdpiagpkocheaa.P
open Go.RowKit Go.Proofs.YtmdpiagpkocheaaW.PrintWords Go.Proofs.YtmdpiagpkocheaaW.PrintLast Go.Proofs.YtmdpiagpkocheaaW.PrintMore Go.Proofs.Ytmdpiagpkocheaa.Base Go.Proofs.Ytmdpiagpkocheaa.Order
set_option linter.unusedVariables false

theorem bind_len {b : List Int} (h : bindS b = true) : 1 ≤ b.length ∧ b.length ≤ 8 := by
  unfold bindS at h
  rw [Bool.and_eq_true, decide_eq_true_eq] at h
  exact h.1
/-- Is there a part? -/
def partB (b : List Int) (f t : Int) : Bool := decide (0 ≤ f ∧ f ≤ t ∧ t ≤ (b.length : Int) - 1)
theorem biPart_ev (b : List Int) (f t : Int) (hn : b.length ≤ 1048576) : Ev (fun k => spec_biPart.f k b f t) (bindS b && partB b f t) := by
  simp only [spec_biPart.f]
  refine Ev_bind (biGood_ev b hn) ?_
  cases hb : bindS b with
  | false => exact Ev_neg (by decide) (Ev.now _)
  | true =>
    have hl := bind_len hb
    rw [Bool.true_and, w64 (x := (b.length : Int) - 1) (by omega) (by omega)]
    refine Ev_pos rfl (Ev_some (l1In_eq _ _ _) ?_)
    unfold inB partB
    by_cases h : 0 ≤ f ∧ f ≤ (b.length : Int) - 1
    · rw [decide_eq_true h]
      refine Ev_pos rfl (Ev_some (l1In_eq _ _ _) ?_)
      unfold inB
      rw [show decide (0 ≤ f ∧ f ≤ t ∧ t ≤ (b.length : Int) - 1) = decide (f ≤ t ∧ t ≤ (b.length : Int) - 1) from decide_eq_decide.2 (by omega)]
      exact Ev.now _
    · rw [decide_eq_false h, show decide (0 ≤ f ∧ f ≤ t ∧ t ≤ (b.length : Int) - 1) = false from decide_eq_false (by omega)]
      exact Ev_neg (by decide) (Ev.now _)
theorem isPart_eq (b : List Int) (f t : Int) (hb : bindS b = true) : impl_isPartOf.f b f t = some (partB b f t) := by
  have hl := bind_len hb
  rw [impl_isPartOf.f, w64 (x := (b.length : Int) - 1) (by omega) (by omega), within_eq]
  simp only [Option.bind_some]
  unfold inB partB
  by_cases h : 0 ≤ t ∧ t ≤ (b.length : Int) - 1
  · rw [decide_eq_true h, if_pos rfl, within_eq]
    simp only [Option.bind_some]
    unfold inB
    rw [show decide (0 ≤ f ∧ f ≤ t ∧ t ≤ (b.length : Int) - 1) = decide (0 ≤ f ∧ f ≤ t) from decide_eq_decide.2 (by omega)]
  · rw [decide_eq_false h, show decide (0 ≤ f ∧ f ≤ t ∧ t ≤ (b.length : Int) - 1) = false from decide_eq_false (by omega)]
    rfl
end Go.Proofs.Ytmdpiagpkocheaa.P
