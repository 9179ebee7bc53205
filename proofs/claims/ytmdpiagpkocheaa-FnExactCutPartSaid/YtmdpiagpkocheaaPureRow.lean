/- Rows of whole numbers are copied, and searched by the reference; the lists are at most 1048576 long. -/
import Derived.Test.YtmdpiagpkocheaaPx2
import Derived.Test.YtmdpiagpkocheaaPureToInt
namespace Go.Proofs.Ytmdpiagpkocheaa.P
open Go.RowKit Go.Proofs.YtmdpiagpkocheaaW.PrintWords Go.Proofs.YtmdpiagpkocheaaW.PrintLast Go.Proofs.YtmdpiagpkocheaaW.PrintMore Go.Proofs.Ytmdpiagpkocheaa.Base
set_option linter.unusedVariables false

theorem has_drop (l : List Int) (x : Int) {i : Nat} (h : i < l.length) : (l.drop i).contains x = (x == l.getD i 0 || (l.drop (i + 1)).contains x) := by
  rw [List.drop_eq_getElem_cons h, List.contains_cons, getD_at l 0 h]
theorem l1Has_l0 (l : List Int) (x : Int) (hn : l.length ≤ 1048576) : ∀ n i : Nat, i + n = l.length → Ev (fun k => spec_l1Has.l0 k x l (l.length : Int) (i : Int)) ((l.drop i).contains x) := by
  intro n
  induction n with
  | zero =>
    intro i hi
    refine Ev_step (fun k => ?_) (Ev.now _)
    rw [spec_l1Has.l0, if_neg (by omega), List.drop_of_length_le (by omega)]
    rfl
  | succ n ih =>
    intro i hi
    have h : i < l.length := by omega
    refine Ev_step (fun k => by rw [spec_l1Has.l0, if_pos (by omega), if_pos (by omega), if_pos (by omega), rd_nat, nextI i (by omega)]) ?_
    rw [has_drop l x h]
    by_cases e : l.getD i 0 = x
    · rw [e, beq_self_eq_true, Bool.true_or]
      exact Ev_pos rfl (Ev.now _)
    · rw [beq_false_of_ne (fun h => e h.symm), Bool.false_or]
      exact Ev_neg e (ih (i + 1) (by omega))
theorem l1Has_ev (l : List Int) (x : Int) (hn : l.length ≤ 1048576) : Ev (fun k => spec_l1Has.f k l x) (l.contains x) :=
  Ev.congr (fun k => by rw [spec_l1Has.f]; rfl) (l1Has_l0 l x hn l.length 0 (by omega))
end Go.Proofs.Ytmdpiagpkocheaa.P
