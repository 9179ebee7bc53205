/- The law of FewestTurns answers true at all rows; no condition. -/
import Derived.Test.YtmdpiagpkocheaaZfew8
import Derived.Test.YtmdpiagpkocheaaZfew7
import Derived.Test.YtmdpiagpkocheaaZfew3
set_option linter.unusedVariables false
namespace Go.Proofs.Ytmdpiagpkocheaa.Pure
open Go.RowKit Go.Proofs.YtmdpiagpkocheaaW.PrintWords Go.Proofs.Ytmdpiagpkocheaa.P Go.Proofs.Ytmdpiagpkocheaa.Base Go.Proofs.Ytmdpiagpkocheaa.Order

theorem FnExactFewestTurns : laws_FnExactFewestTurns.Pure := by
  intro l ⟨hm, _⟩
  refine Ev.rounds (g := fun k => laws_FnExactFewestTurns.f k l) ?_
  by_cases hn : l.length ≤ 1048576
  · have h1 := toIntS_ev l hn
    simp only [laws_FnExactFewestTurns.f]
    refine Ev_neg (by omega) (Ev_bind h1 (Ev_bind (fewSpec_ev l hn) (Ev_bind h1 (Ev_bind (fewImpl_ev l hn) (Ev_pos rfl ?_)))))
    refine Ev_step (fun k => by rw [laws_FnExactFewestTurns.j0]) ?_
    exact Ev_neg (by simp) (Ev_bind h1 (Ev_bind (eqIntS_ev l hn) (Ev_pos rfl (Ev.now _))))
  · refine ⟨0, fun k _ => ?_⟩
    simp only [laws_FnExactFewestTurns.f]
    rw [if_pos (by omega)]
end Go.Proofs.Ytmdpiagpkocheaa.Pure
