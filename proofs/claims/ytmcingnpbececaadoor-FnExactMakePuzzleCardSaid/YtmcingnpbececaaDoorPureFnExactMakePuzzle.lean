/- The law of MakePuzzle answers true at all numbers; no condition. -/
import Derived.Test.YtmcingnpbececaaDoorPx11
import Derived.Test.YtmcingnpbececaaDoorPureMake
import Derived.Test.YtmcingnpbececaaDoorPureClueEq
import Derived.Test.YtmcingnpbececaaDoorPureClueHeld
set_option linter.unusedVariables false
namespace Go.Proofs.YtmcingnpbececaaDoor.Pure
open Go.RowKit Go.Proofs.YtmcingnpbececaaDoorW.PrintWords Go.Proofs.YtmcingnpbececaaDoor.P Go.Proofs.YtmcingnpbececaaDoor.Base

theorem FnExactMakePuzzle : laws_FnExactMakePuzzle.Pure := by
  intro a b n s _ _ _ _
  refine Ev.rounds (g := fun k => laws_FnExactMakePuzzle.f k a b n s) ?_
  have hc : laws_toHidden.f a b = some (a, b) := rfl
  obtain ⟨h2, h4⟩ := makeBoth_ev a b n s
  have hl := madeR_len a b n s
  obtain ⟨d1, d2, hr⟩ : ∃ d1 d2, madeR a b n s = (d1, d2) := ⟨_, _, rfl⟩
  rw [hr] at h2 h4 hl
  simp only at hl
  have h5 := eqPuzzle_ev d1 (by omega)
  have h6 := markPuzzle_ev d1 (by omega)
  have h7 := heldPuzzle_ev d1.length (by omega)
  have e0 : (d2 != d2) = false := by simp
  simp only [laws_FnExactMakePuzzle.f]
  refine Ev_some hc (Ev_bind h2 (Ev_some hc (Ev_bind h4 (Ev_bind h5 (Ev_pos rfl ?_)))))
  rw [e0]
  refine Ev_step (fun k => by rw [laws_FnExactMakePuzzle.j0]) (Ev_neg (by decide) (Ev_bind h6 (Ev_bind h7 (Ev_neg (show ¬ 1 + 3 * (d1.length : Int) < 0 by omega) (Ev_pos rfl (Ev_some hc (Ev_bind h4 (Ev_bind h5 (Ev_pos rfl ?_)))))))))
  rw [e0]
  exact Ev_step (fun k => by rw [laws_FnExactMakePuzzle.j1]) (Ev_neg (by decide) (Ev_bind h7 (Ev_neg (show ¬ 1 + 3 * (d1.length : Int) < 0 by omega) (Ev_pos rfl (Ev.now _)))))
end Go.Proofs.YtmcingnpbececaaDoor.Pure
