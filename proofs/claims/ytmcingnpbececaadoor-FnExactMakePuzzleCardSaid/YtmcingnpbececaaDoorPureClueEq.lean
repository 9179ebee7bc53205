/- Puzzles are the same as themselves; the lists are at most 1048576 long. -/
import Derived.Test.YtmcingnpbececaaDoorPx9
import Derived.Test.YtmcingnpbececaaDoorBase
namespace Go.Proofs.YtmcingnpbececaaDoor.P
open Go.RowKit Go.Proofs.YtmcingnpbececaaDoorW.PrintWords Go.Proofs.YtmcingnpbececaaDoorW.PrintLast Go.Proofs.YtmcingnpbececaaDoorW.PrintMore Go.Proofs.YtmcingnpbececaaDoor.Base
set_option linter.unusedVariables false

theorem eqClueS_l0 (l : List S51) (hn : l.length ≤ 1048576) : ∀ n i : Nat, i + n = l.length → Ev (fun k => laws_eqClueS.l0 k l l (i : Int)) true := by
  intro n
  induction n with
  | zero =>
    intro i hi
    refine Ev.step (fun k => ?_) (Ev.now _)
    simp only [laws_eqClueS.l0]
    rw [if_neg (by omega)]
  | succ n ih =>
    intro i hi
    refine Ev.step (fun k => ?_) (ih (i + 1) (by omega))
    simp only [laws_eqClueS.l0, laws_eqClue.f, if_true, Option.bind_some]
    rw [if_pos (by omega), if_pos (by omega), if_pos (by omega), w64 (by omega) (by omega)]
    rfl
theorem eqClueS_ev (l : List S51) (hn : l.length ≤ 1048576) : Ev (fun k => laws_eqClueS.f k l l) true := by
  refine Ev.congr (f := fun k => laws_eqClueS.l0 k l l (0 : Nat)) (fun k => ?_) (eqClueS_l0 l hn l.length 0 (by omega))
  simp only [laws_eqClueS.f, if_true]
  rfl
theorem eqPuzzle_ev (l : List S51) (hn : l.length ≤ 1048576) : Ev (fun k => laws_eqPuzzle.f k l l) true := by
  refine Ev.congr (fun k => ?_) (eqClueS_ev l hn)
  simp only [laws_eqPuzzle.f]
  cases laws_eqClueS.f k l l with
  | none => rfl
  | some b => cases b <;> rfl
end Go.Proofs.YtmcingnpbececaaDoor.P
