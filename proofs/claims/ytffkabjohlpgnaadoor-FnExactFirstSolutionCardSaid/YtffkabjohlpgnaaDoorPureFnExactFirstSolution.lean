/- The law of FirstSolution answers true at all clues; no condition. -/
import Derived.Test.YtffkabjohlpgnaaDoorPx20
import Derived.Test.YtffkabjohlpgnaaDoorPureSol
namespace Go.Proofs.YtffkabjohlpgnaaDoor.Pure
open Go.RowKit Go.Proofs.YtffkabjohlpgnaaDoorW.PrintWords Go.Proofs.YtffkabjohlpgnaaDoor.P Go.Proofs.YtffkabjohlpgnaaDoor.Base

/-- The first book of a list. -/
def firstB (s : List S30) : Int × Int × Bool := if (s.length : Int) = 0 then (0, 0, false) else ((rd_T30 s 0).f0, (rd_T30 s 0).f1, true)
theorem firstB_eq (s : List S30) : (if (s.length : Int) = 0 then (some (0, 0, false)) else (if 0 < (s.length : Int) then (some ((rd_T30 s 0).f0, (rd_T30 s 0).f1, true)) else (none))) = some (firstB s) := by
  unfold firstB
  by_cases h : (s.length : Int) = 0
  · rw [if_pos h, if_pos h]
  · rw [if_neg h, if_neg h, if_pos (by omega)]
theorem specFirstSolution_ev (cs : List S28) (hn : cs.length ≤ 1048576) : Ev (fun k => spec_FirstSolution.f k cs) (if goodP cs = true then firstB (sols cs) else (0, 0, false)) := by
  simp only [spec_FirstSolution.f]
  refine Ev_bind (pzGood_ev cs hn) ?_
  by_cases h : goodP cs = true
  · simp only [if_pos h]
    obtain ⟨h1, h2⟩ := good_split h
    refine Ev_bind (pzAll_ev cs h1 h2) ?_
    exact Ev.congr (fun _ => firstB_eq _) (Ev.now _)
  · simp only [if_neg h]
    exact Ev.now _
theorem implFirstSolution_eq (cs : List S28) : impl_FirstSolution.f cs = some (if goodP cs = true then firstB (sols cs) else (0, 0, false)) := by
  rw [impl_FirstSolution.f, impl_Solutions.f, implIsPuzzle_eq]
  simp only [Option.bind_some]
  by_cases h : goodP cs = true
  · simp only [if_pos h]
    rw [implAll_eq cs (good_split h).2]
    simp only [Option.bind_some, if_true]
    exact firstB_eq _
  · simp only [if_neg h]
    rfl
theorem eqHid (a b : Int) : laws_eqHidden.f a b a b = some true := by
  rw [laws_eqHidden.f, if_pos rfl, if_pos rfl]

theorem FnExactFirstSolution : laws_FnExactFirstSolution.Pure := by
  intro l ⟨hm, _⟩
  refine Ev.rounds (g := fun k => laws_FnExactFirstSolution.f k l) ?_
  by_cases hn : l.length ≤ 1048576
  · have hl : (l.map toC).length ≤ 1048576 := by rw [List.length_map]; exact hn
    have h1 := toPuzzle_ev l hn
    have h2 := specFirstSolution_ev (l.map toC) hl
    have h3 := eqPuzzle_ev (l.map toC) hl
    have h4 := implFirstSolution_eq (l.map toC)
    simp only [laws_FnExactFirstSolution.f]
    refine Ev_some (szPuzzle_eq l hm) ?_
    simp only [if_pos hn]
    refine Ev_neg (by omega) ?_
    refine Ev_bind h1 (Ev_bind h2 (Ev_bind h1 (Ev_some h4 (Ev_some (eqHid _ _) (Ev_pos rfl ?_)))))
    refine Ev_step (fun k => by rw [laws_FnExactFirstSolution.j0]) ?_
    exact Ev_neg (by simp) (Ev_bind h1 (Ev_bind h3 (Ev_pos rfl (Ev.now _))))
  · refine ⟨0, fun k _ => ?_⟩
    simp only [laws_FnExactFirstSolution.f, szPuzzle_eq l hm, if_neg hn, Option.bind_some]
    rw [if_pos (by omega)]
end Go.Proofs.YtffkabjohlpgnaaDoor.Pure
