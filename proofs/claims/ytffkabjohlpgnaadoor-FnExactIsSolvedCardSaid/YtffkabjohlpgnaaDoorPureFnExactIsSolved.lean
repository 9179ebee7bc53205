/- The law of IsSolved answers true at all clues; no condition. -/
import Derived.Test.YtffkabjohlpgnaaDoorPx18
import Derived.Test.YtffkabjohlpgnaaDoorPureSol
namespace Go.Proofs.YtffkabjohlpgnaaDoor.Pure
open Go.RowKit Go.Proofs.YtffkabjohlpgnaaDoorW.PrintWords Go.Proofs.YtffkabjohlpgnaaDoor.P Go.Proofs.YtffkabjohlpgnaaDoor.Base

theorem specIsSolved_ev (cs : List S28) (hn : cs.length ≤ 1048576) : Ev (fun k => spec_IsSolved.f k cs) (if goodP cs = true then (((sols cs).length : Int) == 1, true) else (false, false)) := by
  simp only [spec_IsSolved.f]
  refine Ev_bind (pzGood_ev cs hn) ?_
  by_cases h : goodP cs = true
  · simp only [if_pos h]
    obtain ⟨h1, h2⟩ := good_split h
    simp only [spec_pzSolved.f]
    exact Ev_bind (Ev_bind (pzAll_ev cs h1 h2) (Ev.now _)) (Ev.now _)
  · simp only [if_neg h]
    exact Ev.now _
theorem implIsSolved_eq (cs : List S28) : impl_IsSolved.f cs = some (if goodP cs = true then (((sols cs).length : Int) == 1, true) else (false, false)) := by
  rw [impl_IsSolved.f, impl_Solutions.f, implIsPuzzle_eq]
  simp only [Option.bind_some]
  by_cases h : goodP cs = true
  · simp only [if_pos h]
    rw [implAll_eq cs (good_split h).2]
    rfl
  · simp only [if_neg h]
    rfl

theorem FnExactIsSolved : laws_FnExactIsSolved.Pure := by
  intro l ⟨hm, _⟩
  refine Ev.rounds (g := fun k => laws_FnExactIsSolved.f k l) ?_
  by_cases hn : l.length ≤ 1048576
  · have hl : (l.map toC).length ≤ 1048576 := by rw [List.length_map]; exact hn
    have h1 := toPuzzle_ev l hn
    have h2 := specIsSolved_ev (l.map toC) hl
    have h3 := eqPuzzle_ev (l.map toC) hl
    have h4 := implIsSolved_eq (l.map toC)
    simp only [laws_FnExactIsSolved.f]
    refine Ev_some (szPuzzle_eq l hm) ?_
    simp only [if_pos hn]
    refine Ev_neg (by omega) ?_
    refine Ev_bind h1 (Ev_bind h2 (Ev_bind h1 (Ev_some h4 (Ev_neg (by simp) ?_))))
    refine Ev_step (fun k => by rw [laws_FnExactIsSolved.j0]) ?_
    exact Ev_neg (by simp) (Ev_bind h1 (Ev_bind h3 (Ev_pos rfl (Ev.now _))))
  · refine ⟨0, fun k _ => ?_⟩
    simp only [laws_FnExactIsSolved.f, szPuzzle_eq l hm, if_neg hn, Option.bind_some]
    rw [if_pos (by omega)]
end Go.Proofs.YtffkabjohlpgnaaDoor.Pure
