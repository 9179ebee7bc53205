/- The law of PuzzleText answers true at all clues; no condition. -/
import Derived.Test.YtmcingnpbececaaDoorPx8
import Derived.Test.YtmcingnpbececaaDoorPx6
import Derived.Test.YtmcingnpbececaaDoorPx8
import Derived.Test.YtmcingnpbececaaDoorPurePText
namespace Go.Proofs.YtmcingnpbececaaDoor.Pure
open Go.RowKit Go.Proofs.YtmcingnpbececaaDoorW.PrintWords Go.Proofs.YtmcingnpbececaaDoor.P Go.Proofs.YtmcingnpbececaaDoor.Base

theorem ptext_ev (cs : List S51) (hn : cs.length ≤ 1048576) : ∃ r, Ev (fun k => spec_PuzzleText.f k cs) r ∧ Ev (fun k => impl_PuzzleText.f k cs) r := by
  simp only [spec_PuzzleText.f, impl_PuzzleText.f]
  have hg := pzGood_ev cs hn
  by_cases h : goodP cs = true
  · obtain ⟨a, b⟩ := text_ev cs h
    exact ⟨(_, true), Ev_bind hg (Ev_pos h (Ev_bind a (Ev.now _))), Ev_some (implIsPuzzle_eq cs) (Ev_pos h (Ev_bind b (Ev.now _)))⟩
  · exact ⟨(⟨#[]⟩, false), Ev_bind hg (Ev_neg h (Ev.now _)), Ev_some (implIsPuzzle_eq cs) (Ev_neg h (Ev.now _))⟩
theorem FnExactPuzzleText : laws_FnExactPuzzleText.Pure := by
  intro l ⟨hm, _⟩
  refine Ev.rounds (g := fun k => laws_FnExactPuzzleText.f k l) ?_
  by_cases hn : l.length ≤ 1048576
  · have hl : (l.map toC).length ≤ 1048576 := by rw [List.length_map]; exact hn
    have h1 := toPuzzle_ev l hn
    obtain ⟨⟨r1, r2⟩, h2, h4⟩ := ptext_ev (l.map toC) hl
    have h3 := eqPuzzle_ev (l.map toC) hl
    simp only [laws_FnExactPuzzleText.f]
    refine Ev_some (szPuzzle_eq l hm) ?_
    simp only [if_pos hn]
    refine Ev_neg (by omega) ?_
    refine Ev_bind h1 (Ev_bind h2 (Ev_bind h1 (Ev_bind h4 (Ev_pos rfl ?_))))
    refine Ev_step (fun k => by rw [laws_FnExactPuzzleText.j0]) ?_
    exact Ev_neg (by simp) (Ev_bind h1 (Ev_bind h3 (Ev_pos rfl (Ev.now _))))
  · refine ⟨0, fun k _ => ?_⟩
    simp only [laws_FnExactPuzzleText.f, szPuzzle_eq l hm, if_neg hn, Option.bind_some]
    rw [if_pos (by omega)]
end Go.Proofs.YtmcingnpbececaaDoor.Pure
