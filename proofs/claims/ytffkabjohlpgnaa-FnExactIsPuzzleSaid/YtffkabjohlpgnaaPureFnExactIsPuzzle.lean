/- The law of IsPuzzle answers true at all clues; no condition. -/
import Derived.Test.YtffkabjohlpgnaaPureClue
namespace Go.Proofs.Ytffkabjohlpgnaa.Pure
open Go.RowKit Go.Proofs.YtffkabjohlpgnaaW.PrintWords Go.Proofs.Ytffkabjohlpgnaa.P Go.Proofs.Ytffkabjohlpgnaa.Base

theorem FnExactIsPuzzle : laws_FnExactIsPuzzle.Pure := by
  intro l ⟨hm, _⟩
  refine Ev.rounds (g := fun k => laws_FnExactIsPuzzle.f k l) ?_
  by_cases hn : l.length ≤ 1048576
  · have hl : (l.map toC).length ≤ 1048576 := by rw [List.length_map]; exact hn
    obtain ⟨K1, h1⟩ := toPuzzle_ev l hn
    obtain ⟨K2, h2⟩ := specIsPuzzle_ev (l.map toC) hl
    obtain ⟨K3, h3⟩ := eqPuzzle_ev (l.map toC) hl
    refine ⟨K1 + K2 + K3, fun k hk => ?_⟩
    simp only [laws_FnExactIsPuzzle.f, szPuzzle_eq l hm, if_pos hn, Option.bind_some, h1 k (by omega), h2 k (by omega), h3 k (by omega), implIsPuzzle_eq]
    rw [if_neg (by omega)]
    simp
  · refine ⟨0, fun k _ => ?_⟩
    simp only [laws_FnExactIsPuzzle.f, szPuzzle_eq l hm, if_neg hn, Option.bind_some]
    rw [if_pos (by omega)]
end Go.Proofs.Ytffkabjohlpgnaa.Pure
