/- The law of AddClue answers true at all clues; no condition. -/
import Derived.Test.YtmcingnpbececaaPx9
import Derived.Test.YtmcingnpbececaaExtCloneClue
import Derived.Test.YtmcingnpbececaaPureClue
import Derived.Test.YtmcingnpbececaaPureClueHeld
set_option linter.unusedVariables false
namespace Go.Proofs.Ytmcingnpbececaa.Pure
open Go.RowKit Go.Proofs.YtmcingnpbececaaW.PrintWords Go.Proofs.Ytmcingnpbececaa.P Go.Proofs.Ytmcingnpbececaa.Base

theorem spec_clue_ev (a b c : Int) : Ev (fun k => spec_pzClue.f k a b c) (clueB a b c) := ⟨1, fun k hk => by
  obtain ⟨j, rfl⟩ : ∃ j, k = j + 1 := ⟨k - 1, by omega⟩
  exact spec_clue j a b c⟩
theorem impl_clue_ev (a b c : Int) : Ev (fun k => impl_IsClue.f k a b c) (clueB a b c) := ⟨1, fun k hk => by
  obtain ⟨j, rfl⟩ : ∃ j, k = j + 1 := ⟨k - 1, by omega⟩
  exact impl_clue j a b c⟩
theorem add_ev (l : List S34) (a b c : Int) (hn : l.length ≤ 1048576) : ∃ r : List S34 × Bool, Ev (fun k => spec_AddClue.f k l a b c) r ∧ Ev (fun k => impl_AddClue.f k l a b c) r ∧ r.1.length ≤ 1048576 := by
  cases hg : goodP l with
  | false =>
    refine ⟨([], false), ?_, ?_, Nat.zero_le _⟩
    · simp only [spec_AddClue.f]
      refine Ev_bind (pzGood_ev l hn) ?_
      rw [hg]
      exact Ev_neg (by decide) (Ev.now _)
    · simp only [impl_AddClue.f]
      refine Ev_some (implIsPuzzle_eq l) ?_
      rw [hg]
      exact Ev_neg (by decide) (Ev.now _)
  | true =>
    cases hc : clueB a b c with
    | false =>
      refine ⟨([], false), ?_, ?_, Nat.zero_le _⟩
      · simp only [spec_AddClue.f]
        refine Ev_bind (pzGood_ev l hn) ?_
        rw [hg]
        refine Ev_pos rfl (Ev_bind (spec_clue_ev a b c) ?_)
        rw [hc]
        exact Ev_neg (by decide) (Ev.now _)
      · simp only [impl_AddClue.f]
        refine Ev_some (implIsPuzzle_eq l) ?_
        rw [hg]
        refine Ev_pos rfl (Ev_bind (impl_clue_ev a b c) ?_)
        rw [hc]
        exact Ev_neg (by decide) (Ev.now _)
    | true =>
      by_cases h6 : (l.length : Int) = 6
      · refine ⟨([], false), ?_, ?_, Nat.zero_le _⟩
        · simp only [spec_AddClue.f]
          refine Ev_bind (pzGood_ev l hn) ?_
          rw [hg]
          refine Ev_pos rfl (Ev_bind (spec_clue_ev a b c) ?_)
          rw [hc]
          exact Ev_pos rfl (Ev_pos h6 (Ev.now _))
        · simp only [impl_AddClue.f]
          refine Ev_some (implIsPuzzle_eq l) ?_
          rw [hg]
          refine Ev_pos rfl (Ev_bind (impl_clue_ev a b c) ?_)
          rw [hc]
          exact Ev_pos rfl (Ev_pos h6 (Ev.now _))
      · have hl : l.length ≤ 6 := by
          unfold goodP at hg
          rw [Bool.and_eq_true, decide_eq_true_eq] at hg
          exact hg.1
        refine ⟨(l ++ [⟨a, b, c⟩], true), ?_, ?_, by rw [List.length_append]; simp only [List.length_cons, List.length_nil]; omega⟩
        · simp only [spec_AddClue.f]
          refine Ev_bind (pzGood_ev l hn) ?_
          rw [hg]
          refine Ev_pos rfl (Ev_bind (spec_clue_ev a b c) ?_)
          rw [hc]
          refine Ev_pos rfl (Ev_neg h6 (Ev_some (a := []) rfl (Ev_pos (by simp only [List.length_nil]; omega) ?_)))
          refine Ev_some (a := l) rfl (Ev_some (a := [⟨a, b, c⟩]) rfl (Ev_pos (by simp only [List.length_cons, List.length_nil]; omega) (Ev.now _)))
        · simp only [impl_AddClue.f]
          refine Ev_some (implIsPuzzle_eq l) ?_
          rw [hg]
          refine Ev_pos rfl (Ev_bind (impl_clue_ev a b c) ?_)
          rw [hc]
          refine Ev_pos rfl (Ev_neg h6 (Ev_some (a := l) (by rw [clone_Clue.f, if_pos (by omega)]) ?_))
          refine Ev_some (a := [⟨a, b, c⟩]) rfl (Ev_pos (by simp only [List.length_cons, List.length_nil]; omega) (Ev.now _))
theorem FnExactAddClue : laws_FnExactAddClue.Pure := by
  intro l a b c ⟨hm, _⟩ _ _ _
  refine Ev.rounds (g := fun k => laws_FnExactAddClue.f k l a b c) ?_
  by_cases hn : l.length ≤ 1048576
  · have hl : (l.map toC).length ≤ 1048576 := by rw [List.length_map]; exact hn
    have h1 := toPuzzle_ev l hn
    have hc : laws_toClue.f a b c = some (a, b, c) := rfl
    obtain ⟨⟨d1, d2⟩, h2, h4, hd⟩ := add_ev (l.map toC) a b c hl
    have h3 := eqPuzzle_ev (l.map toC) hl
    have h8 := markPuzzle_ev (l.map toC) hl
    have h5 := eqPuzzle_ev d1 hd
    have h6 := markPuzzle_ev d1 hd
    have h7 := heldPuzzle_ev d1.length hd
    simp only [laws_FnExactAddClue.f]
    refine Ev_some (szPuzzle_eq l hm) ?_
    simp only [if_pos hn]
    refine Ev_neg (by omega) ?_
    refine Ev_bind h1 (Ev_some hc (Ev_bind h2 (Ev_bind h1 (Ev_some hc (Ev_bind h4 (Ev_bind h5 (Ev_pos rfl ?_)))))))
    refine Ev_step (fun k => by rw [laws_FnExactAddClue.j0]) ?_
    refine Ev_neg (by simp) (Ev_bind h1 (Ev_bind h3 (Ev_pos rfl (Ev_bind h8 (Ev_neg (by omega) (Ev_bind h5 (Ev_pos rfl ?_)))))))
    refine Ev_step (fun k => by rw [laws_FnExactAddClue.j1]) ?_
    refine Ev_neg (by simp) (Ev_bind h6 (Ev_bind h7 (Ev_neg (by omega) (Ev_pos rfl (Ev_bind h1 (Ev_some hc (Ev_bind h4 (Ev_bind h5 (Ev_pos rfl ?_)))))))))
    refine Ev_step (fun k => by rw [laws_FnExactAddClue.j2]) ?_
    refine Ev_neg (by simp) (Ev_bind h7 (Ev_neg (by omega) (Ev_pos rfl (Ev.now _))))
  · refine ⟨0, fun k _ => ?_⟩
    simp only [laws_FnExactAddClue.f, szPuzzle_eq l hm, if_neg hn, Option.bind_some]
    rw [if_pos (by omega)]
end Go.Proofs.Ytmcingnpbececaa.Pure
