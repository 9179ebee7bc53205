/- The law of BestClue answers true at all clues; no condition. -/
import Derived.Test.YtffkabjohlpgnaaDoorPx26
import Derived.Test.YtffkabjohlpgnaaDoorPureSol
set_option linter.unusedVariables false
namespace Go.Proofs.YtffkabjohlpgnaaDoor.Pure
open Go.RowKit Go.Proofs.YtffkabjohlpgnaaDoorW.PrintWords Go.Proofs.YtffkabjohlpgnaaDoor.P Go.Proofs.YtffkabjohlpgnaaDoor.Base

/-- The first of the clues from i on that fewer books fit than before. -/
def bestC (cs : List S28) : Nat → Nat → Int → Int → Int
  | 0, _, b, _ => b
  | n + 1, i, b, f => if ((sols ((cs.take (i + 1)).drop i)).length : Int) < f then bestC cs n (i + 1) i ((sols ((cs.take (i + 1)).drop i)).length : Int) else bestC cs n (i + 1) b f
theorem part_ok (cs : List S28) (hok : cs.all clueOk = true) (hn : cs.length ≤ 6) (i : Nat) : ((cs.take (i + 1)).drop i).length ≤ 6 ∧ ((cs.take (i + 1)).drop i).all clueOk = true := by
  refine ⟨by rw [List.length_drop, List.length_take]; omega, List.all_eq_true.2 fun x hx => List.all_eq_true.1 hok x ?_⟩
  exact List.mem_of_mem_take (List.mem_of_mem_drop hx)
theorem nat1 (i : Nat) : ((((i + 1 : Nat) : Int)).toNat) = i + 1 := Int.toNat_natCast _
theorem specBest_l0 (cs : List S28) (hok : cs.all clueOk = true) (hn : cs.length ≤ 6) : ∀ (n i : Nat) (b f : Int), i + n = cs.length → 1 ≤ i → Ev (fun k => spec_BestClue.l0 k b f (cs.length : Int) (i : Int) cs) (bestC cs n i b f, true) := by
  intro n
  induction n with
  | zero =>
    intro i b f hi h1
    refine Ev_step (fun k => ?_) (Ev.now _)
    rw [spec_BestClue.l0, if_neg (by omega), bestC]
  | succ n ih =>
    intro i b f hi h1
    have hp := part_ok cs hok hn i
    refine Ev_step (fun k => by rw [spec_BestClue.l0, if_pos (by omega), if_pos (by omega), next i (by omega), if_pos (by omega), if_pos (by omega), nat1, Int.toNat_natCast]) ?_
    refine Ev_bind (pzAll_ev _ hp.1 hp.2) (Ev_neg (by omega) ?_)
    rw [bestC]
    by_cases h : ((sols ((cs.take (i + 1)).drop i)).length : Int) < f
    · rw [if_pos h]
      exact Ev_pos h (ih (i + 1) _ _ (by omega) (by omega))
    · rw [if_neg h]
      exact Ev_neg h (ih (i + 1) _ _ (by omega) (by omega))
theorem implBest_l0 (cs : List S28) (hok : cs.all clueOk = true) (hn : cs.length ≤ 6) : ∀ (n i : Nat) (b f : Int), i + n = cs.length → 0 ≤ f → Ev (fun k => impl_BestClue.l0 k b f (cs.length : Int) (i : Int) cs) (bestC cs n i b f, true) := by
  intro n
  induction n with
  | zero =>
    intro i b f hi h1
    refine Ev_step (fun k => ?_) (Ev.now _)
    rw [impl_BestClue.l0, if_neg (by omega), bestC]
  | succ n ih =>
    intro i b f hi h1
    have hp := part_ok cs hok hn i
    refine Ev_step (fun k => by rw [impl_BestClue.l0, if_pos (by omega), if_pos (by omega), next i (by omega), if_pos (by omega), if_pos (by omega), nat1, Int.toNat_natCast]) ?_
    refine Ev_some (implAll_eq _ hp.2) (Ev_neg (by omega) ?_)
    rw [bestC]
    by_cases h : ((sols ((cs.take (i + 1)).drop i)).length : Int) < f
    · rw [if_pos h]
      exact Ev_pos h (ih (i + 1) _ _ (by omega) (by omega))
    · rw [if_neg h]
      exact Ev_neg h (ih (i + 1) _ _ (by omega) (by omega))
theorem w01 : wrap64 (0 + 1) = ((1 : Nat) : Int) := by unfold wrap64; omega
def bestR (cs : List S28) : Int × Bool := if goodP cs = true ∧ cs.length ≠ 0 then (bestC cs (cs.length - 1) 1 0 ((sols ((cs.take (0 + 1)).drop 0)).length : Int), true) else (0, false)
theorem specBestClue_ev (cs : List S28) (hn : cs.length ≤ 1048576) : Ev (fun k => spec_BestClue.f k cs) (bestR cs) := by
  simp only [spec_BestClue.f]
  refine Ev_bind (pzGood_ev cs hn) ?_
  unfold bestR
  by_cases h : goodP cs = true
  · obtain ⟨h1, h2⟩ := good_split h
    simp only [if_pos h]
    by_cases he : cs.length = 0
    · rw [if_neg (by omega)]
      refine Ev_step (fun k => by rw [spec_BestClue.j0]) ?_
      exact Ev_pos (by rw [he]; rfl) (Ev.now _)
    · rw [if_pos ⟨h, he⟩]
      have hp := part_ok cs h2 h1 0
      refine Ev_step (fun k => by rw [spec_BestClue.j0]) ?_
      refine Ev_neg (by simp only [beq_iff_eq]; omega) ?_
      refine Ev_step (fun k => by rw [spec_BestClue.l0, if_pos (by omega), if_pos (by omega), w01, if_pos (by omega), if_pos (by omega), Int.toNat_natCast]) ?_
      refine Ev_bind (pzAll_ev _ hp.1 hp.2) (Ev_pos rfl ?_)
      exact specBest_l0 cs h2 h1 (cs.length - 1) 1 _ _ (by omega) (by omega)
  · simp only [if_neg h]
    rw [if_neg (fun x => h x.1)]
    refine Ev_step (fun k => by rw [spec_BestClue.j0]) ?_
    exact Ev_pos rfl (Ev.now _)
theorem implBestClue_ev (cs : List S28) : Ev (fun k => impl_BestClue.f k cs) (bestR cs) := by
  simp only [impl_BestClue.f]
  refine Ev_some (implIsPuzzle_eq cs) ?_
  unfold bestR
  by_cases h : goodP cs = true
  · obtain ⟨h1, h2⟩ := good_split h
    simp only [if_pos h]
    by_cases he : cs.length = 0
    · rw [if_neg (by omega)]
      refine Ev_step (fun k => by rw [impl_BestClue.j0]) ?_
      exact Ev_pos (by rw [he]; rfl) (Ev.now _)
    · rw [if_pos ⟨h, he⟩]
      have hp := part_ok cs h2 h1 0
      refine Ev_step (fun k => by rw [impl_BestClue.j0]) ?_
      refine Ev_neg (by simp only [beq_iff_eq]; omega) ?_
      refine Ev_step (fun k => by rw [impl_BestClue.l0, if_pos (by omega), if_pos (by omega), w01, if_pos (by omega), if_pos (by omega), Int.toNat_natCast]) ?_
      refine Ev_some (implAll_eq _ hp.2) (Ev_pos (by decide) ?_)
      exact implBest_l0 cs h2 h1 (cs.length - 1) 1 _ _ (by omega) (by omega)
  · simp only [if_neg h]
    rw [if_neg (fun x => h x.1)]
    refine Ev_step (fun k => by rw [impl_BestClue.j0]) ?_
    exact Ev_pos rfl (Ev.now _)

theorem FnExactBestClue : laws_FnExactBestClue.Pure := by
  intro l ⟨hm, _⟩
  refine Ev.rounds (g := fun k => laws_FnExactBestClue.f k l) ?_
  by_cases hn : l.length ≤ 1048576
  · have hl : (l.map toC).length ≤ 1048576 := by rw [List.length_map]; exact hn
    have h1 := toPuzzle_ev l hn
    have h2 := specBestClue_ev (l.map toC) hl
    have h3 := eqPuzzle_ev (l.map toC) hl
    have h4 := implBestClue_ev (l.map toC)
    simp only [laws_FnExactBestClue.f]
    refine Ev_some (szPuzzle_eq l hm) ?_
    simp only [if_pos hn]
    refine Ev_neg (by omega) ?_
    refine Ev_bind h1 (Ev_bind h2 (Ev_bind h1 (Ev_bind h4 (Ev_pos rfl ?_))))
    refine Ev_step (fun k => by rw [laws_FnExactBestClue.j0]) ?_
    exact Ev_neg (by simp) (Ev_bind h1 (Ev_bind h3 (Ev_pos rfl (Ev.now _))))
  · refine ⟨0, fun k _ => ?_⟩
    simp only [laws_FnExactBestClue.f, szPuzzle_eq l hm, if_neg hn, Option.bind_some]
    rw [if_pos (by omega)]
end Go.Proofs.YtffkabjohlpgnaaDoor.Pure
