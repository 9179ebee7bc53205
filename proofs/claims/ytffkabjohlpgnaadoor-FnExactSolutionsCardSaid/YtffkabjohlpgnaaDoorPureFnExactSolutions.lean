/- The law of Solutions answers true at all clues; no condition. -/
import Derived.Test.YtffkabjohlpgnaaDoorPx14
import Derived.Test.YtffkabjohlpgnaaDoorPureSol
import Derived.Test.YtffkabjohlpgnaaDoorPureHid
import Derived.Test.YtffkabjohlpgnaaDoorPureClueMark
namespace Go.Proofs.YtffkabjohlpgnaaDoor.Pure
open Go.RowKit Go.Proofs.YtffkabjohlpgnaaDoorW.PrintWords Go.Proofs.YtffkabjohlpgnaaDoor.P Go.Proofs.YtffkabjohlpgnaaDoor.Base

theorem specSolutions_ev (cs : List S28) (hn : cs.length ≤ 1048576) : Ev (fun k => spec_Solutions.f k cs) (if goodP cs = true then (sols cs, true) else ([], false)) := by
  simp only [spec_Solutions.f]
  refine Ev_bind (pzGood_ev cs hn) ?_
  by_cases h : goodP cs = true
  · simp only [if_pos h]
    obtain ⟨h1, h2⟩ := good_split h
    exact Ev_bind (pzAll_ev cs h1 h2) (Ev.now _)
  · simp only [if_neg h]
    exact Ev.now _
theorem implSolutions_eq (cs : List S28) : impl_Solutions.f cs = some (if goodP cs = true then (sols cs, true) else ([], false)) := by
  rw [impl_Solutions.f, implIsPuzzle_eq]
  simp only [Option.bind_some]
  by_cases h : goodP cs = true
  · simp only [if_pos h]
    rw [implAll_eq cs (good_split h).2]
    rfl
  · simp only [if_neg h]
theorem FnExactSolutions : laws_FnExactSolutions.Pure := by
  intro l ⟨hm, _⟩
  refine Ev.rounds (g := fun k => laws_FnExactSolutions.f k l) ?_
  by_cases hn : l.length ≤ 1048576
  · have hl : (l.map toC).length ≤ 1048576 := by rw [List.length_map]; exact hn
    have h1 := toPuzzle_ev l hn
    have h2 := specSolutions_ev (l.map toC) hl
    have h3 := eqPuzzle_ev (l.map toC) hl
    have h4 := implSolutions_eq (l.map toC)
    have h8 := markPuzzle_ev (l.map toC) hl
    have hd : (if goodP (l.map toC) = true then (sols (l.map toC), true) else ([], false)).1.length ≤ 1048576 := by
      split
      · exact Nat.le_trans (sols_len _) (by decide)
      · exact Nat.zero_le _
    generalize l.map toC = cs at hl h1 h2 h3 h4 h8 hd
    generalize (if goodP cs = true then (sols cs, true) else ([], false)) = d at h2 h4 hd
    obtain ⟨d1, d2⟩ := d
    have h5 := eqHiddenS_ev d1 hd
    have h6 := markHiddenS_ev d1 hd
    have h7 := heldHiddenS_ev d1.length hd
    simp only [laws_FnExactSolutions.f]
    refine Ev_some (szPuzzle_eq l hm) ?_
    simp only [if_pos hn]
    refine Ev_neg (by omega) ?_
    refine Ev_bind h1 (Ev_bind h2 (Ev_bind h1 (Ev_some h4 (Ev_bind h5 (Ev_pos rfl ?_)))))
    refine Ev_step (fun k => by rw [laws_FnExactSolutions.j0]) ?_
    refine Ev_neg (by simp) (Ev_bind h1 (Ev_bind h3 (Ev_pos rfl (Ev_bind h8 (Ev_neg (by omega) (Ev_bind h5 (Ev_pos rfl ?_)))))))
    refine Ev_step (fun k => by rw [laws_FnExactSolutions.j1]) ?_
    refine Ev_neg (by simp) (Ev_bind h6 (Ev_bind h7 (Ev_neg (by omega) (Ev_pos rfl (Ev_bind h1 (Ev_some h4 (Ev_bind h5 (Ev_pos rfl ?_))))))))
    refine Ev_step (fun k => by rw [laws_FnExactSolutions.j2]) ?_
    refine Ev_neg (by simp) (Ev_bind h7 (Ev_neg (by omega) (Ev_pos rfl (Ev.now _))))
  · refine ⟨0, fun k _ => ?_⟩
    simp only [laws_FnExactSolutions.f, szPuzzle_eq l hm, if_neg hn, Option.bind_some]
    rw [if_pos (by omega)]
end Go.Proofs.YtffkabjohlpgnaaDoor.Pure
