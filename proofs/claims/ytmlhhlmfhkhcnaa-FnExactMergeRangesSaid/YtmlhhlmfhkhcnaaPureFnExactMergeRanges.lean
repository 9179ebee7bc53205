/- The law of MergeRanges answers true at all ranges; no condition. -/
import Derived.Test.YtmlhhlmfhkhcnaaPx7
import Derived.Test.YtmlhhlmfhkhcnaaPureMerge
import Derived.Test.YtmlhhlmfhkhcnaaPureRangeSz
import Derived.Test.YtmlhhlmfhkhcnaaPureRangeMark
set_option linter.unusedVariables false
namespace Go.Proofs.Ytmlhhlmfhkhcnaa.Pure
open Go.RowKit Go.Proofs.YtmlhhlmfhkhcnaaW.PrintWords Go.Proofs.YtmlhhlmfhkhcnaaW.PrintLast Go.Proofs.YtmlhhlmfhkhcnaaW.PrintMore Go.Proofs.Ytmlhhlmfhkhcnaa.P Go.Proofs.Ytmlhhlmfhkhcnaa.Base

theorem FnExactMergeRanges : laws_FnExactMergeRanges.Pure := by
  intro l ⟨hm, _⟩
  refine Ev.rounds (g := fun k => laws_FnExactMergeRanges.f k l) ?_
  by_cases hn : l.length ≤ 1048576
  · have h1 := toRangeS_ev l hn
    have hnm : (l.map toR).length ≤ 1048576 := by rw [List.length_map]; exact hn
    obtain ⟨⟨d1, d2⟩, h2, h4, hd⟩ := merge_ev (l.map toR) hnm
    have h3 := eqRangeS_ev (l.map toR) hnm
    have h8 := markRangeS_ev (l.map toR) hnm
    have h5 := eqRangeS_ev d1 hd
    have h6 := markRangeS_ev d1 hd
    have h7 := heldRangeS_ev d1.length hd
    simp only [laws_FnExactMergeRanges.f]
    refine Ev_some (szRangeS_le l hn) (Ev_neg (by omega) ?_)
    refine Ev_bind h1 (Ev_bind h2 (Ev_bind h1 (Ev_bind h4 (Ev_bind h5 (Ev_pos rfl ?_)))))
    refine Ev_step (fun k => by rw [laws_FnExactMergeRanges.j0]) ?_
    refine Ev_neg (by simp) (Ev_bind h1 (Ev_bind h3 (Ev_pos rfl (Ev_bind h8 (Ev_neg (by omega) (Ev_bind h5 (Ev_pos rfl ?_)))))))
    refine Ev_step (fun k => by rw [laws_FnExactMergeRanges.j1]) ?_
    refine Ev_neg (by simp) (Ev_bind h6 (Ev_bind h7 (Ev_neg (by omega) (Ev_pos rfl (Ev_bind h1 (Ev_bind h4 (Ev_bind h5 (Ev_pos rfl ?_))))))))
    refine Ev_step (fun k => by rw [laws_FnExactMergeRanges.j2]) ?_
    refine Ev_neg (by simp) (Ev_bind h7 (Ev_neg (by omega) (Ev_pos rfl (Ev.now _))))
  · refine ⟨0, fun k _ => ?_⟩
    simp only [laws_FnExactMergeRanges.f]
    rw [szRangeS_gt l hn hm]
    rfl
end Go.Proofs.Ytmlhhlmfhkhcnaa.Pure
