/- The law of WithoutRanges answers true at all ranges; no condition. -/
import Derived.Test.YtmlhhlmfhkhcnaaPx15
import Derived.Test.YtmlhhlmfhkhcnaaPureBoth
import Derived.Test.YtmlhhlmfhkhcnaaPureRangeMark
set_option linter.unusedVariables false
namespace Go.Proofs.Ytmlhhlmfhkhcnaa.Pure
open Go.RowKit Go.Proofs.YtmlhhlmfhkhcnaaW.PrintWords Go.Proofs.YtmlhhlmfhkhcnaaW.PrintLast Go.Proofs.YtmlhhlmfhkhcnaaW.PrintMore Go.Proofs.Ytmlhhlmfhkhcnaa.P Go.Proofs.Ytmlhhlmfhkhcnaa.Base

theorem FnExactWithoutRanges : laws_FnExactWithoutRanges.Pure := by
  intro l m ⟨hl, _⟩ ⟨hm, _⟩
  refine Ev.rounds (g := fun k => laws_FnExactWithoutRanges.f k l m) ?_
  by_cases hn : l.length ≤ 1048576
  · by_cases hn' : (m.length : Int) ≤ 1048576 - (l.length : Int)
    · have h1 := toRangeS_ev l hn
      have h1' := toRangeS_ev m (by omega)
      have hnm : (l.map toR).length ≤ 1048576 := by rw [List.length_map]; exact hn
      have hnm' : (m.map toR).length ≤ 1048576 := by rw [List.length_map]; omega
      obtain ⟨⟨d1, d2⟩, h2, h4, hd⟩ := both_ev 2 (fun a b => a && !b) step_not rfl (l.map toR) (m.map toR) hnm hnm'
      have h2' : Ev (fun k => spec_WithoutRanges.f k (l.map toR) (m.map toR)) (d1, d2) := by
        simp only [spec_WithoutRanges.f]
        exact Ev_bind h2 (Ev.now _)
      have h4' : Ev (fun k => impl_WithoutRanges.f k (l.map toR) (m.map toR)) (d1, d2) := Ev.congr (fun k => by rw [impl_WithoutRanges.f]) h4
      have h3 := eqRangeS_ev (l.map toR) hnm
      have h3' := eqRangeS_ev (m.map toR) hnm'
      have h8 := markRangeS_ev (l.map toR) hnm
      obtain ⟨q, h9⟩ := markFrom_ev (m.map toR) hnm' (1 + 2 * ((l.map toR).length : Int)) (by omega) (by omega)
      have h5 := eqRangeS_ev d1 hd
      have h6 := markRangeS_ev d1 hd
      have h7 := heldRangeS_ev d1.length hd
      simp only [laws_FnExactWithoutRanges.f]
      refine Ev_some (szRangeS_le l hn) (Ev_neg (by omega) (Ev_some (szRangeS_from m _ hn' (by omega)) (Ev_neg (by omega) ?_)))
      refine Ev_bind h1 (Ev_bind h1' (Ev_bind h2' (Ev_bind h1 (Ev_bind h1' (Ev_bind h4' (Ev_bind h5 (Ev_pos rfl ?_)))))))
      refine Ev_step (fun k => by rw [laws_FnExactWithoutRanges.j0]) ?_
      refine Ev_neg (by simp) (Ev_bind h1 (Ev_bind h3 (Ev_pos rfl (Ev_bind h1' (Ev_bind h3' (Ev_pos rfl (Ev_bind h8 (Ev_bind h9 (Ev_neg (by show ¬ (1 + 2 * ((l.map toR).length : Int) + 2 * ((m.map toR).length : Int) < 0); omega) (Ev_bind h5 (Ev_pos rfl ?_)))))))))))
      refine Ev_step (fun k => by rw [laws_FnExactWithoutRanges.j1]) ?_
      refine Ev_neg (by simp) (Ev_bind h6 (Ev_bind h7 (Ev_neg (by omega) (Ev_pos rfl (Ev_bind h1 (Ev_bind h1' (Ev_bind h4' (Ev_bind h5 (Ev_pos rfl ?_)))))))))
      refine Ev_step (fun k => by rw [laws_FnExactWithoutRanges.j2]) ?_
      refine Ev_neg (by simp) (Ev_bind h7 (Ev_neg (by omega) (Ev_pos rfl (Ev.now _))))
    · refine ⟨0, fun k _ => ?_⟩
      simp only [laws_FnExactWithoutRanges.f]
      rw [szRangeS_le l hn]
      simp only [Option.bind_some]
      rw [if_neg (by omega), szRangeS_over m _ hn' (by omega) (by omega) hm]
      rfl
  · refine ⟨0, fun k _ => ?_⟩
    simp only [laws_FnExactWithoutRanges.f]
    rw [szRangeS_gt l hn hl]
    rfl
end Go.Proofs.Ytmlhhlmfhkhcnaa.Pure
