/- The law of FarthestBinding answers true at all numbers; no condition. -/
import Derived.Test.YtmdpiagpkocheaaZfar7
import Derived.Test.YtmdpiagpkocheaaZfar6
import Derived.Test.YtmdpiagpkocheaaZfar4
set_option linter.unusedVariables false
namespace Go.Proofs.Ytmdpiagpkocheaa.Pure
open Go.RowKit Go.Proofs.YtmdpiagpkocheaaW.PrintWords Go.Proofs.Ytmdpiagpkocheaa.P Go.Proofs.Ytmdpiagpkocheaa.Base Go.Proofs.Ytmdpiagpkocheaa.Order Go.Proofs.Ytmdpiagpkocheaa.Far

theorem FnExactFarthestBinding : laws_FnExactFarthestBinding.Pure := by
  intro a0 _
  refine Ev.rounds (g := fun k => laws_FnExactFarthestBinding.f k a0) ?_
  obtain ⟨b, m, ok, hs, hi, hd⟩ : ∃ (b : List Int) (m : Int) (ok : Bool), Ev (fun k => spec_FarthestBinding.f k a0) (b, m, ok) ∧ Ev (fun k => impl_FarthestBinding.f k a0) (b, m, ok) ∧ b.length ≤ 1048576 := by
    have h1 := farthest_ev a0
    by_cases h : 1 ≤ a0 ∧ a0 ≤ 5
    · rw [if_pos h] at h1
      refine ⟨_, _, _, h1, ⟨0, fun k _ => ?_⟩, ?_⟩
      · show impl_FarthestBinding.f k a0 = _
        rw [impl_FarthestBinding.f, if_pos h]
      · have := ((dist_all a0.toNat).1.bd _ (farB_best (dist_all a0.toNat).1).1).1
        simp only at this
        omega
    · rw [if_neg h] at h1
      refine ⟨_, _, _, h1, ⟨0, fun k _ => ?_⟩, by simp⟩
      show impl_FarthestBinding.f k a0 = _
      rw [impl_FarthestBinding.f, if_neg h]
  have h5 := eqIntS_ev b hd
  have h6 := markIntS_ev b hd
  have h7 := heldIntS_ev b.length hd
  simp only [laws_FnExactFarthestBinding.f]
  refine Ev_bind hs (Ev_bind hi (Ev_bind h5 (Ev_pos rfl (Ev_pos rfl ?_))))
  refine Ev_step (fun k => by rw [laws_FnExactFarthestBinding.j0]) ?_
  refine Ev_neg (by simp) (Ev_bind h6 (Ev_bind h7 (Ev_neg (by omega) (Ev_pos rfl (Ev_bind hi (Ev_bind h5 (Ev_pos rfl (Ev_pos rfl ?_))))))))
  refine Ev_step (fun k => by rw [laws_FnExactFarthestBinding.j1]) ?_
  exact Ev_neg (by simp) (Ev_bind h7 (Ev_neg (by omega) (Ev_pos rfl (Ev.now _))))
end Go.Proofs.Ytmdpiagpkocheaa.Pure
