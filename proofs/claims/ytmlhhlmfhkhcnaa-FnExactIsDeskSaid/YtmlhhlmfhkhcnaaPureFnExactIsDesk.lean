/- The law of IsDesk answers true at all desks; no condition. -/
import Derived.Test.YtmlhhlmfhkhcnaaPx11
import Derived.Test.YtmlhhlmfhkhcnaaPureDesk
set_option linter.unusedVariables false
namespace Go.Proofs.Ytmlhhlmfhkhcnaa.Pure
open Go.RowKit Go.Proofs.YtmlhhlmfhkhcnaaW.PrintWords Go.Proofs.Ytmlhhlmfhkhcnaa.P Go.Proofs.Ytmlhhlmfhkhcnaa.Base

theorem FnExactIsDesk : laws_FnExactIsDesk.Pure := by
  intro a b s c x g _ _ ⟨hs, _⟩ _ ⟨hx, _⟩ ⟨hg, _⟩
  refine Ev.rounds (g := fun k => laws_FnExactIsDesk.f k a b s c x g) ?_
  obtain ⟨t, ht, hc⟩ := szDesk_eq a b s c x g hs hx hg
  simp only [laws_FnExactIsDesk.f]
  refine Ev_some ht ?_
  rcases hc with hc | ⟨h0, _, hs, hx, hg⟩
  · exact Ev_pos hc (Ev.now _)
  · have h1 := toDesk_ev a b s c x g hs hx hg
    have hx' : (x.map toR).length ≤ 1048576 := by rw [List.length_map]; exact hx
    obtain ⟨r, h2, h3⟩ := isDesk_ev a b s c (x.map toR) g hs hx' hg
    refine Ev_neg (by omega) (Ev_bind h1 (Ev_bind h2 (Ev_bind h1 (Ev_bind h3 (Ev_neg (by simp) (Ev_bind h1 ?_))))))
    exact Ev_bind (eqDesk_ev a b s c (x.map toR) g hs hx' hg) (Ev_pos rfl (Ev.now _))
end Go.Proofs.Ytmlhhlmfhkhcnaa.Pure
