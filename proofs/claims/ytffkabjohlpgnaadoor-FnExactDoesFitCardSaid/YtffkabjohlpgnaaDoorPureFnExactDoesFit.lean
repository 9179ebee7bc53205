/- The law of DoesFit answers true at every clue and book; no condition. -/
import Derived.Test.YtffkabjohlpgnaaDoorPureFit
namespace Go.Proofs.YtffkabjohlpgnaaDoor.P
open Go.RowKit Go.Proofs.YtffkabjohlpgnaaDoorW.PrintWords Go.Proofs.YtffkabjohlpgnaaDoorW.PrintLast Go.Proofs.YtffkabjohlpgnaaDoorW.PrintMore Go.Proofs.YtffkabjohlpgnaaDoor.Base Go.Proofs.YtffkabjohlpgnaaDoor.Skip
theorem doesFit_eq (a b c p l : Int) : ∃ r, spec_DoesFit.f 61 a b c p l = some r ∧ impl_DoesFit.f 61 a b c p l = some r := by
  rw [spec_DoesFit.f, impl_DoesFit.f, spec_hidden, spec_clue 60, impl_clue 60, impl_hidden]
  simp only [Option.bind_some]
  by_cases hc : clueB a b c = true
  · by_cases hh : hiddenB p l = true
    · obtain ⟨p', l', rfl, rfl, h2, hp, hl, hlp⟩ := hidden_in hh
      obtain ⟨v, hv, hi⟩ := tells_eq a b c p' l' 61 h2 hp hl hlp hc (by decide)
      refine ⟨(v == c, true), ?_, ?_⟩
      · rw [if_pos hh, if_pos hc, spec_pzFits.f, hv]; rfl
      · rw [if_pos hc, if_pos hh, impl_Hidden_fits.f, hi]; rfl
    · refine ⟨(false, false), ?_, ?_⟩
      · rw [if_neg hh]
      · rw [if_pos hc, if_neg hh]
  · refine ⟨(false, false), ?_, by rw [if_neg hc]⟩
    rw [if_neg hc]
    split <;> rfl
end Go.Proofs.YtffkabjohlpgnaaDoor.P
namespace Go.Proofs.YtffkabjohlpgnaaDoor.Pure
open Go.RowKit Go.Proofs.YtffkabjohlpgnaaDoorW.PrintWords Go.Proofs.YtffkabjohlpgnaaDoor.P Go.Proofs.YtffkabjohlpgnaaDoor.Base
theorem FnExactDoesFit : laws_FnExactDoesFit.Pure := by
  intro a b c p l _ _ _ _ _
  obtain ⟨r, h1, h2⟩ := doesFit_eq a b c p l
  refine ⟨61, ?_⟩
  rw [laws_FnExactDoesFit.f]
  simp only [laws_toClue.f, laws_toHidden.f, Option.bind_some]
  rw [h1, h2]
  simp
end Go.Proofs.YtffkabjohlpgnaaDoor.Pure
