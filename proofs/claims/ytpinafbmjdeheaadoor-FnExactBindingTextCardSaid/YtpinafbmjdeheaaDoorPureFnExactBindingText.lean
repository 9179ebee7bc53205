/- The law of BindingText answers true at all rows; no condition. -/
import Derived.Test.YtpinafbmjdeheaaDoorPx7
import Derived.Test.YtpinafbmjdeheaaDoorPureBText
import Derived.Test.YtpinafbmjdeheaaDoorPureIntEq
set_option linter.unusedVariables false
namespace Go.Proofs.YtpinafbmjdeheaaDoor.Pure
open Go.RowKit Go.Proofs.YtpinafbmjdeheaaDoorW.PrintWords Go.Proofs.YtpinafbmjdeheaaDoor.P Go.Proofs.YtpinafbmjdeheaaDoor.Base Go.Proofs.YtpinafbmjdeheaaDoor.Order

theorem bindingText_ev (b : List Int) (hn : b.length ≤ 1048576) : ∃ r : ByteArray × Bool, Ev (fun k => spec_BindingText.f k b) r ∧ Ev (fun k => impl_BindingText.f k b) r := by
  cases hb : bindS b with
  | false =>
    refine ⟨(⟨#[]⟩, false), ?_, ?_⟩
    · simp only [spec_BindingText.f]
      refine Ev_bind (biGood_ev b hn) ?_
      rw [hb]
      exact Ev_neg (by decide) (Ev.now _)
    · simp only [impl_BindingText.f]
      refine Ev_bind (isBinding_ev b hn) ?_
      rw [hb]
      exact Ev_neg (by decide) (Ev.now _)
  | true =>
    obtain ⟨e1, e2⟩ := text_ev b hb
    refine ⟨(textT b ⟨#[]⟩, true), ?_, ?_⟩
    · simp only [spec_BindingText.f]
      refine Ev_bind (biGood_ev b hn) ?_
      rw [hb]
      exact Ev_pos rfl (Ev_bind e1 (Ev.now _))
    · simp only [impl_BindingText.f]
      refine Ev_bind (isBinding_ev b hn) ?_
      rw [hb]
      exact Ev_pos rfl (Ev_bind e2 (Ev.now _))
theorem FnExactBindingText : laws_FnExactBindingText.Pure := by
  intro l ⟨hm, _⟩
  refine Ev.rounds (g := fun k => laws_FnExactBindingText.f k l) ?_
  by_cases hn : l.length ≤ 1048576
  · have h1 := toIntS_ev l hn
    obtain ⟨⟨d1, d2⟩, h2, h4⟩ := bindingText_ev l hn
    have h3 := eqIntS_ev l hn
    simp only [laws_FnExactBindingText.f]
    refine Ev_neg (by omega) ?_
    refine Ev_bind h1 (Ev_bind h2 (Ev_bind h1 (Ev_bind h4 (Ev_pos rfl ?_))))
    refine Ev_step (fun k => by rw [laws_FnExactBindingText.j0]) ?_
    exact Ev_neg (by simp) (Ev_bind h1 (Ev_bind h3 (Ev_pos rfl (Ev.now _))))
  · refine ⟨0, fun k _ => ?_⟩
    simp only [laws_FnExactBindingText.f]
    rw [if_pos (by omega)]
end Go.Proofs.YtpinafbmjdeheaaDoor.Pure
