/- The law of TurnPart answers true at all rows and places; no condition. -/
import Derived.Test.YtpinafbmjdeheaaPx7
import Derived.Test.YtpinafbmjdeheaaPureTurn
set_option linter.unusedVariables false
namespace Go.Proofs.Ytpinafbmjdeheaa.Pure
open Go.RowKit Go.Proofs.YtpinafbmjdeheaaW.PrintWords Go.Proofs.Ytpinafbmjdeheaa.P Go.Proofs.Ytpinafbmjdeheaa.Base Go.Proofs.Ytpinafbmjdeheaa.Order

theorem turnPart_ev (b : List Int) (f t : Int) (hn : b.length ≤ 1048576) : ∃ r : List Int × Bool, Ev (fun k => spec_TurnPart.f k b f t) r ∧ Ev (fun k => impl_TurnPart.f k b f t) r ∧ r.1.length ≤ 1048576 := by
  cases hb : bindS b with
  | false =>
    refine ⟨([], false), ?_, ?_, Nat.zero_le _⟩
    · simp only [spec_TurnPart.f]
      refine Ev_bind (biPart_ev b f t hn) ?_
      rw [hb, Bool.false_and]
      exact Ev_neg (by decide) (Ev.now _)
    · simp only [impl_TurnPart.f]
      refine Ev_bind (isBinding_ev b hn) ?_
      rw [hb]
      exact Ev_neg (by decide) (Ev.now _)
  | true =>
    cases hp : partB b f t with
    | false =>
      refine ⟨([], false), ?_, ?_, Nat.zero_le _⟩
      · simp only [spec_TurnPart.f]
        refine Ev_bind (biPart_ev b f t hn) ?_
        rw [hp, Bool.and_false]
        exact Ev_neg (by decide) (Ev.now _)
      · simp only [impl_TurnPart.f]
        refine Ev_bind (isBinding_ev b hn) ?_
        rw [hb]
        refine Ev_pos rfl (Ev_some (isPart_eq b f t hb) ?_)
        rw [hp]
        exact Ev_neg (by decide) (Ev.now _)
    | true =>
      obtain ⟨r, h1, h2, h3⟩ := turn_both b f t hb hp
      refine ⟨(r, true), ?_, ?_, by rw [h3]; exact hn⟩
      · simp only [spec_TurnPart.f]
        refine Ev_bind (biPart_ev b f t hn) ?_
        rw [hb, hp]
        exact Ev_pos rfl (Ev_bind h1 (Ev.now _))
      · simp only [impl_TurnPart.f]
        refine Ev_bind (isBinding_ev b hn) ?_
        rw [hb]
        refine Ev_pos rfl (Ev_some (isPart_eq b f t hb) ?_)
        rw [hp]
        exact Ev_pos rfl (Ev_bind h2 (Ev.now _))
theorem FnExactTurnPart : laws_FnExactTurnPart.Pure := by
  intro l a1 a2 ⟨hm, _⟩ _ _
  refine Ev.rounds (g := fun k => laws_FnExactTurnPart.f k l a1 a2) ?_
  by_cases hn : l.length ≤ 1048576
  · have h1 := toIntS_ev l hn
    obtain ⟨⟨d1, d2⟩, h2, h4, hd⟩ := turnPart_ev l a1 a2 hn
    have h3 := eqIntS_ev l hn
    have h8 := markIntS_ev l hn
    have h5 := eqIntS_ev d1 hd
    have h6 := markIntS_ev d1 hd
    have h7 := heldIntS_ev d1.length hd
    simp only [laws_FnExactTurnPart.f]
    refine Ev_neg (by omega) ?_
    refine Ev_bind h1 (Ev_bind h2 (Ev_bind h1 (Ev_bind h4 (Ev_bind h5 (Ev_pos rfl ?_)))))
    refine Ev_step (fun k => by rw [laws_FnExactTurnPart.j0]) ?_
    refine Ev_neg (by simp) (Ev_bind h1 (Ev_bind h3 (Ev_pos rfl (Ev_bind h8 (Ev_neg (by omega) (Ev_bind h5 (Ev_pos rfl ?_)))))))
    refine Ev_step (fun k => by rw [laws_FnExactTurnPart.j1]) ?_
    refine Ev_neg (by simp) (Ev_bind h6 (Ev_bind h7 (Ev_neg (by omega) (Ev_pos rfl (Ev_bind h1 (Ev_bind h4 (Ev_bind h5 (Ev_pos rfl ?_))))))))
    refine Ev_step (fun k => by rw [laws_FnExactTurnPart.j2]) ?_
    refine Ev_neg (by simp) (Ev_bind h7 (Ev_neg (by omega) (Ev_pos rfl (Ev.now _))))
  · refine ⟨0, fun k _ => ?_⟩
    simp only [laws_FnExactTurnPart.f]
    rw [if_pos (by omega)]
end Go.Proofs.Ytpinafbmjdeheaa.Pure
