/- The law of CutPart answers true at all rows and places; no condition. -/
import Derived.Test.YtmdpiagpkocheaaPx7
import Derived.Test.YtmdpiagpkocheaaPx4
import Derived.Test.YtmdpiagpkocheaaExtCutPart
import Derived.Test.YtmdpiagpkocheaaPurePart
import Derived.Test.YtmdpiagpkocheaaPureToInt
import Derived.Test.YtmdpiagpkocheaaPureInt
set_option linter.unusedVariables false
namespace Go.Proofs.Ytmdpiagpkocheaa.Pure
open Go.RowKit Go.Proofs.YtmdpiagpkocheaaW.PrintWords Go.Proofs.YtmdpiagpkocheaaW.PrintLast Go.Proofs.YtmdpiagpkocheaaW.PrintMore Go.Proofs.Ytmdpiagpkocheaa.P Go.Proofs.Ytmdpiagpkocheaa.Base Go.Proofs.Ytmdpiagpkocheaa.Order

theorem own_eq (l : List Int) (h : l.length < 17592186044416) : spec_l1Own.f l = some l := by
  rw [spec_l1Own.f]
  simp only [Option.bind_some, List.length_nil, List.nil_append]
  rw [if_pos (by omega)]
theorem cutPart_ev (b : List Int) (f t a : Int) (hn : b.length ≤ 1048576) : ∃ r : List Int × Bool, Ev (fun k => spec_CutPart.f k b f t a) r ∧ Ev (fun k => impl_CutPart.f k b f t a) r ∧ r.1.length ≤ 1048576 := by
  have h1 := biPart_ev b f t hn
  have h2 := isBinding_ev b hn
  simp only [spec_CutPart.f, impl_CutPart.f]
  have no : Ev (fun k => spec_CutPart.j0 k b f t a true) ([], false) := by
    refine Ev_step (fun k => by rw [spec_CutPart.j0]) ?_
    exact Ev_pos rfl (Ev.now _)
  cases hb : bindS b with
  | false =>
    rw [hb, Bool.false_and] at h1
    rw [hb] at h2
    exact ⟨([], false), Ev_bind h1 (Ev_neg (by decide) no), Ev_bind h2 (Ev_neg (by decide) (Ev.now _)), Nat.zero_le _⟩
  | true =>
    have h3 := isPart_eq b f t hb
    have hl := bind_len hb
    rw [hb, Bool.true_and] at h1
    rw [hb] at h2
    cases hp : partB b f t with
    | false =>
      rw [hp] at h1 h3
      exact ⟨([], false), Ev_bind h1 (Ev_neg (by decide) no), Ev_bind h2 (Ev_pos rfl (Ev_some h3 (Ev_neg (by decide) (Ev.now _)))), Nat.zero_le _⟩
    | true =>
      rw [hp] at h1 h3
      unfold partB at hp
      rw [decide_eq_true_eq] at hp
      have w1 : wrap64 (t - f) = t - f := w64 (by omega) (by omega)
      have w2 : wrap64 ((b.length : Int) - 1) = (b.length : Int) - 1 := w64 (by omega) (by omega)
      have w3 : wrap64 ((b.length : Int) - 1 - (t - f)) = (b.length : Int) - 1 - (t - f) := w64 (by omega) (by omega)
      have w4 : wrap64 (t - f + 1) = t - f + 1 := w64 (by omega) (by omega)
      have w5 : wrap64 ((b.length : Int) - (t - f + 1)) = (b.length : Int) - 1 - (t - f) := by rw [w64 (by omega) (by omega)]; omega
      have w6 : wrap64 (t + 1) = t + 1 := w64 (by omega) (by omega)
      cases hq : inB a 0 ((b.length : Int) - 1 - (t - f)) with
      | false =>
        refine ⟨([], false), Ev_bind h1 (Ev_pos rfl (Ev_some (a := false) (by rw [w1, w2, w3, l1In_eq, hq]) no)), Ev_bind h2 (Ev_pos rfl (Ev_some h3 (Ev_pos rfl (Ev_some (a := false) (by rw [w1, w4, w5, within_eq, hq]) (Ev_neg (by decide) (Ev.now _)))))), Nat.zero_le _⟩
      | true =>
        have hq' : 0 ≤ a ∧ a ≤ (b.length : Int) - 1 - (t - f) := by unfold inB at hq; exact of_decide_eq_true hq
        refine ⟨(cutL b f.toNat t.toNat a.toNat, true), Ev_bind h1 (Ev_pos rfl (Ev_some (a := true) (by rw [w1, w2, w3, l1In_eq, hq]) ?_)), Ev_bind h2 (Ev_pos rfl (Ev_some h3 (Ev_pos rfl (Ev_some (a := true) (by rw [w1, w4, w5, within_eq, hq]) (Ev_pos rfl (Ev_pos ⟨by omega, by omega, by omega, by omega, by omega, by omega⟩ (Ev.now _))))))), ?_⟩
        · have ht : (t + 1).toNat = t.toNat + 1 := by omega
          have e1 := own_eq (b.take f.toNat) (by rw [List.length_take]; omega)
          have hy : (b.take f.toNat ++ b.drop (t.toNat + 1)).length ≤ 8 := by rw [List.length_append, List.length_take, List.length_drop]; omega
          have hy2 : a ≤ ((b.take f.toNat ++ b.drop (t.toNat + 1)).length : Int) := by rw [List.length_append, List.length_take, List.length_drop]; omega
          have e2 := own_eq ((b.take f.toNat ++ b.drop (t.toNat + 1)).take a.toNat) (by rw [List.length_take]; omega)
          have hm : ((b.take (t.toNat + 1)).drop f.toNat).length ≤ 8 := by rw [List.length_drop, List.length_take]; omega
          refine Ev_step (fun k => by rw [spec_CutPart.j0]) ?_
          refine Ev_neg (by decide) (Ev_pos (by omega) (Ev_pos (by omega) ?_))
          refine ⟨0, fun k _ => ?_⟩
          simp only [w6, ht, e1, Option.bind_some]
          rw [if_pos (by omega), if_pos (by omega), if_pos (by rw [List.length_take, List.length_drop]; omega), if_pos (by omega), if_pos hy2, e2]
          simp only [Option.bind_some]
          rw [if_pos (by omega), if_pos (by have := List.length_take_le a.toNat (b.take f.toNat ++ b.drop (t.toNat + 1)); omega), if_pos (by
            have := List.length_take_le a.toNat (b.take f.toNat ++ b.drop (t.toNat + 1))
            rw [List.length_append, List.length_drop (i := a.toNat)]
            omega)]
          rfl
        · show (cutL b f.toNat t.toNat a.toNat).length ≤ 1048576
          unfold cutL
          simp only [List.length_append, List.length_take, List.length_drop]
          omega
theorem FnExactCutPart : laws_FnExactCutPart.Pure := by
  intro l a1 a2 a3 ⟨hm, _⟩ _ _ _
  refine Ev.rounds (g := fun k => laws_FnExactCutPart.f k l a1 a2 a3) ?_
  by_cases hn : l.length ≤ 1048576
  · have h1 := toIntS_ev l hn
    obtain ⟨⟨d1, d2⟩, h2, h4, hd⟩ := cutPart_ev l a1 a2 a3 hn
    have h3 := eqIntS_ev l hn
    have h8 := markIntS_ev l hn
    have h5 := eqIntS_ev d1 hd
    have h6 := markIntS_ev d1 hd
    have h7 := heldIntS_ev d1.length hd
    simp only [laws_FnExactCutPart.f]
    refine Ev_neg (by omega) ?_
    refine Ev_bind h1 (Ev_bind h2 (Ev_bind h1 (Ev_bind h4 (Ev_bind h5 (Ev_pos rfl ?_)))))
    refine Ev_step (fun k => by rw [laws_FnExactCutPart.j0]) ?_
    refine Ev_neg (by simp) (Ev_bind h1 (Ev_bind h3 (Ev_pos rfl (Ev_bind h8 (Ev_neg (by omega) (Ev_bind h5 (Ev_pos rfl ?_)))))))
    refine Ev_step (fun k => by rw [laws_FnExactCutPart.j1]) ?_
    refine Ev_neg (by simp) (Ev_bind h6 (Ev_bind h7 (Ev_neg (by omega) (Ev_pos rfl (Ev_bind h1 (Ev_bind h4 (Ev_bind h5 (Ev_pos rfl ?_))))))))
    refine Ev_step (fun k => by rw [laws_FnExactCutPart.j2]) ?_
    refine Ev_neg (by simp) (Ev_bind h7 (Ev_neg (by omega) (Ev_pos rfl (Ev.now _))))
  · refine ⟨0, fun k _ => ?_⟩
    simp only [laws_FnExactCutPart.f]
    rw [if_pos (by omega)]
end Go.Proofs.Ytmdpiagpkocheaa.Pure
