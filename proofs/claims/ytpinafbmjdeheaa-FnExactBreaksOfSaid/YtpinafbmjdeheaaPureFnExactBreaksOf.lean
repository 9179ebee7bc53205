/- The law of BreaksOf answers true at all rows; no condition. -/
import Derived.Test.YtpinafbmjdeheaaPx10
import Derived.Test.YtpinafbmjdeheaaPureTurn
set_option linter.unusedVariables false
namespace Go.Proofs.Ytpinafbmjdeheaa.Pure
open Go.RowKit Go.Proofs.YtpinafbmjdeheaaW.PrintWords Go.Proofs.Ytpinafbmjdeheaa.P Go.Proofs.Ytpinafbmjdeheaa.Base Go.Proofs.Ytpinafbmjdeheaa.Order

theorem concat2_ev (l : List Int) (x : Int) (hn : l.length ≤ 1048576) : Ev (fun k => slices_Concat_int_int.f k [l, [x]]) (l ++ [x]) := by
  refine Ev.congr (f := fun k => slices_Concat_int_int.l0 k [l, [x]] 0 [l, [x]] 2 0) (fun k => by rw [slices_Concat_int_int.f]; rfl) ?_
  have r0 : rd_L1 [l, [x]] 0 = l := rfl
  have r1 : rd_L1 [l, [x]] 1 = [x] := rfl
  have n2 : (([l, [x]] : List (List Int)).length : Int) = 2 := rfl
  have n1 : (([x] : List Int).length : Int) = 1 := rfl
  have e0 : wrap64 (0 + (l.length : Int)) = (l.length : Int) := by rw [w64 (by omega) (by omega)]; omega
  have e1 : wrap64 ((l.length : Int) + 1) = (l.length : Int) + 1 := by rw [w64 (by omega) (by omega)]
  have i1 : wrap64 (0 + 1) = 1 := by unfold wrap64; omega
  have i2 : wrap64 (1 + 1) = 2 := by unfold wrap64; omega
  refine Ev_step (fun k => by rw [slices_Concat_int_int.l0, if_pos (by decide), if_pos (by decide), n2, if_pos (by decide), r0, e0, if_neg (by omega), i1]) ?_
  refine Ev_step (fun k => by rw [slices_Concat_int_int.l0, if_pos (by decide), if_pos (by decide), n2, if_pos (by decide), r1, n1, e1, if_neg (by omega), i2]) ?_
  refine Ev_step (fun k => by rw [slices_Concat_int_int.l0, if_neg (by decide), n2]) ?_
  refine Ev_some (a := []) (by rw [grow_Int.f, if_pos ⟨rfl, by omega, by omega⟩]) ?_
  refine Ev_step (fun k => by rw [slices_Concat_int_int.l1, if_pos (by decide), if_pos (by decide), n2, if_pos (by decide), r0, i1, if_pos (by simp only [List.length_nil]; omega), List.nil_append]) ?_
  refine Ev_step (fun k => by rw [slices_Concat_int_int.l1, if_pos (by decide), if_pos (by decide), n2, if_pos (by decide), r1, i2, if_pos (by simp only [List.length_cons, List.length_nil]; omega)]) ?_
  exact Ev_step (fun k => by rw [slices_Concat_int_int.l1, if_neg (by decide)]) (Ev.now _)
theorem same_breaks : ∀ (k : Nat) (c b : Int) (y : List Int) (n i : Int), impl_BreaksOf.l0 k c b y n i = spec_BreaksOf.l0 k c b y n i := by
  intro k
  induction k with
  | zero => intros; rfl
  | succ k ih =>
    intro c b y n i
    rw [impl_BreaksOf.l0, spec_BreaksOf.l0]
    simp only [ih]
theorem breaks_l0 (y : List Int) (hn : y.length ≤ 1048577) : ∀ (n i : Nat) (c b : Int), i + n = y.length → ∃ r, Ev (fun k => spec_BreaksOf.l0 k c b y (y.length : Int) (i : Int)) r := by
  intro n
  induction n with
  | zero =>
    intro i c b hi
    refine ⟨_, Ev_step (fun k => ?_) (Ev.now (c, true))⟩
    rw [spec_BreaksOf.l0, if_neg (by omega)]
  | succ n ih =>
    intro i c b hi
    have hs : ∀ k, spec_BreaksOf.l0 (k + 1) c b y (y.length : Int) (i : Int) = if rd y (i : Int) = wrap64 (b + 1) then spec_BreaksOf.l0 k c (rd y (i : Int)) y (y.length : Int) ((i + 1 : Nat) : Int) else spec_BreaksOf.l0 k (wrap64 (c + 1)) (rd y (i : Int)) y (y.length : Int) ((i + 1 : Nat) : Int) := fun k => by
      rw [spec_BreaksOf.l0, if_pos (by omega), if_pos (by omega), if_pos (by omega), nextI i (by omega)]
    by_cases h : rd y (i : Int) = wrap64 (b + 1)
    · obtain ⟨r, hr⟩ := ih (i + 1) c (rd y (i : Int)) (by omega)
      exact ⟨r, Ev_step hs (Ev_pos h hr)⟩
    · obtain ⟨r, hr⟩ := ih (i + 1) (wrap64 (c + 1)) (rd y (i : Int)) (by omega)
      exact ⟨r, Ev_step hs (Ev_neg h hr)⟩
theorem breaks_ev (b : List Int) (hn : b.length ≤ 1048576) : ∃ r : Int × Bool, Ev (fun k => spec_BreaksOf.f k b) r ∧ Ev (fun k => impl_BreaksOf.f k b) r := by
  cases hb : bindS b with
  | false =>
    refine ⟨(0, false), ?_, ?_⟩
    · simp only [spec_BreaksOf.f]
      refine Ev_bind (biGood_ev b hn) ?_
      rw [hb]
      exact Ev_neg (by decide) (Ev.now _)
    · simp only [impl_BreaksOf.f]
      refine Ev_bind (isBinding_ev b hn) ?_
      rw [hb]
      exact Ev_neg (by decide) (Ev.now _)
  | true =>
    have e : wrap64 ((b.length : Int) + 1) = (b.length : Int) + 1 := by rw [w64 (by omega) (by omega)]
    have hy : (b ++ [(b.length : Int) + 1]).length ≤ 1048577 := by rw [List.length_append]; simp only [List.length_cons, List.length_nil]; omega
    obtain ⟨r, hr⟩ := breaks_l0 _ hy _ 0 0 0 (Nat.zero_add _)
    refine ⟨r, ?_, ?_⟩
    · simp only [spec_BreaksOf.f]
      refine Ev_bind (biGood_ev b hn) ?_
      rw [hb]
      refine Ev_pos rfl (Ev_some (a := b) ?_ (Ev_pos (by omega) ?_))
      · rw [spec_l1Own.f]
        simp only [Option.bind_some, List.length_nil, List.nil_append]
        rw [if_pos (by omega)]
      · rw [e]
        exact hr
    · simp only [impl_BreaksOf.f]
      refine Ev_bind (isBinding_ev b hn) ?_
      rw [hb]
      refine Ev_pos rfl ?_
      rw [e]
      exact Ev_bind (concat2_ev b _ hn) (Ev.congr (fun k => same_breaks k _ _ _ _ _) hr)
theorem FnExactBreaksOf : laws_FnExactBreaksOf.Pure := by
  intro l ⟨hm, _⟩
  refine Ev.rounds (g := fun k => laws_FnExactBreaksOf.f k l) ?_
  by_cases hn : l.length ≤ 1048576
  · have h1 := toIntS_ev l hn
    obtain ⟨⟨d1, d2⟩, h2, h4⟩ := breaks_ev l hn
    have h3 := eqIntS_ev l hn
    simp only [laws_FnExactBreaksOf.f]
    refine Ev_neg (by omega) ?_
    refine Ev_bind h1 (Ev_bind h2 (Ev_bind h1 (Ev_bind h4 (Ev_pos rfl ?_))))
    refine Ev_step (fun k => by rw [laws_FnExactBreaksOf.j0]) ?_
    exact Ev_neg (by simp) (Ev_bind h1 (Ev_bind h3 (Ev_pos rfl (Ev.now _))))
  · refine ⟨0, fun k _ => ?_⟩
    simp only [laws_FnExactBreaksOf.f]
    rw [if_pos (by omega)]
end Go.Proofs.Ytpinafbmjdeheaa.Pure
