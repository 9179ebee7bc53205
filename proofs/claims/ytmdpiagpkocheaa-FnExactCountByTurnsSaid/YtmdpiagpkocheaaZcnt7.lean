/- The law of CountByTurns answers true at all numbers; no condition. -/
import Derived.Test.YtmdpiagpkocheaaZcnt6
import Derived.Test.YtmdpiagpkocheaaZcnt5
set_option linter.unusedVariables false
namespace Go.Proofs.Ytmdpiagpkocheaa.Pure
open Go.RowKit Go.Proofs.YtmdpiagpkocheaaW.PrintWords Go.Proofs.Ytmdpiagpkocheaa.P Go.Proofs.Ytmdpiagpkocheaa.Base Go.Proofs.Ytmdpiagpkocheaa.Order Go.Proofs.Ytmdpiagpkocheaa.Far

theorem count_l0 (a1 : Int) (l : List Int) (hn : l.length ≤ 1048576) : ∀ (d i c : Nat), i + d = l.length → c ≤ i → Ev (fun k => spec_CountByTurns.l0 k a1 (c : Int) l (l.length : Int) (i : Int)) (((c + (l.drop i).countP (· == a1) : Nat) : Int), true) := by
  intro d
  induction d with
  | zero =>
    intro i c hi hc
    refine Ev_step (fun k => ?_) (Ev.now _)
    rw [spec_CountByTurns.l0, if_neg (by omega), List.drop_of_length_le (by omega), List.countP_nil, Nat.add_zero]
  | succ d ih =>
    intro i c hi hc
    have h : i < l.length := by omega
    refine Ev_step (fun k => by rw [spec_CountByTurns.l0, if_pos (by omega), if_pos (by omega), if_pos (by omega), rd_nat, nextI i (by omega), nextI c (by omega)]) ?_
    rw [List.drop_eq_getElem_cons h, List.countP_cons, ← getD_at l 0 h]
    by_cases e : l.getD i 0 = a1
    · have := ih (i + 1) (c + 1) (by omega) (by omega)
      rw [if_pos (beq_iff_eq.2 e), show c + ((l.drop (i + 1)).countP (· == a1) + 1) = c + 1 + (l.drop (i + 1)).countP (· == a1) by omega]
      exact Ev_pos e this
    · have := ih (i + 1) c (by omega) (by omega)
      rw [if_neg (by simpa using e), Nat.add_zero]
      exact Ev_neg e this
theorem countBy_ev (a0 a1 : Int) : Ev (fun k => spec_CountByTurns.f k a0 a1) (if 1 ≤ a0 ∧ a0 ≤ 5 ∧ 0 ≤ a1 then ((((distO a0.toNat).countP (fun e => e.2 == a1) : Nat) : Int), true) else (0, false)) := by
  simp only [spec_CountByTurns.f]
  refine Ev_some (l1In_eq _ _ _) ?_
  unfold inB
  by_cases h : 1 ≤ a0 ∧ a0 ≤ 5
  · rw [decide_eq_true h]
    refine Ev_pos rfl (Ev_step (fun k => by rw [spec_CountByTurns.j0]) ?_)
    obtain ⟨n, rfl⟩ := Int.eq_ofNat_of_zero_le (show 0 ≤ a0 by omega)
    by_cases h2 : a1 < 0
    · rw [if_neg (by omega)]
      exact Ev_pos (decide_eq_true h2) (Ev.now _)
    · rw [if_pos (by omega), Int.toNat_natCast]
      refine Ev_neg (by simp; omega) (Ev_bind (biFar_ev (by omega) (by omega)) ?_)
      have hl := arr_len (allOf n) (distO n)
      have ha := allOf_le (m := n) (by omega)
      have hb : allOf n ≤ 3840 := by
        rcases (by omega : n = 1 ∨ n = 2 ∨ n = 3 ∨ n = 4 ∨ n = 5) with h | h | h | h | h <;> rw [h] <;> decide
      have := count_l0 a1 (arrOf (allOf n) (distO n)) (by omega) (allOf n) 0 0 (by omega) (Nat.le_refl _)
      rw [List.drop_zero, Nat.zero_add, arr_count a1 (by omega) (distO n) (dist_all n).1.bd (dist_all n).1.nd] at this
      exact this
  · rw [decide_eq_false h, if_neg (by omega)]
    exact Ev_neg (by decide) (Ev_step (fun k => by rw [spec_CountByTurns.j0]) (Ev_pos rfl (Ev.now _)))
theorem FnExactCountByTurns : laws_FnExactCountByTurns.Pure := by
  intro a0 a1 _ _
  refine Ev.rounds (g := fun k => laws_FnExactCountByTurns.f k a0 a1) ?_
  have hI : Ev (fun k => impl_CountByTurns.f k a0 a1) (if 1 ≤ a0 ∧ a0 ≤ 5 ∧ 0 ≤ a1 then ((((distO a0.toNat).countP (fun e => e.2 == a1) : Nat) : Int), true) else (0, false)) := ⟨0, fun k _ => by
    show impl_CountByTurns.f k a0 a1 = _
    rw [impl_CountByTurns.f]
    split <;> rfl⟩
  simp only [laws_FnExactCountByTurns.f]
  exact Ev_bind (countBy_ev a0 a1) (Ev_bind hI (Ev_pos rfl (Ev_neg (by simp) (Ev.now _))))
end Go.Proofs.Ytmdpiagpkocheaa.Pure
