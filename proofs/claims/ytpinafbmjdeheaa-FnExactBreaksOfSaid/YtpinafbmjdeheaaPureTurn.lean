/- A part of a binding is turned: the program and the reference do the same. -/
import Derived.Test.YtpinafbmjdeheaaPx3
import Derived.Test.YtpinafbmjdeheaaPx5
import Derived.Test.YtpinafbmjdeheaaPx2
import Derived.Test.YtpinafbmjdeheaaPx4
import Derived.Test.YtpinafbmjdeheaaPureBind
namespace Go.Proofs.Ytpinafbmjdeheaa.P
open Go.RowKit Go.Proofs.YtpinafbmjdeheaaW.PrintWords Go.Proofs.YtpinafbmjdeheaaW.PrintLast Go.Proofs.YtpinafbmjdeheaaW.PrintMore Go.Proofs.Ytpinafbmjdeheaa.Base Go.Proofs.Ytpinafbmjdeheaa.Order
set_option linter.unusedVariables false

theorem bind_len {b : List Int} (h : bindS b = true) : 1 ≤ b.length ∧ b.length ≤ 8 := by
  unfold bindS at h
  rw [Bool.and_eq_true, decide_eq_true_eq] at h
  exact h.1
/-- Is there a part? -/
def partB (b : List Int) (f t : Int) : Bool := decide (0 ≤ f ∧ f ≤ t ∧ t ≤ (b.length : Int) - 1)
theorem biPart_ev (b : List Int) (f t : Int) (hn : b.length ≤ 1048576) : Ev (fun k => spec_biPart.f k b f t) (bindS b && partB b f t) := by
  simp only [spec_biPart.f]
  refine Ev_bind (biGood_ev b hn) ?_
  cases hb : bindS b with
  | false => exact Ev_neg (by decide) (Ev.now _)
  | true =>
    have hl := bind_len hb
    rw [Bool.true_and, w64 (x := (b.length : Int) - 1) (by omega) (by omega)]
    refine Ev_pos rfl (Ev_some (l1In_eq _ _ _) ?_)
    unfold inB partB
    by_cases h : 0 ≤ f ∧ f ≤ (b.length : Int) - 1
    · rw [decide_eq_true h]
      refine Ev_pos rfl (Ev_some (l1In_eq _ _ _) ?_)
      unfold inB
      rw [show decide (0 ≤ f ∧ f ≤ t ∧ t ≤ (b.length : Int) - 1) = decide (f ≤ t ∧ t ≤ (b.length : Int) - 1) from decide_eq_decide.2 (by omega)]
      exact Ev.now _
    · rw [decide_eq_false h, show decide (0 ≤ f ∧ f ≤ t ∧ t ≤ (b.length : Int) - 1) = false from decide_eq_false (by omega)]
      exact Ev_neg (by decide) (Ev.now _)
theorem isPart_eq (b : List Int) (f t : Int) (hb : bindS b = true) : impl_isPartOf.f b f t = some (partB b f t) := by
  have hl := bind_len hb
  rw [impl_isPartOf.f, w64 (x := (b.length : Int) - 1) (by omega) (by omega), within_eq]
  simp only [Option.bind_some]
  unfold inB partB
  by_cases h : 0 ≤ t ∧ t ≤ (b.length : Int) - 1
  · rw [decide_eq_true h, if_pos rfl, within_eq]
    simp only [Option.bind_some]
    unfold inB
    rw [show decide (0 ≤ f ∧ f ≤ t ∧ t ≤ (b.length : Int) - 1) = decide (0 ≤ f ∧ f ≤ t) from decide_eq_decide.2 (by omega)]
  · rw [decide_eq_false h, show decide (0 ≤ f ∧ f ≤ t ∧ t ≤ (b.length : Int) - 1) = false from decide_eq_false (by omega)]
    rfl
theorem same_l0 : ∀ (k : Nat) (b : List Int) (f t : Int) (acc : List Int) (i : Int), impl_turned.l0 k b f t acc i = spec_biTurn.l0 k b f t acc i := by
  intro k
  induction k with
  | zero => intros; rfl
  | succ k ih =>
    intro b f t acc i
    rw [impl_turned.l0, spec_biTurn.l0]
    simp only [ih]
theorem turn_l0 (b : List Int) (f t : Nat) (hf : f ≤ t) (ht : t < b.length) (hb : b.length ≤ 1048576) : ∀ (n i : Nat) (acc : List Int), i + n = t + 1 → f ≤ i → acc.length = b.length → ∃ r, Ev (fun k => spec_biTurn.l0 k b (f : Int) (t : Int) acc (i : Int)) r ∧ r.length = b.length := by
  intro n
  induction n with
  | zero =>
    intro i acc hi h1 ha
    refine ⟨acc, Ev_step (fun k => ?_) (Ev.now _), ha⟩
    rw [spec_biTurn.l0, if_neg (by omega)]
  | succ n ih =>
    intro i acc hi h1 ha
    have w1 : wrap64 (wrap64 ((f : Int) + (t : Int)) - (i : Int)) = (f : Int) + t - i := by rw [w64 (x := (f : Int) + t) (by omega) (by omega), w64 (by omega) (by omega)]
    obtain ⟨r, h2, h3⟩ := ih (i + 1) (acc.set i (wrap64 (-(rd b ((f : Int) + t - i))))) (by omega) (by omega) (by rw [List.length_set]; exact ha)
    refine ⟨r, Ev_step (fun k => ?_) h2, h3⟩
    rw [spec_biTurn.l0, w1, if_pos (by omega), if_pos (by omega), if_pos (by omega), if_pos (by omega), if_pos (by omega), nextI i (by omega), Int.toNat_natCast]
/-- Both turn a part the same. -/
theorem turn_both (b : List Int) (f t : Int) (hb : bindS b = true) (hp : partB b f t = true) : ∃ r, Ev (fun k => spec_biTurn.f k b f t) r ∧ Ev (fun k => impl_turned.f k b f t) r ∧ r.length = b.length := by
  have hl := bind_len hb
  unfold partB at hp
  rw [decide_eq_true_eq] at hp
  obtain ⟨f, rfl⟩ := Int.eq_ofNat_of_zero_le hp.1
  obtain ⟨t, rfl⟩ := Int.eq_ofNat_of_zero_le (show 0 ≤ t by omega)
  obtain ⟨r, h1, h2⟩ := turn_l0 b f t (by omega) (by omega) (by omega) (t + 1 - f) f b (by omega) (Nat.le_refl _) rfl
  refine ⟨r, ?_, ?_, h2⟩
  · simp only [spec_biTurn.f]
    refine Ev_some (a := b) ?_ h1
    rw [spec_l1Own.f]
    simp only [Option.bind_some, List.length_nil, List.nil_append]
    rw [if_pos (by omega)]
  · simp only [impl_turned.f]
    refine Ev_some (a := b) ?_ (Ev.congr (fun k => same_l0 k b f t b f) h1)
    rw [clone_Int.f, if_pos (by omega)]
end Go.Proofs.Ytpinafbmjdeheaa.P
