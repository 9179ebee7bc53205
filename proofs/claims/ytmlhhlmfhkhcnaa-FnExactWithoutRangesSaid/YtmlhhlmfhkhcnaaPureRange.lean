/- Ranges: copies, tests, and what are ranges; the lists are at most 1048576 long. -/
import Derived.Test.YtmlhhlmfhkhcnaaPx5
import Derived.Test.YtmlhhlmfhkhcnaaPx1
import Derived.Test.YtmlhhlmfhkhcnaaPx8
import Derived.Test.YtmlhhlmfhkhcnaaPx6
import Derived.Test.YtmlhhlmfhkhcnaaPureIn
import Derived.Test.YtmlhhlmfhkhcnaaPureNum
namespace Go.Proofs.Ytmlhhlmfhkhcnaa.P
open Go.RowKit Go.Proofs.YtmlhhlmfhkhcnaaW.PrintWords Go.Proofs.YtmlhhlmfhkhcnaaW.PrintLast Go.Proofs.YtmlhhlmfhkhcnaaW.PrintMore Go.Proofs.Ytmlhhlmfhkhcnaa.Base
set_option linter.unusedVariables false

/-- A law's range as the program's. -/
def toR (x : S67) : S63 := ⟨x.f0, x.f1⟩
theorem toRangeS_l0 (xs : List S67) (hn : xs.length ≤ 1048576) : ∀ n i : Nat, i + n = xs.length → Ev (fun k => laws_toRangeS.l0 k xs ((xs.take i).map toR ++ List.replicate (xs.length - i) z63) (i : Int)) (xs.map toR) := by
  intro n
  induction n with
  | zero =>
    intro i hi
    refine Ev_step (fun k => ?_) (Ev.now _)
    rw [laws_toRangeS.l0, if_neg (by omega), List.take_of_length_le (by omega), show xs.length - i = 0 by omega, List.replicate_zero, List.append_nil]
  | succ n ih =>
    intro i hi
    have h : i < xs.length := by omega
    refine Ev_step (fun k => ?_) (ih (i + 1) (by omega))
    have hl : (List.map toR (xs.take i) ++ List.replicate (xs.length - i) z63).length = xs.length := by simp; omega
    have e : (⟨(rd_T67 xs (i : Int)).f0, (rd_T67 xs (i : Int)).f1⟩ : S63) = toR xs[i] := by
      unfold rd_T67 toR
      rw [Int.toNat_natCast, getD_at xs _ h]
    rw [laws_toRangeS.l0, if_pos (by omega), if_pos (by omega), laws_toRange.f]
    simp only [Option.bind_some]
    rw [if_pos (by rw [hl]; omega), nextI i (by omega), Int.toNat_natCast, e, set_copied toR xs _ h]
theorem toRangeS_ev (xs : List S67) (hn : xs.length ≤ 1048576) : Ev (fun k => laws_toRangeS.f k xs) (xs.map toR) := by
  have := toRangeS_l0 xs hn xs.length 0 (by omega)
  simp only [List.take_zero, List.map_nil, List.nil_append, Nat.sub_zero] at this
  refine Ev.congr (fun k => ?_) this
  rw [laws_toRangeS.f, if_pos (by omega), if_pos (by omega), Int.toNat_natCast]
  rfl
theorem eqRangeS_l0 (l : List S63) (hn : l.length ≤ 1048576) : ∀ n i : Nat, i + n = l.length → Ev (fun k => laws_eqRangeS.l0 k l l (i : Int)) true := by
  intro n
  induction n with
  | zero =>
    intro i hi
    refine Ev_step (fun k => ?_) (Ev.now _)
    rw [laws_eqRangeS.l0, if_neg (by omega)]
  | succ n ih =>
    intro i hi
    refine Ev_step (fun k => ?_) (ih (i + 1) (by omega))
    rw [laws_eqRangeS.l0, if_pos (by omega), if_pos (by omega), if_pos (by omega), laws_eqRange.f, if_pos rfl, if_pos rfl]
    simp only [Option.bind_some, if_true]
    rw [nextI i (by omega)]
theorem eqRangeS_ev (l : List S63) (hn : l.length ≤ 1048576) : Ev (fun k => laws_eqRangeS.f k l l) true :=
  Ev.congr (fun k => by rw [laws_eqRangeS.f, if_pos rfl]; rfl) (eqRangeS_l0 l hn l.length 0 (by omega))
def rangeB (a b : Int) : Bool := decide (1 ≤ a ∧ a ≤ b ∧ b ≤ 2000)
theorem ixRange_eq (a b : Int) : spec_ixRange.f a b = some (rangeB a b) := by
  rw [spec_ixRange.f, l1In_eq]
  simp only [Option.bind_some]
  unfold inB rangeB
  by_cases h : 1 ≤ a ∧ a ≤ 2000
  · rw [decide_eq_true h, if_pos rfl, l1In_eq]
    simp only [Option.bind_some]
    unfold inB
    rw [show decide (1 ≤ a ∧ a ≤ b ∧ b ≤ 2000) = decide (a ≤ b ∧ b ≤ 2000) from decide_eq_decide.2 (by omega)]
  · rw [decide_eq_false h, show decide (1 ≤ a ∧ a ≤ b ∧ b ≤ 2000) = false from decide_eq_false (by omega)]
    rfl
theorem isRange_eq (a b : Int) : impl_isRange.f a b = some (rangeB a b) := by
  rw [impl_isRange.f, within_eq]
  simp only [Option.bind_some]
  unfold inB rangeB
  by_cases h : 1 ≤ b ∧ b ≤ 2000
  · rw [decide_eq_true h, if_pos rfl, within_eq]
    simp only [Option.bind_some]
    unfold inB
    rw [show decide (1 ≤ a ∧ a ≤ b ∧ b ≤ 2000) = decide (1 ≤ a ∧ a ≤ b) from decide_eq_decide.2 (by omega)]
  · rw [decide_eq_false h, show decide (1 ≤ a ∧ a ≤ b ∧ b ≤ 2000) = false from decide_eq_false (by omega)]
    rfl
theorem ranges_l0 (l : List S63) (hn : l.length ≤ 1048576) : ∀ n i : Nat, i + n = l.length → ∃ r : Bool, Ev (fun k => spec_ixGood.l0 k l l (l.length : Int) (i : Int)) r ∧ Ev (fun k => impl_AreRanges.l0 k l l (l.length : Int) (i : Int)) (r && decide ((l.length : Int) ≤ 20)) := by
  intro n
  induction n with
  | zero =>
    intro i hi
    refine ⟨true, Ev_step (fun k => ?_) (Ev.now _), Ev_step (fun k => ?_) (Ev.now _)⟩
    · rw [spec_ixGood.l0, if_neg (by omega)]
    · rw [impl_AreRanges.l0, if_neg (by omega), Bool.true_and]
  | succ n ih =>
    intro i hi
    obtain ⟨r, h1, h2⟩ := ih (i + 1) (by omega)
    by_cases hr : rangeB (rd_T63 l (i : Int)).f0 (rd_T63 l (i : Int)).f1 = true
    · by_cases h0 : (i : Int) > 0
      · have w : wrap64 ((i : Int) - 1) = (i : Int) - 1 := by rw [w64 (by omega) (by omega)]
        by_cases hg : (rd_T63 l (i : Int)).f0 < wrap64 ((rd_T63 l ((i : Int) - 1)).f1 + 2)
        · refine ⟨false, Ev_step (fun k => ?_) (Ev.now _), Ev_step (fun k => ?_) (Ev.now _)⟩
          · rw [spec_ixGood.l0, if_pos (by omega), if_pos (by omega), if_pos (by omega), ixRange_eq, w]
            simp only [Option.bind_some]
            rw [if_pos hr, if_pos h0, if_pos (by omega), if_pos (by omega), if_pos hg]
          · rw [impl_AreRanges.l0, if_pos (by omega), if_pos (by omega), if_pos (by omega), isRange_eq, w]
            simp only [Option.bind_some]
            rw [if_pos hr, if_pos h0, if_pos (by omega), if_pos (by omega), if_pos hg, Bool.false_and]
        · refine ⟨r, Ev_step (fun k => ?_) h1, Ev_step (fun k => ?_) h2⟩
          · rw [spec_ixGood.l0, if_pos (by omega), if_pos (by omega), if_pos (by omega), ixRange_eq, w, nextI i (by omega)]
            simp only [Option.bind_some]
            rw [if_pos hr, if_pos h0, if_pos (by omega), if_pos (by omega), if_neg hg]
          · rw [impl_AreRanges.l0, if_pos (by omega), if_pos (by omega), if_pos (by omega), isRange_eq, w, nextI i (by omega)]
            simp only [Option.bind_some]
            rw [if_pos hr, if_pos h0, if_pos (by omega), if_pos (by omega), if_neg hg]
      · refine ⟨r, Ev_step (fun k => ?_) h1, Ev_step (fun k => ?_) h2⟩
        · rw [spec_ixGood.l0, if_pos (by omega), if_pos (by omega), if_pos (by omega), ixRange_eq, nextI i (by omega)]
          simp only [Option.bind_some]
          rw [if_pos hr, if_neg h0]
        · rw [impl_AreRanges.l0, if_pos (by omega), if_pos (by omega), if_pos (by omega), isRange_eq, nextI i (by omega)]
          simp only [Option.bind_some]
          rw [if_pos hr, if_neg h0]
    · refine ⟨false, Ev_step (fun k => ?_) (Ev.now _), Ev_step (fun k => ?_) (Ev.now _)⟩
      · rw [spec_ixGood.l0, if_pos (by omega), if_pos (by omega), if_pos (by omega), ixRange_eq]
        simp only [Option.bind_some]
        rw [if_neg hr]
      · rw [impl_AreRanges.l0, if_pos (by omega), if_pos (by omega), if_pos (by omega), isRange_eq]
        simp only [Option.bind_some]
        rw [if_neg hr, Bool.false_and]
/-- Both answer the same, and only 20 or fewer are ranges. -/
theorem ranges_ev (l : List S63) (hn : l.length ≤ 1048576) : ∃ r : Bool, Ev (fun k => spec_ixGood.f k l) r ∧ Ev (fun k => impl_AreRanges.f k l) r ∧ (r = true → l.length ≤ 20) := by
  obtain ⟨r, h1, h2⟩ := ranges_l0 l hn l.length 0 (by omega)
  refine ⟨r && decide ((l.length : Int) ≤ 20), ?_, Ev.congr (fun k => by rw [impl_AreRanges.f]; rfl) h2, fun h => ?_⟩
  · simp only [spec_ixGood.f]
    by_cases h : (l.length : Int) > 20
    · rw [decide_eq_false (by omega), Bool.and_false]
      exact Ev_pos h (Ev.now _)
    · rw [decide_eq_true (by omega), Bool.and_true]
      exact Ev_neg h h1
  · rw [Bool.and_eq_true, decide_eq_true_eq] at h
    omega
end Go.Proofs.Ytmlhhlmfhkhcnaa.P
