/- Ranges in any order are merged: the program and the reference tell the same ranges. -/
import Derived.Test.YtmlhhlmfhkhcnaaPx4
import Derived.Test.YtmlhhlmfhkhcnaaExtMerge
import Derived.Test.YtmlhhlmfhkhcnaaPureSet
namespace Go.Proofs.Ytmlhhlmfhkhcnaa.P
open Go.RowKit Go.Proofs.YtmlhhlmfhkhcnaaW.PrintWords Go.Proofs.YtmlhhlmfhkhcnaaW.PrintLast Go.Proofs.YtmlhhlmfhkhcnaaW.PrintMore Go.Proofs.Ytmlhhlmfhkhcnaa.Base
set_option linter.unusedVariables false

theorem mergeS_good (l : List S63) (hn : l.length ≤ 1048576) (r : List S63 × Bool) (hend : Ev (fun k => (spec_ixMarks.f k l).bind fun t => (spec_ixOf.f k t).bind fun bt => (some (bt.1, bt.2))) r) (hr : ∀ i : Nat, i < l.length → rangeB (rd_T63 l (i : Int)).f0 (rd_T63 l (i : Int)).f1 = true) :
    ∀ n i : Nat, i + n = l.length → Ev (fun k => spec_MergeRanges.l0 k l l (l.length : Int) (i : Int)) r := by
  intro n
  induction n with
  | zero =>
    intro i hi
    refine Ev_step (fun k => ?_) hend
    rw [spec_MergeRanges.l0, if_neg (by omega)]
  | succ n ih =>
    intro i hi
    refine Ev_step (fun k => ?_) (ih (i + 1) (by omega))
    rw [spec_MergeRanges.l0, if_pos (by omega), if_pos (by omega), if_pos (by omega), ixRange_eq, hr i (by omega), nextI i (by omega)]
    rfl
theorem mergeS_bad (l : List S63) (hn : l.length ≤ 1048576) : ∀ n i : Nat, i + n = l.length → (∃ j, i ≤ j ∧ j < l.length ∧ rangeB (rd_T63 l (j : Int)).f0 (rd_T63 l (j : Int)).f1 = false) → Ev (fun k => spec_MergeRanges.l0 k l l (l.length : Int) (i : Int)) ([], false) := by
  intro n
  induction n with
  | zero =>
    rintro i hi ⟨j, h1, h2, _⟩
    omega
  | succ n ih =>
    rintro i hi ⟨j, h1, h2, h3⟩
    cases hb : rangeB (rd_T63 l (i : Int)).f0 (rd_T63 l (i : Int)).f1 with
    | true =>
      have hne : j ≠ i := by
        intro e
        subst e
        rw [hb] at h3
        cases h3
      refine Ev_step (fun k => ?_) (ih (i + 1) (by omega) ⟨j, by omega, h2, h3⟩)
      rw [spec_MergeRanges.l0, if_pos (by omega), if_pos (by omega), if_pos (by omega), ixRange_eq, hb, nextI i (by omega)]
      rfl
    | false =>
      refine Ev_step (fun k => ?_) (Ev.now _)
      rw [spec_MergeRanges.l0, if_pos (by omega), if_pos (by omega), if_pos (by omega), ixRange_eq, hb]
      rfl
theorem isR_eq (x : S63) : isR x = rangeB x.f0 x.f1 := by unfold isR; rw [isRange_eq]; rfl
theorem rd_mem (l : List S63) (i : Nat) (h : i < l.length) : rd_T63 l (i : Int) = l[i] := by unfold rd_T63; rw [Int.toNat_natCast, getD_at l _ h]
theorem merge_ev (l : List S63) (hn : l.length ≤ 1048576) : ∃ r : List S63 × Bool, Ev (fun k => spec_MergeRanges.f k l) r ∧ Ev (fun k => impl_MergeRanges.f k l) r ∧ r.1.length ≤ 1048576 := by
  simp only [spec_MergeRanges.f, impl_MergeRanges.f]
  by_cases h1 : 100 < l.length
  · exact ⟨([], false), Ev_pos (by omega) (Ev.now _), Ev_pos h1 (Ev.now _), Nat.zero_le _⟩
  · have hall : l.all (fun x => (impl_isRange.f x.f0 x.f1).isSome) = true := by
      rw [List.all_eq_true]
      intro x _
      rw [isRange_eq]
      rfl
    cases hb : l.any (fun x => !isR x) with
    | true =>
      refine ⟨([], false), Ev_neg (by omega) ?_, Ev_neg h1 (Ev_pos hall (Ev_pos rfl (Ev.now _))), Nat.zero_le _⟩
      refine mergeS_bad l hn l.length 0 (by omega) ?_
      obtain ⟨x, hx, hx'⟩ := List.any_eq_true.1 hb
      obtain ⟨j, hj, rfl⟩ := List.mem_iff_getElem.1 hx
      refine ⟨j, Nat.zero_le _, hj, ?_⟩
      rw [rd_mem l j hj, ← isR_eq]
      simpa using hx'
    | false =>
      have hr : ∀ i : Nat, i < l.length → rangeB (rd_T63 l (i : Int)).f0 (rd_T63 l (i : Int)).f1 = true := by
        intro i hi
        have := List.any_eq_false.1 hb l[i] (List.getElem_mem hi)
        rw [rd_mem l i hi, ← isR_eq]
        simpa using this
      obtain ⟨xs, a, b, hx⟩ := marks_ev l hn hr
      obtain ⟨⟨r1, r2⟩, c, d0, e⟩ := ranges_both xs hx 1 (by omega)
      have d : Ev (fun k => spec_ixOf.f k (xs ++ [false])) (r1, r2) := d0
      refine ⟨(r1, r2), Ev_neg (by omega) (mergeS_good l hn (r1, r2) (Ev_bind b (Ev_bind d (Ev.now _))) hr l.length 0 (by omega)), Ev_neg h1 (Ev_pos hall (Ev_neg (by decide) (Ev_bind a c))), ?_⟩
      show r1.length ≤ 1048576
      have : r1.length ≤ 20 := e
      omega
end Go.Proofs.Ytmlhhlmfhkhcnaa.P
