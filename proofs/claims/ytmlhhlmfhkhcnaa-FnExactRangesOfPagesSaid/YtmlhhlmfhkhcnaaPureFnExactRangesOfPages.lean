/- The law of RangesOfPages answers true at all rows; no condition. -/
import Derived.Test.YtmlhhlmfhkhcnaaPx7
import Derived.Test.YtmlhhlmfhkhcnaaPureSet
import Derived.Test.YtmlhhlmfhkhcnaaPureRangeMark
import Derived.Test.YtmlhhlmfhkhcnaaPureToInt
import Derived.Test.YtmlhhlmfhkhcnaaPureIntMark
set_option linter.unusedVariables false
namespace Go.Proofs.Ytmlhhlmfhkhcnaa.Pure
open Go.RowKit Go.Proofs.YtmlhhlmfhkhcnaaW.PrintWords Go.Proofs.YtmlhhlmfhkhcnaaW.PrintLast Go.Proofs.YtmlhhlmfhkhcnaaW.PrintMore Go.Proofs.Ytmlhhlmfhkhcnaa.P Go.Proofs.Ytmlhhlmfhkhcnaa.Base

theorem isIndexed_eq (a : Int) : impl_isIndexed.f a = some (inB a 1 2000) := by
  rw [impl_isIndexed.f, within_eq]
  rfl
/-- Is the number at i a page, and above the one before? -/
def good (l : List Int) (i : Nat) : Prop := (1 ≤ l.getD i 0 ∧ l.getD i 0 ≤ 2000) ∧ (0 < i → l.getD (i - 1) 0 < l.getD i 0)
theorem pages_l0 (l : List Int) (hn : l.length ≤ 1048576) : ∀ n i : Nat, i + n = l.length → ∃ b : Bool, Ev (fun k => spec_l1Rising.l0 k l 1 2000 l (l.length : Int) (i : Int)) b ∧ (b = true → ∀ j, i ≤ j → j < l.length → good l j) ∧
    (b = false → ∀ xs, Set1 xs → Ev (fun k => impl_RangesOfPages.l0 k l xs l (l.length : Int) (i : Int)) ([], false)) ∧
    (b = true → ∀ xs, Set1 xs → ∃ r : List S63 × Bool, Ev (fun k => impl_RangesOfPages.l0 k l xs l (l.length : Int) (i : Int)) r ∧ Ev (fun k => spec_RangesOfPages.l0 k (xs ++ [false]) l (l.length : Int) (i : Int)) r ∧ r.1.length ≤ 20) := by
  intro n
  induction n with
  | zero =>
    intro i hi
    refine ⟨true, Ev_step (fun k => by rw [spec_l1Rising.l0, if_neg (by omega)]) (Ev.now _), fun _ j h1 h2 => absurd h2 (by omega), (fun h => by cases h), fun _ xs hx => ?_⟩
    obtain ⟨⟨r1, r2⟩, a, b0, c⟩ := ranges_both xs hx 1 (by omega)
    have b : Ev (fun k => spec_ixOf.f k (xs ++ [false])) (r1, r2) := b0
    refine ⟨(r1, r2), Ev_step (fun k => by rw [impl_RangesOfPages.l0, if_neg (by omega)]) (Ev_bind a (Ev.now _)), Ev_step (fun k => by rw [spec_RangesOfPages.l0, if_neg (by omega)]) (Ev_bind b (Ev.now _)), c⟩
  | succ n ih =>
    intro i hi
    obtain ⟨b, h1, h2, h3, h4⟩ := ih (i + 1) (by omega)
    have w1 : wrap64 ((i : Int) - 1) = (i : Int) - 1 := by rw [w64 (by omega) (by omega)]
    by_cases hg : 1 ≤ l.getD i 0 ∧ l.getD i 0 ≤ 2000
    · have hin : inB (l.getD i 0) 1 2000 = true := by unfold inB; exact decide_eq_true hg
      obtain ⟨q, hq⟩ := Int.eq_ofNat_of_zero_le (show 0 ≤ l.getD i 0 by omega)
      by_cases h0 : 0 < i
      · have e1 : ((i - 1 : Nat) : Int) = (i : Int) - 1 := by omega
        by_cases hlt : l.getD (i - 1) 0 < l.getD i 0
        · refine ⟨b, Ev_step (fun k => ?_) h1, fun hb j hj1 hj2 => ?_, fun hb xs hx => ?_, fun hb xs hx => ?_⟩
          · rw [spec_l1Rising.l0, if_pos (by omega), if_pos (by omega), if_pos (by omega), l1In_eq, rd_nat, hin]
            simp only [Option.bind_some, if_true]
            rw [if_pos (by omega), w1, if_pos (by omega), if_pos (by omega), ← e1, rd_nat, if_neg (by omega), nextI i (by omega)]
          · by_cases e : j = i
            · subst e; exact ⟨hg, fun _ => hlt⟩
            · exact h2 hb j (by omega) hj2
          · refine Ev_step (fun k => ?_) (h3 hb (xs.set q true) (hx.put (by omega) true))
            have hl := hx.len
            rw [impl_RangesOfPages.l0, if_pos (by omega), if_pos (by omega), if_pos (by omega), isIndexed_eq, rd_nat, hin]
            simp only [Option.bind_some, if_true]
            rw [if_pos (by omega), w1, if_pos (by omega), if_pos (by omega), ← e1, rd_nat, if_neg (by omega), if_pos (by omega), if_pos (by omega), nextI i (by omega), hq, Int.toNat_natCast]
          · obtain ⟨r, a, c, d⟩ := h4 hb (xs.set q true) (hx.put (by omega) true)
            have hl := hx.len
            refine ⟨r, Ev_step (fun k => ?_) a, Ev_step (fun k => ?_) c, d⟩
            · rw [impl_RangesOfPages.l0, if_pos (by omega), if_pos (by omega), if_pos (by omega), isIndexed_eq, rd_nat, hin]
              simp only [Option.bind_some, if_true]
              rw [if_pos (by omega), w1, if_pos (by omega), if_pos (by omega), ← e1, rd_nat, if_neg (by omega), if_pos (by omega), if_pos (by omega), nextI i (by omega), hq, Int.toNat_natCast]
            · rw [spec_RangesOfPages.l0, if_pos (by omega), if_pos (by omega), if_pos (by omega), rd_nat, if_pos (by omega), if_pos (by rw [List.length_append, List.length_singleton]; omega), nextI i (by omega), hq, Int.toNat_natCast, set_more _ _ _ _ (by omega)]
        · refine ⟨false, Ev_step (fun k => ?_) (Ev.now _), (fun hb => by cases hb), fun hb xs hx => Ev_step (fun k => ?_) (Ev.now _), (fun hb => by cases hb)⟩
          · rw [spec_l1Rising.l0, if_pos (by omega), if_pos (by omega), if_pos (by omega), l1In_eq, rd_nat, hin]
            simp only [Option.bind_some, if_true]
            rw [if_pos (by omega), w1, if_pos (by omega), if_pos (by omega), ← e1, rd_nat, if_pos (by omega)]
          · rw [impl_RangesOfPages.l0, if_pos (by omega), if_pos (by omega), if_pos (by omega), isIndexed_eq, rd_nat, hin]
            simp only [Option.bind_some, if_true]
            rw [if_pos (by omega), w1, if_pos (by omega), if_pos (by omega), ← e1, rd_nat, if_pos (by omega)]
      · refine ⟨b, Ev_step (fun k => ?_) h1, fun hb j hj1 hj2 => ?_, fun hb xs hx => ?_, fun hb xs hx => ?_⟩
        · rw [spec_l1Rising.l0, if_pos (by omega), if_pos (by omega), if_pos (by omega), l1In_eq, rd_nat, hin]
          simp only [Option.bind_some, if_true]
          rw [if_neg (by omega), nextI i (by omega)]
        · by_cases e : j = i
          · subst e; exact ⟨hg, fun h => absurd h h0⟩
          · exact h2 hb j (by omega) hj2
        · refine Ev_step (fun k => ?_) (h3 hb (xs.set q true) (hx.put (by omega) true))
          have hl := hx.len
          rw [impl_RangesOfPages.l0, if_pos (by omega), if_pos (by omega), if_pos (by omega), isIndexed_eq, rd_nat, hin]
          simp only [Option.bind_some, if_true]
          rw [if_neg (by omega), if_pos (by omega), if_pos (by omega), nextI i (by omega), hq, Int.toNat_natCast]
        · obtain ⟨r, a, c, d⟩ := h4 hb (xs.set q true) (hx.put (by omega) true)
          have hl := hx.len
          refine ⟨r, Ev_step (fun k => ?_) a, Ev_step (fun k => ?_) c, d⟩
          · rw [impl_RangesOfPages.l0, if_pos (by omega), if_pos (by omega), if_pos (by omega), isIndexed_eq, rd_nat, hin]
            simp only [Option.bind_some, if_true]
            rw [if_neg (by omega), if_pos (by omega), if_pos (by omega), nextI i (by omega), hq, Int.toNat_natCast]
          · rw [spec_RangesOfPages.l0, if_pos (by omega), if_pos (by omega), if_pos (by omega), rd_nat, if_pos (by omega), if_pos (by rw [List.length_append, List.length_singleton]; omega), nextI i (by omega), hq, Int.toNat_natCast, set_more _ _ _ _ (by omega)]
    · have hin : inB (l.getD i 0) 1 2000 = false := by unfold inB; exact decide_eq_false hg
      refine ⟨false, Ev_step (fun k => ?_) (Ev.now _), (fun hb => by cases hb), fun hb xs hx => Ev_step (fun k => ?_) (Ev.now _), (fun hb => by cases hb)⟩
      · rw [spec_l1Rising.l0, if_pos (by omega), if_pos (by omega), if_pos (by omega), l1In_eq, rd_nat, hin]
        rfl
      · rw [impl_RangesOfPages.l0, if_pos (by omega), if_pos (by omega), if_pos (by omega), isIndexed_eq, rd_nat, hin]
        rfl
theorem good_up (l : List Int) (h : ∀ j, j < l.length → good l j) : ∀ j, j < l.length → (j : Int) + 1 ≤ l.getD j 0 := by
  intro j
  induction j with
  | zero => intro hj; have := (h 0 hj).1; omega
  | succ j ih => intro hj; have := (h (j + 1) hj).2 (by omega); have := ih (by omega); rw [Nat.add_sub_cancel] at *; omega
theorem pages_ev (l : List Int) (hn : l.length ≤ 1048576) : ∃ r : List S63 × Bool, Ev (fun k => spec_RangesOfPages.f k l) r ∧ Ev (fun k => impl_RangesOfPages.f k l) r ∧ r.1.length ≤ 1048576 := by
  obtain ⟨b, h1, h2, h3, h4⟩ := pages_l0 l hn l.length 0 (by omega)
  have es : ∀ k, impl_RangesOfPages.f k l = impl_RangesOfPages.l0 k l (List.replicate 2001 false) l (l.length : Int) ((0 : Nat) : Int) := fun k => by rw [impl_RangesOfPages.f, if_pos (by omega)]; rfl
  have er : Ev (fun k => spec_l1Rising.f k l 1 2000) b := Ev.congr (fun k => by rw [spec_l1Rising.f]; rfl) h1
  cases b with
  | false =>
    refine ⟨([], false), ?_, Ev.congr es (h3 rfl _ Set1.empty), Nat.zero_le _⟩
    simp only [spec_RangesOfPages.f]
    by_cases hl : (l.length : Int) > 2000
    · refine Ev_pos hl ?_
      refine Ev_step (fun k => by rw [spec_RangesOfPages.j0]) ?_
      exact Ev_pos rfl (Ev.now _)
    · refine Ev_neg hl (Ev_bind er ?_)
      refine Ev_step (fun k => by rw [spec_RangesOfPages.j0]) ?_
      exact Ev_pos rfl (Ev.now _)
  | true =>
    obtain ⟨r, a, c, d⟩ := h4 rfl _ Set1.empty
    refine ⟨r, ?_, Ev.congr es a, by omega⟩
    have hl : ¬ (l.length : Int) > 2000 := by
      intro h
      have := good_up l (fun j hj => h2 rfl j (Nat.zero_le _) hj) 2000 (by omega)
      have := (h2 rfl 2000 (Nat.zero_le _) (by omega)).1
      omega
    simp only [spec_RangesOfPages.f]
    refine Ev_neg hl (Ev_bind er ?_)
    refine Ev_step (fun k => by rw [spec_RangesOfPages.j0]) ?_
    refine Ev_neg (by decide) (Ev_pos (by omega) ?_)
    exact Ev.congr (fun k => by rw [show List.replicate 2002 false = List.replicate 2001 false ++ [false] from List.replicate_succ']; rfl) c
theorem FnExactRangesOfPages : laws_FnExactRangesOfPages.Pure := by
  intro l ⟨hm, _⟩
  refine Ev.rounds (g := fun k => laws_FnExactRangesOfPages.f k l) ?_
  by_cases hn : l.length ≤ 1048576
  · have h1 := toIntS_ev l hn
    obtain ⟨⟨d1, d2⟩, h2, h4, hd⟩ := pages_ev l hn
    have h3 := eqIntS_ev l hn
    have h8 := markIntS_ev l hn
    have h5 := eqRangeS_ev d1 hd
    have h6 := markRangeS_ev d1 hd
    have h7 := heldRangeS_ev d1.length hd
    simp only [laws_FnExactRangesOfPages.f]
    refine Ev_neg (by omega) ?_
    refine Ev_bind h1 (Ev_bind h2 (Ev_bind h1 (Ev_bind h4 (Ev_bind h5 (Ev_pos rfl ?_)))))
    refine Ev_step (fun k => by rw [laws_FnExactRangesOfPages.j0]) ?_
    refine Ev_neg (by simp) (Ev_bind h1 (Ev_bind h3 (Ev_pos rfl (Ev_bind h8 (Ev_neg (by omega) (Ev_bind h5 (Ev_pos rfl ?_)))))))
    refine Ev_step (fun k => by rw [laws_FnExactRangesOfPages.j1]) ?_
    refine Ev_neg (by simp) (Ev_bind h6 (Ev_bind h7 (Ev_neg (by omega) (Ev_pos rfl (Ev_bind h1 (Ev_bind h4 (Ev_bind h5 (Ev_pos rfl ?_))))))))
    refine Ev_step (fun k => by rw [laws_FnExactRangesOfPages.j2]) ?_
    refine Ev_neg (by simp) (Ev_bind h7 (Ev_neg (by omega) (Ev_pos rfl (Ev.now _))))
  · refine ⟨0, fun k _ => ?_⟩
    simp only [laws_FnExactRangesOfPages.f]
    rw [if_pos (by omega)]
end Go.Proofs.Ytmlhhlmfhkhcnaa.Pure
