/- The size of a law's ranges; what are ranges and a page, and a number of pages, by both. -/
import Derived.Test.YtmlhhlmfhkhcnaaPx2
import Derived.Test.YtmlhhlmfhkhcnaaPureRange
namespace Go.Proofs.Ytmlhhlmfhkhcnaa.P
open Go.RowKit Go.Proofs.YtmlhhlmfhkhcnaaW.PrintWords Go.Proofs.YtmlhhlmfhkhcnaaW.PrintLast Go.Proofs.YtmlhhlmfhkhcnaaW.PrintMore Go.Proofs.Ytmlhhlmfhkhcnaa.Base
set_option linter.unusedVariables false

theorem szRangeS_le (l : List S67) (h : l.length ≤ 1048576) : laws_szRangeS.f l 1048576 = some (1048576 - (l.length : Int)) := by
  rw [laws_szRangeS.f, w64 (by omega) (by omega), if_neg (by omega)]
theorem szRangeS_gt (l : List S67) (h : ¬ l.length ≤ 1048576) (hm : l.length ≤ maxLen) : laws_szRangeS.f l 1048576 = some (-1) := by
  unfold maxLen at hm
  rw [laws_szRangeS.f, if_pos (by unfold wrap64; omega)]
/-- The ranges' parts, where both say they are ranges. -/
theorem good_all (l : List S63) (hn : l.length ≤ 1048576) : ∀ n i : Nat, i + n = l.length → Ev (fun k => spec_ixGood.l0 k l l (l.length : Int) (i : Int)) true → ∀ j, i ≤ j → j < l.length → rangeB (rd_T63 l (j : Int)).f0 (rd_T63 l (j : Int)).f1 = true := by
  intro n
  induction n with
  | zero => intro i hi _ j h1 h2; omega
  | succ n ih =>
    intro i hi he j h1 h2
    obtain ⟨K, hK⟩ := he
    have e1 : spec_ixGood.l0 (K + 1) l l (l.length : Int) (i : Int) = some true := hK (K + 1) (by omega)
    by_cases hr : rangeB (rd_T63 l (i : Int)).f0 (rd_T63 l (i : Int)).f1 = true
    · by_cases e : j = i
      · subst e; exact hr
      · refine ih (i + 1) (by omega) ?_ j (by omega) h2
        by_cases h0 : (i : Int) > 0
        · have w : wrap64 ((i : Int) - 1) = (i : Int) - 1 := by rw [w64 (by omega) (by omega)]
          by_cases hg : (rd_T63 l (i : Int)).f0 < wrap64 ((rd_T63 l ((i : Int) - 1)).f1 + 2)
          · exfalso
            have e3 : spec_ixGood.l0 (K + 1) l l (l.length : Int) (i : Int) = some true := hK (K + 1) (by omega)
            rw [spec_ixGood.l0, if_pos (by omega), if_pos (by omega), if_pos (by omega), ixRange_eq, w] at e3
            simp only [Option.bind_some] at e3
            rw [if_pos hr, if_pos h0, if_pos (by omega), if_pos (by omega), if_pos hg] at e3
            cases e3
          · refine ⟨K, fun k hk => ?_⟩
            have e3 : spec_ixGood.l0 (k + 1) l l (l.length : Int) (i : Int) = some true := hK (k + 1) (by omega)
            rw [spec_ixGood.l0, if_pos (by omega), if_pos (by omega), if_pos (by omega), ixRange_eq, w, nextI i (by omega)] at e3
            simp only [Option.bind_some] at e3
            rw [if_pos hr, if_pos h0, if_pos (by omega), if_pos (by omega), if_neg hg] at e3
            exact e3
        · refine ⟨K, fun k hk => ?_⟩
          have e3 : spec_ixGood.l0 (k + 1) l l (l.length : Int) (i : Int) = some true := hK (k + 1) (by omega)
          rw [spec_ixGood.l0, if_pos (by omega), if_pos (by omega), if_pos (by omega), ixRange_eq, nextI i (by omega)] at e3
          simp only [Option.bind_some] at e3
          rw [if_pos hr, if_neg h0] at e3
          exact e3
    · exfalso
      rw [spec_ixGood.l0, if_pos (by omega), if_pos (by omega), if_pos (by omega), ixRange_eq] at e1
      simp only [Option.bind_some] at e1
      rw [if_neg hr] at e1
      cases e1
/-- Both say the same of a list, and its ranges are ranges if they say yes. -/
theorem goods_ev (l : List S63) (hn : l.length ≤ 1048576) : ∃ r : Bool, Ev (fun k => spec_ixGood.f k l) r ∧ Ev (fun k => impl_AreRanges.f k l) r ∧ (r = true → ∀ i : Nat, i < l.length → rangeB (rd_T63 l (i : Int)).f0 (rd_T63 l (i : Int)).f1 = true) := by
  obtain ⟨r, a, b, c⟩ := ranges_ev l hn
  refine ⟨r, a, b, fun h i hi => ?_⟩
  have hl := c h
  subst h
  refine good_all l hn l.length 0 (by omega) ?_ i (Nat.zero_le _) hi
  obtain ⟨K, hK⟩ := a
  refine ⟨K, fun k hk => ?_⟩
  have : spec_ixGood.f k l = some true := hK k hk
  rw [spec_ixGood.f, if_neg (by omega)] at this
  exact this
end Go.Proofs.Ytmlhhlmfhkhcnaa.P
