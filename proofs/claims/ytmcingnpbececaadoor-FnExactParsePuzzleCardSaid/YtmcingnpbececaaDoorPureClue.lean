/- The printed helpers on clues: copies, tests, marks; the lists are at most 1048576 long. -/
import Derived.Test.YtmcingnpbececaaDoorPx1
import Derived.Test.YtmcingnpbececaaDoorPx2
import Derived.Test.YtmcingnpbececaaDoorPx2
import Derived.Test.YtmcingnpbececaaDoorPx3
import Derived.Test.YtmcingnpbececaaDoorPx6
import Derived.Test.YtmcingnpbececaaDoorExtIsPuzzle
import Derived.Test.YtmcingnpbececaaDoorPureClueB
namespace Go.Proofs.YtmcingnpbececaaDoor.P
open Go.RowKit Go.Proofs.YtmcingnpbececaaDoorW.PrintWords Go.Proofs.YtmcingnpbececaaDoorW.PrintLast Go.Proofs.YtmcingnpbececaaDoorW.PrintMore Go.Proofs.YtmcingnpbececaaDoor.Base
set_option linter.unusedVariables false

/-- A law's clue as the program's. -/
def toC (x : S77) : S51 := ⟨x.f0, x.f1, x.f2⟩
theorem toClueS_l0 (xs : List S77) (hn : xs.length ≤ 1048576) : ∀ n i : Nat, i + n = xs.length → Ev (fun k => laws_toClueS.l0 k xs ((xs.take i).map toC ++ List.replicate (xs.length - i) z51) (i : Int)) (xs.map toC) := by
  intro n
  induction n with
  | zero =>
    intro i hi
    refine Ev.step (fun k => ?_) (Ev.now _)
    simp only [laws_toClueS.l0]
    rw [if_neg (by omega), List.take_of_length_le (by omega), show xs.length - i = 0 by omega, List.replicate_zero, List.append_nil]
  | succ n ih =>
    intro i hi
    have h : i < xs.length := by omega
    refine Ev.step (fun k => ?_) (ih (i + 1) (by omega))
    have hl : (List.map toC (xs.take i) ++ List.replicate (xs.length - i) z51).length = xs.length := by simp; omega
    simp only [laws_toClueS.l0, laws_toClue.f, Option.bind_some]
    rw [if_pos (by omega), if_pos (by omega), if_pos (by rw [hl]; omega), w64 (by omega) (by omega)]
    have e : (⟨(rd_T77 xs (i : Int)).f0, (rd_T77 xs (i : Int)).f1, (rd_T77 xs (i : Int)).f2⟩ : S51) = toC xs[i] := by
      unfold rd_T77 toC
      rw [Int.toNat_natCast, getD_at xs _ h]
    rw [e, Int.toNat_natCast, set_copied toC xs _ h]
    rfl
theorem toClueS_ev (xs : List S77) (hn : xs.length ≤ 1048576) : Ev (fun k => laws_toClueS.f k xs) (xs.map toC) := by
  have := toClueS_l0 xs hn xs.length 0 (by omega)
  simp only [List.take_zero, List.map_nil, List.nil_append, Nat.sub_zero] at this
  refine Ev.congr (fun k => ?_) this
  simp only [laws_toClueS.f]
  rw [if_pos (by omega), if_pos (by omega), Int.toNat_natCast]
  rfl
theorem toPuzzle_ev (xs : List S77) (hn : xs.length ≤ 1048576) : Ev (fun k => laws_toPuzzle.f k xs) (xs.map toC) := by
  refine Ev.congr (fun k => ?_) (toClueS_ev xs hn)
  simp only [laws_toPuzzle.f]
  cases laws_toClueS.f k xs <;> rfl
theorem szPuzzle_eq (xs : List S77) (hm : xs.length ≤ maxLen) : laws_szPuzzle.f xs 1048576 = some (if xs.length ≤ 1048576 then 1048576 - (xs.length : Int) else -1) := by
  have e : wrap64 (1048576 - (xs.length : Int)) = 1048576 - (xs.length : Int) := by unfold maxLen at hm; unfold wrap64; omega
  simp only [laws_szPuzzle.f, laws_szClueS.f, e]
  by_cases h : xs.length ≤ 1048576
  · rw [if_neg (by omega), if_pos h]
    simp only [Option.bind_some]
    rw [if_neg (by omega)]
  · rw [if_pos (by omega), if_neg h]
    rfl

def goodP (l : List S51) : Bool := decide (l.length ≤ 6) && l.all clueOk
theorem pzGood_l0 (l : List S51) (hn : l.length ≤ 1048576) : ∀ n i : Nat, i + n = l.length → Ev (fun k => spec_pzGood.l0 k l (l.length : Int) (i : Int)) ((l.drop i).all clueOk) := by
  intro n
  induction n with
  | zero =>
    intro i hi
    refine Ev.step (fun k => ?_) (Ev.now _)
    simp only [spec_pzGood.l0]
    rw [if_neg (by omega), List.drop_of_length_le (by omega)]
    rfl
  | succ n ih =>
    intro i hi
    have h : i < l.length := by omega
    obtain ⟨K, hK⟩ := ih (i + 1) (by omega)
    refine ⟨K + 2, fun k hk => ?_⟩
    obtain ⟨k, rfl⟩ : ∃ m, k = m + 2 := ⟨k - 2, by omega⟩
    simp only [spec_pzGood.l0, spec_clue, Option.bind_some]
    rw [if_pos (by omega), if_pos (by omega), if_pos (by omega), all_drop clueOk l z51 h]
    have e : clueB (rd_T51 l (i : Int)).f0 (rd_T51 l (i : Int)).f1 (rd_T51 l (i : Int)).f2 = clueOk (l.getD i z51) := by
      unfold rd_T51 clueOk
      rw [Int.toNat_natCast]
    rw [e]
    cases clueOk (l.getD i z51) with
    | false => simp
    | true =>
      rw [if_pos rfl, w64 (by omega) (by omega)]
      exact hK (k + 1) (by omega)
theorem pzGood_ev (l : List S51) (hn : l.length ≤ 1048576) : Ev (fun k => spec_pzGood.f k l) (goodP l) := by
  by_cases h : l.length ≤ 6
  · have := pzGood_l0 l hn l.length 0 (by omega)
    refine Ev.congr (f := fun k => spec_pzGood.l0 k l (l.length : Int) 0) (fun k => ?_) ?_
    · simp only [spec_pzGood.f]
      rw [if_neg (by omega)]
    · have e : goodP l = (l.drop 0).all clueOk := by simp [goodP, h]
      rw [e]
      exact this
  · refine Ev.congr (f := fun _ => some false) (fun k => ?_) ?_
    · simp only [spec_pzGood.f]
      rw [if_pos (by omega)]
    · have e : goodP l = false := by simp [goodP, h]
      rw [e]
      exact Ev.now _
theorem closure_eq (x : S51) : impl_IsPuzzle_1.f 1 x.f0 x.f1 x.f2 = some (!clueOk x) := by
  simp only [impl_IsPuzzle_1.f, impl_clue, Option.bind_some, clueOk]
theorem implIsPuzzle_eq (l : List S51) : impl_IsPuzzle.f l = some (goodP l) := by
  have h1 : (l.all fun x => (impl_IsPuzzle_1.f 1 x.f0 x.f1 x.f2).isSome) = true := by
    rw [List.all_eq_true]
    intro x _
    rw [closure_eq]
    rfl
  have h2 : l.any badClue = !l.all clueOk := by
    have : badClue = fun x => !clueOk x := by
      funext x
      simp only [badClue, closure_eq, Option.getD_some]
    rw [this, List.not_all_eq_any_not]
  unfold impl_IsPuzzle.f goodP
  rw [if_pos h1, h2, Bool.not_not]
  by_cases h : l.length ≤ 6
  · rw [if_neg (by omega), decide_eq_true h, Bool.true_and]
  · rw [if_pos (by omega), decide_eq_false h, Bool.false_and]
theorem eqClueS_l0 (l : List S51) (hn : l.length ≤ 1048576) : ∀ n i : Nat, i + n = l.length → Ev (fun k => laws_eqClueS.l0 k l l (i : Int)) true := by
  intro n
  induction n with
  | zero =>
    intro i hi
    refine Ev.step (fun k => ?_) (Ev.now _)
    simp only [laws_eqClueS.l0]
    rw [if_neg (by omega)]
  | succ n ih =>
    intro i hi
    refine Ev.step (fun k => ?_) (ih (i + 1) (by omega))
    simp only [laws_eqClueS.l0, laws_eqClue.f, if_true, Option.bind_some]
    rw [if_pos (by omega), if_pos (by omega), if_pos (by omega), w64 (by omega) (by omega)]
    rfl
theorem eqClueS_ev (l : List S51) (hn : l.length ≤ 1048576) : Ev (fun k => laws_eqClueS.f k l l) true := by
  refine Ev.congr (f := fun k => laws_eqClueS.l0 k l l (0 : Nat)) (fun k => ?_) (eqClueS_l0 l hn l.length 0 (by omega))
  simp only [laws_eqClueS.f, if_true]
  rfl
theorem eqPuzzle_ev (l : List S51) (hn : l.length ≤ 1048576) : Ev (fun k => laws_eqPuzzle.f k l l) true := by
  refine Ev.congr (fun k => ?_) (eqClueS_ev l hn)
  simp only [laws_eqPuzzle.f]
  cases laws_eqClueS.f k l l with
  | none => rfl
  | some b => cases b <;> rfl
end Go.Proofs.YtmcingnpbececaaDoor.P
