/- Marks are laid in clues; the lists are at most 1048576 long. -/
import Derived.Test.YtmcingnpbececaaDoorPx10
import Derived.Test.YtmcingnpbececaaDoorBase
namespace Go.Proofs.YtmcingnpbececaaDoor.P
open Go.RowKit Go.Proofs.YtmcingnpbececaaDoorW.PrintWords Go.Proofs.YtmcingnpbececaaDoorW.PrintLast Go.Proofs.YtmcingnpbececaaDoorW.PrintMore Go.Proofs.YtmcingnpbececaaDoor.Base
set_option linter.unusedVariables false

/-- The first n marked clues. -/
def mkC (n : Nat) : List S51 := (List.range n).map fun (j : Nat) => ⟨1 + 3 * (j : Int), 2 + 3 * (j : Int), 3 + 3 * (j : Int)⟩
theorem mkC_len (n : Nat) : (mkC n).length = n := by simp [mkC]
theorem mkC_succ (n : Nat) : mkC (n + 1) = mkC n ++ [⟨1 + 3 * (n : Int), 2 + 3 * (n : Int), 3 + 3 * (n : Int)⟩] := by simp [mkC, List.range_succ]
theorem mkC_at (n i : Nat) (h : i < n) (z : S51) : (mkC n).getD i z = ⟨1 + 3 * (i : Int), 2 + 3 * (i : Int), 3 + 3 * (i : Int)⟩ := by
  rw [List.getD_eq_getElem?_getD]
  simp [mkC, h]
theorem markClueS_l0 (l : List S51) (hn : l.length ≤ 1048576) : ∀ n i : Nat, i + n = l.length → Ev (fun k => laws_markClueS.l0 k (mkC i ++ l.drop i) (1 + 3 * (i : Int)) (i : Int)) (1 + 3 * (l.length : Int), mkC l.length) := by
  intro n
  induction n with
  | zero =>
    intro i hi
    obtain rfl : i = l.length := by omega
    refine Ev.step (fun k => ?_) (Ev.now _)
    have hl : (mkC l.length ++ l.drop l.length).length = l.length := by simp [mkC_len]
    simp only [laws_markClueS.l0, hl]
    rw [if_neg (by omega), List.drop_length, List.append_nil]
  | succ n ih =>
    intro i hi
    have h : i < l.length := by omega
    refine Ev.step (fun k => ?_) (ih (i + 1) (by omega))
    have hl : (mkC i ++ l.drop i).length = l.length := by simp [mkC_len]; omega
    have w1 : wrap64 (1 + 3 * (i : Int) + 1) = 2 + 3 * (i : Int) := by rw [w64 (by omega) (by omega)]; omega
    have w2 : wrap64 (2 + 3 * (i : Int) + 1) = 3 + 3 * (i : Int) := by rw [w64 (by omega) (by omega)]; omega
    have w3 : wrap64 (3 + 3 * (i : Int) + 1) = 1 + 3 * ((i + 1 : Nat) : Int) := by rw [w64 (by omega) (by omega)]; omega
    have w4 : wrap64 ((i : Int) + 1) = ((i + 1 : Nat) : Int) := by rw [w64 (by omega) (by omega)]; omega
    simp only [laws_markClueS.l0, hl, Option.bind_some, rd_T51, Int.toNat_natCast, w1, w2, w3, w4]
    rw [if_pos (by omega), if_pos (by omega)]
    rw [getD_set_self _ _ _ (by rw [hl]; exact h), getD_set_self _ _ _ (by rw [List.length_set, hl]; exact h), List.set_set, List.set_set, set_drop _ _ _ (mkC_len i) h, ← mkC_succ]
theorem markPuzzle_ev (l : List S51) (hn : l.length ≤ 1048576) : Ev (fun k => laws_markPuzzle.f k l 1) (1 + 3 * (l.length : Int), mkC l.length) := by
  have := markClueS_l0 l hn l.length 0 (by omega)
  refine Ev.congr (fun k => ?_) this
  simp only [laws_markPuzzle.f, laws_markClueS.f]
  show Option.bind (laws_markClueS.l0 k l 1 0) _ = laws_markClueS.l0 k (mkC 0 ++ l.drop 0) (1 + 3 * ((0 : Nat) : Int)) ((0 : Nat) : Int)
  have e : mkC 0 ++ l.drop 0 = l := by simp [mkC]
  rw [e]
  show Option.bind (laws_markClueS.l0 k l 1 0) _ = laws_markClueS.l0 k l 1 0
  cases laws_markClueS.l0 k l 1 0 <;> rfl
end Go.Proofs.YtmcingnpbececaaDoor.P
