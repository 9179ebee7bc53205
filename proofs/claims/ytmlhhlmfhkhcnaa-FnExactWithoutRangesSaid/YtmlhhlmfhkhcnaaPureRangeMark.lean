/- Rows of ranges: marks are laid and held; the lists are at most 1048576 long. -/
import Derived.Test.YtmlhhlmfhkhcnaaPx2
import Derived.Test.YtmlhhlmfhkhcnaaPx2
import Derived.Test.YtmlhhlmfhkhcnaaBase
namespace Go.Proofs.Ytmlhhlmfhkhcnaa.P
open Go.RowKit Go.Proofs.YtmlhhlmfhkhcnaaW.PrintWords Go.Proofs.YtmlhhlmfhkhcnaaW.PrintLast Go.Proofs.YtmlhhlmfhkhcnaaW.PrintMore Go.Proofs.Ytmlhhlmfhkhcnaa.Base
set_option linter.unusedVariables false

/-- The first n marked ranges. -/
def mkR (n : Nat) : List S63 := (List.range n).map fun (j : Nat) => ⟨1 + 2 * (j : Int), 2 + 2 * (j : Int)⟩
theorem mkR_len (n : Nat) : (mkR n).length = n := by simp [mkR]
theorem mkR_succ (n : Nat) : mkR (n + 1) = mkR n ++ [⟨1 + 2 * (n : Int), 2 + 2 * (n : Int)⟩] := by simp [mkR, List.range_succ]
theorem mkR_at (n i : Nat) (h : i < n) (z : S63) : (mkR n).getD i z = ⟨1 + 2 * (i : Int), 2 + 2 * (i : Int)⟩ := by
  rw [List.getD_eq_getElem?_getD]
  simp [mkR, h]
theorem markRangeS_l0 (l : List S63) (hn : l.length ≤ 1048576) : ∀ n i : Nat, i + n = l.length → Ev (fun k => laws_markRangeS.l0 k (mkR i ++ l.drop i) (1 + 2 * (i : Int)) (i : Int)) (1 + 2 * (l.length : Int), mkR l.length) := by
  intro n
  induction n with
  | zero =>
    intro i hi
    obtain rfl : i = l.length := by omega
    refine Ev.step (fun k => ?_) (Ev.now _)
    have hl : (mkR l.length ++ l.drop l.length).length = l.length := by simp [mkR_len]
    simp only [laws_markRangeS.l0, hl]
    rw [if_neg (by omega), List.drop_length, List.append_nil]
  | succ n ih =>
    intro i hi
    have h : i < l.length := by omega
    refine Ev.step (fun k => ?_) (ih (i + 1) (by omega))
    have hl : (mkR i ++ l.drop i).length = l.length := by simp [mkR_len]; omega
    have w1 : wrap64 (1 + 2 * (i : Int) + 1) = 2 + 2 * (i : Int) := by rw [w64 (by omega) (by omega)]; omega
    have w2 : wrap64 (2 + 2 * (i : Int) + 1) = 1 + 2 * ((i + 1 : Nat) : Int) := by rw [w64 (by omega) (by omega)]; omega
    have w4 : wrap64 ((i : Int) + 1) = ((i + 1 : Nat) : Int) := by rw [w64 (by omega) (by omega)]; omega
    simp only [laws_markRangeS.l0, hl, Option.bind_some, rd_T63, Int.toNat_natCast, w1, w2, w4]
    rw [if_pos (by omega), if_pos (by omega)]
    rw [getD_set_self _ _ _ (by rw [hl]; exact h), List.set_set, set_drop _ _ _ (mkR_len i) h, ← mkR_succ]
theorem markRangeS_ev (l : List S63) (hn : l.length ≤ 1048576) : Ev (fun k => laws_markRangeS.f k l 1) (1 + 2 * (l.length : Int), mkR l.length) := by
  have := markRangeS_l0 l hn l.length 0 (by omega)
  refine Ev.congr (fun k => ?_) this
  rw [laws_markRangeS.f]
  have e : mkR 0 ++ l.drop 0 = l := by simp [mkR]
  rw [e]
  rfl
theorem heldRangeS_l0 (m : Nat) (hn : m ≤ 1048576) : ∀ n i : Nat, i + n = m → Ev (fun k => laws_heldRangeS.l0 k (mkR m) (1 + 2 * (i : Int)) (i : Int)) (1 + 2 * (m : Int)) := by
  intro n
  induction n with
  | zero =>
    intro i hi
    obtain rfl : i = m := by omega
    refine Ev.step (fun k => ?_) (Ev.now _)
    simp only [laws_heldRangeS.l0, mkR_len]
    rw [if_neg (by omega)]
  | succ n ih =>
    intro i hi
    refine Ev.step (fun k => ?_) (ih (i + 1) (by omega))
    have w1 : wrap64 (1 + 2 * (i : Int) + 1) = 2 + 2 * (i : Int) := by rw [w64 (by omega) (by omega)]; omega
    have w2 : wrap64 (2 + 2 * (i : Int) + 1) = 1 + 2 * ((i + 1 : Nat) : Int) := by rw [w64 (by omega) (by omega)]; omega
    have w4 : wrap64 ((i : Int) + 1) = ((i + 1 : Nat) : Int) := by rw [w64 (by omega) (by omega)]; omega
    simp only [laws_heldRangeS.l0, mkR_len, rd_T63, Int.toNat_natCast, mkR_at m i (by omega), w1, w2, w4, if_true]
    rw [if_pos (by omega), if_pos (by omega)]
theorem heldRangeS_ev (m : Nat) (hn : m ≤ 1048576) : Ev (fun k => laws_heldRangeS.f k (mkR m) 1) (1 + 2 * (m : Int)) :=
  Ev.congr (fun k => by rw [laws_heldRangeS.f]; rfl) (heldRangeS_l0 m hn m 0 (by omega))
end Go.Proofs.Ytmlhhlmfhkhcnaa.P
