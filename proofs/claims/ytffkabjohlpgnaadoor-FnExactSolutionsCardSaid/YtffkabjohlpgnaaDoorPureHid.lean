/- Marks laid in hidden books are held, and books are equal to themselves; the lists are at most 1048576 long. -/
import Derived.Test.YtffkabjohlpgnaaDoorPx13
import Derived.Test.YtffkabjohlpgnaaDoorPx13
import Derived.Test.YtffkabjohlpgnaaDoorPx12
import Derived.Test.YtffkabjohlpgnaaDoorBase
namespace Go.Proofs.YtffkabjohlpgnaaDoor.P
open Go.RowKit Go.Proofs.YtffkabjohlpgnaaDoorW.PrintWords Go.Proofs.YtffkabjohlpgnaaDoorW.PrintLast Go.Proofs.YtffkabjohlpgnaaDoorW.PrintMore Go.Proofs.YtffkabjohlpgnaaDoor.Base
set_option linter.unusedVariables false

theorem eqHiddenS_l0 (l : List S30) (hn : l.length ≤ 1048576) : ∀ n i : Nat, i + n = l.length → Ev (fun k => laws_eqHiddenS.l0 k l l (i : Int)) true := by
  intro n
  induction n with
  | zero =>
    intro i hi
    refine Ev.step (fun k => ?_) (Ev.now _)
    simp only [laws_eqHiddenS.l0]
    rw [if_neg (by omega)]
  | succ n ih =>
    intro i hi
    refine Ev.step (fun k => ?_) (ih (i + 1) (by omega))
    simp only [laws_eqHiddenS.l0, laws_eqHidden.f, if_true, Option.bind_some]
    rw [if_pos (by omega), if_pos (by omega), if_pos (by omega), w64 (by omega) (by omega)]
    rfl
theorem eqHiddenS_ev (l : List S30) (hn : l.length ≤ 1048576) : Ev (fun k => laws_eqHiddenS.f k l l) true := by
  refine Ev.congr (f := fun k => laws_eqHiddenS.l0 k l l (0 : Nat)) (fun k => ?_) (eqHiddenS_l0 l hn l.length 0 (by omega))
  simp only [laws_eqHiddenS.f, if_true]
  rfl
/-- The first n marked books. -/
def mkH (n : Nat) : List S30 := (List.range n).map fun (j : Nat) => ⟨1 + 2 * (j : Int), 2 + 2 * (j : Int)⟩
theorem mkH_len (n : Nat) : (mkH n).length = n := by simp [mkH]
theorem mkH_succ (n : Nat) : mkH (n + 1) = mkH n ++ [⟨1 + 2 * (n : Int), 2 + 2 * (n : Int)⟩] := by simp [mkH, List.range_succ]
theorem mkH_at (n i : Nat) (h : i < n) (z : S30) : (mkH n).getD i z = ⟨1 + 2 * (i : Int), 2 + 2 * (i : Int)⟩ := by
  rw [List.getD_eq_getElem?_getD]
  simp [mkH, h]
theorem markHiddenS_l0 (l : List S30) (hn : l.length ≤ 1048576) : ∀ n i : Nat, i + n = l.length → Ev (fun k => laws_markHiddenS.l0 k (mkH i ++ l.drop i) (1 + 2 * (i : Int)) (i : Int)) (1 + 2 * (l.length : Int), mkH l.length) := by
  intro n
  induction n with
  | zero =>
    intro i hi
    obtain rfl : i = l.length := by omega
    refine Ev.step (fun k => ?_) (Ev.now _)
    have hl : (mkH l.length ++ l.drop l.length).length = l.length := by simp [mkH_len]
    simp only [laws_markHiddenS.l0, hl]
    rw [if_neg (by omega), List.drop_length, List.append_nil]
  | succ n ih =>
    intro i hi
    have h : i < l.length := by omega
    refine Ev.step (fun k => ?_) (ih (i + 1) (by omega))
    have hl : (mkH i ++ l.drop i).length = l.length := by simp [mkH_len]; omega
    have w1 : wrap64 (1 + 2 * (i : Int) + 1) = 2 + 2 * (i : Int) := by rw [w64 (by omega) (by omega)]; omega
    have w3 : wrap64 (2 + 2 * (i : Int) + 1) = 1 + 2 * ((i + 1 : Nat) : Int) := by rw [w64 (by omega) (by omega)]; omega
    have w4 : wrap64 ((i : Int) + 1) = ((i + 1 : Nat) : Int) := by rw [w64 (by omega) (by omega)]; omega
    simp only [laws_markHiddenS.l0, hl, Option.bind_some, rd_T30, Int.toNat_natCast, w1, w3, w4]
    rw [if_pos (by omega), if_pos (by omega)]
    rw [getD_set_self _ _ _ (by rw [hl]; exact h), List.set_set, set_drop _ _ _ (mkH_len i) h, ← mkH_succ]
theorem markHiddenS_ev (l : List S30) (hn : l.length ≤ 1048576) : Ev (fun k => laws_markHiddenS.f k l 1) (1 + 2 * (l.length : Int), mkH l.length) := by
  have := markHiddenS_l0 l hn l.length 0 (by omega)
  refine Ev.congr (fun k => ?_) this
  simp only [laws_markHiddenS.f]
  show laws_markHiddenS.l0 k l 1 0 = laws_markHiddenS.l0 k (mkH 0 ++ l.drop 0) (1 + 2 * ((0 : Nat) : Int)) ((0 : Nat) : Int)
  have e : mkH 0 ++ l.drop 0 = l := by simp [mkH]
  rw [e]
  rfl
theorem heldHiddenS_l0 (m : Nat) (hn : m ≤ 1048576) : ∀ n i : Nat, i + n = m → Ev (fun k => laws_heldHiddenS.l0 k (mkH m) (1 + 2 * (i : Int)) (i : Int)) (1 + 2 * (m : Int)) := by
  intro n
  induction n with
  | zero =>
    intro i hi
    obtain rfl : i = m := by omega
    refine Ev.step (fun k => ?_) (Ev.now _)
    simp only [laws_heldHiddenS.l0, mkH_len]
    rw [if_neg (by omega)]
  | succ n ih =>
    intro i hi
    refine Ev.step (fun k => ?_) (ih (i + 1) (by omega))
    have w1 : wrap64 (1 + 2 * (i : Int) + 1) = 2 + 2 * (i : Int) := by rw [w64 (by omega) (by omega)]; omega
    have w3 : wrap64 (2 + 2 * (i : Int) + 1) = 1 + 2 * ((i + 1 : Nat) : Int) := by rw [w64 (by omega) (by omega)]; omega
    have w4 : wrap64 ((i : Int) + 1) = ((i + 1 : Nat) : Int) := by rw [w64 (by omega) (by omega)]; omega
    simp only [laws_heldHiddenS.l0, mkH_len, rd_T30, Int.toNat_natCast, mkH_at m i (by omega), w1, w3, w4, if_true]
    rw [if_pos (by omega), if_pos (by omega)]
theorem heldHiddenS_ev (m : Nat) (hn : m ≤ 1048576) : Ev (fun k => laws_heldHiddenS.f k (mkH m) 1) (1 + 2 * (m : Int)) := by
  have := heldHiddenS_l0 m hn m 0 (by omega)
  exact Ev.congr (fun k => by simp only [laws_heldHiddenS.f]; rfl) this
end Go.Proofs.YtffkabjohlpgnaaDoor.P
