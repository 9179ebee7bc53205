/- Rows of whole numbers: marks that are laid; the lists are at most 1048576 long. -/
import Derived.Test.YtmdpiagpkocheaaPx1
import Derived.Test.YtmdpiagpkocheaaPureIntEq
namespace Go.Proofs.Ytmdpiagpkocheaa.P
open Go.RowKit Go.Proofs.YtmdpiagpkocheaaW.PrintWords Go.Proofs.YtmdpiagpkocheaaW.PrintLast Go.Proofs.YtmdpiagpkocheaaW.PrintMore Go.Proofs.Ytmdpiagpkocheaa.Base
set_option linter.unusedVariables false

/-- The first n marks. -/
def mkI (n : Nat) : List Int := (List.range n).map fun (j : Nat) => 1 + (j : Int)
theorem mkI_len (n : Nat) : (mkI n).length = n := by simp [mkI]
theorem mkI_succ (n : Nat) : mkI (n + 1) = mkI n ++ [1 + (n : Int)] := by simp [mkI, List.range_succ]
theorem mkI_at (n i : Nat) (h : i < n) : (mkI n).getD i 0 = 1 + (i : Int) := by
  rw [List.getD_eq_getElem?_getD]
  simp [mkI, h]
theorem markIntS_l0 (l : List Int) (hn : l.length ≤ 1048576) : ∀ n i : Nat, i + n = l.length → Ev (fun k => laws_markIntS.l0 k (mkI i ++ l.drop i) (1 + (i : Int)) (i : Int)) (1 + (l.length : Int), mkI l.length) := by
  intro n
  induction n with
  | zero =>
    intro i hi
    obtain rfl : i = l.length := by omega
    refine Ev_step (fun k => ?_) (Ev.now _)
    have hl : (mkI l.length ++ l.drop l.length).length = l.length := by simp [mkI_len]
    rw [laws_markIntS.l0, hl, if_neg (by omega), List.drop_length, List.append_nil]
  | succ n ih =>
    intro i hi
    have h : i < l.length := by omega
    refine Ev_step (fun k => ?_) (ih (i + 1) (by omega))
    have hl : (mkI i ++ l.drop i).length = l.length := by simp [mkI_len]; omega
    have w1 : wrap64 (1 + (i : Int) + 1) = 1 + ((i + 1 : Nat) : Int) := by rw [w64 (by omega) (by omega)]; omega
    rw [laws_markIntS.l0, hl, if_pos (by omega), if_pos (by omega), Int.toNat_natCast, w1, nextI i (by omega), set_drop _ _ _ (mkI_len i) h, ← mkI_succ]
theorem markIntS_ev (l : List Int) (hn : l.length ≤ 1048576) : Ev (fun k => laws_markIntS.f k l 1) (1 + (l.length : Int), mkI l.length) := by
  have := markIntS_l0 l hn l.length 0 (by omega)
  refine Ev.congr (fun k => ?_) this
  rw [laws_markIntS.f]
  have e : mkI 0 ++ l.drop 0 = l := by simp [mkI]
  rw [e]
  rfl
end Go.Proofs.Ytmdpiagpkocheaa.P
