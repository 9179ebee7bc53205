/- Rows of whole numbers: marks that are held; the lists are at most 1048576 long. -/
import Derived.Test.YtmdpiagpkocheaaPx2
import Derived.Test.YtmdpiagpkocheaaPureIntMark
namespace Go.Proofs.Ytmdpiagpkocheaa.P
open Go.RowKit Go.Proofs.YtmdpiagpkocheaaW.PrintWords Go.Proofs.YtmdpiagpkocheaaW.PrintLast Go.Proofs.YtmdpiagpkocheaaW.PrintMore Go.Proofs.Ytmdpiagpkocheaa.Base
set_option linter.unusedVariables false

theorem heldIntS_l0 (m : Nat) (hn : m ≤ 1048576) : ∀ n i : Nat, i + n = m → Ev (fun k => laws_heldIntS.l0 k (mkI m) (1 + (i : Int)) (i : Int)) (1 + (m : Int)) := by
  intro n
  induction n with
  | zero =>
    intro i hi
    obtain rfl : i = m := by omega
    refine Ev_step (fun k => ?_) (Ev.now _)
    rw [laws_heldIntS.l0, mkI_len, if_neg (by omega)]
  | succ n ih =>
    intro i hi
    refine Ev_step (fun k => ?_) (ih (i + 1) (by omega))
    have w1 : wrap64 (1 + (i : Int) + 1) = 1 + ((i + 1 : Nat) : Int) := by rw [w64 (by omega) (by omega)]; omega
    rw [laws_heldIntS.l0, mkI_len, if_pos (by omega), if_pos (by omega), rd_nat, mkI_at m i (by omega), if_pos rfl, w1, nextI i (by omega)]
theorem heldIntS_ev (m : Nat) (hn : m ≤ 1048576) : Ev (fun k => laws_heldIntS.f k (mkI m) 1) (1 + (m : Int)) :=
  Ev.congr (fun k => by rw [laws_heldIntS.f]; rfl) (heldIntS_l0 m hn m 0 (by omega))
end Go.Proofs.Ytmdpiagpkocheaa.P
