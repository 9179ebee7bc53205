/- Marks laid in clues are held; the lists are at most 1048576 long. -/
import Derived.Test.YtmcingnpbececaaDoorPx10
import Derived.Test.YtmcingnpbececaaDoorPureClueMark
namespace Go.Proofs.YtmcingnpbececaaDoor.P
open Go.RowKit Go.Proofs.YtmcingnpbececaaDoorW.PrintWords Go.Proofs.YtmcingnpbececaaDoorW.PrintLast Go.Proofs.YtmcingnpbececaaDoorW.PrintMore Go.Proofs.YtmcingnpbececaaDoor.Base
set_option linter.unusedVariables false

theorem heldClueS_l0 (m : Nat) (hn : m ≤ 1048576) : ∀ n i : Nat, i + n = m → Ev (fun k => laws_heldClueS.l0 k (mkC m) (1 + 3 * (i : Int)) (i : Int)) (1 + 3 * (m : Int)) := by
  intro n
  induction n with
  | zero =>
    intro i hi
    obtain rfl : i = m := by omega
    refine Ev.step (fun k => ?_) (Ev.now _)
    simp only [laws_heldClueS.l0, mkC_len]
    rw [if_neg (by omega)]
  | succ n ih =>
    intro i hi
    refine Ev.step (fun k => ?_) (ih (i + 1) (by omega))
    have w1 : wrap64 (1 + 3 * (i : Int) + 1) = 2 + 3 * (i : Int) := by rw [w64 (by omega) (by omega)]; omega
    have w2 : wrap64 (2 + 3 * (i : Int) + 1) = 3 + 3 * (i : Int) := by rw [w64 (by omega) (by omega)]; omega
    have w3 : wrap64 (3 + 3 * (i : Int) + 1) = 1 + 3 * ((i + 1 : Nat) : Int) := by rw [w64 (by omega) (by omega)]; omega
    have w4 : wrap64 ((i : Int) + 1) = ((i + 1 : Nat) : Int) := by rw [w64 (by omega) (by omega)]; omega
    simp only [laws_heldClueS.l0, mkC_len, rd_T51, Int.toNat_natCast, mkC_at m i (by omega), w1, w2, w3, w4, if_true]
    rw [if_pos (by omega), if_pos (by omega)]
theorem heldPuzzle_ev (m : Nat) (hn : m ≤ 1048576) : Ev (fun k => laws_heldPuzzle.f k (mkC m) 1) (1 + 3 * (m : Int)) := by
  have := heldClueS_l0 m hn m 0 (by omega)
  refine Ev.congr (fun k => ?_) this
  simp only [laws_heldPuzzle.f, laws_heldClueS.f]
  show Option.bind (laws_heldClueS.l0 k (mkC m) 1 0) _ = laws_heldClueS.l0 k (mkC m) 1 0
  obtain e | ⟨x, e⟩ : laws_heldClueS.l0 k (mkC m) 1 0 = none ∨ ∃ x, laws_heldClueS.l0 k (mkC m) 1 0 = some x := by
    cases laws_heldClueS.l0 k (mkC m) 1 0 with
    | none => exact .inl rfl
    | some x => exact .inr ⟨x, rfl⟩
  · rw [e]; rfl
  · rw [e]
    simp only [Option.bind_some]
    obtain ⟨K, hK⟩ := this
    have h1 := at_rounds (fun k => (laws_heldClueS.mono_l k) (mkC m) 1 0) (Nat.le_max_left k K) e
    have h2 := hK (max k K) (Nat.le_max_right k K)
    have h3 : some x = some (1 + 3 * (m : Int)) := h1.symm.trans h2
    injection h3 with h3
    rw [if_neg (by omega)]
end Go.Proofs.YtmcingnpbececaaDoor.P
