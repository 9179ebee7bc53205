/- Rows of whole numbers are copied; the lists are at most 1048576 long. -/
import Derived.Test.YtmdpiagpkocheaaPx1
import Derived.Test.YtmdpiagpkocheaaPureNum
namespace Go.Proofs.Ytmdpiagpkocheaa.P
open Go.RowKit Go.Proofs.YtmdpiagpkocheaaW.PrintWords Go.Proofs.YtmdpiagpkocheaaW.PrintLast Go.Proofs.YtmdpiagpkocheaaW.PrintMore Go.Proofs.Ytmdpiagpkocheaa.Base
set_option linter.unusedVariables false

theorem toIntS_l0 (xs : List Int) (hn : xs.length ≤ 1048576) : ∀ n i : Nat, i + n = xs.length → Ev (fun k => laws_toIntS.l0 k xs ((xs.take i).map id ++ List.replicate (xs.length - i) 0) (i : Int)) xs := by
  intro n
  induction n with
  | zero =>
    intro i hi
    refine Ev_step (fun k => ?_) (Ev.now _)
    rw [laws_toIntS.l0, if_neg (by omega), List.map_id, List.take_of_length_le (by omega), show xs.length - i = 0 by omega, List.replicate_zero, List.append_nil]
  | succ n ih =>
    intro i hi
    have h : i < xs.length := by omega
    refine Ev_step (fun k => ?_) (ih (i + 1) (by omega))
    have hl : (List.map id (xs.take i) ++ List.replicate (xs.length - i) (0 : Int)).length = xs.length := by simp; omega
    rw [laws_toIntS.l0, if_pos (by omega), if_pos (by omega), if_pos (by rw [hl]; omega), nextI i (by omega), rd_nat, getD_at xs _ h, Int.toNat_natCast]
    have e := set_copied id xs (0 : Int) h
    rw [id] at e
    rw [e]
theorem toIntS_ev (xs : List Int) (hn : xs.length ≤ 1048576) : Ev (fun k => laws_toIntS.f k xs) xs := by
  have := toIntS_l0 xs hn xs.length 0 (by omega)
  simp only [List.take_zero, List.map_nil, List.nil_append, Nat.sub_zero] at this
  refine Ev.congr (fun k => ?_) this
  rw [laws_toIntS.f, if_pos (by omega), if_pos (by omega), Int.toNat_natCast]
  rfl
end Go.Proofs.Ytmdpiagpkocheaa.P
