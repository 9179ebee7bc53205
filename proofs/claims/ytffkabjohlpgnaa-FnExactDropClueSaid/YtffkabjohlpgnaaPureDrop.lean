/- The program's and the reference's DropClue answer alike; the clues are at most 1048576. -/
import Derived.Test.YtffkabjohlpgnaaPx7
import Derived.Test.YtffkabjohlpgnaaPx8
import Derived.Test.YtffkabjohlpgnaaExtWithout
import Derived.Test.YtffkabjohlpgnaaPureClue
namespace Go.Proofs.Ytffkabjohlpgnaa.P
open Go.RowKit Go.Proofs.YtffkabjohlpgnaaW.PrintWords Go.Proofs.YtffkabjohlpgnaaW.PrintLast Go.Proofs.YtffkabjohlpgnaaW.PrintMore Go.Proofs.Ytffkabjohlpgnaa.Base
set_option linter.unusedVariables false

def dropB (l : List S37) (a : Int) : Bool := goodP l && inB a 0 ((l.length : Int) - 1)
def dropL (l : List S37) (a : Int) : List S37 := l.take a.toNat ++ l.drop (a.toNat + 1)
def dropR (l : List S37) (a : Int) : List S37 × Bool := if dropB l a then (dropL l a, true) else ([], false)
theorem pzWithout_eq (l : List S37) (a : Int) (hn : l.length ≤ 1048576) (h0 : 0 ≤ a) (h1 : a < l.length) : spec_pzWithout.f l a = some (dropL l a) := by
  have w : wrap64 (a + 1) = a + 1 := w64 (by omega) (by omega)
  have e : (a + 1).toNat = a.toNat + 1 := by omega
  simp only [spec_pzWithout.f, Option.bind_some, w, e, List.nil_append, List.length_nil, List.length_take, List.length_drop]
  rw [if_pos h0, if_pos (by omega), if_pos (by omega), if_pos (by omega), if_pos (by omega), if_pos (by omega)]
  rfl
theorem without_eq (l : List S37) (a : Int) (hn : l.length ≤ 1048576) (h0 : 0 ≤ a) (h1 : a < l.length) : impl_without.f l a = some (dropL l a) := by
  unfold impl_without.f
  rw [if_pos ⟨h0, h1, by omega⟩]
  rfl
theorem specDrop_ev (l : List S37) (a : Int) (hn : l.length ≤ 1048576) : Ev (fun k => spec_DropClue.f k l a) (dropR l a) := by
  obtain ⟨K, hK⟩ := pzGood_ev l hn
  refine ⟨K, fun k hk => ?_⟩
  have w : wrap64 ((l.length : Int) - 1) = (l.length : Int) - 1 := w64 (by omega) (by omega)
  simp only [spec_DropClue.f, hK k hk, Option.bind_some, w, l1In_eq, dropR, dropB]
  rcases Bool.eq_false_or_eq_true (goodP l) with g | g
  · rcases Bool.eq_false_or_eq_true (inB a 0 ((l.length : Int) - 1)) with h | h
    · have h' := h
      simp only [inB, decide_eq_true_eq] at h'
      simp [g, h, pzWithout_eq l a hn h'.1 (by omega)]
    · simp [g, h]
  · simp [g]
theorem implDrop_eq (l : List S37) (a : Int) (hn : l.length ≤ 1048576) : impl_DropClue.f l a = some (dropR l a) := by
  have w : wrap64 ((l.length : Int) - 1) = (l.length : Int) - 1 := w64 (by omega) (by omega)
  simp only [impl_DropClue.f, implIsPuzzle_eq, Option.bind_some, w, within_eq, dropR, dropB]
  rcases Bool.eq_false_or_eq_true (goodP l) with g | g
  · rcases Bool.eq_false_or_eq_true (inB a 0 ((l.length : Int) - 1)) with h | h
    · have h' := h
      simp only [inB, decide_eq_true_eq] at h'
      simp [g, h, without_eq l a hn h'.1 (by omega)]
    · simp [g, h]
  · simp [g]
theorem dropR_len (l : List S37) (a : Int) (hn : l.length ≤ 1048576) : (dropR l a).1.length ≤ 1048576 := by
  unfold dropR dropL
  split
  · simp only [List.length_append, List.length_take, List.length_drop]; omega
  · simp
end Go.Proofs.Ytffkabjohlpgnaa.P
