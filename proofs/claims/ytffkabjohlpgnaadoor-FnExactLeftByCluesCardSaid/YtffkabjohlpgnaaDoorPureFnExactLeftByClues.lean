/- The law of LeftByClues answers true at all clues; no condition. -/
import Derived.Test.YtffkabjohlpgnaaDoorPx23
import Derived.Test.YtffkabjohlpgnaaDoorPureSol
import Derived.Test.YtffkabjohlpgnaaDoorPureInt
import Derived.Test.YtffkabjohlpgnaaDoorPureClueMark
set_option linter.unusedVariables false
namespace Go.Proofs.YtffkabjohlpgnaaDoor.Pure
open Go.RowKit Go.Proofs.YtffkabjohlpgnaaDoorW.PrintWords Go.Proofs.YtffkabjohlpgnaaDoor.P Go.Proofs.YtffkabjohlpgnaaDoor.Base

/-- How many books the first i, i+1, .. clues leave. -/
def leftL (cs : List S28) : Nat → Nat → List Int
  | 0, _ => []
  | n + 1, i => ((sols (cs.take i)).length : Int) :: leftL cs n (i + 1)
theorem leftL_len (cs : List S28) : ∀ n i, (leftL cs n i).length = n := by
  intro n
  induction n with
  | zero => intro i; rfl
  | succ n ih => intro i; simp [leftL, ih]
theorem take_ok (cs : List S28) (hok : cs.all clueOk = true) (hn : cs.length ≤ 6) (i : Nat) : (cs.take i).length ≤ 6 ∧ (cs.take i).all clueOk = true :=
  ⟨by rw [List.length_take]; omega, List.all_eq_true.2 fun x hx => List.all_eq_true.1 hok x (List.mem_of_mem_take hx)⟩
theorem specLeft_l0 (cs : List S28) (hok : cs.all clueOk = true) (hn : cs.length ≤ 6) : ∀ (n i : Nat) (acc : List Int), i + n = cs.length + 1 → acc.length + n ≤ 10 → Ev (fun k => spec_LeftByClues.l0 k acc (i : Int) cs) (acc ++ leftL cs n i, true) := by
  intro n
  induction n with
  | zero =>
    intro i acc hi ha
    refine Ev_step (fun k => ?_) (Ev.now _)
    rw [spec_LeftByClues.l0, if_neg (by omega), leftL, List.append_nil]
  | succ n ih =>
    intro i acc hi ha
    have hp := take_ok cs hok hn i
    refine Ev_step (fun k => by rw [spec_LeftByClues.l0, if_pos (by omega), if_pos (by omega), next i (by omega), Int.toNat_natCast]) ?_
    refine Ev_bind (pzAll_ev _ hp.1 hp.2) (Ev_pos (by omega) ?_)
    have := ih (i + 1) (acc ++ [((sols (cs.take i)).length : Int)]) (by omega) (by rw [List.length_append]; simp; omega)
    rw [List.append_assoc] at this
    exact this
theorem implLeft_l0 (cs : List S28) (hok : cs.all clueOk = true) (hn : cs.length ≤ 6) : ∀ (n i : Nat) (acc : List Int), i + n = cs.length + 1 → acc.length + n ≤ 10 → Ev (fun k => impl_LeftByClues.l0 k acc ((cs.length + 1 : Nat) : Int) (i : Int) cs) (acc ++ leftL cs n i, true) := by
  intro n
  induction n with
  | zero =>
    intro i acc hi ha
    refine Ev_step (fun k => ?_) (Ev.now _)
    rw [impl_LeftByClues.l0, if_neg (by omega), leftL, List.append_nil]
  | succ n ih =>
    intro i acc hi ha
    have hp := take_ok cs hok hn i
    refine Ev_step (fun k => by rw [impl_LeftByClues.l0, if_pos (by omega), if_pos (by omega), if_pos (by omega), next i (by omega), Int.toNat_natCast]) ?_
    refine Ev_some (implAll_eq _ hp.2) (Ev_pos (by omega) ?_)
    have := ih (i + 1) (acc ++ [((sols (cs.take i)).length : Int)]) (by omega) (by rw [List.length_append]; simp; omega)
    rw [List.append_assoc] at this
    exact this
def leftR (cs : List S28) : List Int × Bool := if goodP cs = true then (leftL cs (cs.length + 1) 0, true) else ([], false)
theorem specLeft_ev (cs : List S28) (hn : cs.length ≤ 1048576) : Ev (fun k => spec_LeftByClues.f k cs) (leftR cs) := by
  simp only [spec_LeftByClues.f]
  refine Ev_bind (pzGood_ev cs hn) ?_
  unfold leftR
  by_cases h : goodP cs = true
  · obtain ⟨h1, h2⟩ := good_split h
    simp only [if_pos h]
    exact specLeft_l0 cs h2 h1 (cs.length + 1) 0 [] (by omega) (by simp; omega)
  · simp only [if_neg h]
    exact Ev.now _
theorem implLeft_ev (cs : List S28) : Ev (fun k => impl_LeftByClues.f k cs) (leftR cs) := by
  simp only [impl_LeftByClues.f]
  refine Ev_some (implIsPuzzle_eq cs) ?_
  unfold leftR
  by_cases h : goodP cs = true
  · obtain ⟨h1, h2⟩ := good_split h
    simp only [if_pos h]
    rw [next cs.length (by omega)]
    exact implLeft_l0 cs h2 h1 (cs.length + 1) 0 [] (by omega) (by simp; omega)
  · simp only [if_neg h]
    exact Ev.now _
theorem FnExactLeftByClues : laws_FnExactLeftByClues.Pure := by
  intro l ⟨hm, _⟩
  refine Ev.rounds (g := fun k => laws_FnExactLeftByClues.f k l) ?_
  by_cases hn : l.length ≤ 1048576
  · have hl : (l.map toC).length ≤ 1048576 := by rw [List.length_map]; exact hn
    have h1 := toPuzzle_ev l hn
    have h2 := specLeft_ev (l.map toC) hl
    have h3 := eqPuzzle_ev (l.map toC) hl
    have h4 := implLeft_ev (l.map toC)
    have h8 := markPuzzle_ev (l.map toC) hl
    have hd : (leftR (l.map toC)).1.length ≤ 1048576 := by
      unfold leftR
      split
      · rw [leftL_len]
        have := (good_split (by assumption)).1
        omega
      · exact Nat.zero_le _
    generalize l.map toC = cs at hl h1 h2 h3 h4 h8 hd
    generalize leftR cs = d at h2 h4 hd
    obtain ⟨d1, d2⟩ := d
    have h5 := eqIntS_ev d1 hd
    have h6 := markIntS_ev d1 hd
    have h7 := heldIntS_ev d1.length hd
    simp only [laws_FnExactLeftByClues.f]
    refine Ev_some (szPuzzle_eq l hm) ?_
    simp only [if_pos hn]
    refine Ev_neg (by omega) ?_
    refine Ev_bind h1 (Ev_bind h2 (Ev_bind h1 (Ev_bind h4 (Ev_bind h5 (Ev_pos rfl ?_)))))
    refine Ev_step (fun k => by rw [laws_FnExactLeftByClues.j0]) ?_
    refine Ev_neg (by simp) (Ev_bind h1 (Ev_bind h3 (Ev_pos rfl (Ev_bind h8 (Ev_neg (by omega) (Ev_bind h5 (Ev_pos rfl ?_)))))))
    refine Ev_step (fun k => by rw [laws_FnExactLeftByClues.j1]) ?_
    refine Ev_neg (by simp) (Ev_bind h6 (Ev_bind h7 (Ev_neg (by omega) (Ev_pos rfl (Ev_bind h1 (Ev_bind h4 (Ev_bind h5 (Ev_pos rfl ?_))))))))
    refine Ev_step (fun k => by rw [laws_FnExactLeftByClues.j2]) ?_
    refine Ev_neg (by simp) (Ev_bind h7 (Ev_neg (by omega) (Ev_pos rfl (Ev.now _))))
  · refine ⟨0, fun k _ => ?_⟩
    simp only [laws_FnExactLeftByClues.f, szPuzzle_eq l hm, if_neg hn, Option.bind_some]
    rw [if_pos (by omega)]
end Go.Proofs.YtffkabjohlpgnaaDoor.Pure
