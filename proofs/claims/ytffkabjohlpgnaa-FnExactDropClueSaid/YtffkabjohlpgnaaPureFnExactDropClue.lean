/- The law of DropClue answers true at all clues and numbers; no condition. -/
import Derived.Test.YtffkabjohlpgnaaPx9
import Derived.Test.YtffkabjohlpgnaaPureDrop
import Derived.Test.YtffkabjohlpgnaaPureClueMark
namespace Go.Proofs.Ytffkabjohlpgnaa.Pure
open Go.RowKit Go.Proofs.YtffkabjohlpgnaaW.PrintWords Go.Proofs.Ytffkabjohlpgnaa.P Go.Proofs.Ytffkabjohlpgnaa.Base

theorem FnExactDropClue : laws_FnExactDropClue.Pure := by
  intro l a ⟨hm, _⟩ _
  refine Ev.rounds (g := fun k => laws_FnExactDropClue.f k l a) ?_
  by_cases hn : l.length ≤ 1048576
  · have hl : (l.map toC).length ≤ 1048576 := by rw [List.length_map]; exact hn
    have h1 := toPuzzle_ev l hn
    have h2 := specDrop_ev (l.map toC) a hl
    have h3 := eqPuzzle_ev (l.map toC) hl
    have hd := dropR_len (l.map toC) a hl
    have h4 := implDrop_eq (l.map toC) a hl
    generalize l.map toC = cs at hl h1 h2 h3 h4 hd
    generalize dropR cs a = d at h2 h4 hd
    obtain ⟨d1, d2⟩ := d
    have h5 := eqPuzzle_ev d1 hd
    have h6 := markPuzzle_ev d1 hd
    have h7 := heldPuzzle_ev d1.length hd
    have h8 := markPuzzle_ev cs hl
    simp only [laws_FnExactDropClue.f]
    refine Ev_some (szPuzzle_eq l hm) ?_
    simp only [if_pos hn]
    refine Ev_neg (by omega) ?_
    refine Ev_bind h1 (Ev_bind h2 (Ev_bind h1 (Ev_some h4 (Ev_bind h5 (Ev_pos rfl ?_)))))
    refine Ev_step (fun k => by rw [laws_FnExactDropClue.j0]) ?_
    refine Ev_neg (by simp) (Ev_bind h1 (Ev_bind h3 (Ev_pos rfl (Ev_bind h8 (Ev_neg (by omega) (Ev_bind h5 (Ev_pos rfl ?_)))))))
    refine Ev_step (fun k => by rw [laws_FnExactDropClue.j1]) ?_
    refine Ev_neg (by simp) (Ev_bind h6 (Ev_bind h7 (Ev_neg (by omega) (Ev_pos rfl (Ev_bind h1 (Ev_some h4 (Ev_bind h5 (Ev_pos rfl ?_))))))))
    refine Ev_step (fun k => by rw [laws_FnExactDropClue.j2]) ?_
    refine Ev_neg (by simp) (Ev_bind h7 (Ev_neg (by omega) (Ev_pos rfl (Ev.now _))))
  · refine ⟨0, fun k _ => ?_⟩
    simp only [laws_FnExactDropClue.f, szPuzzle_eq l hm, if_neg hn, Option.bind_some]
    rw [if_pos (by omega)]
end Go.Proofs.Ytffkabjohlpgnaa.Pure
