/- The law of SureHidden answers true at all clues; no condition. -/
import Derived.Test.YtmcingnpbececaaDoorPx12
import Derived.Test.YtmcingnpbececaaDoorPureSol
namespace Go.Proofs.YtmcingnpbececaaDoor.Pure
open Go.RowKit Go.Proofs.YtmcingnpbececaaDoorW.PrintWords Go.Proofs.YtmcingnpbececaaDoor.P Go.Proofs.YtmcingnpbececaaDoor.Base

theorem row_ge (cs : List S51) (p : Nat) : ∀ (m l : Nat), 1 ≤ l → ∀ x ∈ row cs p m l, x.f0 = (p : Int) ∧ 1 ≤ x.f1 := by
  intro m
  induction m with
  | zero => intro l hl x hx; simp [row] at hx
  | succ m ih =>
    intro l hl x hx
    rw [row] at hx
    rcases List.mem_append.1 hx with h | h
    · by_cases hm : cs.all (hit (p : Int) (l : Int)) = true
      · rw [if_pos hm] at h
        rw [List.mem_singleton.1 h]
        exact ⟨rfl, by show (1 : Int) ≤ (l : Int); omega⟩
      · rw [if_neg hm] at h
        cases h
    · exact ih (l + 1) (by omega) x h
theorem rows_ge (cs : List S51) : ∀ (n p : Nat), 2 ≤ p → ∀ x ∈ rows cs n p, 2 ≤ x.f0 ∧ 1 ≤ x.f1 := by
  intro n
  induction n with
  | zero => intro p hp x hx; simp [rows] at hx
  | succ n ih =>
    intro p hp x hx
    rw [rows] at hx
    rcases List.mem_append.1 hx with h | h
    · obtain ⟨h1, h2⟩ := row_ge cs p _ _ (by omega) x h
      exact ⟨by omega, h2⟩
    · exact ih (p + 1) (by omega) x h
theorem sols_ge (cs : List S51) (i : Nat) (h : i < (sols cs).length) : 2 ≤ (rd_T29 (sols cs) (i : Int)).f0 ∧ 1 ≤ (rd_T29 (sols cs) (i : Int)).f1 := by
  have e : rd_T29 (sols cs) (i : Int) = (sols cs)[i] := by unfold rd_T29; rw [Int.toNat_natCast, getD_at _ _ h]
  rw [e]
  exact rows_ge cs 39 2 (by omega) _ (List.getElem_mem h)
theorem sure_l0 (s : List S29) (hs : s.length ≤ 1048576) (hp : 0 < s.length) (hg : ∀ i : Nat, i < s.length → 2 ≤ (rd_T29 s (i : Int)).f0 ∧ 1 ≤ (rd_T29 s (i : Int)).f1) : ∀ (n i : Nat) (a b : Int), i + n = s.length → (a = (rd_T29 s 0).f0 ∨ a = -1) → (b = (rd_T29 s 0).f1 ∨ b = -1) →
    ∃ r, Ev (fun k => spec_SureHidden.l0 k s s (s.length : Int) (i : Int) a b) r ∧ Ev (fun k => impl_SureHidden.l0 k s (s.length : Int) (i : Int) a b) r := by
  intro n
  induction n with
  | zero =>
    intro i a b hi ha hb
    refine ⟨(a, b, true), Ev_step (fun k => ?_) (Ev.now _), Ev_step (fun k => ?_) (Ev.now _)⟩
    · rw [spec_SureHidden.l0, if_neg (by omega)]
    · rw [impl_SureHidden.l0, if_neg (by omega)]
  | succ n ih =>
    intro i a b hi ha hb
    have hx := hg i (by omega)
    have w : wrap64 ((i : Int) + 1) = ((i + 1 : Nat) : Int) := by rw [w64 (by omega) (by omega)]; omega
    obtain ⟨a', ha'⟩ : ∃ a', a' = if (rd_T29 s (i : Int)).f0 = (rd_T29 s 0).f0 then a else -1 := ⟨_, rfl⟩
    obtain ⟨b', hb'⟩ : ∃ b', b' = if (rd_T29 s (i : Int)).f1 = (rd_T29 s 0).f1 then b else -1 := ⟨_, rfl⟩
    have ka : a' = (rd_T29 s 0).f0 ∨ a' = -1 := by
      by_cases h : (rd_T29 s (i : Int)).f0 = (rd_T29 s 0).f0
      · rw [if_pos h] at ha'; rw [ha']; exact ha
      · rw [if_neg h] at ha'; exact .inr ha'
    have kb : b' = (rd_T29 s 0).f1 ∨ b' = -1 := by
      by_cases h : (rd_T29 s (i : Int)).f1 = (rd_T29 s 0).f1
      · rw [if_pos h] at hb'; rw [hb']; exact hb
      · rw [if_neg h] at hb'; exact .inr hb'
    have ja : (if (rd_T29 s (i : Int)).f0 = a then a else -1) = a' := by
      rcases ha with h | h
      · rw [ha', h]
      · rw [ha', h]
        by_cases h2 : (rd_T29 s (i : Int)).f0 = (rd_T29 s 0).f0
        · rw [if_pos h2, if_neg (by omega)]
        · rw [if_neg h2, if_neg (by omega)]
    have jb : (if (rd_T29 s (i : Int)).f1 = b then b else -1) = b' := by
      rcases hb with h | h
      · rw [hb', h]
      · rw [hb', h]
        by_cases h2 : (rd_T29 s (i : Int)).f1 = (rd_T29 s 0).f1
        · rw [if_pos h2, if_neg (by omega)]
        · rw [if_neg h2, if_neg (by omega)]
    obtain ⟨r, h1, h2⟩ := ih (i + 1) a' b' (by omega) ka kb
    refine ⟨r, Ev_step (fun k => ?_) h1, Ev_step (fun k => ?_) h2⟩
    · rw [spec_SureHidden.l0, if_pos (by omega), if_pos (by omega), if_pos (by omega), if_pos (by omega), w, ha', hb']
      by_cases e1 : (rd_T29 s (i : Int)).f0 = (rd_T29 s 0).f0
      · by_cases e2 : (rd_T29 s (i : Int)).f1 = (rd_T29 s 0).f1
        · rw [if_pos e1, if_pos e2, if_pos e1, if_pos e2]
        · rw [if_pos e1, if_neg e2, if_pos e1, if_neg e2]
      · by_cases e2 : (rd_T29 s (i : Int)).f1 = (rd_T29 s 0).f1
        · rw [if_neg e1, if_pos e2, if_neg e1, if_pos e2]
        · rw [if_neg e1, if_neg e2, if_neg e1, if_neg e2]
    · rw [impl_SureHidden.l0, if_pos (by omega), if_pos (by omega), if_pos (by omega), w, ← ja, ← jb]
      by_cases e1 : (rd_T29 s (i : Int)).f0 = a
      · by_cases e2 : (rd_T29 s (i : Int)).f1 = b
        · rw [if_pos e1, if_pos e2, if_pos e1, if_pos e2]
        · rw [if_pos e1, if_neg e2, if_pos e1, if_neg e2]
      · by_cases e2 : (rd_T29 s (i : Int)).f1 = b
        · rw [if_neg e1, if_pos e2, if_neg e1, if_pos e2]
        · rw [if_neg e1, if_neg e2, if_neg e1, if_neg e2]
theorem sure_ev (cs : List S51) (hn : cs.length ≤ 1048576) : ∃ r, Ev (fun k => spec_SureHidden.f k cs) r ∧ Ev (fun k => impl_SureHidden.f k cs) r := by
  simp only [spec_SureHidden.f, impl_SureHidden.f]
  have no : Ev (fun k => impl_SureHidden.j0 k (sols cs) true) (0, 0, false) := by
    refine Ev_step (fun k => by rw [impl_SureHidden.j0]) ?_
    exact Ev_pos rfl (Ev.now _)
  have no2 : Ev (fun k => impl_SureHidden.j0 k [] true) (0, 0, false) := by
    refine Ev_step (fun k => by rw [impl_SureHidden.j0]) ?_
    exact Ev_pos rfl (Ev.now _)
  by_cases h : goodP cs = true
  · obtain ⟨h1, h2⟩ := good_split h
    have e : impl_Solutions.f cs = some (sols cs, true) := by
      rw [impl_Solutions.f, implIsPuzzle_eq, h]
      simp only [Option.bind_some, if_true]
      rw [implAll_eq cs h2]
      rfl
    have hg := pzGood_ev cs hn
    rw [h] at hg
    by_cases h0 : ((sols cs).length : Int) = 0
    · refine ⟨(0, 0, false), Ev_bind hg (Ev_pos rfl (Ev_bind (pzAll_ev cs h1 h2) (Ev_pos h0 (Ev.now _)))), Ev_some e (Ev_pos rfl ?_)⟩
      show Ev (fun n => impl_SureHidden.j0 n (sols cs) (((sols cs).length : Int) == 0)) _
      rw [beq_iff_eq.2 h0]
      exact no
    · obtain ⟨r, a, b⟩ := sure_l0 (sols cs) (by have := sols_len cs; omega) (by omega) (fun i hi => sols_ge cs i hi) (sols cs).length 0 _ _ (by omega) (.inl rfl) (.inl rfl)
      refine ⟨r, Ev_bind hg (Ev_pos rfl (Ev_bind (pzAll_ev cs h1 h2) (Ev_neg h0 (Ev_pos (by omega) a)))), Ev_some e (Ev_pos rfl ?_)⟩
      show Ev (fun n => impl_SureHidden.j0 n (sols cs) (((sols cs).length : Int) == 0)) _
      rw [beq_eq_false_iff_ne.2 h0]
      refine Ev_step (fun k => by rw [impl_SureHidden.j0]) ?_
      exact Ev_neg (by decide) (Ev_pos (by omega) b)
  · have e : impl_Solutions.f cs = some ([], false) := by
      rw [impl_Solutions.f, implIsPuzzle_eq]
      simp only [Option.bind_some]
      rw [if_neg h]
    have hg := pzGood_ev cs hn
    exact ⟨(0, 0, false), Ev_bind hg (Ev_neg h (Ev.now _)), Ev_some e (Ev_neg (by decide) no2)⟩
theorem eqHid (a b : Int) : laws_eqHidden.f a b a b = some true := by
  rw [laws_eqHidden.f, if_pos rfl, if_pos rfl]
theorem FnExactSureHidden : laws_FnExactSureHidden.Pure := by
  intro l ⟨hm, _⟩
  refine Ev.rounds (g := fun k => laws_FnExactSureHidden.f k l) ?_
  by_cases hn : l.length ≤ 1048576
  · have hl : (l.map toC).length ≤ 1048576 := by rw [List.length_map]; exact hn
    have h1 := toPuzzle_ev l hn
    obtain ⟨⟨r1, r2, r3⟩, h2, h4⟩ := sure_ev (l.map toC) hl
    have h3 := eqPuzzle_ev (l.map toC) hl
    simp only [laws_FnExactSureHidden.f]
    refine Ev_some (szPuzzle_eq l hm) ?_
    simp only [if_pos hn]
    refine Ev_neg (by omega) ?_
    refine Ev_bind h1 (Ev_bind h2 (Ev_bind h1 (Ev_bind h4 (Ev_some (eqHid _ _) (Ev_pos rfl ?_)))))
    refine Ev_step (fun k => by rw [laws_FnExactSureHidden.j0]) ?_
    exact Ev_neg (by simp) (Ev_bind h1 (Ev_bind h3 (Ev_pos rfl (Ev.now _))))
  · refine ⟨0, fun k _ => ?_⟩
    simp only [laws_FnExactSureHidden.f, szPuzzle_eq l hm, if_neg hn, Option.bind_some]
    rw [if_pos (by omega)]
end Go.Proofs.YtmcingnpbececaaDoor.Pure
