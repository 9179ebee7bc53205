/- The books that fit good clues: the program and the reference find the same, in the same order. -/
import Derived.Test.YtmcingnpbececaaDoorPx6
import Derived.Test.YtmcingnpbececaaDoorExtSolutions
import Derived.Test.YtmcingnpbececaaDoorPureFit
import Derived.Test.YtmcingnpbececaaDoorPureClue
namespace Go.Proofs.YtmcingnpbececaaDoor.P
open Go.RowKit Go.Proofs.YtmcingnpbececaaDoorW.PrintWords Go.Proofs.YtmcingnpbececaaDoorW.PrintLast Go.Proofs.YtmcingnpbececaaDoorW.PrintMore Go.Proofs.YtmcingnpbececaaDoor.Base Go.Proofs.YtmcingnpbececaaDoor.Skip
set_option linter.unusedVariables false

theorem fits_spec (a b c : Int) (p l k : Nat) (h2 : 2 ≤ p) (hp : p ≤ 40) (hl : 1 ≤ l) (hlp : 2 * l ≤ p) (hc : clueB a b c = true) (hk : 60 ≤ k) :
    told p l ⟨a, b, c⟩ = true ∧ spec_pzFits.f k a b c p l = some (hit p l ⟨a, b, c⟩) := by
  obtain ⟨v, hv, hi⟩ := tells_eq a b c p l 100 h2 hp hl hlp hc (by decide)
  obtain ⟨v', hv', _⟩ := tells_eq a b c p l k h2 hp hl hlp hc hk
  have m1 := at_rounds (fun k => spec_pzValue.mono a b p l k) (Nat.le_max_left k 100) hv'
  have m2 := at_rounds (fun k => spec_pzValue.mono a b p l k) (Nat.le_max_right k 100) hv
  obtain rfl : v' = v := Option.some.inj (m1.symm.trans m2)
  have e1 : impl_Hidden_fits.f 100 p l a b c = some (v' == c) := by rw [impl_Hidden_fits.f, hi]; rfl
  refine ⟨by simp only [told, e1]; rfl, ?_⟩
  simp only [hit, e1, Option.getD_some]
  rw [spec_pzFits.f, hv']
  rfl
theorem tdiv2 (p : Nat) (hp : p ≤ 1000) : wrap64 (Int.tdiv (p : Int) 2) = ((p / 2 : Nat) : Int) := by
  rw [Int.tdiv_eq_ediv_of_nonneg (by omega), w64 (by omega) (by omega)]; omega
/-- The books of p pages that fit, from leaf l on. -/
def row (cs : List S51) (p : Nat) : Nat → Nat → List S29
  | 0, _ => []
  | n + 1, l => (if cs.all (hit p l) = true then [⟨(p : Int), (l : Int)⟩] else []) ++ row cs p n (l + 1)
def rows (cs : List S51) : Nat → Nat → List S29
  | 0, _ => []
  | n + 1, p => row cs p (p / 2) 1 ++ rows cs n (p + 1)
theorem row_len (cs : List S51) (p : Nat) : ∀ n l, (row cs p n l).length ≤ n := by
  intro n
  induction n with
  | zero => intro l; exact Nat.le_refl _
  | succ n ih =>
    intro l
    have := ih (l + 1)
    simp only [row, List.length_append]
    split <;> simp <;> omega
theorem rows_len (cs : List S51) : ∀ n p, p + n ≤ 41 → (rows cs n p).length ≤ 20 * n := by
  intro n
  induction n with
  | zero => intro l _; exact Nat.le_refl _
  | succ n ih =>
    intro p hp
    have := ih (p + 1) (by omega)
    have := row_len cs p (p / 2) 1
    simp only [rows, List.length_append]
    omega
def sols (cs : List S51) : List S29 := rows cs 39 2
theorem sols_len (cs : List S51) : (sols cs).length ≤ 780 := rows_len cs 39 2 (by decide)

theorem pzAll_l2 (cs : List S51) (hn : cs.length ≤ 6) (hok : cs.all clueOk = true) (acc : List S29) (p l : Nat) (h2 : 2 ≤ p) (hp : p ≤ 40) (hl : 1 ≤ l) (hlp : 2 * l ≤ p) :
    ∀ (n i : Nat) (b : Bool) (k : Nat), i + n = cs.length → 60 ≤ k → spec_pzAll.l2 (k + n + 1) cs acc p l b cs (cs.length : Int) (i : Int) p l =
      (if (b && (cs.drop i).all (hit p l)) = true then (if acc.length < 8796093022208 then spec_pzAll.l1 k cs (acc ++ [⟨(p : Int), (l : Int)⟩]) p (wrap64 ((l : Int) + 1)) else none) else spec_pzAll.l1 k cs acc p (wrap64 ((l : Int) + 1))) := by
  intro n
  induction n with
  | zero =>
    intro i b k hi hk
    rw [spec_pzAll.l2, if_neg (by omega), List.drop_of_length_le (by omega), List.all_nil, Bool.and_true]
  | succ n ih =>
    intro i b k hi hk
    have h : i < cs.length := by omega
    have hc : clueOk (cs.getD i z51) = true := by
      rw [getD_at cs _ h]
      exact List.all_eq_true.1 hok _ (List.getElem_mem h)
    have hf := (fits_spec _ _ _ p l (k + (n + 1)) h2 hp hl hlp hc (by omega)).2
    have er : rd_T51 cs (i : Int) = cs.getD i z51 := by unfold rd_T51; rw [Int.toNat_natCast]
    rw [spec_pzAll.l2, if_pos (by omega), if_pos (by omega), if_pos (by omega), all_drop (hit p l) cs z51 h, er, next i (by omega)]
    cases b with
    | true =>
      rw [if_pos rfl, hf]
      simp only [Option.bind_some, Bool.true_and]
      exact ih (i + 1) _ k (by omega) hk
    | false =>
      rw [if_neg (by decide)]
      have := ih (i + 1) false k (by omega) hk
      simp only [Bool.false_and] at this ⊢
      exact this
theorem pzAll_l1 (cs : List S51) (hn : cs.length ≤ 6) (hok : cs.all clueOk = true) (p : Nat) (h2 : 2 ≤ p) (hp : p ≤ 40) (r : List S29) :
    ∀ (m l : Nat) (acc : List S29), l + m = p / 2 + 1 → 1 ≤ l → acc.length + m ≤ 5000 → Ev (fun k => spec_pzAll.l0 k cs (acc ++ row cs p m l) ((p + 1 : Nat) : Int)) r → Ev (fun k => spec_pzAll.l1 k cs acc p l) r := by
  intro m
  induction m with
  | zero =>
    intro l acc hl h1 ha h
    refine Ev_step (fun k => ?_) h
    rw [spec_pzAll.l1, tdiv2 p (by omega), if_neg (by omega), next p (by omega), row, List.append_nil]
  | succ m ih =>
    intro l acc hl h1 ha h
    have key : Ev (fun k => spec_pzAll.l1 k cs (acc ++ (if cs.all (hit p l) = true then [⟨(p : Int), (l : Int)⟩] else [])) p ((l + 1 : Nat) : Int)) r := by
      refine ih (l + 1) _ (by omega) (by omega) (by rw [List.length_append]; split <;> simp <;> omega) ?_
      rw [List.append_assoc]
      exact h
    obtain ⟨K, hK⟩ := key
    refine ⟨K + 60 + cs.length + 2, fun k hk => ?_⟩
    obtain ⟨j, rfl⟩ : ∃ j, k = (j + cs.length + 1) + 1 := ⟨k - cs.length - 2, by omega⟩
    have e := pzAll_l2 cs hn hok acc p l h2 hp h1 (by omega) cs.length 0 true j (by omega) (by omega)
    have hK' := hK j (by omega)
    show spec_pzAll.l1 ((j + cs.length + 1) + 1) cs acc p l = some r
    rw [spec_pzAll.l1, tdiv2 p (by omega), if_pos (by omega)]
    refine Eq.trans e ?_
    rw [List.drop_zero, Bool.true_and, next l (by omega)]
    by_cases q : cs.all (hit p l) = true
    · rw [if_pos q, if_pos (by omega)]
      simp only [if_pos q] at hK'
      exact hK'
    · rw [if_neg q]
      simp only [if_neg q, List.append_nil] at hK'
      exact hK'
theorem pzAll_l0 (cs : List S51) (hn : cs.length ≤ 6) (hok : cs.all clueOk = true) :
    ∀ (n p : Nat) (acc : List S29), p + n = 41 → 2 ≤ p → acc.length + 20 * n ≤ 4000 → Ev (fun k => spec_pzAll.l0 k cs acc (p : Int)) (acc ++ rows cs n p) := by
  intro n
  induction n with
  | zero =>
    intro p acc h1 h2 h3
    refine Ev_step (fun k => ?_) (Ev.now _)
    rw [spec_pzAll.l0, if_neg (by omega), rows, List.append_nil]
  | succ n ih =>
    intro p acc h1 h2 h3
    have hr := row_len cs p (p / 2) 1
    refine Ev_step (f := fun k => spec_pzAll.l1 k cs acc p ((1 : Nat) : Int)) (fun k => ?_) ?_
    · rw [spec_pzAll.l0, if_pos (by omega)]
      rfl
    · have := ih (p + 1) (acc ++ row cs p (p / 2) 1) (by omega) (by omega) (by rw [List.length_append]; omega)
      rw [rows, ← List.append_assoc]
      exact pzAll_l1 cs hn hok p h2 (by omega) _ (p / 2) 1 acc (by omega) (by omega) (by omega) this
theorem two_cast : ((2 : Nat) : Int) = 2 := rfl
theorem pzAll_ev (cs : List S51) (hn : cs.length ≤ 6) (hok : cs.all clueOk = true) : Ev (fun k => spec_pzAll.f k cs) (sols cs) := by
  have h := pzAll_l0 cs hn hok 39 2 [] (by decide) (by decide) (by simp)
  rw [List.nil_append, two_cast] at h
  unfold sols
  exact Ev.congr (fun k => by rw [spec_pzAll.f]) h

theorem impl_l1 (cs : List S51) (hok : cs.all clueOk = true) (p : Nat) (h2 : 2 ≤ p) (hp : p ≤ 40) :
    ∀ (m l : Nat) (acc : List S29) (j : Nat), l + m = p / 2 + 1 → 1 ≤ l → acc.length + m ≤ 5000 → impl_solutions.l1 (j + m + 1) cs acc p l = impl_solutions.l0 j cs (acc ++ row cs p m l) ((p + 1 : Nat) : Int) := by
  intro m
  induction m with
  | zero =>
    intro l acc j hl h1 ha
    show impl_solutions.l1 (j + 1) cs acc p l = _
    rw [impl_solutions.l1, tdiv2 p (by omega), if_neg (by omega), next p (by omega), row, List.append_nil]
  | succ m ih =>
    intro l acc j hl h1 ha
    have ht : cs.all (told p l) = true := List.all_eq_true.2 fun x hx => (fits_spec x.f0 x.f1 x.f2 p l 60 h2 hp h1 (by omega) (List.all_eq_true.1 hok x hx) (Nat.le_refl _)).1
    have hm : missed cs p l = !cs.all (hit p l) := by unfold missed; rw [List.not_all_eq_any_not]
    show impl_solutions.l1 ((j + m + 1) + 1) cs acc p l = _
    rw [impl_solutions.l1, tdiv2 p (by omega), if_pos (by omega), if_pos ht, hm, next l (by omega), row]
    by_cases q : cs.all (hit p l) = true
    · rw [if_neg (by rw [q]; decide), if_pos (by omega), if_pos q, ih (l + 1) _ j (by omega) (by omega) (by rw [List.length_append]; simp; omega), List.append_assoc]
    · rw [if_pos (by rw [Bool.not_eq_true] at q; rw [q]; rfl), if_neg q, ih (l + 1) _ j (by omega) (by omega) (by omega), List.nil_append]
theorem impl_l0 (cs : List S51) (hok : cs.all clueOk = true) :
    ∀ (n p : Nat) (acc : List S29) (k : Nat), p + n = 41 → 2 ≤ p → acc.length + 20 * n ≤ 4000 → 22 * n + 1 ≤ k → impl_solutions.l0 k cs acc (p : Int) = some (acc ++ rows cs n p) := by
  intro n
  induction n with
  | zero =>
    intro p acc k h1 h2 h3 hk
    obtain ⟨k, rfl⟩ : ∃ j, k = j + 1 := ⟨k - 1, by omega⟩
    rw [impl_solutions.l0, if_neg (by omega), rows, List.append_nil]
  | succ n ih =>
    intro p acc k h1 h2 h3 hk
    have hr := row_len cs p (p / 2) 1
    obtain ⟨j, rfl⟩ : ∃ j, k = (j + p / 2 + 1) + 1 := ⟨k - 2 - p / 2, by omega⟩
    rw [impl_solutions.l0, if_pos (by omega), rows, ← List.append_assoc]
    have e := impl_l1 cs hok p h2 (by omega) (p / 2) 1 acc j (by omega) (by omega) (by omega)
    refine Eq.trans e ?_
    exact ih (p + 1) _ j (by omega) (by omega) (by rw [List.length_append]; omega) (by omega)
theorem implAll_eq (cs : List S51) (hok : cs.all clueOk = true) : impl_solutions.f cs = some (sols cs) := by
  have h := impl_l0 cs hok 39 2 [] 1000 (by decide) (by decide) (by simp) (by decide)
  rw [List.nil_append, two_cast] at h
  unfold sols
  rw [impl_solutions.f]
  exact h
theorem good_split {cs : List S51} (h : goodP cs = true) : cs.length ≤ 6 ∧ cs.all clueOk = true := by
  unfold goodP at h
  rw [Bool.and_eq_true, decide_eq_true_eq] at h
  exact h
end Go.Proofs.YtmcingnpbececaaDoor.P
