/- Made puzzles: the program and the reference make the same; no condition. -/
import Derived.Test.YtmcingnpbececaaDoorPx5
import Derived.Test.YtmcingnpbececaaDoorPx8
import Derived.Test.YtmcingnpbececaaDoorPureFit
import Derived.Test.YtmcingnpbececaaDoorPureHidden
set_option linter.unusedVariables false
namespace Go.Proofs.YtmcingnpbececaaDoor.P
open Go.RowKit Go.Proofs.YtmcingnpbececaaDoorW.PrintWords Go.Proofs.YtmcingnpbececaaDoorW.PrintLast Go.Proofs.YtmcingnpbececaaDoorW.PrintMore Go.Proofs.YtmcingnpbececaaDoor.Base Go.Proofs.YtmcingnpbececaaDoor.Skip

/-- The next number. -/
def nextZ (z : Nat) : Nat := (311 * z + 503) % 10007
theorem spec_next (z : Nat) (h : z ≤ 10007) : spec_pzNext.f (z : Int) = some (nextZ z : Int) := by
  have w1 : wrap64 (311 * (z : Int)) = 311 * (z : Int) := w64 (by omega) (by omega)
  have w2 : wrap64 (311 * (z : Int) + 503) = ((311 * z + 503 : Nat) : Int) := by rw [w64 (by omega) (by omega)]; omega
  rw [spec_pzNext.f, w1, w2]
  rfl
theorem impl_next (z : Nat) (h : z ≤ 10007) : impl_MakePuzzle_1.f (z : Int) = some ((nextZ z : Int), (nextZ z : Int)) := by
  have w1 : wrap64 ((z : Int) * 311) = 311 * (z : Int) := by rw [w64 (by omega) (by omega)]; omega
  have w2 : wrap64 (311 * (z : Int) + 503) = ((311 * z + 503 : Nat) : Int) := by rw [w64 (by omega) (by omega)]; omega
  rw [impl_MakePuzzle_1.f, w1, w2]
  rfl
theorem next_lt (z : Nat) : nextZ z ≤ 10007 := by unfold nextZ; omega
/-- A clue's own number. -/
def ownA (kind y : Nat) : Nat := if kind = 2 then y % 10 else if kind = 3 then y % 20 + 1 else if kind = 4 then y % 8 + 2 else 0
theorem own_clue (kind y : Nat) (h : kind < 6) : clueB (kind : Int) (ownA kind y : Int) 0 = true := by
  unfold clueB ownA inB
  rcases (by omega : kind = 0 ∨ kind = 1 ∨ kind = 2 ∨ kind = 3 ∨ kind = 4 ∨ kind = 5) with rfl | rfl | rfl | rfl | rfl | rfl
  · simp
  · simp
  · simp; omega
  · simp; omega
  · simp; omega
  · simp
/-- What a made puzzle's clue tells. -/
def tellN (kind a p l : Nat) : Int := (impl_Hidden_tells.f 100 p l kind a).getD 0
theorem tell_both (kind y p l k : Nat) (hk : kind < 6) (h2 : 2 ≤ p) (hp : p ≤ 40) (hl : 1 ≤ l) (hlp : 2 * l ≤ p) (hk60 : 60 ≤ k) :
    spec_pzValue.f k kind (ownA kind y) p l = some (tellN kind (ownA kind y) p l) ∧ impl_Hidden_tells.f k p l kind (ownA kind y) = some (tellN kind (ownA kind y) p l) := by
  obtain ⟨v, h1, h3⟩ := tells_eq (kind : Int) (ownA kind y : Int) 0 p l k h2 hp hl hlp (own_clue kind y hk) hk60
  obtain ⟨u, h4, h5⟩ := tells_eq (kind : Int) (ownA kind y : Int) 0 p l 100 h2 hp hl hlp (own_clue kind y hk) (by decide)
  have m1 := at_rounds (fun k => impl_Hidden_tells.mono p l kind (ownA kind y) k) (Nat.le_max_left k 100) h3
  have m2 := at_rounds (fun k => impl_Hidden_tells.mono p l kind (ownA kind y) k) (Nat.le_max_right k 100) h5
  obtain rfl : u = v := Option.some.inj (m2.symm.trans m1)
  have e : tellN kind (ownA kind y) p l = u := by unfold tellN; rw [h5]; rfl
  rw [e]
  exact ⟨h1, h3⟩
theorem spec_of (kind y p l k : Nat) (hk : kind < 6) (hy : y ≤ 10007) (h2 : 2 ≤ p) (hp : p ≤ 40) (hl : 1 ≤ l) (hlp : 2 * l ≤ p) (hk60 : 60 ≤ k) :
    spec_pzOf.f k (kind : Int) (y : Int) p l = some ((kind : Int), (ownA kind y : Int), tellN kind (ownA kind y) p l) := by
  have ht := (tell_both kind y p l k hk h2 hp hl hlp hk60).1
  have w3 : wrap64 (Int.tmod (y : Int) 20 + 1) = ((y % 20 + 1 : Nat) : Int) := by rw [Int.tmod_eq_emod_of_nonneg (by omega), w64 (by omega) (by omega)]; omega
  have w4 : wrap64 (Int.tmod (y : Int) 8 + 2) = ((y % 8 + 2 : Nat) : Int) := by rw [Int.tmod_eq_emod_of_nonneg (by omega), w64 (by omega) (by omega)]; omega
  have w2 : Int.tmod (y : Int) 10 = ((y % 10 : Nat) : Int) := rfl
  unfold ownA at ht ⊢
  rw [spec_pzOf.f]
  by_cases c2 : kind = 2
  · subst c2
    rw [if_pos rfl] at ht ⊢
    rw [if_pos (by decide), w2, ht]
    rfl
  · rw [if_neg c2] at ht ⊢
    rw [if_neg (by omega)]
    by_cases c3 : kind = 3
    · subst c3
      rw [if_pos rfl] at ht ⊢
      rw [if_pos (by decide), w3, ht]
      rfl
    · rw [if_neg c3] at ht ⊢
      rw [if_neg (by omega)]
      by_cases c4 : kind = 4
      · subst c4
        rw [if_pos rfl] at ht ⊢
        rw [if_pos (by decide), w4, ht]
        rfl
      · rw [if_neg c4] at ht ⊢
        rw [if_neg (by omega)]
        have : spec_pzValue.f k (kind : Int) 0 p l = _ := ht
        rw [this]
        rfl
/-- A clue that is made. -/
def clueOf (p l a b : Nat) : S51 := ⟨((a % 6 : Nat) : Int), (ownA (a % 6) b : Int), tellN (a % 6) (ownA (a % 6) b) p l⟩
/-- The clues that are made. -/
def madeL (p l : Nat) : Nat → Nat → List S51
  | 0, _ => []
  | n + 1, z => clueOf p l (nextZ z) (nextZ (nextZ z)) :: madeL p l n (nextZ (nextZ z))
theorem made_len (p l : Nat) : ∀ n z, (madeL p l n z).length = n
  | 0, _ => rfl
  | n + 1, z => by rw [madeL, List.length_cons, made_len p l n]
theorem made_app (p l n z : Nat) (acc : List S51) : (acc ++ [clueOf p l (nextZ z) (nextZ (nextZ z))]) ++ madeL p l n (nextZ (nextZ z)) = acc ++ madeL p l (n + 1) z := by
  rw [madeL, List.append_assoc, List.singleton_append]
theorem tmod6 (a : Nat) : Int.tmod (a : Int) 6 = ((a % 6 : Nat) : Int) := rfl
theorem tmod10 (a : Nat) : Int.tmod (a : Int) 10 = ((a % 10 : Nat) : Int) := rfl
theorem own3 (y : Nat) (h : y ≤ 10007) : wrap64 (Int.tmod (y : Int) 20 + 1) = ((y % 20 + 1 : Nat) : Int) := by rw [Int.tmod_eq_emod_of_nonneg (by omega), w64 (by omega) (by omega)]; omega
theorem own4 (y : Nat) (h : y ≤ 10007) : wrap64 (Int.tmod (y : Int) 8 + 2) = ((y % 8 + 2 : Nat) : Int) := by rw [Int.tmod_eq_emod_of_nonneg (by omega), w64 (by omega) (by omega)]; omega
theorem spec_made (p l : Nat) (h2 : 2 ≤ p) (hp : p ≤ 40) (hl : 1 ≤ l) (hlp : 2 * l ≤ p) : ∀ (n z : Nat) (acc : List S51), z ≤ 10007 → acc.length + n ≤ 100 →
    Ev (fun k => spec_MakePuzzle.l0 k (n : Int) (z : Int) p l acc) (acc ++ madeL p l n z, true) := by
  intro n
  induction n with
  | zero =>
    intro z acc hz ha
    refine Ev_step (fun k => ?_) (Ev.now _)
    rw [spec_MakePuzzle.l0, if_neg (by omega), madeL, List.append_nil]
  | succ n ih =>
    intro z acc hz ha
    have wn : wrap64 (((n + 1 : Nat) : Int) - 1) = (n : Int) := by rw [w64 (by omega) (by omega)]; omega
    rw [← made_app]
    have na := spec_next z hz
    have nb := spec_next (nextZ z) (next_lt z)
    have ba := next_lt z
    have bb := next_lt (nextZ z)
    generalize nextZ (nextZ z) = b at nb bb ⊢
    generalize nextZ z = a at na nb ba ⊢
    have hk : a % 6 < 6 := Nat.mod_lt _ (by decide)
    refine Ev_step (fun k => by rw [spec_MakePuzzle.l0, if_pos (by omega), na, Option.bind_some, nb, Option.bind_some, tmod6, wn]) ?_
    refine Ev_bind ⟨60, fun k hk60 => spec_of (a % 6) b p l k hk bb h2 hp hl hlp hk60⟩ (Ev_pos (show acc.length < 5864062014805 by omega) ?_)
    exact ih b (acc ++ [clueOf p l a b]) bb (by rw [List.length_append, List.length_singleton]; omega)
theorem impl_made (p l : Nat) (h2 : 2 ≤ p) (hp : p ≤ 40) (hl : 1 ≤ l) (hlp : 2 * l ≤ p) (m : Nat) (hm : m ≤ 100) : ∀ (n i z : Nat) (acc : List S51), i + n = m → z ≤ 10007 → acc.length + n ≤ 100 →
    Ev (fun k => impl_MakePuzzle.l0 k (m : Int) (i : Int) p l (z : Int) acc) (acc ++ madeL p l n z, true) := by
  intro n
  induction n with
  | zero =>
    intro i z acc hi hz ha
    refine Ev_step (fun k => ?_) (Ev.now _)
    rw [impl_MakePuzzle.l0, if_neg (by omega), madeL, List.append_nil]
  | succ n ih =>
    intro i z acc hi hz ha
    have wi : wrap64 ((i : Int) + 1) = ((i + 1 : Nat) : Int) := by rw [w64 (by omega) (by omega)]; omega
    rw [← made_app]
    have na := impl_next z hz
    have nb := impl_next (nextZ z) (next_lt z)
    have bb := next_lt (nextZ z)
    generalize nextZ (nextZ z) = b at nb bb ⊢
    generalize nextZ z = a at na nb ⊢
    have hk : a % 6 < 6 := Nat.mod_lt _ (by decide)
    have hs : acc.length < 5864062014805 := by omega
    have hx := ih (i + 1) b (acc ++ [clueOf p l a b]) (by omega) bb (by rw [List.length_append, List.length_singleton]; omega)
    have ht : Ev (fun k => impl_Hidden_tells.f k p l ((a % 6 : Nat) : Int) (ownA (a % 6) b : Int)) (tellN (a % 6) (ownA (a % 6) b) p l) := ⟨60, fun k hk60 => (tell_both (a % 6) b p l k hk h2 hp hl hlp hk60).2⟩
    refine Ev_step (fun k => by rw [impl_MakePuzzle.l0, if_pos (by omega), na, Option.bind_some, nb, Option.bind_some, tmod6, wi, tmod10, own3 b bb, own4 b bb]) ?_
    unfold clueOf at hx ⊢
    generalize a % 6 = kind at ht hx hk ⊢
    unfold ownA at ht hx ⊢
    by_cases c2 : kind = 2
    · subst c2
      rw [if_pos rfl] at ht hx ⊢
      exact Ev_pos rfl (Ev_bind ht (Ev_pos hs hx))
    · rw [if_neg c2] at ht hx ⊢
      refine Ev_neg (by omega) ?_
      by_cases c3 : kind = 3
      · subst c3
        rw [if_pos rfl] at ht hx ⊢
        exact Ev_pos rfl (Ev_bind ht (Ev_pos hs hx))
      · rw [if_neg c3] at ht hx ⊢
        refine Ev_neg (by omega) ?_
        by_cases c4 : kind = 4
        · subst c4
          rw [if_pos rfl] at ht hx ⊢
          exact Ev_pos rfl (Ev_bind ht (Ev_pos hs hx))
        · rw [if_neg c4] at ht hx ⊢
          exact Ev_neg (by omega) (Ev_bind ht (Ev_pos hs hx))
/-- The puzzle that is made. -/
def madeR (a b n s : Int) : List S51 × Bool := if (hiddenB a b && (inB n 0 6 && inB s 0 9999)) = true then (madeL a.toNat b.toNat n.toNat s.toNat, true) else ([], false)
theorem makeBoth_ev (a b n s : Int) : Ev (fun k => spec_MakePuzzle.f k a b n s) (madeR a b n s) ∧ Ev (fun k => impl_MakePuzzle.f k a b n s) (madeR a b n s) := by
  have no1 : Ev (fun k => spec_MakePuzzle.j0 k n s true a b) (([] : List S51), false) := Ev_step (fun k => by rw [spec_MakePuzzle.j0]) (Ev_pos rfl (Ev.now _))
  have no2 : Ev (fun k => impl_MakePuzzle.j0 k n s true a b) (([] : List S51), false) := Ev_step (fun k => by rw [impl_MakePuzzle.j0]) (Ev_pos rfl (Ev.now _))
  simp only [spec_MakePuzzle.f, impl_MakePuzzle.f, spec_hidden, impl_hidden, l1In_eq, within_eq, Option.bind_some, madeR]
  cases hh : hiddenB a b with
  | false => exact ⟨Ev_neg (by decide) no1, Ev_neg (by decide) no2⟩
  | true =>
    cases hn : inB n 0 6 with
    | false => exact ⟨Ev_pos rfl (Ev_neg (by decide) no1), Ev_pos rfl (Ev_neg (by decide) no2)⟩
    | true =>
      cases hs : inB s 0 9999 with
      | false => exact ⟨Ev_pos rfl (Ev_pos rfl no1), Ev_pos rfl (Ev_pos rfl no2)⟩
      | true =>
        obtain ⟨p, l, rfl, rfl, h2, hp, hl, hlp⟩ := hidden_in hh
        have hn' := of_decide_eq_true (show decide (0 ≤ n ∧ n ≤ 6) = true from hn)
        have hs' := of_decide_eq_true (show decide (0 ≤ s ∧ s ≤ 9999) = true from hs)
        obtain ⟨n, rfl⟩ := Int.eq_ofNat_of_zero_le hn'.1
        obtain ⟨s, rfl⟩ := Int.eq_ofNat_of_zero_le hs'.1
        have e1 := spec_made p l h2 hp hl hlp n s [] (by omega) (by simp only [List.length_nil]; omega)
        have e2 := impl_made p l h2 hp hl hlp n (by omega) n 0 s [] (by omega) (by omega) (by simp only [List.length_nil]; omega)
        have j1 : Ev (fun k => spec_MakePuzzle.j0 k (n : Int) (s : Int) false p l) (madeL p l n s, true) := Ev_step (f := fun k => spec_MakePuzzle.l0 k (n : Int) (s : Int) p l []) (fun k => by rw [spec_MakePuzzle.j0, if_neg (by decide)]) e1
        have j2 : Ev (fun k => impl_MakePuzzle.j0 k (n : Int) (s : Int) false p l) (madeL p l n s, true) := Ev_step (f := fun k => impl_MakePuzzle.l0 k (n : Int) ((0 : Nat) : Int) p l (s : Int) []) (fun k => by rw [impl_MakePuzzle.j0, if_neg (by decide)]; rfl) e2
        exact ⟨Ev_pos rfl (Ev_pos rfl j1), Ev_pos rfl (Ev_pos rfl j2)⟩
theorem madeR_len (a b n s : Int) : (madeR a b n s).1.length ≤ 6 := by
  unfold madeR
  split
  · rename_i h
    rw [Bool.and_eq_true, Bool.and_eq_true] at h
    have hn' := of_decide_eq_true (show decide (0 ≤ n ∧ n ≤ 6) = true from h.2.1)
    show (madeL a.toNat b.toNat n.toNat s.toNat).length ≤ 6
    rw [made_len]
    omega
  · exact Nat.zero_le _
end Go.Proofs.YtmcingnpbececaaDoor.P
