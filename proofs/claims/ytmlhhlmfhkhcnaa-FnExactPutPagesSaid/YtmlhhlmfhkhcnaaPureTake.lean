/- Pages are put in and taken out: the program and the reference do the same. -/
import Derived.Test.YtmlhhlmfhkhcnaaPx11
import Derived.Test.YtmlhhlmfhkhcnaaPx13
import Derived.Test.YtmlhhlmfhkhcnaaExtTakePages
import Derived.Test.YtmlhhlmfhkhcnaaExtPutPages
import Derived.Test.YtmlhhlmfhkhcnaaPureSet
import Derived.Test.YtmlhhlmfhkhcnaaPureRangeSz
namespace Go.Proofs.Ytmlhhlmfhkhcnaa.P
open Go.RowKit Go.Proofs.YtmlhhlmfhkhcnaaW.PrintWords Go.Proofs.YtmlhhlmfhkhcnaaW.PrintLast Go.Proofs.YtmlhhlmfhkhcnaaW.PrintMore Go.Proofs.Ytmlhhlmfhkhcnaa.Base
set_option linter.unusedVariables false

theorem isIndexed_eq (a : Int) : impl_isIndexed.f a = some (inB a 1 2000) := by
  rw [impl_isIndexed.f, within_eq]
  rfl
theorem ixPage_ev (l : List S63) (p : Int) (r : Bool) (h : Ev (fun k => spec_ixGood.f k l) r) : Ev (fun k => spec_ixPage.f k l p) (r && inB p 1 2000) := by
  simp only [spec_ixPage.f]
  refine Ev_bind h ?_
  cases r with
  | false => exact Ev_neg (by decide) (Ev.now _)
  | true => exact Ev_pos rfl (Ev_some (l1In_eq _ _ _) (by rw [Bool.true_and]; exact Ev.now _))
theorem more1 (ys : List Bool) (hy : Set1 ys) : (ys ++ [false]).length = 2002 := by rw [List.length_append, hy.len]; rfl
theorem rd_more (ys : List Bool) (hy : Set1 ys) (m : Nat) (p : Nat) (h : p < 2001) : rdOf false (ys ++ List.replicate m false) (p : Int) = ys.getD p false := by rw [rdOf_nat, getD_more _ _ _ (by rw [hy.len]; omega)]
theorem rd_last (ys : List Bool) (hy : Set1 ys) : rdOf false (ys ++ [false]) ((2001 : Nat) : Int) = false := by
  rw [rdOf_nat, List.getD_eq_getElem?_getD, List.getElem?_append_right (by rw [hy.len]; omega), hy.len]
  rfl
theorem take_l0 (x1 x2 : Int) (h1 : 1 ≤ x1) (h1' : x1 ≤ 2000) (h2 : 0 ≤ x2) (h2' : x2 ≤ 2000) (ys : List Bool) (hy : Set1 ys) : ∀ n p : Nat, p + n = 2001 → ∀ xs, Set1 xs →
    ∃ r : List S63 × Bool, Ev (fun k => impl_TakePages.l0 k x1 x2 xs ys (p : Int)) r ∧ Ev (fun k => spec_TakePages.l0 k x1 x2 (xs ++ [false]) (ys ++ [false]) 2002 (p : Int)) r ∧ r.1.length ≤ 20 := by
  have hyl := hy.len
  have hym := more1 ys hy
  intro n
  induction n with
  | zero =>
    intro p hp xs hx
    obtain rfl : p = 2001 := by omega
    obtain ⟨⟨r1, r2⟩, a, b0, c⟩ := ranges_both xs hx 1 (by omega)
    have b : Ev (fun k => spec_ixOf.f k (xs ++ [false])) (r1, r2) := b0
    refine ⟨(r1, r2), ?_, ?_, c⟩
    · refine Ev_step (fun k => by rw [impl_TakePages.l0, if_neg (by omega)]) ?_
      exact Ev_bind a (Ev.now _)
    · refine Ev_step (fun k => by rw [spec_TakePages.l0, if_pos (by omega), if_pos (by omega), if_pos (by rw [hym]; omega), rd_last ys hy, if_neg (by decide)]) ?_
      refine Ev_step (fun k => by rw [spec_TakePages.j2, if_neg (by decide), if_neg (by decide), nextI 2001 (by omega)]) ?_
      refine Ev_step (fun k => by rw [spec_TakePages.l0, if_neg (by omega)]) ?_
      exact Ev_bind b (Ev.now _)
  | succ n ih =>
    intro p hp xs hx
    have hxl := hx.len
    have hxm := more1 xs hx
    have hrd : rdOf false (ys ++ [false]) (p : Int) = ys.getD p false := rd_more ys hy 1 p (by omega)
    have w1 : wrap64 (x1 + x2) = x1 + x2 := w64 (by omega) (by omega)
    have w2 : wrap64 ((p : Int) - x2) = (p : Int) - x2 := w64 (by omega) (by omega)
    cases hb : ys.getD p false with
    | false =>
      obtain ⟨r, a, b, c⟩ := ih (p + 1) (by omega) xs hx
      refine ⟨r, ?_, ?_, c⟩
      · exact Ev_step (fun k => by rw [impl_TakePages.l0, if_pos (by omega), if_pos (by omega), if_pos (by omega), rdOf_nat, hb, if_neg (by decide), nextI p (by omega)]) a
      · refine Ev_step (fun k => by rw [spec_TakePages.l0, if_pos (by omega), if_pos (by omega), if_pos (by rw [hym]; omega), hrd, hb, if_neg (by decide)]) ?_
        exact Ev_step (fun k => by rw [spec_TakePages.j2, if_neg (by decide), if_neg (by decide), nextI p (by omega)]) b
    | true =>
      have hp1 : 1 ≤ p := by
        rcases Nat.eq_zero_or_pos p with h | h
        · subst h; rw [hy.none] at hb; cases hb
        · exact h
      by_cases h3 : (p : Int) < x1
      · obtain ⟨r, a, b, c⟩ := ih (p + 1) (by omega) (xs.set p true) (hx.put hp1 true)
        refine ⟨r, ?_, ?_, c⟩
        · exact Ev_step (fun k => by rw [impl_TakePages.l0, if_pos (by omega), if_pos (by omega), if_pos (by omega), rdOf_nat, hb, if_pos rfl, if_pos h3, if_pos (by omega), nextI p (by omega), Int.toNat_natCast]) a
        · refine Ev_step (fun k => by rw [spec_TakePages.l0, if_pos (by omega), if_pos (by omega), if_pos (by rw [hym]; omega), hrd, hb, if_pos rfl, decide_eq_true h3]) ?_
          exact Ev_step (fun k => by rw [spec_TakePages.j2, if_pos rfl, if_pos (by omega), if_pos (by rw [hxm]; omega), nextI p (by omega), Int.toNat_natCast, set_more _ _ _ _ (by omega)]) b
      · by_cases h4 : (p : Int) ≥ x1 + x2
        · obtain ⟨q, hq⟩ := Int.eq_ofNat_of_zero_le (show 0 ≤ (p : Int) - x2 by omega)
          obtain ⟨r, a, b, c⟩ := ih (p + 1) (by omega) (xs.set q true) (hx.put (by omega) true)
          refine ⟨r, ?_, ?_, c⟩
          · exact Ev_step (fun k => by rw [impl_TakePages.l0, if_pos (by omega), if_pos (by omega), if_pos (by omega), rdOf_nat, hb, if_pos rfl, if_neg h3, w1, if_pos h4, w2, if_pos (by omega), if_pos (by omega), nextI p (by omega), hq, Int.toNat_natCast]) a
          · refine Ev_step (fun k => by rw [spec_TakePages.l0, if_pos (by omega), if_pos (by omega), if_pos (by rw [hym]; omega), hrd, hb, if_pos rfl, decide_eq_false h3]) ?_
            exact Ev_step (fun k => by rw [spec_TakePages.j2, if_neg (by decide), if_pos rfl, w1, if_pos h4, w2, if_pos (by omega), if_pos (by rw [hxm]; omega), nextI p (by omega), hq, Int.toNat_natCast, set_more _ _ _ _ (by omega)]) b
        · obtain ⟨r, a, b, c⟩ := ih (p + 1) (by omega) xs hx
          refine ⟨r, ?_, ?_, c⟩
          · exact Ev_step (fun k => by rw [impl_TakePages.l0, if_pos (by omega), if_pos (by omega), if_pos (by omega), rdOf_nat, hb, if_pos rfl, if_neg h3, w1, if_neg h4, nextI p (by omega)]) a
          · refine Ev_step (fun k => by rw [spec_TakePages.l0, if_pos (by omega), if_pos (by omega), if_pos (by rw [hym]; omega), hrd, hb, if_pos rfl, decide_eq_false h3]) ?_
            exact Ev_step (fun k => by rw [spec_TakePages.j2, if_neg (by decide), if_pos rfl, w1, if_neg h4, nextI p (by omega)]) b
theorem put_l0 (x1 x2 : Int) (h1 : 1 ≤ x1) (h1' : x1 ≤ 2000) (h2 : 0 ≤ x2) (h2' : x2 ≤ 2000) (ys : List Bool) (hy : Set1 ys) : ∀ n p : Nat, p + n = 2001 → ∀ xs, Set1 xs →
    ∃ r : List S63 × Bool, Ev (fun k => impl_PutPages.l0 k x1 x2 xs ys (p : Int)) r ∧ Ev (fun k => spec_PutPages.l0 k x1 x2 (xs ++ List.replicate 2001 false) (ys ++ [false]) 2002 (p : Int)) r ∧ r.1.length ≤ 20 := by
  have hyl := hy.len
  have hym := more1 ys hy
  intro n
  induction n with
  | zero =>
    intro p hp xs hx
    obtain rfl : p = 2001 := by omega
    obtain ⟨⟨r1, r2⟩, a, b, c⟩ := ranges_both xs hx 2001 (by omega)
    refine ⟨(r1, r2), ?_, ?_, c⟩
    · refine Ev_step (fun k => by rw [impl_PutPages.l0, if_neg (by omega)]) ?_
      exact Ev_bind a (Ev.now _)
    · refine Ev_step (fun k => by rw [spec_PutPages.l0, if_pos (by omega), if_pos (by omega), if_pos (by rw [hym]; omega), if_pos (by omega), rd_last ys hy]) ?_
      refine Ev_step (fun k => by rw [spec_PutPages.j2, if_neg (by decide), nextI 2001 (by omega)]) ?_
      refine Ev_step (fun k => by rw [spec_PutPages.l0, if_neg (by omega)]) ?_
      exact Ev_bind b (Ev.now _)
  | succ n ih =>
    intro p hp xs hx
    have hxl := hx.len
    have hxm : (xs ++ List.replicate 2001 false).length = 4002 := by rw [List.length_append, hx.len, List.length_replicate]
    have hrd : rdOf false (ys ++ [false]) (p : Int) = ys.getD p false := rd_more ys hy 1 p (by omega)
    have w2 : wrap64 ((p : Int) + x2) = (p : Int) + x2 := w64 (by omega) (by omega)
    cases hb : ys.getD p false with
    | false =>
      obtain ⟨r, a, b, c⟩ := ih (p + 1) (by omega) xs hx
      refine ⟨r, ?_, ?_, c⟩
      · exact Ev_step (fun k => by rw [impl_PutPages.l0, if_pos (by omega), if_pos (by omega), if_pos (by omega), rdOf_nat, hb, if_neg (by decide), nextI p (by omega)]) a
      · by_cases h3 : (p : Int) ≥ x1
        · refine Ev_step (fun k => by rw [spec_PutPages.l0, if_pos (by omega), if_pos (by omega), if_pos (by rw [hym]; omega), if_pos h3, hrd, hb]) ?_
          exact Ev_step (fun k => by rw [spec_PutPages.j2, if_neg (by decide), nextI p (by omega)]) b
        · refine Ev_step (fun k => by rw [spec_PutPages.l0, if_pos (by omega), if_pos (by omega), if_pos (by rw [hym]; omega), if_neg h3, hrd, hb]) ?_
          exact Ev_step (fun k => by rw [spec_PutPages.j2, if_neg (by decide), nextI p (by omega)]) b
    | true =>
      have hp1 : 1 ≤ p := by
        rcases Nat.eq_zero_or_pos p with h | h
        · subst h; rw [hy.none] at hb; cases hb
        · exact h
      by_cases h3 : (p : Int) ≥ x1
      · by_cases h4 : (p : Int) + x2 > 2000
        · refine ⟨([], false), ?_, ?_, Nat.zero_le _⟩
          · exact Ev_step (fun k => by rw [impl_PutPages.l0, if_pos (by omega), if_pos (by omega), if_pos (by omega), rdOf_nat, hb, if_pos rfl, if_pos h3, w2, if_pos h4]) (Ev.now _)
          · refine Ev_step (fun k => by rw [spec_PutPages.l0, if_pos (by omega), if_pos (by omega), if_pos (by rw [hym]; omega), if_pos h3, hrd, hb, w2]) ?_
            exact Ev_step (fun k => by rw [spec_PutPages.j2, if_pos rfl, if_pos (by omega), if_pos (by rw [hxm]; omega), if_pos h4]) (Ev.now _)
        · obtain ⟨q, hq⟩ := Int.eq_ofNat_of_zero_le (show 0 ≤ (p : Int) + x2 by omega)
          obtain ⟨r, a, b, c⟩ := ih (p + 1) (by omega) (xs.set q true) (hx.put (by omega) true)
          refine ⟨r, ?_, ?_, c⟩
          · exact Ev_step (fun k => by rw [impl_PutPages.l0, if_pos (by omega), if_pos (by omega), if_pos (by omega), rdOf_nat, hb, if_pos rfl, if_pos h3, w2, if_neg h4, if_pos (by omega), if_pos (by omega), nextI p (by omega), hq, Int.toNat_natCast]) a
          · refine Ev_step (fun k => by rw [spec_PutPages.l0, if_pos (by omega), if_pos (by omega), if_pos (by rw [hym]; omega), if_pos h3, hrd, hb, w2]) ?_
            exact Ev_step (fun k => by rw [spec_PutPages.j2, if_pos rfl, if_pos (by omega), if_pos (by rw [hxm]; omega), if_neg h4, nextI p (by omega), hq, Int.toNat_natCast, set_more _ _ _ _ (by omega)]) b
      · obtain ⟨r, a, b, c⟩ := ih (p + 1) (by omega) (xs.set p true) (hx.put hp1 true)
        refine ⟨r, ?_, ?_, c⟩
        · exact Ev_step (fun k => by rw [impl_PutPages.l0, if_pos (by omega), if_pos (by omega), if_pos (by omega), rdOf_nat, hb, if_pos rfl, if_neg h3, if_neg (by omega), if_pos (by omega), nextI p (by omega), Int.toNat_natCast]) a
        · refine Ev_step (fun k => by rw [spec_PutPages.l0, if_pos (by omega), if_pos (by omega), if_pos (by rw [hym]; omega), if_neg h3, hrd, hb]) ?_
          exact Ev_step (fun k => by rw [spec_PutPages.j2, if_pos rfl, if_pos (by omega), if_pos (by rw [hxm]; omega), if_neg (by omega), nextI p (by omega), Int.toNat_natCast, set_more _ _ _ _ (by omega)]) b
theorem take_ev (l : List S63) (p m : Int) (hn : l.length ≤ 1048576) : ∃ r : List S63 × Bool, Ev (fun k => spec_TakePages.f k l p m) r ∧ Ev (fun k => impl_TakePages.f k l p m) r ∧ r.1.length ≤ 1048576 := by
  obtain ⟨g, h1, h2, h3⟩ := goods_ev l hn
  have h4 := ixPage_ev l p g h1
  simp only [spec_TakePages.f, impl_TakePages.f]
  have no : Ev (fun k => spec_TakePages.j0 k l p m true) ([], false) ∧ Ev (fun k => impl_TakePages.j0 k l p m true) ([], false) := by
    constructor
    · refine Ev_step (fun k => by rw [spec_TakePages.j0]) ?_
      exact Ev_pos rfl (Ev.now _)
    · refine Ev_step (fun k => by rw [impl_TakePages.j0]) ?_
      exact Ev_pos rfl (Ev.now _)
  cases g with
  | false =>
    exact ⟨([], false), Ev_bind h4 (Ev_neg (by simp) no.1), Ev_bind h2 (Ev_neg (by decide) no.2), Nat.zero_le _⟩
  | true =>
    rw [Bool.true_and] at h4
    cases hp : inB p 1 2000 with
    | false =>
      rw [hp] at h4
      exact ⟨([], false), Ev_bind h4 (Ev_neg (by decide) no.1), Ev_bind h2 (Ev_pos rfl (Ev_some (isIndexed_eq _) (by rw [hp]; exact Ev_neg (by decide) no.2))), Nat.zero_le _⟩
    | true =>
      rw [hp] at h4
      cases hm : inB m 0 2000 with
      | false =>
        exact ⟨([], false), Ev_bind h4 (Ev_pos rfl (Ev_some (l1In_eq _ _ _) (by rw [hm]; exact no.1))), Ev_bind h2 (Ev_pos rfl (Ev_some (isIndexed_eq _) (by rw [hp]; exact Ev_pos rfl (Ev_some (within_eq _ _ _) (by rw [hm]; exact no.2))))), Nat.zero_le _⟩
      | true =>
        obtain ⟨ys, a, b, hy⟩ := marks_ev l hn (h3 rfl)
        have hp' : 1 ≤ p ∧ p ≤ 2000 := by unfold inB at hp; exact of_decide_eq_true hp
        have hm' : 0 ≤ m ∧ m ≤ 2000 := by unfold inB at hm; exact of_decide_eq_true hm
        obtain ⟨r, c, d, e⟩ := take_l0 p m hp'.1 hp'.2 hm'.1 hm'.2 ys hy 2001 0 (by omega) _ Set1.empty
        refine ⟨r, Ev_bind h4 (Ev_pos rfl (Ev_some (l1In_eq _ _ _) ?_)), Ev_bind h2 (Ev_pos rfl (Ev_some (isIndexed_eq _) ?_)), by omega⟩
        · rw [hm]
          refine Ev_step (fun k => by rw [spec_TakePages.j0]) ?_
          refine Ev_neg (by decide) (Ev_pos (by omega) (Ev_bind b ?_))
          refine Ev.congr (fun k => ?_) d
          rw [more1 ys hy, show List.replicate 2002 false = List.replicate 2001 false ++ [false] from List.replicate_succ']
          rfl
        · rw [hp]
          refine Ev_pos rfl (Ev_some (within_eq _ _ _) ?_)
          rw [hm]
          refine Ev_step (fun k => by rw [impl_TakePages.j0]) ?_
          exact Ev_neg (by decide) (Ev_pos (by omega) (Ev_bind a c))
theorem put_ev (l : List S63) (p m : Int) (hn : l.length ≤ 1048576) : ∃ r : List S63 × Bool, Ev (fun k => spec_PutPages.f k l p m) r ∧ Ev (fun k => impl_PutPages.f k l p m) r ∧ r.1.length ≤ 1048576 := by
  obtain ⟨g, h1, h2, h3⟩ := goods_ev l hn
  have h4 := ixPage_ev l p g h1
  simp only [spec_PutPages.f, impl_PutPages.f]
  have no : Ev (fun k => spec_PutPages.j0 k l p m true) ([], false) ∧ Ev (fun k => impl_PutPages.j0 k l p m true) ([], false) := by
    constructor
    · refine Ev_step (fun k => by rw [spec_PutPages.j0]) ?_
      exact Ev_pos rfl (Ev.now _)
    · refine Ev_step (fun k => by rw [impl_PutPages.j0]) ?_
      exact Ev_pos rfl (Ev.now _)
  cases g with
  | false =>
    exact ⟨([], false), Ev_bind h4 (Ev_neg (by simp) no.1), Ev_bind h2 (Ev_neg (by decide) no.2), Nat.zero_le _⟩
  | true =>
    rw [Bool.true_and] at h4
    cases hp : inB p 1 2000 with
    | false =>
      rw [hp] at h4
      exact ⟨([], false), Ev_bind h4 (Ev_neg (by decide) no.1), Ev_bind h2 (Ev_pos rfl (Ev_some (isIndexed_eq _) (by rw [hp]; exact Ev_neg (by decide) no.2))), Nat.zero_le _⟩
    | true =>
      rw [hp] at h4
      cases hm : inB m 0 2000 with
      | false =>
        exact ⟨([], false), Ev_bind h4 (Ev_pos rfl (Ev_some (l1In_eq _ _ _) (by rw [hm]; exact no.1))), Ev_bind h2 (Ev_pos rfl (Ev_some (isIndexed_eq _) (by rw [hp]; exact Ev_pos rfl (Ev_some (within_eq _ _ _) (by rw [hm]; exact no.2))))), Nat.zero_le _⟩
      | true =>
        obtain ⟨ys, a, b, hy⟩ := marks_ev l hn (h3 rfl)
        have hp' : 1 ≤ p ∧ p ≤ 2000 := by unfold inB at hp; exact of_decide_eq_true hp
        have hm' : 0 ≤ m ∧ m ≤ 2000 := by unfold inB at hm; exact of_decide_eq_true hm
        obtain ⟨r, c, d, e⟩ := put_l0 p m hp'.1 hp'.2 hm'.1 hm'.2 ys hy 2001 0 (by omega) _ Set1.empty
        refine ⟨r, Ev_bind h4 (Ev_pos rfl (Ev_some (l1In_eq _ _ _) ?_)), Ev_bind h2 (Ev_pos rfl (Ev_some (isIndexed_eq _) ?_)), by omega⟩
        · rw [hm]
          refine Ev_step (fun k => by rw [spec_PutPages.j0]) ?_
          refine Ev_neg (by decide) (Ev_pos (by omega) (Ev_bind b ?_))
          refine Ev.congr (fun k => ?_) d
          rw [more1 ys hy, show List.replicate 4002 false = List.replicate 2001 false ++ List.replicate 2001 false from by rw [List.replicate_append_replicate]]
          rfl
        · rw [hp]
          refine Ev_pos rfl (Ev_some (within_eq _ _ _) ?_)
          rw [hm]
          refine Ev_step (fun k => by rw [impl_PutPages.j0]) ?_
          exact Ev_neg (by decide) (Ev_pos (by omega) (Ev_bind a c))
end Go.Proofs.Ytmlhhlmfhkhcnaa.P
