/- Sets of pages of the program (2001 marks) and of the reference (2002 marks, or more): they mark the same, and tell the same ranges; of ranges that are ranges. -/
import Derived.Test.YtmlhhlmfhkhcnaaExtPages
import Derived.Test.YtmlhhlmfhkhcnaaPx3
import Derived.Test.YtmlhhlmfhkhcnaaPx4
import Derived.Test.YtmlhhlmfhkhcnaaPureRange
namespace Go.Proofs.Ytmlhhlmfhkhcnaa.P
open Go.RowKit Go.Proofs.YtmlhhlmfhkhcnaaW.PrintWords Go.Proofs.YtmlhhlmfhkhcnaaW.PrintLast Go.Proofs.YtmlhhlmfhkhcnaaW.PrintMore Go.Proofs.Ytmlhhlmfhkhcnaa.Base
set_option linter.unusedVariables false

theorem set_more (xs ys : List Bool) (p : Nat) (b : Bool) (h : p < xs.length) : (xs ++ ys).set p b = xs.set p b ++ ys := List.set_append_left _ _ h
theorem getD_set_far (xs : List Bool) (p q : Nat) (b : Bool) (h : p ≠ q) : (xs.set p b).getD q false = xs.getD q false := by
  rw [List.getD_eq_getElem?_getD, List.getElem?_set_ne h, ← List.getD_eq_getElem?_getD]
theorem getD_more (xs ys : List Bool) (q : Nat) (h : q < xs.length) : (xs ++ ys).getD q false = xs.getD q false := by
  rw [List.getD_eq_getElem?_getD, List.getElem?_append_left h, ← List.getD_eq_getElem?_getD]
/-- A row of marks of the program's. -/
structure Set1 (xs : List Bool) : Prop where
  len : xs.length = 2001
  none : xs.getD 0 false = false
theorem rep_none (m q : Nat) : (List.replicate m false).getD q false = false := by
  rw [List.getD_eq_getElem?_getD]
  cases e : (List.replicate m false)[q]? with
  | none => rfl
  | some b => exact (List.mem_replicate.1 (List.mem_of_getElem? e)).2
theorem Set1.empty : Set1 (List.replicate 2001 false) := ⟨List.length_replicate, rep_none _ _⟩
theorem Set1.put {xs : List Bool} (h : Set1 xs) {p : Nat} (h1 : 1 ≤ p) (b : Bool) : Set1 (xs.set p b) := ⟨by rw [List.length_set]; exact h.len, by rw [getD_set_far _ _ _ _ (by omega)]; exact h.none⟩

section
variable (l : List S63) (hn : l.length ≤ 1048576)
theorem marks_l1 (i : Nat) (f0 f1 : Int) (h1 : f1 ≤ 2000)
    (next : ∀ xs, Set1 xs → ∃ r, Ev (fun k => impl_setOf.l0 k xs l (l.length : Int) ((i + 1 : Nat) : Int)) r ∧ Ev (fun k => spec_ixMarks.l0 k (xs ++ [false]) l (l.length : Int) ((i + 1 : Nat) : Int)) (r ++ [false]) ∧ Set1 r) (hi : i < l.length) (hn : l.length ≤ 1048576) :
    ∀ (n p : Nat), (p : Int) + n = f1 + 1 → 1 ≤ p → ∀ xs, Set1 xs → ∃ r, Ev (fun k => impl_setOf.l1 k xs (p : Int) l (l.length : Int) (i : Int) f0 f1) r ∧ Ev (fun k => spec_ixMarks.l1 k (xs ++ [false]) (p : Int) l (l.length : Int) (i : Int) f0 f1) (r ++ [false]) ∧ Set1 r := by
  intro n
  induction n with
  | zero =>
    intro p hp hp1 xs hx
    obtain ⟨r, a, b, c⟩ := next xs hx
    refine ⟨r, Ev_step (fun k => ?_) a, Ev_step (fun k => ?_) b, c⟩
    · rw [impl_setOf.l1, if_neg (by omega), nextI i (by omega)]
    · rw [spec_ixMarks.l1, if_neg (by omega), nextI i (by omega)]
  | succ n ih =>
    intro p hp hp1 xs hx
    have hl := hx.len
    obtain ⟨r, a, b, c⟩ := ih (p + 1) (by omega) (by omega) (xs.set p true) (hx.put hp1 true)
    refine ⟨r, Ev_step (fun k => ?_) a, Ev_step (fun k => ?_) b, c⟩
    · rw [impl_setOf.l1, if_pos (by omega), if_pos (by omega), if_pos (by omega), nextI p (by omega), Int.toNat_natCast]
    · rw [spec_ixMarks.l1, if_pos (by omega), if_pos (by omega), if_pos (by rw [List.length_append, hl]; simp only [List.length_singleton]; omega), nextI p (by omega), Int.toNat_natCast, set_more _ _ _ _ (by omega)]
theorem marks_l0 (hr : ∀ i : Nat, i < l.length → rangeB (rd_T63 l (i : Int)).f0 (rd_T63 l (i : Int)).f1 = true) (hn : l.length ≤ 1048576) :
    ∀ (n i : Nat), i + n = l.length → ∀ xs, Set1 xs → ∃ r, Ev (fun k => impl_setOf.l0 k xs l (l.length : Int) (i : Int)) r ∧ Ev (fun k => spec_ixMarks.l0 k (xs ++ [false]) l (l.length : Int) (i : Int)) (r ++ [false]) ∧ Set1 r := by
  intro n
  induction n with
  | zero =>
    intro i hi xs hx
    refine ⟨xs, Ev_step (fun k => ?_) (Ev.now _), Ev_step (fun k => ?_) (Ev.now _), hx⟩
    · rw [impl_setOf.l0, if_neg (by omega)]
    · rw [spec_ixMarks.l0, if_neg (by omega)]
  | succ n ih =>
    intro i hi xs hx
    have h := hr i (by omega)
    unfold rangeB at h
    rw [decide_eq_true_eq] at h
    obtain ⟨p, hp⟩ := Int.eq_ofNat_of_zero_le (show 0 ≤ (rd_T63 l (i : Int)).f0 by omega)
    obtain ⟨m, hm⟩ := Int.eq_ofNat_of_zero_le (show 0 ≤ (rd_T63 l (i : Int)).f1 + 1 - p by omega)
    obtain ⟨r, a, b, c⟩ := marks_l1 l i (rd_T63 l (i : Int)).f0 (rd_T63 l (i : Int)).f1 h.2.2 (fun ys hy => ih (i + 1) (by omega) ys hy) (by omega) hn m p (by omega) (by omega) xs hx
    rw [← hp] at a b
    refine ⟨r, Ev_step (fun k => ?_) a, Ev_step (fun k => ?_) b, c⟩
    · rw [impl_setOf.l0, if_pos (by omega), if_pos (by omega), if_pos (by omega)]
    · rw [spec_ixMarks.l0, if_pos (by omega), if_pos (by omega), if_pos (by omega)]
end
theorem marks_ev (l : List S63) (hn : l.length ≤ 1048576) (hr : ∀ i : Nat, i < l.length → rangeB (rd_T63 l (i : Int)).f0 (rd_T63 l (i : Int)).f1 = true) :
    ∃ r, Ev (fun k => impl_setOf.f k l) r ∧ Ev (fun k => spec_ixMarks.f k l) (r ++ [false]) ∧ Set1 r := by
  obtain ⟨r, a, b, c⟩ := marks_l0 l hr hn l.length 0 (by omega) _ Set1.empty
  refine ⟨r, Ev.congr (fun k => ?_) a, Ev.congr (fun k => ?_) b, c⟩
  · rw [impl_setOf.f, if_pos (by omega)]
    rfl
  · rw [spec_ixMarks.f, if_pos (by omega), show List.replicate 2002 false = List.replicate 2001 false ++ [false] from List.replicate_succ']
    rfl

/-- What the loop over the marks knows of the ranges found up to page p. -/
structure Upto (xs : List Bool) (out : List S63) (p : Nat) : Prop where
  len : out.length + 1 ≤ p
  last : xs.getD (p - 1) false = true → out ≠ [] ∧ (out.getD (out.length - 1) z63).f1 = (p : Int) - 1
  old : out ≠ [] → (out.getD (out.length - 1) z63).f1 ≤ (p : Int) - 1
  not : xs.getD (p - 1) false = false → out ≠ [] → (out.getD (out.length - 1) z63).f1 ≠ (p : Int) - 1
/-- What is told behind the loop. -/
def few (r : List S63) : List S63 × Bool := if (r.length : Int) > 20 then ([], false) else (r, true)
theorem ixOf_end (marks : List Bool) (hm : marks.length ≤ 1048576) (out : List S63) : ∀ (n p : Nat), p + n = marks.length → (∀ q, p ≤ q → marks.getD q false = false) → Ev (fun k => spec_ixOf.l0 k marks out marks (marks.length : Int) (p : Int)) (few out) := by
  intro n
  induction n with
  | zero =>
    intro p hp hq
    refine Ev_step (fun k => ?_) (Ev.now _)
    rw [spec_ixOf.l0, if_neg (by omega)]
    by_cases h : (out.length : Int) > 20
    · rw [if_pos h, show few out = ([], false) from if_pos h]
    · rw [if_neg h, show few out = (out, true) from if_neg h]
  | succ n ih =>
    intro p hp hq
    refine Ev_step (fun k => ?_) (ih (p + 1) (by omega) (fun q h => hq q (by omega)))
    have e : rdOf false marks (p : Int) = false := by unfold rdOf; rw [Int.toNat_natCast]; exact hq p (Nat.le_refl _)
    rw [spec_ixOf.l0, if_pos (by omega), if_pos (by omega), if_pos (by omega), e, if_neg (by decide), nextI p (by omega)]
theorem rdOf_nat (xs : List Bool) (p : Nat) : rdOf false xs (p : Int) = xs.getD p false := by unfold rdOf; rw [Int.toNat_natCast]
theorem getD_snoc (out : List S63) (x : S63) : (out ++ [x]).getD ((out ++ [x]).length - 1) z63 = x := by
  rw [List.getD_eq_getElem?_getD, List.length_append, List.length_singleton, Nat.add_sub_cancel, List.getElem?_append_right (Nat.le_refl _), Nat.sub_self]
  rfl
theorem getD_last (out : List S63) (x : S63) (h : out ≠ []) : (out.set (out.length - 1) x).getD ((out.set (out.length - 1) x).length - 1) z63 = x := by
  have := List.length_pos_iff.2 h
  rw [List.length_set, getD_set_self _ _ _ (by omega)]
theorem all_both (xs : List Bool) (hx : Set1 xs) (m : Nat) (hm : m ≤ 1000000) : ∀ (n p : Nat) (out : List S63), p + n = 2001 → 1 ≤ p → Upto xs out p →
    ∃ r, Ev (fun k => impl_pageSet_all.l0 k xs out (p : Int)) r ∧ Ev (fun k => spec_ixOf.l0 k (xs ++ List.replicate m false) out (xs ++ List.replicate m false) ((xs ++ List.replicate m false).length : Int) (p : Int)) (few r) := by
  have hl := hx.len
  have hlm : (xs ++ List.replicate m false).length = 2001 + m := by rw [List.length_append, hl, List.length_replicate]
  intro n
  induction n with
  | zero =>
    intro p out hp hp1 hu
    obtain rfl : p = 2001 := by omega
    refine ⟨out, Ev_step (fun k => ?_) (Ev.now _), ?_⟩
    · rw [impl_pageSet_all.l0, if_neg (by omega)]
    · refine ixOf_end _ (by omega) out m 2001 hlm.symm (fun q hq => ?_)
      rw [List.getD_eq_getElem?_getD, List.getElem?_append_right (by omega), ← List.getD_eq_getElem?_getD]
      exact rep_none _ _
  | succ n ih =>
    intro p out hp hp1 hu
    have hn1 : ((p + 1 : Nat) : Int) - 1 = (p : Int) := by omega
    have w1 : wrap64 ((p : Int) - 1) = ((p - 1 : Nat) : Int) := by rw [w64 (by omega) (by omega)]; omega
    have hmk : ∀ q, q < 2001 → rdOf false (xs ++ List.replicate m false) ((q : Nat) : Int) = xs.getD q false := fun q hq => by rw [rdOf_nat, getD_more _ _ _ (by omega)]
    cases hb : xs.getD p false with
    | false =>
      obtain ⟨r, a, b⟩ := ih (p + 1) out (by omega) (by omega) ⟨by have := hu.len; omega, (fun h => by rw [Nat.add_sub_cancel, hb] at h; cases h), (fun h => by have := hu.old h; omega), (fun _ h => by have := hu.old h; omega)⟩
      refine ⟨r, Ev_step (fun k => ?_) a, Ev_step (fun k => ?_) b⟩
      · rw [impl_pageSet_all.l0, if_pos (by omega), if_pos (by omega), if_pos (by omega), rdOf_nat, hb, if_neg (by decide), nextI p (by omega)]
      · rw [spec_ixOf.l0, if_pos (by omega), if_pos (by omega), if_pos (by omega), hmk p (by omega), hb, if_neg (by decide), nextI p (by omega)]
    | true =>
      cases hc : xs.getD (p - 1) false with
      | true =>
        obtain ⟨h1, h2⟩ := hu.last hc
        have h3 := List.length_pos_iff.2 h1
        have hol := hu.len
        have w2 : wrap64 ((out.length : Int) - 1) = ((out.length - 1 : Nat) : Int) := by rw [w64 (by omega) (by omega)]; omega
        obtain ⟨r, a, b⟩ := ih (p + 1) (out.set (out.length - 1) ⟨(rd_T63 out ((out.length - 1 : Nat) : Int)).f0, (p : Int)⟩) (by omega) (by omega)
          ⟨by rw [List.length_set]; omega, fun _ => ⟨fun h => h1 ((List.set_eq_nil_iff _ _).1 h), by rw [getD_last _ _ h1, hn1]⟩, (fun _ => by rw [getD_last _ _ h1, hn1]; exact Int.le_refl _), (fun h => by rw [Nat.add_sub_cancel, hb] at h; cases h)⟩
        refine ⟨r, Ev_step (fun k => ?_) a, Ev_step (fun k => ?_) b⟩
        · have e : (rd_T63 out ((out.length - 1 : Nat) : Int)).f1 = ((p - 1 : Nat) : Int) := by unfold rd_T63; rw [Int.toNat_natCast, h2]; omega
          rw [impl_pageSet_all.l0, if_pos (by omega), if_pos (by omega), if_pos (by omega), rdOf_nat, hb, if_pos rfl, if_pos (by omega), w2, if_pos (by omega), if_pos (by omega), w1, if_pos e, nextI p (by omega), Int.toNat_natCast]
        · rw [spec_ixOf.l0, if_pos (by omega), if_pos (by omega), if_pos (by omega), hmk p (by omega), hb, if_pos rfl, if_pos (by omega), w1, if_pos (by omega), if_pos (by omega), hmk (p - 1) (by omega), hc, if_pos rfl, w2, if_pos (by omega), if_pos (by omega), nextI p (by omega), Int.toNat_natCast]
      | false =>
        have hol := hu.len
        obtain ⟨r, a, b⟩ := ih (p + 1) (out ++ [⟨(p : Int), (p : Int)⟩]) (by omega) (by omega)
          ⟨by rw [List.length_append, List.length_singleton]; omega, fun _ => ⟨by simp, by rw [getD_snoc, hn1]⟩, (fun _ => by rw [getD_snoc, hn1]; exact Int.le_refl _), (fun h => by rw [Nat.add_sub_cancel, hb] at h; cases h)⟩
        refine ⟨r, Ev_step (fun k => ?_) a, Ev_step (fun k => ?_) b⟩
        · rw [impl_pageSet_all.l0, if_pos (by omega), if_pos (by omega), if_pos (by omega), rdOf_nat, hb, if_pos rfl]
          by_cases h0 : (out.length : Int) > 0
          · have w2 : wrap64 ((out.length : Int) - 1) = ((out.length - 1 : Nat) : Int) := by rw [w64 (by omega) (by omega)]; omega
            have hne := hu.not hc (by intro h; rw [h] at h0; simp at h0)
            have e : ¬ (rd_T63 out ((out.length - 1 : Nat) : Int)).f1 = ((p - 1 : Nat) : Int) := by unfold rd_T63; rw [Int.toNat_natCast]; intro h; exact hne (by rw [h]; omega)
            rw [if_pos h0, w2, if_pos (by omega), if_pos (by omega), w1, if_neg e, if_pos (by omega), nextI p (by omega)]
          · rw [if_neg h0, if_pos (by omega), nextI p (by omega)]
        · rw [spec_ixOf.l0, if_pos (by omega), if_pos (by omega), if_pos (by omega), hmk p (by omega), hb, if_pos rfl, if_pos (by omega), w1, if_pos (by omega), if_pos (by omega), hmk (p - 1) (by omega), hc, if_neg (by decide), if_pos (by omega), nextI p (by omega)]
/-- Both tell the same ranges. -/
theorem ranges_both (xs : List Bool) (hx : Set1 xs) (m : Nat) (hm : m ≤ 1000000) : ∃ r : List S63 × Bool, Ev (fun k => impl_pageSet_ranges.f k xs) r ∧ Ev (fun k => spec_ixOf.f k (xs ++ List.replicate m false)) r ∧ r.1.length ≤ 20 := by
  obtain ⟨r, a, b⟩ := all_both xs hx m hm 2000 1 [] (by omega) (by omega) ⟨by simp, (fun h => by rw [Nat.sub_self, hx.none] at h; cases h), fun h => absurd rfl h, fun _ h => absurd rfl h⟩
  refine ⟨few r, ?_, ?_, ?_⟩
  · simp only [impl_pageSet_ranges.f]
    refine Ev_bind (a := r) (Ev.congr (fun k => by rw [impl_pageSet_all.f]; rfl) a) ?_
    by_cases h : (r.length : Int) > 20
    · rw [show few r = ([], false) from if_pos h]
      exact Ev_pos h (Ev.now _)
    · rw [show few r = (r, true) from if_neg h]
      exact Ev_neg h (Ev.now _)
  · refine Ev_step (fun k => ?_) b
    have hl := hx.len
    have e : rdOf false (xs ++ List.replicate m false) 0 = false := by rw [show (0 : Int) = ((0 : Nat) : Int) from rfl, rdOf_nat, getD_more _ _ _ (by omega)]; exact hx.none
    have hlm : (xs ++ List.replicate m false).length = 2001 + m := by rw [List.length_append, hl, List.length_replicate]
    rw [spec_ixOf.f, spec_ixOf.l0, if_pos (by omega), if_pos (by omega), if_pos (by omega), e, if_neg (by decide), show wrap64 (0 + 1) = ((1 : Nat) : Int) from by rw [w64 (by omega) (by omega)]; rfl]
  · unfold few
    by_cases h : (r.length : Int) > 20
    · rw [if_pos h]
      exact Nat.zero_le _
    · rw [if_neg h]
      show r.length ≤ 20
      omega
end Go.Proofs.Ytmlhhlmfhkhcnaa.P
