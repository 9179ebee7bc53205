/- What is a desk; the lists are at most 1048576 long. -/
import Derived.Test.YtmlhhlmfhkhcnaaPx4
import Derived.Test.YtmlhhlmfhkhcnaaPx8
import Derived.Test.YtmlhhlmfhkhcnaaPx5
import Derived.Test.YtmlhhlmfhkhcnaaPx1
import Derived.Test.YtmlhhlmfhkhcnaaPx10
import Derived.Test.YtmlhhlmfhkhcnaaPureBind
import Derived.Test.YtmlhhlmfhkhcnaaPureRange
import Derived.Test.YtmlhhlmfhkhcnaaPureIntEq
namespace Go.Proofs.Ytmlhhlmfhkhcnaa.P
open Go.RowKit Go.Proofs.YtmlhhlmfhkhcnaaW.PrintWords Go.Proofs.YtmlhhlmfhkhcnaaW.PrintLast Go.Proofs.YtmlhhlmfhkhcnaaW.PrintMore Go.Proofs.Ytmlhhlmfhkhcnaa.Base
open Go.Proofs.Ytmlhhlmfhkhcnaa.Order
set_option linter.unusedVariables false

theorem allWithin_l0 (l : List Int) (lo hi : Int) (hn : l.length ≤ 1048576) : ∀ n i : Nat, i + n = l.length → Ev (fun k => impl_allWithin.l0 k lo hi l (l.length : Int) (i : Int)) ((l.drop i).all fun x => decide (lo ≤ x ∧ x ≤ hi)) := by
  intro n
  induction n with
  | zero =>
    intro i hi
    refine Ev_step (fun k => ?_) (Ev.now _)
    rw [impl_allWithin.l0, if_neg (by omega), List.drop_of_length_le (by omega)]
    rfl
  | succ n ih =>
    intro i hi
    have h : i < l.length := by omega
    refine Ev_step (fun k => by rw [impl_allWithin.l0, if_pos (by omega), if_pos (by omega), if_pos (by omega), rd_nat, nextI i (by omega)]) ?_
    refine Ev_some (within_eq _ _ _) ?_
    rw [all_drop _ l 0 h]
    unfold inB
    cases decide (lo ≤ l.getD i 0 ∧ l.getD i 0 ≤ _) with
    | true => exact Ev_pos rfl (by rw [Bool.true_and]; exact ih (i + 1) (by omega))
    | false => exact Ev_neg (by decide) (Ev.now _)
theorem allWithin_ev (l : List Int) (lo hi : Int) (hn : l.length ≤ 1048576) : Ev (fun k => impl_allWithin.f k l lo hi) (l.all fun x => decide (lo ≤ x ∧ x ≤ hi)) :=
  Ev.congr (fun k => by rw [impl_allWithin.f]; rfl) (allWithin_l0 l lo hi hn l.length 0 (by omega))
def bothB (a b : Int) : Bool := inB a 1 2000 && inB b 1 16
theorem foBoth_eq (a b : Int) : spec_foBoth.f a b = some (bothB a b) := by
  simp only [spec_foBoth.f, spec_foBook.f, l1In_eq, Option.bind_some, bothB]
  cases inB a 1 2000 <;> rfl
theorem isBound_eq (a b : Int) : impl_isBound.f a b = some (bothB a b) := by
  simp only [impl_isBound.f, impl_isBook.f, within_eq, Option.bind_some, bothB]
  cases inB a 1 2000 <;> rfl
def shelfB (l : List Int) (c : Int) : Bool := inB (l.length : Int) 1 8 && ((l.all fun x => decide (1 ≤ x ∧ x ≤ 100)) && inB c 0 10)
theorem shGood_ev (l : List Int) (c : Int) (hn : l.length ≤ 1048576) : Ev (fun k => spec_shGood.f k l c) (shelfB l c) := by
  simp only [spec_shGood.f]
  refine Ev_some (l1In_eq _ _ _) ?_
  unfold shelfB
  cases inB (l.length : Int) 1 8 with
  | false => exact Ev_neg (by decide) (Ev.now _)
  | true =>
    refine Ev_pos rfl (Ev_bind (l1All_ev l 1 100 hn) ?_)
    cases (l.all fun x => decide (1 ≤ x ∧ x ≤ 100)) with
    | false => exact Ev_neg (by decide) (Ev.now _)
    | true => exact Ev_pos rfl (Ev_some (l1In_eq _ _ _) (Ev.now _))
theorem isShelf_ev (l : List Int) (c : Int) (hn : l.length ≤ 1048576) : Ev (fun k => impl_IsShelf.f k l c) (shelfB l c) := by
  simp only [impl_IsShelf.f]
  refine Ev_some (within_eq _ _ _) ?_
  unfold shelfB
  cases inB (l.length : Int) 1 8 with
  | false => exact Ev_neg (by decide) (Ev.now _)
  | true =>
    refine Ev_pos rfl (Ev_bind (allWithin_ev l 1 100 hn) ?_)
    cases (l.all fun x => decide (1 ≤ x ∧ x ≤ 100)) with
    | false => exact Ev_neg (by decide) (Ev.now _)
    | true => exact Ev_pos rfl (Ev_some (within_eq _ _ _) (Ev.now _))
theorem isDesk_ev (a b : Int) (s : List Int) (c : Int) (x : List S63) (g : List Int) (hs : s.length ≤ 1048576) (hx : x.length ≤ 1048576) (hg : g.length ≤ 1048576) :
    ∃ r : Bool, Ev (fun k => spec_IsDesk.f k a b s c x g) r ∧ Ev (fun k => impl_IsDesk.f k a b s c x g) r := by
  obtain ⟨r, h1, h2, _⟩ := ranges_ev x hx
  refine ⟨bothB a b && (shelfB s c && (r && bindS g)), ?_, ?_⟩
  · simp only [spec_IsDesk.f, spec_coGood.f]
    refine Ev_bind (Ev_some (foBoth_eq a b) ?_) (Ev.now _)
    cases bothB a b with
    | false => exact Ev_neg (by decide) (Ev.now _)
    | true =>
      refine Ev_pos rfl (Ev_bind (shGood_ev s c hs) ?_)
      cases shelfB s c with
      | false => exact Ev_neg (by decide) (Ev.now _)
      | true =>
        refine Ev_pos rfl (Ev_bind h1 ?_)
        cases r with
        | false => exact Ev_neg (by decide) (Ev.now _)
        | true => exact Ev_pos rfl (Ev_bind (biGood_ev g hg) (Ev.now _))
  · simp only [impl_IsDesk.f]
    refine Ev_some (isBound_eq a b) ?_
    cases bothB a b with
    | false => exact Ev_neg (by decide) (Ev.now _)
    | true =>
      refine Ev_pos rfl (Ev_bind (isShelf_ev s c hs) ?_)
      cases shelfB s c with
      | false => exact Ev_neg (by decide) (Ev.now _)
      | true =>
        refine Ev_pos rfl (Ev_bind h2 ?_)
        cases r with
        | false => exact Ev_neg (by decide) (Ev.now _)
        | true => exact Ev_pos rfl (Ev_bind (isBinding_ev g hg) (Ev.now _))
theorem toDesk_ev (a b : Int) (s : List Int) (c : Int) (x : List S67) (g : List Int) (hs : s.length ≤ 1048576) (hx : x.length ≤ 1048576) (hg : g.length ≤ 1048576) :
    Ev (fun k => laws_toDesk.f k a b s c x g) (a, b, s, c, x.map toR, g) := by
  simp only [laws_toDesk.f, laws_toShelf.f]
  exact Ev_bind (Ev_bind (toIntS_ev s hs) (Ev.now _)) (Ev_bind (toRangeS_ev x hx) (Ev_bind (toIntS_ev g hg) (Ev.now _)))
theorem eqDesk_ev (a b : Int) (s : List Int) (c : Int) (x : List S63) (g : List Int) (hs : s.length ≤ 1048576) (hx : x.length ≤ 1048576) (hg : g.length ≤ 1048576) :
    Ev (fun k => laws_eqDesk.f k a b s c x g a b s c x g) true := by
  simp only [laws_eqDesk.f, laws_eqShelf.f, if_true]
  exact Ev_bind (Ev_bind (eqIntS_ev s hs) (Ev_pos rfl (Ev.now _))) (Ev_pos rfl (Ev_bind (eqRangeS_ev x hx) (Ev_pos rfl (Ev_bind (eqIntS_ev g hg) (Ev_pos rfl (Ev.now _))))))
theorem szIntS_eq (l : List Int) (a : Int) (hm : l.length ≤ maxLen) (h0 : 0 ≤ a) (h1 : a ≤ 1048576) : laws_szIntS.f l a = some (if (l.length : Int) ≤ a then a - l.length else -1) := by
  have e : wrap64 (a - (l.length : Int)) = a - (l.length : Int) := by unfold maxLen at hm; unfold wrap64; omega
  rw [laws_szIntS.f, e]
  by_cases h : (l.length : Int) ≤ a
  · rw [if_neg (by omega), if_pos h]
  · rw [if_pos (by omega), if_neg h]
theorem szRangeS_eq (l : List S67) (a : Int) (hm : l.length ≤ maxLen) (h0 : 0 ≤ a) (h1 : a ≤ 1048576) : laws_szRangeS.f l a = some (if (l.length : Int) ≤ a then a - l.length else -1) := by
  have e : wrap64 (a - (l.length : Int)) = a - (l.length : Int) := by unfold maxLen at hm; unfold wrap64; omega
  rw [laws_szRangeS.f, e]
  by_cases h : (l.length : Int) ≤ a
  · rw [if_neg (by omega), if_pos h]
  · rw [if_pos (by omega), if_neg h]
theorem szDesk_eq (a b : Int) (s : List Int) (c : Int) (x : List S67) (g : List Int) (hs : s.length ≤ maxLen) (hx : x.length ≤ maxLen) (hg : g.length ≤ maxLen) :
    ∃ t : Int, laws_szDesk.f a b s c x g 1048576 = some t ∧ (t < 0 ∨ (0 ≤ t ∧ t ≤ 1048576 ∧ s.length ≤ 1048576 ∧ x.length ≤ 1048576 ∧ g.length ≤ 1048576)) := by
  rw [laws_szDesk.f, laws_szShelf.f, szIntS_eq s _ hs (by omega) (by omega)]
  simp only [Option.bind_some]
  by_cases h1 : (s.length : Int) ≤ 1048576
  · rw [if_pos h1, if_neg (by omega)]
    simp only [Option.bind_some]
    rw [if_neg (by omega), szRangeS_eq x _ hx (by omega) (by omega)]
    simp only [Option.bind_some]
    by_cases h2 : (x.length : Int) ≤ 1048576 - s.length
    · rw [if_pos h2, if_neg (by omega), szIntS_eq g _ hg (by omega) (by omega)]
      simp only [Option.bind_some]
      by_cases h3 : (g.length : Int) ≤ 1048576 - s.length - x.length
      · rw [if_pos h3, if_neg (by omega)]
        exact ⟨_, rfl, .inr (by omega)⟩
      · rw [if_neg h3]
        exact ⟨-1, rfl, .inl (by decide)⟩
    · rw [if_neg h2]
      exact ⟨-1, rfl, .inl (by decide)⟩
  · rw [if_neg h1]
    exact ⟨-1, rfl, .inl (by decide)⟩
end Go.Proofs.Ytmlhhlmfhkhcnaa.P
