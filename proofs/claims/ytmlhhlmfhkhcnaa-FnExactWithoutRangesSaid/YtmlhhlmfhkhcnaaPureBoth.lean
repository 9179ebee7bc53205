/- Pages of two lists of ranges by an operation: the program and the reference tell the same ranges. -/
import Derived.Test.YtmlhhlmfhkhcnaaPx9
import Derived.Test.YtmlhhlmfhkhcnaaExtCombined
import Derived.Test.YtmlhhlmfhkhcnaaPx2
import Derived.Test.YtmlhhlmfhkhcnaaPureSet
import Derived.Test.YtmlhhlmfhkhcnaaPureRangeSz
namespace Go.Proofs.Ytmlhhlmfhkhcnaa.P
open Go.RowKit Go.Proofs.YtmlhhlmfhkhcnaaW.PrintWords Go.Proofs.YtmlhhlmfhkhcnaaW.PrintLast Go.Proofs.YtmlhhlmfhkhcnaaW.PrintMore Go.Proofs.Ytmlhhlmfhkhcnaa.Base
set_option linter.unusedVariables false

theorem szRangeS_from (l : List S67) (m : Int) (h : (l.length : Int) ≤ m) (hm : m ≤ 1048576) : laws_szRangeS.f l m = some (m - (l.length : Int)) := by
  rw [laws_szRangeS.f, w64 (by omega) (by omega), if_neg (by omega)]
theorem szRangeS_over (l : List S67) (m : Int) (h : ¬ (l.length : Int) ≤ m) (h0 : 0 ≤ m) (hm : m ≤ 1048576) (hl : l.length ≤ maxLen) : laws_szRangeS.f l m = some (-1) := by
  unfold maxLen at hl
  rw [laws_szRangeS.f, if_pos (by unfold wrap64; omega)]
theorem markFrom_l0 : ∀ (n i : Nat) (xs : List S63) (m : Int), i + n = xs.length → xs.length ≤ 1048576 → 0 ≤ m → m ≤ 1000000000 - 2 * n → ∃ l', Ev (fun k => laws_markRangeS.l0 k xs m (i : Int)) (m + 2 * n, l') := by
  intro n
  induction n with
  | zero =>
    intro i xs m hi hn h0 h1
    refine ⟨xs, Ev_step (fun k => ?_) (Ev.now _)⟩
    rw [laws_markRangeS.l0, if_neg (by omega)]
    simp
  | succ n ih =>
    intro i xs m hi hn h0 h1
    have w1 : wrap64 (m + 1) = m + 1 := w64 (by omega) (by omega)
    have w2 : wrap64 (m + 1 + 1) = m + 2 := by rw [w64 (by omega) (by omega)]; omega
    have w4 : wrap64 ((i : Int) + 1) = ((i + 1 : Nat) : Int) := by rw [w64 (by omega) (by omega)]; omega
    obtain ⟨l', h⟩ := ih (i + 1) ((xs.set i ⟨m, (rd_T63 xs (i : Int)).f1⟩).set i ⟨(rd_T63 (xs.set i ⟨m, (rd_T63 xs (i : Int)).f1⟩) (i : Int)).f0, m + 1⟩) (m + 2) (by rw [List.length_set, List.length_set]; omega) (by rw [List.length_set, List.length_set]; omega) (by omega) (by omega)
    refine ⟨l', ?_⟩
    rw [show m + 2 + 2 * (n : Int) = m + 2 * ((n + 1 : Nat) : Int) from by omega] at h
    refine Ev_step (fun k => ?_) h
    rw [laws_markRangeS.l0, if_pos (by omega), if_pos (by omega), w1, w2, w4]
    simp only [Option.bind_some, Int.toNat_natCast]
theorem markFrom_ev (l : List S63) (hn : l.length ≤ 1048576) (m : Int) (h0 : 0 ≤ m) (h1 : m ≤ 4000000) : ∃ l', Ev (fun k => laws_markRangeS.f k l m) (m + 2 * (l.length : Int), l') := by
  obtain ⟨l', h⟩ := markFrom_l0 l.length 0 l m (by omega) hn h0 (by omega)
  exact ⟨l', Ev.congr (fun k => by rw [laws_markRangeS.f]; rfl) h⟩

theorem Set1.putv {xs : List Bool} (h : Set1 xs) (p : Nat) (b : Bool) (hb : p = 0 → b = false) : Set1 (xs.set p b) := by
  rcases Nat.eq_zero_or_pos p with e | e
  · subst e
    refine ⟨by rw [List.length_set]; exact h.len, ?_⟩
    rw [getD_set_self _ _ _ (by rw [h.len]; omega)]
    exact hb rfl
  · exact h.put e b
/-- The reference's round for an operation. -/
def StepOK (kind : Int) (op : Bool → Bool → Bool) : Prop := ∀ (k : Nat) (X Y : List Bool) (p : Nat), X.length = 2002 → Y.length = 2002 → p < 2002 →
  spec_ixBoth.l0 (k + 1) kind X Y 2002 (p : Int) = spec_ixBoth.l0 k kind (X.set p (op (X.getD p false) (Y.getD p false))) Y 2002 ((p + 1 : Nat) : Int)
theorem step_or : StepOK 0 (fun a b => a || b) := by
  intro k X Y p hX hY hp
  rw [spec_ixBoth.l0, if_pos (by omega), if_pos rfl, if_pos (by omega), if_pos (by omega), rdOf_nat, nextI p (by omega), Int.toNat_natCast]
  cases X.getD p false with
  | true => rw [if_pos rfl]; rfl
  | false => rw [if_neg (by decide), if_pos (by omega), rdOf_nat]; rfl
theorem step_and : StepOK 1 (fun a b => a && b) := by
  intro k X Y p hX hY hp
  rw [spec_ixBoth.l0, if_pos (by omega), if_neg (by decide), if_pos rfl, if_pos (by omega), if_pos (by omega), rdOf_nat, nextI p (by omega), Int.toNat_natCast]
  cases X.getD p false with
  | true => rw [if_pos rfl, if_pos (by omega), rdOf_nat]; rfl
  | false => rw [if_neg (by decide)]; rfl
theorem step_not : StepOK 2 (fun a b => a && !b) := by
  intro k X Y p hX hY hp
  rw [spec_ixBoth.l0, if_pos (by omega), if_neg (by decide), if_neg (by decide), if_pos (by omega), if_pos (by omega), rdOf_nat, nextI p (by omega), Int.toNat_natCast]
  cases X.getD p false with
  | true => rw [if_pos rfl, if_pos (by omega), rdOf_nat]; rfl
  | false => rw [if_neg (by decide)]; rfl
theorem more1' (ys : List Bool) (hy : Set1 ys) : (ys ++ [false]).length = 2002 := by rw [List.length_append, hy.len]; rfl
theorem both_l0 (kind : Int) (op : Bool → Bool → Bool) (hs : StepOK kind op) (h0 : op false false = false) (ys : List Bool) (hy : Set1 ys) : ∀ n p : Nat, p + n = 2001 → ∀ xs, Set1 xs →
    ∃ r : List S63 × Bool, Ev (fun k => impl_combined.l0 op k xs ys (p : Int)) r ∧ Ev (fun k => spec_ixBoth.l0 k kind (xs ++ [false]) (ys ++ [false]) 2002 (p : Int)) r ∧ r.1.length ≤ 20 := by
  have hyl := hy.len
  intro n
  induction n with
  | zero =>
    intro p hp xs hx
    obtain rfl : p = 2001 := by omega
    obtain ⟨⟨r1, r2⟩, a, b0, c⟩ := ranges_both xs hx 1 (by omega)
    have b : Ev (fun k => spec_ixOf.f k (xs ++ [false])) (r1, r2) := b0
    refine ⟨(r1, r2), ?_, ?_, c⟩
    · refine Ev_step (fun k => by rw [impl_combined.l0, if_neg (by omega)]) ?_
      exact Ev_bind a (Ev.now _)
    · refine Ev_step (fun k => hs k _ _ 2001 (more1' xs hx) (more1' ys hy) (by omega)) ?_
      have e1 : (xs ++ [false]).getD 2001 false = false := by
        rw [List.getD_eq_getElem?_getD, List.getElem?_append_right (by rw [hx.len]; omega), hx.len]; rfl
      have e2 : (ys ++ [false]).getD 2001 false = false := by
        rw [List.getD_eq_getElem?_getD, List.getElem?_append_right (by rw [hy.len]; omega), hy.len]; rfl
      have e3 : (xs ++ [false]).set 2001 false = xs ++ [false] := by
        rw [List.set_append_right _ _ (by rw [hx.len]; omega), hx.len]; rfl
      rw [e1, e2, h0, e3]
      refine Ev_step (fun k => by rw [spec_ixBoth.l0, if_neg (by omega)]) ?_
      exact Ev_bind b (Ev.now _)
  | succ n ih =>
    intro p hp xs hx
    have hxl := hx.len
    have hv : p = 0 → op (xs.getD p false) (ys.getD p false) = false := by
      intro e
      subst e
      rw [hx.none, hy.none, h0]
    obtain ⟨r, a, b, c⟩ := ih (p + 1) (by omega) (xs.set p (op (xs.getD p false) (ys.getD p false))) (hx.putv p _ hv)
    refine ⟨r, ?_, ?_, c⟩
    · refine Ev_step (fun k => ?_) a
      rw [impl_combined.l0, if_pos (by omega), if_pos (by omega), if_pos (by omega), if_pos (by omega), rdOf_nat, rdOf_nat]
      simp only [Option.bind_some]
      rw [nextI p (by omega), Int.toNat_natCast]
    · refine Ev_step (fun k => hs k _ _ p (more1' xs hx) (more1' ys hy) (by omega)) ?_
      rw [getD_more _ _ _ (by omega), getD_more _ _ _ (by omega), set_more _ _ _ _ (by omega)]
      exact b
theorem both_ev (kind : Int) (op : Bool → Bool → Bool) (hs : StepOK kind op) (h0 : op false false = false) (l m : List S63) (hl : l.length ≤ 1048576) (hm : m.length ≤ 1048576) :
    ∃ r : List S63 × Bool, Ev (fun k => spec_ixBoth.f k l m kind) r ∧ Ev (fun k => impl_combined.f op k l m) r ∧ r.1.length ≤ 1048576 := by
  obtain ⟨g, h1, h2, h3⟩ := goods_ev l hl
  obtain ⟨g', h1', h2', h3'⟩ := goods_ev m hm
  simp only [spec_ixBoth.f, impl_combined.f]
  have no : Ev (fun k => spec_ixBoth.j0 k l m kind true) ([], false) ∧ Ev (fun k => impl_combined.j0 op k l m true) ([], false) := by
    constructor
    · refine Ev_step (fun k => by rw [spec_ixBoth.j0]) ?_
      exact Ev_pos rfl (Ev.now _)
    · refine Ev_step (fun k => by rw [impl_combined.j0]) ?_
      exact Ev_pos rfl (Ev.now _)
  cases g with
  | false => exact ⟨([], false), Ev_bind h1 (Ev_neg (by decide) no.1), Ev_bind h2 (Ev_neg (by decide) no.2), Nat.zero_le _⟩
  | true =>
    cases g' with
    | false => exact ⟨([], false), Ev_bind h1 (Ev_pos rfl (Ev_bind h1' no.1)), Ev_bind h2 (Ev_pos rfl (Ev_bind h2' no.2)), Nat.zero_le _⟩
    | true =>
      obtain ⟨xs, a, b, hx⟩ := marks_ev l hl (h3 rfl)
      obtain ⟨ys, a', b', hy⟩ := marks_ev m hm (h3' rfl)
      obtain ⟨r, c, d, e⟩ := both_l0 kind op hs h0 ys hy 2001 0 (by omega) xs hx
      refine ⟨r, Ev_bind h1 (Ev_pos rfl (Ev_bind h1' ?_)), Ev_bind h2 (Ev_pos rfl (Ev_bind h2' ?_)), by omega⟩
      · refine Ev_step (fun k => by rw [spec_ixBoth.j0]) ?_
        refine Ev_neg (by decide) (Ev_bind b (Ev_bind b' ?_))
        refine Ev.congr (fun k => ?_) d
        rw [more1' xs hx]
        rfl
      · refine Ev_step (fun k => by rw [impl_combined.j0]) ?_
        exact Ev_neg (by decide) (Ev_bind a (Ev_bind a' c))
end Go.Proofs.Ytmlhhlmfhkhcnaa.P
