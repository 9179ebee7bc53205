/- What is a binding: the program and the reference answer the same; the lists are at most 1048576 long. -/
import Derived.Test.YtmdpiagpkocheaaPx5
import Derived.Test.YtmdpiagpkocheaaPx3
import Derived.Test.YtmdpiagpkocheaaPureRow
import Derived.Test.YtmdpiagpkocheaaPureIn
import Derived.Test.YtmdpiagpkocheaaPureAll
import Derived.Test.YtmdpiagpkocheaaPureOrder
namespace Go.Proofs.Ytmdpiagpkocheaa.P
open Go.RowKit Go.Proofs.YtmdpiagpkocheaaW.PrintWords Go.Proofs.YtmdpiagpkocheaaW.PrintLast Go.Proofs.YtmdpiagpkocheaaW.PrintMore Go.Proofs.Ytmdpiagpkocheaa.Base Go.Proofs.Ytmdpiagpkocheaa.Order
set_option linter.unusedVariables false

theorem index_l0 (l : List Int) (x : Int) (hn : l.length ≤ 1048576) : ∀ n i : Nat, i + n = l.length → ∃ r : Int, Ev (fun k => slices_Index_int_int.l0 k l x (l.length : Int) (i : Int)) r ∧ decide (r ≥ 0) = (l.drop i).contains x := by
  intro n
  induction n with
  | zero =>
    intro i hi
    refine ⟨-1, Ev_step (fun k => ?_) (Ev.now _), ?_⟩
    · rw [slices_Index_int_int.l0, if_neg (by omega)]
    · rw [List.drop_of_length_le (by omega)]
      rfl
  | succ n ih =>
    intro i hi
    have h : i < l.length := by omega
    have hs : ∀ k, slices_Index_int_int.l0 (k + 1) l x (l.length : Int) (i : Int) = if x = l.getD i 0 then some (i : Int) else slices_Index_int_int.l0 k l x (l.length : Int) ((i + 1 : Nat) : Int) := fun k => by
      rw [slices_Index_int_int.l0, if_pos (by omega), if_pos (by omega), if_pos (by omega), rd_nat, nextI i (by omega)]
    rw [has_drop l x h]
    by_cases e : x = l.getD i 0
    · refine ⟨i, Ev_step hs (Ev_pos e (Ev.now _)), ?_⟩
      rw [← e, beq_self_eq_true, Bool.true_or]
      exact decide_eq_true (by omega)
    · obtain ⟨r, h1, h2⟩ := ih (i + 1) (by omega)
      refine ⟨r, Ev_step hs (Ev_neg e h1), ?_⟩
      rw [beq_false_of_ne e, Bool.false_or]
      exact h2
theorem contains_ev (l : List Int) (x : Int) (hn : l.length ≤ 1048576) : Ev (fun k => slices_Contains_int_int.f k l x) (l.contains x) := by
  obtain ⟨r, h1, h2⟩ := index_l0 l x hn l.length 0 (by omega)
  rw [List.drop_zero] at h2
  simp only [slices_Contains_int_int.f]
  refine Ev_bind (Ev.congr (fun k => by rw [slices_Index_int_int.f]; rfl) h1) ?_
  rw [← h2]
  exact Ev.now _
theorem isOrder_l0 (ls : List Int) (hn : ls.length ≤ 1048576) : ∀ n i : Nat, i + n = ls.length → Ev (fun k => impl_isOrder.l0 k ls (ls.length : Int) (ls.length : Int) (i : Int)) (hasAll ls n i) := by
  intro n
  induction n with
  | zero =>
    intro i hi
    refine Ev_step (fun k => ?_) (Ev.now _)
    rw [impl_isOrder.l0, if_neg (by omega), beq_self_eq_true]
    rfl
  | succ n ih =>
    intro i hi
    refine Ev_step (fun k => by rw [impl_isOrder.l0, if_pos (by omega), nextI i (by omega)]) ?_
    refine Ev_bind (contains_ev ls (i : Int) hn) ?_
    rw [hasAll]
    cases ls.contains (i : Int) with
    | true => exact Ev_pos rfl (by rw [Bool.true_and]; exact ih (i + 1) (by omega))
    | false => exact Ev_neg (by decide) (Ev.now _)
theorem isOrder_ev (ls : List Int) (hn : ls.length ≤ 1048576) : Ev (fun k => impl_isOrder.f k ls (ls.length : Int)) (hasAll ls ls.length 0) :=
  Ev.congr (fun k => by rw [impl_isOrder.f]; rfl) (isOrder_l0 ls hn ls.length 0 (by omega))
theorem leafOf_eq (x : Int) (h : -8 ≤ x ∧ x ≤ 8) : impl_leafOf.f x = some (leaf x + 1) := by
  rw [impl_leafOf.f, w64 (x := -x) (by omega) (by omega)]
  unfold mx leaf
  congr 1
  split <;> split <;> omega
theorem take_succ_map (f : Int → Int) (l : List Int) {i : Nat} (h : i < l.length) : (l.take (i + 1)).map f = (l.take i).map f ++ [f (l.getD i 0)] := by
  rw [List.take_add_one, List.getElem?_eq_getElem h, List.map_append, getD_at l 0 h]
  rfl
theorem isBinding_l0 (b : List Int) (hn : b.length ≤ 1048576) : ∀ n i : Nat, i + n = b.length → Ev (fun k => impl_IsBinding.l0 k b ((b.take i).map leaf) b (b.length : Int) (i : Int))
    ((b.drop i).all (fun x => decide (-8 ≤ x ∧ x ≤ 8)) && (decide (1 ≤ b.length ∧ b.length ≤ 8) && hasAll (b.map leaf) b.length 0)) := by
  intro n
  induction n with
  | zero =>
    intro i hi
    refine Ev_step (fun k => by rw [impl_IsBinding.l0, if_neg (by omega)]) ?_
    rw [List.drop_of_length_le (by omega), List.take_of_length_le (by omega), List.all_nil, Bool.true_and]
    refine Ev_some (within_eq _ _ _) ?_
    have e : inB (b.length : Int) 1 8 = decide (1 ≤ b.length ∧ b.length ≤ 8) := by
      unfold inB
      exact decide_eq_decide.2 (by omega)
    rw [e]
    by_cases h : 1 ≤ b.length ∧ b.length ≤ 8
    · rw [decide_eq_true h, Bool.true_and]
      refine Ev_pos rfl ?_
      have := isOrder_ev (b.map leaf) (by rw [List.length_map]; exact hn)
      simp only [List.length_map] at this ⊢
      exact Ev_bind this (Ev.now _)
    · rw [decide_eq_false h, Bool.false_and]
      exact Ev_neg (by decide) (Ev.now _)
  | succ n ih =>
    intro i hi
    have h : i < b.length := by omega
    refine Ev_step (fun k => by rw [impl_IsBinding.l0, if_pos (by omega), if_pos (by omega), if_pos (by omega), rd_nat, nextI i (by omega)]) ?_
    refine Ev_some (within_eq _ _ _) ?_
    rw [all_drop (fun x => decide (-8 ≤ x ∧ x ≤ 8)) b 0 h]
    by_cases e : -8 ≤ b.getD i 0 ∧ b.getD i 0 ≤ 8
    · rw [show inB (b.getD i 0) (-8) 8 = true from decide_eq_true e, decide_eq_true e, Bool.true_and]
      refine Ev_pos rfl (Ev_some (leafOf_eq _ e) (Ev_pos (by rw [List.length_map, List.length_take]; omega) ?_))
      have hl : -1 ≤ leaf (b.getD i 0) ∧ leaf (b.getD i 0) ≤ 7 := by unfold leaf; split <;> omega
      rw [show leaf (b.getD i 0) + 1 - 1 = leaf (b.getD i 0) by omega, w64 (by omega) (by omega), ← take_succ_map leaf b h]
      exact ih (i + 1) (by omega)
    · rw [show inB (b.getD i 0) (-8) 8 = false from decide_eq_false e, decide_eq_false e, Bool.false_and, Bool.false_and]
      exact Ev_neg (by decide) (Ev.now _)
theorem isBinding_ev (b : List Int) (hn : b.length ≤ 1048576) : Ev (fun k => impl_IsBinding.f k b) (bindS b) := by
  rw [← bind_eq]
  exact Ev.congr (fun k => by rw [impl_IsBinding.f]; rfl) (isBinding_l0 b hn b.length 0 (by omega))
theorem take_one (l : List Int) {i : Nat} (h : i < l.length) : l.take (i + 1) = l.take i ++ [l.getD i 0] := by
  rw [List.take_add_one, List.getElem?_eq_getElem h, getD_at l 0 h]
  rfl
theorem biGood_l0 (b : List Int) (hn : b.length ≤ 8) (hb : ∀ x ∈ b, -8 ≤ x ∧ x ≤ 8) : ∀ n i : Nat, i + n = b.length → Ev (fun k => spec_biGood.l0 k b b (b.length : Int) (i : Int)) (fresh (b.take i) (b.drop i)) := by
  intro n
  induction n with
  | zero =>
    intro i hi
    refine Ev_step (fun k => ?_) (Ev.now _)
    rw [spec_biGood.l0, if_neg (by omega), List.drop_of_length_le (by omega)]
    rfl
  | succ n ih =>
    intro i hi
    have h : i < b.length := by omega
    have hx : -8 ≤ b.getD i 0 ∧ b.getD i 0 ≤ 8 := by rw [getD_at b 0 h]; exact hb _ (List.getElem_mem h)
    have ht : (b.take i).length ≤ 1048576 := by rw [List.length_take]; omega
    refine Ev_step (fun k => by rw [spec_biGood.l0, if_pos (by omega), if_pos (by omega), if_pos (by omega), rd_nat, nextI i (by omega), w64 (x := -(b.getD i 0)) (by omega) (by omega), Int.toNat_natCast]) ?_
    have e := ih (i + 1) (by omega)
    rw [take_one b h] at e
    rw [List.drop_eq_getElem_cons h, ← getD_at b 0 h, fresh]
    by_cases h0 : b.getD i 0 = 0
    · rw [show (b.getD i 0 != 0) = false by rw [h0]; rfl, Bool.false_and]
      exact Ev_pos h0 (Ev.now _)
    · rw [show (b.getD i 0 != 0) = true from bne_iff_ne.2 h0, Bool.true_and]
      refine Ev_neg h0 (Ev_pos (by omega) (Ev_bind (l1Has_ev _ _ ht) ?_))
      cases (b.take i).contains (b.getD i 0) with
      | true => exact Ev_pos rfl (Ev.now _)
      | false =>
        refine Ev_neg (by decide) (Ev_bind (l1Has_ev _ _ ht) ?_)
        cases (b.take i).contains (-(b.getD i 0)) with
        | true => exact Ev_pos rfl (Ev.now _)
        | false => exact Ev_neg (by decide) e
theorem biGood_ev (b : List Int) (hn : b.length ≤ 1048576) : Ev (fun k => spec_biGood.f k b) (bindS b) := by
  simp only [spec_biGood.f]
  refine Ev_some (l1In_eq _ _ _) ?_
  have e : inB (b.length : Int) 1 8 = decide (1 ≤ b.length ∧ b.length ≤ 8) := by
    unfold inB
    exact decide_eq_decide.2 (by omega)
  rw [e]
  unfold bindS
  by_cases h : 1 ≤ b.length ∧ b.length ≤ 8
  · rw [decide_eq_true h, Bool.true_and]
    refine Ev_pos rfl ?_
    rw [w64 (x := -(b.length : Int)) (by omega) (by omega)]
    refine Ev_bind (l1All_ev b _ _ hn) (Ev_step (fun k => by rw [spec_biGood.j0]) ?_)
    cases ha : b.all (fun x => decide (-(b.length : Int) ≤ x ∧ x ≤ b.length)) with
    | false => exact Ev_pos rfl (Ev.now _)
    | true =>
      refine Ev_neg (by decide) ?_
      rw [Bool.true_and]
      exact biGood_l0 b h.2 (fun x hx => by have := of_decide_eq_true (List.all_eq_true.1 ha x hx); omega) b.length 0 (by omega)
  · rw [decide_eq_false h, Bool.false_and]
    exact Ev_neg (by decide) (Ev_step (fun k => by rw [spec_biGood.j0]) (Ev_pos rfl (Ev.now _)))
end Go.Proofs.Ytmdpiagpkocheaa.P
