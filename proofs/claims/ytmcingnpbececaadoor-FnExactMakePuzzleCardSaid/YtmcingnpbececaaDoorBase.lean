/- Small facts on wrapped numbers, lists and rounds; no condition. -/
import Derived.Test.YtmcingnpbececaaDoorWWords
namespace Go.Proofs.YtmcingnpbececaaDoor.Base
open Go.RowKit Go.Proofs.YtmcingnpbececaaDoorW.PrintWords
set_option linter.unusedVariables false

theorem w64 {x : Int} (h1 : -4611686018427387904 ≤ x) (h2 : x ≤ 4611686018427387904) : wrap64 x = x := by
  unfold wrap64
  omega
theorem getD_at {α : Type} (l : List α) (z : α) {i : Nat} (h : i < l.length) : l.getD i z = l[i] := by
  rw [List.getD_eq_getElem?_getD, List.getElem?_eq_getElem h]
  rfl
/-- One place more of a list that is being copied. -/
theorem set_copied {α β : Type} (f : α → β) (xs : List α) (z : β) {i : Nat} (h : i < xs.length) :
    ((xs.take i).map f ++ List.replicate (xs.length - i) z).set i (f xs[i]) = (xs.take (i + 1)).map f ++ List.replicate (xs.length - (i + 1)) z := by
  have hl : ((xs.take i).map f).length = i := by rw [List.length_map, List.length_take]; omega
  have e : xs.length - i = (xs.length - (i + 1)) + 1 := by omega
  have t : (xs.take (i + 1)).map f = (xs.take i).map f ++ [f xs[i]] := by
    rw [List.take_add_one, List.getElem?_eq_getElem h, List.map_append]
    rfl
  rw [List.set_append_right _ _ (by omega), hl, Nat.sub_self, e, List.replicate_succ, List.set_cons_zero, t, List.append_assoc]
  rfl
theorem all_drop {α : Type} (p : α → Bool) (l : List α) (z : α) {i : Nat} (h : i < l.length) : (l.drop i).all p = (p (l.getD i z) && (l.drop (i + 1)).all p) := by
  rw [getD_at l z h, List.drop_eq_getElem_cons h, List.all_cons]
theorem Ev_at {α : Type} {g : Nat → Option α} {r : α} (h : Ev g r) : ∃ K, ∀ k, K ≤ k → g k = some r := h
/-- Two that answer, answer together. -/
theorem Ev_bind {α β : Type} {g : Nat → Option α} {f : Nat → α → Option β} {a : α} {r : β} (h : Ev g a) (k : Ev (fun n => f n a) r) : Ev (fun n => (g n).bind (f n)) r := Ev.bind h k
theorem Ev_some {α β : Type} {x : Option α} {f : Nat → α → Option β} {a : α} {r : β} (h : x = some a) (k : Ev (fun n => f n a) r) : Ev (fun n => x.bind (f n)) r := by
  subst h
  exact k
theorem Ev_pos {α : Type} {c : Prop} [Decidable c] {f g : Nat → Option α} {r : α} (h : c) (k : Ev f r) : Ev (fun n => if c then f n else g n) r := by
  simp only [if_pos h]
  exact k
theorem Ev_neg {α : Type} {c : Prop} [Decidable c] {f g : Nat → Option α} {r : α} (h : ¬ c) (k : Ev g r) : Ev (fun n => if c then f n else g n) r := by
  simp only [if_neg h]
  exact k
theorem getD_set_self {α : Type} (l : List α) (z v : α) {i : Nat} (h : i < l.length) : (l.set i v).getD i z = v := by
  rw [List.getD_eq_getElem?_getD, List.getElem?_set_self h]
  rfl
theorem set_drop {α : Type} (m l : List α) (v : α) {i : Nat} (hm : m.length = i) (h : i < l.length) : (m ++ l.drop i).set i v = (m ++ [v]) ++ l.drop (i + 1) := by
  rw [List.set_append_right _ _ (by omega), hm, Nat.sub_self, List.drop_eq_getElem_cons h, List.set_cons_zero, List.append_assoc]
  rfl
/-- One round, by the function's own equation. -/
theorem Ev_step {α : Type} {g f : Nat → Option α} {r : α} (h : ∀ k, g (k + 1) = f k) (k : Ev f r) : Ev g r := Ev.step h k
theorem Ev_ite_eq {α : Type} {β : Type} {x : Option β} {a b : β} {f : Nat → Option α} {r : α} (h : a = b) (k : Ev f r) : Ev f r := k
def inB (n lo hi : Int) : Bool := decide (lo ≤ n ∧ n ≤ hi)
end Go.Proofs.YtmcingnpbececaaDoor.Base
