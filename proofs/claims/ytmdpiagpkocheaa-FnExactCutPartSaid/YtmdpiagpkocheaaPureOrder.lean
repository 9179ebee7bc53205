/- Numbers that are an order, and bindings: two ways to say that each leaf stands once; plain lists. -/
import Derived.Test.YtmdpiagpkocheaaBase
namespace Go.Proofs.Ytmdpiagpkocheaa.Order
set_option linter.unusedVariables false

/-- The leaf of a number, from 0 on. -/
def leaf (x : Int) : Int := (if x < 0 then -x else x) - 1
theorem leaf_eq (x y : Int) : leaf x = leaf y ↔ x = y ∨ x = -y := by
  unfold leaf
  split <;> split <;> omega
/-- None is 0 nor stands before, turned or not. -/
def fresh : List Int → List Int → Bool
  | _, [] => true
  | pre, x :: xs => x != 0 && (!pre.contains x && (!pre.contains (-x) && fresh (pre ++ [x]) xs))
theorem fresh_iff : ∀ (rest pre : List Int), fresh pre rest = true ↔ ((∀ x ∈ rest, x ≠ 0) ∧ (rest.map leaf).Nodup ∧ ∀ x ∈ rest, ∀ y ∈ pre, leaf x ≠ leaf y) := by
  intro rest
  induction rest with
  | nil => intro pre; simp [fresh]
  | cons a rest ih =>
    intro pre
    simp only [fresh, Bool.and_eq_true, bne_iff_ne, ne_eq, Bool.not_eq_true', ih (pre ++ [a])]
    have hc : ∀ z : Int, pre.contains z = false ↔ z ∉ pre := fun z => by
      rw [← Bool.not_eq_true, List.contains_iff_mem]
    rw [hc, hc]
    constructor
    · rintro ⟨h0, h1, h2, h3, h4, h5⟩
      refine ⟨fun x hx => ?_, ?_, fun x hx y hy => ?_⟩
      · rcases List.mem_cons.1 hx with rfl | hx
        · exact h0
        · exact h3 x hx
      · rw [List.map_cons, List.nodup_cons]
        refine ⟨fun hm => ?_, h4⟩
        obtain ⟨x, hx, e⟩ := List.mem_map.1 hm
        exact h5 x hx a (by simp) e
      · rcases List.mem_cons.1 hx with rfl | hx
        · intro e
          rcases (leaf_eq x y).1 e with rfl | e
          · exact h1 hy
          · exact h2 (by rw [e, Int.neg_neg]; exact hy)
        · exact h5 x hx y (List.mem_append_left _ hy)
    · rintro ⟨h1, h2, h3⟩
      rw [List.map_cons, List.nodup_cons] at h2
      refine ⟨h1 a (by simp), fun hm => h3 a (by simp) a hm rfl, fun hm => h3 a (by simp) (-a) hm ((leaf_eq a (-a)).2 (.inr (by omega))), fun x hx => h1 x (List.mem_cons_of_mem _ hx), h2.2, fun x hx y hy => ?_⟩
      rcases List.mem_append.1 hy with hy | hy
      · exact h3 x (List.mem_cons_of_mem _ hx) y hy
      · obtain rfl : y = a := by simpa using hy
        intro e
        exact h2.1 (List.mem_map.2 ⟨x, hx, e⟩)
/-- A list that has each number below n has at least n, and if it has just n, each stands once and no other does. -/
theorem has_all : ∀ (n : Nat) (ls : List Int), (∀ i : Nat, i < n → (i : Int) ∈ ls) → n ≤ ls.length ∧ (ls.length = n → ls.Nodup ∧ ∀ x ∈ ls, 0 ≤ x ∧ x < n) := by
  intro n
  induction n with
  | zero =>
    intro ls _
    refine ⟨Nat.zero_le _, fun h => ?_⟩
    obtain rfl := List.length_eq_zero_iff.1 h
    simp
  | succ n ih =>
    intro ls h
    have hm := h n (by omega)
    have hl := List.length_erase_of_mem hm
    have hp := List.length_pos_of_mem hm
    obtain ⟨h1, h2⟩ := ih (ls.erase (n : Int)) (fun i hi => (List.mem_erase_of_ne (by omega)).2 (h i (by omega)))
    refine ⟨by omega, fun e => ?_⟩
    obtain ⟨h3, h4⟩ := h2 (by omega)
    have perm := List.perm_cons_erase hm
    have nd : ((n : Int) :: ls.erase (n : Int)).Nodup := by
      rw [List.nodup_cons]
      exact ⟨fun hx => by have := (h4 _ hx).2; omega, h3⟩
    refine ⟨perm.nodup_iff.2 nd, fun x hx => ?_⟩
    rcases List.mem_cons.1 (perm.mem_iff.1 hx) with rfl | hx
    · omega
    · have := h4 x hx
      omega
/-- A list of numbers below n, each once, has at most n, and if it has just n, each is there. -/
theorem all_once : ∀ (n : Nat) (ls : List Int), ls.Nodup → (∀ x ∈ ls, 0 ≤ x ∧ x < n) → ls.length ≤ n ∧ (ls.length = n → ∀ i : Nat, i < n → (i : Int) ∈ ls) := by
  intro n
  induction n with
  | zero =>
    intro ls _ h
    cases ls with
    | nil => exact ⟨Nat.le_refl _, fun _ i hi => absurd hi (by omega)⟩
    | cons x xs => have := h x (by simp); omega
  | succ n ih =>
    intro ls nd h
    by_cases hm : (n : Int) ∈ ls
    · have hl := List.length_erase_of_mem hm
      have hp := List.length_pos_of_mem hm
      have perm := List.perm_cons_erase hm
      have nd2 := List.nodup_cons.1 (perm.nodup_iff.1 nd)
      obtain ⟨h1, h2⟩ := ih (ls.erase (n : Int)) nd2.2 (fun x hx => by
        have a := h x (List.mem_of_mem_erase hx)
        have b : x ≠ (n : Int) := fun e => nd2.1 (e ▸ hx)
        omega)
      refine ⟨by omega, fun e i hi => ?_⟩
      by_cases hi' : i = n
      · subst hi'; exact hm
      · exact List.mem_of_mem_erase (h2 (by omega) i (by omega))
    · obtain ⟨h1, h2⟩ := ih ls nd (fun x hx => by
        have a := h x hx
        have b : x ≠ (n : Int) := fun e => hm (e ▸ hx)
        omega)
      exact ⟨by omega, fun e => by omega⟩
/-- Each number below n is there. -/
def hasAll (ls : List Int) : Nat → Nat → Bool
  | 0, _ => true
  | n + 1, i => ls.contains (i : Int) && hasAll ls n (i + 1)
theorem hasAll_iff (ls : List Int) : ∀ n i : Nat, hasAll ls n i = true ↔ ∀ j : Nat, i ≤ j → j < i + n → (j : Int) ∈ ls := by
  intro n
  induction n with
  | zero => intro i; simp [hasAll]; intro j h1 h2; omega
  | succ n ih =>
    intro i
    simp only [hasAll, Bool.and_eq_true, ih (i + 1), List.contains_iff_mem]
    constructor
    · rintro ⟨h1, h2⟩ j h3 h4
      by_cases e : j = i
      · subst e; exact h1
      · exact h2 j (by omega) (by omega)
    · intro h
      exact ⟨h i (by omega) (by omega), fun j h3 h4 => h j (by omega) (by omega)⟩
/-- The reference's test of a binding. -/
def bindS (b : List Int) : Bool := decide (1 ≤ b.length ∧ b.length ≤ 8) && (b.all (fun x => decide (-(b.length : Int) ≤ x ∧ x ≤ b.length)) && fresh [] b)
/-- The program's. -/
def bindP (b : List Int) : Bool := b.all (fun x => decide (-8 ≤ x ∧ x ≤ 8)) && (decide (1 ≤ b.length ∧ b.length ≤ 8) && hasAll (b.map leaf) b.length 0)
theorem bind_eq (b : List Int) : bindP b = bindS b := by
  rw [Bool.eq_iff_iff]
  unfold bindP bindS
  simp only [Bool.and_eq_true, decide_eq_true_eq, List.all_eq_true, fresh_iff, hasAll_iff]
  constructor
  · rintro ⟨h1, h2, h3⟩
    obtain ⟨_, h4⟩ := has_all b.length (b.map leaf) (fun i hi => h3 i (by omega) (by omega))
    obtain ⟨h5, h6⟩ := h4 (by simp)
    refine ⟨h2, fun x hx => ?_, fun x hx => ?_, h5, fun x hx y hy => by cases hy⟩
    · have := h6 (leaf x) (List.mem_map_of_mem hx)
      unfold leaf at this
      split at this <;> omega
    · have := h6 (leaf x) (List.mem_map_of_mem hx)
      unfold leaf at this
      split at this <;> omega
  · rintro ⟨h1, h2, h3, h4, _⟩
    refine ⟨fun x hx => by have := h2 x hx; omega, h1, ?_⟩
    obtain ⟨_, h5⟩ := all_once b.length (b.map leaf) h4 (fun y hy => by
      obtain ⟨x, hx, rfl⟩ := List.mem_map.1 hy
      have a := h2 x hx
      have c := h3 x hx
      unfold leaf
      split <;> omega)
    exact fun j _ hj => h5 (by simp) j (by omega)
end Go.Proofs.Ytmdpiagpkocheaa.Order
