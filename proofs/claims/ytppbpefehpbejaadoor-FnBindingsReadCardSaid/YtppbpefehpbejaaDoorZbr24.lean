/- The rank of a binding: no two of one size have one, and it goes with the order number by number; plain lists. -/
import Derived.Test.YtppbpefehpbejaaDoorZbr23
import Derived.Test.YtppbpefehpbejaaDoorZbr21
import Derived.Laws.CopyOwn
import Derived.Maps.OwnSet
import Derived.Maps.RangeWalk
import Derived.DeepKeys4
import Derived.Test.YtppbpefehpbejaaDoorZbr22
import Derived.Carry
import Derived.IntWalk
import Derived.Deep.RegionLaw
import Derived.Lib.SliceRun
import Derived.Shelf.Lays2
import Derived.Shelf.Spec.SlicesInsert
import Derived.Shelf.Abstract
section
set_option linter.unusedVariables false
namespace Go.Proofs.YtppbpefehpbejaaDoor.Far
open Go.Proofs.YtppbpefehpbejaaDoor.Order

/-- How many of the m numbers from lo on are so. -/
def cnt (p : Int → Bool) (lo : Int) : Nat → Nat
  | 0 => 0
  | m + 1 => cnt p lo m + if p (lo + (m : Int)) = true then 1 else 0
theorem cnt_le (p : Int → Bool) (lo : Int) {a b : Nat} (h : a ≤ b) : cnt p lo a ≤ cnt p lo b := by
  induction b with
  | zero => obtain rfl : a = 0 := by omega
            exact Nat.le_refl _
  | succ b ih =>
    rcases Nat.lt_or_ge b a with h' | h'
    · obtain rfl : a = b + 1 := by omega
      exact Nat.le_refl _
    · exact Nat.le_trans (ih h') (Nat.le_add_right _ _)
theorem cnt_lt (p : Int → Bool) (lo : Int) {a b : Nat} (h : a < b) (hp : p (lo + (a : Int)) = true) : cnt p lo a < cnt p lo b := by
  have := cnt_le p lo (a := a + 1) (b := b) h
  rw [cnt, if_pos hp] at this
  omega
theorem cnt_congr {p q : Int → Bool} (lo : Int) (m : Nat) (h : ∀ x, p x = q x) : cnt p lo m = cnt q lo m := by
  have : p = q := funext h
  rw [this]
/-- One number less. -/
theorem cnt_but (p : Int → Bool) (lo : Int) (c : Nat) (m : Nat) (hp : p (lo + (c : Int)) = true) : cnt (fun x => p x && x != lo + (c : Int)) lo m + (if c < m then 1 else 0) = cnt p lo m := by
  induction m with
  | zero => rfl
  | succ m ih =>
    rw [cnt, cnt]
    show cnt (fun x => p x && x != lo + (c : Int)) lo m + (if (p (lo + (m : Int)) && lo + (m : Int) != lo + (c : Int)) = true then 1 else 0) + _ = _
    by_cases e : m = c
    · subst e
      rw [if_neg (by omega)] at ih
      rw [if_pos hp, if_neg (by simp), if_pos (by omega)]
      omega
    · have hb : (lo + (m : Int) != lo + (c : Int)) = true := bne_iff_ne.2 (by omega)
      rw [hb, Bool.and_true]
      by_cases h2 : c < m
      · rw [if_pos h2] at ih
        rw [if_pos (show c < m + 1 by omega)]
        omega
      · rw [if_neg h2] at ih
        rw [if_neg (show ¬ c < m + 1 by omega)]
        omega
theorem cnt_true (lo : Int) (m : Nat) : cnt (fun _ => true) lo m = m := by
  induction m with
  | zero => rfl
  | succ m ih => rw [cnt, ih, if_pos rfl]
/-- Can a number come next? -/
def free (pre : List Int) (x : Int) : Bool := x != 0 && (!pre.contains x && !pre.contains (-x))
theorem free_iff (pre : List Int) (x : Int) : free pre x = true ↔ x ≠ 0 ∧ x ∉ pre ∧ -x ∉ pre := by
  unfold free
  simp
/-- How many can come next before x. -/
def digit (n : Nat) (pre : List Int) (x : Int) : Nat := cnt (free pre) (-(n : Int)) (x + n).toNat
theorem free_cons (pre : List Int) (a x : Int) : free (a :: pre) x = ((free pre x && x != a) && x != -a) := by
  rw [Bool.eq_iff_iff]
  simp only [Bool.and_eq_true, free_iff, bne_iff_ne, List.mem_cons, not_or]
  constructor
  · rintro ⟨h0, ⟨h1, h2⟩, h3, h4⟩
    exact ⟨⟨⟨h0, h2, h4⟩, h1⟩, fun e => h3 (by omega)⟩
  · rintro ⟨⟨⟨h0, h1, h3⟩, h2⟩, h4⟩
    exact ⟨h0, ⟨h2, h1⟩, fun e => h4 (by omega), h3⟩
/-- All that can come next. -/
theorem free_all {n : Nat} : ∀ (pre : List Int), (∀ x ∈ pre, x ≠ 0 ∧ -(n : Int) ≤ x ∧ x ≤ n) → (pre.map leaf).Nodup → cnt (free pre) (-(n : Int)) (2 * n + 1) + 2 * pre.length = 2 * n := by
  intro pre
  induction pre with
  | nil =>
    intro _ _
    have e : ∀ x, free [] x = ((fun _ : Int => true) x && x != -(n : Int) + ((n : Nat) : Int)) := fun x => by
      unfold free
      rw [show -(n : Int) + (n : Int) = 0 by omega]
      simp
    have := cnt_but (fun _ => true) (-(n : Int)) n (2 * n + 1) rfl
    rw [cnt_congr _ _ e]
    rw [cnt_true, if_pos (by omega)] at this
    simp only [List.length_nil]
    omega
  | cons a pre ih =>
    intro hb hn
    rw [List.map_cons, List.nodup_cons] at hn
    obtain ⟨hn2, hn1⟩ := hn
    have ha := hb a (by simp)
    have hi := ih (fun x hx => hb x (by simp [hx])) hn1
    have hna : ∀ y ∈ pre, y ≠ a ∧ y ≠ -a := fun y hy => by
      have h := mt (leaf_eq y a).2 (fun e => hn2 (e ▸ List.mem_map_of_mem hy))
      exact ⟨fun e => h (.inl e), fun e => h (.inr e)⟩
    have fa : free pre a = true := (free_iff _ _).2 ⟨ha.1, fun h => (hna _ h).1 rfl, fun h => (hna _ h).2 rfl⟩
    have fna : free pre (-a) = true := (free_iff _ _).2 ⟨by omega, fun h => (hna _ h).2 rfl, fun h => (hna _ h).1 (by omega)⟩
    have c1 := cnt_but (free pre) (-(n : Int)) (a + n).toNat (2 * n + 1) (by rw [show -(n : Int) + (((a + n).toNat : Nat) : Int) = a by omega]; exact fa)
    rw [show -(n : Int) + (((a + n).toNat : Nat) : Int) = a by omega, if_pos (by omega)] at c1
    have c2 := cnt_but (fun x => free pre x && x != a) (-(n : Int)) (-a + n).toNat (2 * n + 1) (by
      rw [show -(n : Int) + (((-a + n).toNat : Nat) : Int) = -a by omega, fna]
      simp
      omega)
    rw [show -(n : Int) + (((-a + n).toNat : Nat) : Int) = -a by omega, if_pos (by omega)] at c2
    rw [cnt_congr _ _ (free_cons pre a)]
    simp only [List.length_cons]
    omega
/-- How many bindings of so many leaves there are. -/
def allOf : Nat → Nat
  | 0 => 1
  | m + 1 => allOf m * (2 * (m + 1))
theorem allOf_pos : ∀ m, 1 ≤ allOf m
  | 0 => Nat.le_refl _
  | m + 1 => by rw [allOf]; exact Nat.mul_pos (allOf_pos m) (by omega)
/-- The rank, digit by digit. -/
def rk (n : Nat) : List Int → List Int → Nat → Nat
  | _, [], acc => acc
  | pre, x :: xs, acc => rk n (pre ++ [x]) xs (acc * (2 * (xs.length + 1)) + digit n pre x)
def rank (b : List Int) : Nat := rk b.length [] b 0
theorem rk_acc (n : Nat) : ∀ (rest pre : List Int) (acc : Nat), rk n pre rest acc = acc * allOf rest.length + rk n pre rest 0 := by
  intro rest
  induction rest with
  | nil => intro pre acc; simp [rk, allOf]
  | cons x xs ih =>
    intro pre acc
    rw [rk, ih, rk, ih (pre ++ [x]) (0 * _ + _), List.length_cons, allOf, Nat.zero_mul, Nat.zero_add, Nat.add_mul, Nat.add_assoc, Nat.mul_assoc, Nat.mul_comm (allOf _)]
/-- What may stand: a whole binding, cut in two. -/
def Cut (n : Nat) (pre rest : List Int) : Prop := Bd n (pre ++ rest)
theorem Cut.next {n : Nat} {pre xs : List Int} {x : Int} (h : Cut n pre (x :: xs)) : Cut n (pre ++ [x]) xs := by
  unfold Cut at *
  rw [List.append_assoc]
  exact h
theorem Cut.head {n : Nat} {pre xs : List Int} {x : Int} (h : Cut n pre (x :: xs)) : free pre x = true ∧ -(n : Int) ≤ x ∧ x ≤ n ∧ cnt (free pre) (-(n : Int)) (2 * n + 1) = 2 * (xs.length + 1) := by
  obtain ⟨h1, h2, h3⟩ := h
  rw [List.map_append, List.nodup_append] at h3
  obtain ⟨h4, h5, h6⟩ := h3
  have hx := h2 x (by simp)
  have hna : ∀ y ∈ pre, y ≠ x ∧ y ≠ -x := fun y hy => by
    have := h6 (leaf y) (List.mem_map_of_mem hy) (leaf x) (by simp)
    have h := mt (leaf_eq y x).2 this
    exact ⟨fun e => h (.inl e), fun e => h (.inr e)⟩
  have hc := free_all pre (fun y hy => h2 y (by simp [hy])) h4
  refine ⟨(free_iff _ _).2 ⟨hx.1, fun h => (hna _ h).1 rfl, fun h => (hna _ h).2 rfl⟩, hx.2.1, hx.2.2, ?_⟩
  rw [List.length_append, List.length_cons] at h1
  omega
theorem digit_lt {n : Nat} {pre xs : List Int} {x : Int} (h : Cut n pre (x :: xs)) : digit n pre x < 2 * (xs.length + 1) := by
  obtain ⟨h1, h2, h3, h4⟩ := h.head
  rw [← h4]
  exact cnt_lt _ _ (by omega) (by rw [show -(n : Int) + (((x + n).toNat : Nat) : Int) = x by omega]; exact h1)
theorem rk_lt {n : Nat} : ∀ (rest pre : List Int), Cut n pre rest → rk n pre rest 0 < allOf rest.length := by
  intro rest
  induction rest with
  | nil => intro pre _; exact Nat.zero_lt_one
  | cons x xs ih =>
    intro pre h
    have hd := digit_lt h
    have := ih (pre ++ [x]) h.next
    rw [rk, rk_acc, Nat.zero_mul, Nat.zero_add, List.length_cons, allOf]
    have h2 : (digit n pre x + 1) * allOf xs.length ≤ 2 * (xs.length + 1) * allOf xs.length := Nat.mul_le_mul_right _ hd
    rw [Nat.add_mul, Nat.one_mul] at h2
    rw [Nat.mul_comm (allOf xs.length)]
    omega
theorem rank_lt {n : Nat} {b : List Int} (h : Bd n b) : rank b < allOf n := by
  have := rk_lt b [] (n := n) h
  unfold rank
  rwa [h.1] at this ⊢
/-- Before, number by number. -/
def lexlt : List Int → List Int → Bool
  | [], [] => false
  | [], _ :: _ => true
  | _ :: _, [] => false
  | a :: r, b :: s => decide (a < b) || (a == b && lexlt r s)
theorem digit_mono {n : Nat} {pre xs ys : List Int} {x y : Int} (hx : Cut n pre (x :: xs)) (hy : Cut n pre (y :: ys)) (h : x < y) : digit n pre x < digit n pre y := by
  obtain ⟨h1, h2, h3, h4⟩ := hx.head
  exact cnt_lt _ _ (by omega) (by rw [show -(n : Int) + (((x + n).toNat : Nat) : Int) = x by omega]; exact h1)
theorem rk_lex {n : Nat} : ∀ (rest rest' pre : List Int), Cut n pre rest → Cut n pre rest' → lexlt rest rest' = true → rk n pre rest 0 < rk n pre rest' 0 := by
  intro rest
  induction rest with
  | nil =>
    intro rest' pre h h' hl
    cases rest' with
    | nil => cases hl
    | cons y ys =>
      have := h.1
      have := h'.1
      rw [List.length_append] at *
      simp at *
      omega
  | cons x xs ih =>
    intro rest' pre h h' hl
    cases rest' with
    | nil => cases hl
    | cons y ys =>
      have hlen : xs.length = ys.length := by
        have a := h.1
        have b := h'.1
        simp only [List.length_append, List.length_cons] at a b
        omega
      rw [lexlt, Bool.or_eq_true, decide_eq_true_eq, Bool.and_eq_true, beq_iff_eq] at hl
      rw [rk, rk, rk_acc, rk_acc n ys, Nat.zero_mul, Nat.zero_add, Nat.zero_mul, Nat.zero_add]
      rcases hl with hl | ⟨rfl, hl⟩
      · have h1 := digit_mono h h' hl
        have h2 := rk_lt xs _ h.next
        have h3 : (digit n pre x + 1) * allOf xs.length ≤ digit n pre y * allOf xs.length := Nat.mul_le_mul_right _ h1
        rw [Nat.add_mul, Nat.one_mul] at h3
        rw [← hlen]
        omega
      · have := ih ys _ h.next h'.next hl
        rw [← hlen]
        omega
theorem lex_total : ∀ (a b : List Int), a.length = b.length → lexlt a b = true ∨ a = b ∨ lexlt b a = true := by
  intro a
  induction a with
  | nil => intro b h; cases b with
    | nil => exact .inr (.inl rfl)
    | cons _ _ => cases h
  | cons x xs ih =>
    intro b h
    cases b with
    | nil => cases h
    | cons y ys =>
      simp only [lexlt, Bool.or_eq_true, decide_eq_true_eq, Bool.and_eq_true, beq_iff_eq]
      rcases Int.lt_trichotomy x y with h1 | rfl | h1
      · exact .inl (.inl h1)
      · rcases ih ys (by simpa using h) with h2 | rfl | h2
        · exact .inl (.inr ⟨rfl, h2⟩)
        · exact .inr (.inl rfl)
        · exact .inr (.inr (.inr ⟨rfl, h2⟩))
      · exact .inr (.inr (.inl h1))
theorem rank_lex {n : Nat} {b c : List Int} (hb : Bd n b) (hc : Bd n c) (h : lexlt b c = true) : rank b < rank c := by
  have := rk_lex b c [] (n := n) hb hc h
  unfold rank
  rwa [hb.1, hc.1]
theorem rank_inj {n : Nat} {b c : List Int} (hb : Bd n b) (hc : Bd n c) (h : rank b = rank c) : b = c := by
  rcases lex_total b c (by rw [hb.1, hc.1]) with h1 | h1 | h1
  · have := rank_lex hb hc h1
    omega
  · exact h1
  · have := rank_lex hc hb h1
    omega
end Go.Proofs.YtppbpefehpbejaaDoor.Far
end

section
set_option linter.unusedVariables false
namespace Go.Proofs.YtppbpefehpbejaaDoor.Far
open Go.Proofs.YtppbpefehpbejaaDoor.Order

/-- The parts, in order. -/
def pairs (n : Nat) : List (Nat × Nat) := (List.range n).flatMap fun f => (List.range' f (n - f)).map fun t => (f, t)
theorem mem_pairs {n : Nat} {p : Nat × Nat} : p ∈ pairs n ↔ p.1 ≤ p.2 ∧ p.2 < n := by
  unfold pairs
  simp only [List.mem_flatMap, List.mem_range, List.mem_map, List.mem_range'_1]
  constructor
  · rintro ⟨f, h1, t, h2, rfl⟩
    exact ⟨h2.1, by show t < n; omega⟩
  · intro ⟨h1, h2⟩
    exact ⟨p.1, by omega, p.2, ⟨h1, by omega⟩, rfl⟩
abbrev Out := List (List Int × Int)
theorem lookup_in {o : Out} (nd : (o.map (·.1)).Nodup) {e : List Int × Int} (h : e ∈ o) : o.lookup e.1 = some e.2 := by
  induction o with
  | nil => cases h
  | cons a o ih =>
    rw [List.map_cons, List.nodup_cons] at nd
    rw [List.lookup_cons]
    rcases List.mem_cons.1 h with rfl | h
    · rw [beq_self_eq_true]
    · have : (e.1 == a.1) = false := beq_eq_false_iff_ne.2 (fun e1 => nd.1 (e1 ▸ List.mem_map_of_mem h))
      rw [this]
      exact ih nd.2 h
theorem lookup_mem {o : Out} {b : List Int} {v : Int} (h : o.lookup b = some v) : (b, v) ∈ o := by
  induction o with
  | nil => cases h
  | cons a o ih =>
    rw [List.lookup_cons] at h
    cases e : b == a.1 with
    | true =>
      rw [e] at h
      obtain rfl := Option.some.inj h
      rw [beq_iff_eq] at e
      rw [e]
      exact List.mem_cons_self
    | false =>
      rw [e] at h
      exact List.mem_cons_of_mem _ (ih h)
theorem lookup_none {o : Out} {b : List Int} (h : o.lookup b = none) : ∀ e ∈ o, e.1 ≠ b := by
  intro e he heq
  induction o with
  | nil => cases he
  | cons a o ih =>
    rw [List.lookup_cons] at h
    cases e' : b == a.1 with
    | true => rw [e'] at h; cases h
    | false =>
      rw [e'] at h
      rcases List.mem_cons.1 he with rfl | he
      · rw [heq, beq_self_eq_true] at e'
        cases e'
      · exact ih h he
theorem lookup_snoc (o : Out) (b c : List Int) (v : Int) : (o ++ [(c, v)]).lookup b = (o.lookup b).or (if b == c then some v else none) := by
  rw [List.lookup_append]
  congr 1
  rw [List.lookup_cons]
  cases b == c <;> rfl
/-- A turn of one that is known: put behind, if it is new. -/
def put (q : List Int) (d : Int) (o : Out) (p : Nat × Nat) : Out := if (o.lookup (turn q p.1 p.2)).isSome = true then o else o ++ [(turn q p.1 p.2, d + 1)]
def expand (n : Nat) (e : List Int × Int) (o : Out) : Out := (pairs n).foldl (put e.1 e.2) o
def bfs (n : Nat) : Nat → Nat → Out → Option Out
  | 0, _, _ => none
  | k + 1, i, o => match o[i]? with
    | none => some o
    | some e => bfs n k (i + 1) (expand n e o)
/-- What holds while the i-th is being turned, dn of its turns being done. -/
structure G (n : Nat) (o : Out) (i : Nat) (dn : List (Nat × Nat)) : Prop where
  nd : (o.map (·.1)).Nodup
  bd : ∀ e ∈ o, Bd n e.1
  ne : o[0]? = some (right n, 0)
  srt : o.Pairwise (fun a b => a.2 ≤ b.2)
  nn : ∀ e ∈ o, 0 ≤ e.2
  cl : ∀ j e, j < i → o[j]? = some e → ∀ p : Nat × Nat, p.1 ≤ p.2 → p.2 < n → ∃ v, o.lookup (turn e.1 p.1 p.2) = some v ∧ v ≤ e.2 + 1
  cur : ∀ e, o[i]? = some e → (∀ x ∈ o, x.2 ≤ e.2 + 1) ∧ ∀ p ∈ dn, ∃ v, o.lookup (turn e.1 p.1 p.2) = some v ∧ v ≤ e.2 + 1
  par : ∀ e ∈ o, (e.1 = right n ∧ e.2 = 0) ∨ (0 < e.2 ∧ ∃ p : Nat × Nat, p.1 ≤ p.2 ∧ p.2 < n ∧ o.lookup (turn e.1 p.1 p.2) = some (e.2 - 1))
theorem G.start (n : Nat) : G n [(right n, 0)] 0 [] where
  nd := by simp
  bd := fun e he => by rw [List.mem_singleton.1 he]; exact right_bd n
  ne := rfl
  srt := List.pairwise_singleton _ _
  nn := fun e he => by rw [List.mem_singleton.1 he]; exact Int.le_refl _
  cl := fun j e h => absurd h (Nat.not_lt_zero _)
  cur := fun e he => by
    obtain rfl := Option.some.inj he
    exact ⟨fun x hx => by rw [List.mem_singleton.1 hx]; show (0 : Int) ≤ 0 + 1; decide, fun p hp => by cases hp⟩
  par := fun e he => by rw [List.mem_singleton.1 he]; exact .inl ⟨rfl, rfl⟩
theorem lookup_keep {o : Out} {b c : List Int} {v u : Int} (h : o.lookup b = some v) : (o ++ [(c, u)]).lookup b = some v := by
  rw [lookup_snoc, h]
  rfl
theorem G.put {n : Nat} {o : Out} {i : Nat} {dn : List (Nat × Nat)} {e : List Int × Int} {p : Nat × Nat} (g : G n o i dn) (he : o[i]? = some e) (h1 : p.1 ≤ p.2) (h2 : p.2 < n) :
    G n (put e.1 e.2 o p) i (dn ++ [p]) := by
  have hm : e ∈ o := List.mem_of_getElem? he
  obtain ⟨c1, c2⟩ := g.cur e he
  unfold Far.put
  cases hl : o.lookup (turn e.1 p.1 p.2) with
  | some v =>
    rw [if_pos (show (some v).isSome = true from rfl)]
    refine { g with cur := fun e' he' => ?_ }
    obtain rfl := Option.some.inj (he.symm.trans he')
    refine ⟨c1, fun q hq => ?_⟩
    rcases List.mem_append.1 hq with hq | hq
    · exact c2 q hq
    · rw [List.mem_singleton.1 hq]
      exact ⟨v, hl, c1 _ (lookup_mem hl)⟩
  | none =>
    rw [if_neg (by simp)]
    have hlt : i < o.length := by
      rcases Nat.lt_or_ge i o.length with h | h
      · exact h
      · rw [List.getElem?_eq_none h] at he; cases he
    have hb := g.bd e hm
    have hd := g.nn e hm
    have hnew : (o ++ [(turn e.1 p.1 p.2, e.2 + 1)]).lookup (turn e.1 p.1 p.2) = some (e.2 + 1) := by
      rw [lookup_snoc, hl, beq_self_eq_true]
      rfl
    have hat : ∀ j, j ≤ i → (o ++ [(turn e.1 p.1 p.2, e.2 + 1)])[j]? = o[j]? := fun j hj => List.getElem?_append_left (by omega)
    refine ⟨?_, ?_, ?_, ?_, ?_, ?_, ?_, ?_⟩
    · rw [List.map_append, List.nodup_append]
      refine ⟨g.nd, by simp, fun a ha b hb e' => ?_⟩
      obtain ⟨x, hx, rfl⟩ := List.mem_map.1 ha
      rw [List.map_singleton, List.mem_singleton] at hb
      exact lookup_none hl x hx (e'.trans hb)
    · intro x hx
      rcases List.mem_append.1 hx with hx | hx
      · exact g.bd x hx
      · rw [List.mem_singleton.1 hx]
        exact turn_bd hb h1 h2
    · rw [hat 0 (Nat.zero_le _)]
      exact g.ne
    · rw [List.pairwise_append]
      refine ⟨g.srt, List.pairwise_singleton _ _, fun a ha b hb => ?_⟩
      rw [List.mem_singleton.1 hb]
      exact c1 a ha
    · intro x hx
      rcases List.mem_append.1 hx with hx | hx
      · exact g.nn x hx
      · rw [List.mem_singleton.1 hx]
        show 0 ≤ e.2 + 1
        omega
    · intro j x hj hx q hq1 hq2
      rw [hat j (by omega)] at hx
      obtain ⟨v, hv, hle⟩ := g.cl j x hj hx q hq1 hq2
      exact ⟨v, lookup_keep hv, hle⟩
    · intro e' he'
      rw [hat i (Nat.le_refl _)] at he'
      obtain rfl := Option.some.inj (he.symm.trans he')
      refine ⟨fun x hx => ?_, fun q hq => ?_⟩
      · rcases List.mem_append.1 hx with hx | hx
        · exact c1 x hx
        · rw [List.mem_singleton.1 hx]
          exact Int.le_refl _
      · rcases List.mem_append.1 hq with hq | hq
        · obtain ⟨v, hv, hle⟩ := c2 q hq
          exact ⟨v, lookup_keep hv, hle⟩
        · rw [List.mem_singleton.1 hq]
          exact ⟨_, hnew, Int.le_refl _⟩
    · intro x hx
      rcases List.mem_append.1 hx with hx | hx
      · rcases g.par x hx with h | ⟨h, q, hq1, hq2, hq3⟩
        · exact .inl h
        · exact .inr ⟨h, q, hq1, hq2, lookup_keep hq3⟩
      · rw [List.mem_singleton.1 hx]
        refine .inr ⟨by show 0 < e.2 + 1; omega, p, h1, h2, ?_⟩
        show (o ++ _).lookup (turn (turn e.1 p.1 p.2) p.1 p.2) = some (e.2 + 1 - 1)
        rw [turn_turn h1 (by rw [hb.1]; exact h2), Int.add_sub_cancel]
        exact lookup_keep (lookup_in g.nd hm)
theorem put_more (q : List Int) (d : Int) (o : Out) (p : Nat × Nat) : ∃ s, put q d o p = o ++ s := by
  unfold put
  split
  · exact ⟨[], (List.append_nil _).symm⟩
  · exact ⟨_, rfl⟩
theorem G.puts {n : Nat} {i : Nat} {e : List Int × Int} : ∀ (ps : List (Nat × Nat)) (o : Out) (dn : List (Nat × Nat)), (∀ p ∈ ps, p.1 ≤ p.2 ∧ p.2 < n) → G n o i dn → o[i]? = some e → G n (ps.foldl (Far.put e.1 e.2) o) i (dn ++ ps) ∧ ∃ s, ps.foldl (Far.put e.1 e.2) o = o ++ s := by
  intro ps
  induction ps with
  | nil => intro o dn _ g he; exact ⟨by rw [List.append_nil]; exact g, [], (List.append_nil _).symm⟩
  | cons p ps ih =>
    intro o dn hp g he
    have h := hp p (by simp)
    obtain ⟨s, hs⟩ := put_more e.1 e.2 o p
    have he' : (Far.put e.1 e.2 o p)[i]? = some e := by
      rw [hs, List.getElem?_append_left]
      · exact he
      · rcases Nat.lt_or_ge i o.length with h | h
        · exact h
        · rw [List.getElem?_eq_none h] at he; cases he
    obtain ⟨g', s', hs'⟩ := ih (Far.put e.1 e.2 o p) (dn ++ [p]) (fun q hq => hp q (by simp [hq])) (g.put he h.1 h.2) he'
    refine ⟨by rw [List.append_assoc] at g'; exact g', s ++ s', ?_⟩
    rw [List.foldl_cons, hs', hs, List.append_assoc]
theorem G.expand {n : Nat} {i : Nat} {e : List Int × Int} {o : Out} (g : G n o i []) (he : o[i]? = some e) : G n (expand n e o) (i + 1) [] ∧ ∃ s, expand n e o = o ++ s := by
  obtain ⟨g', s, hs⟩ := G.puts (pairs n) o [] (fun p hp => mem_pairs.1 hp) g he
  refine ⟨?_, s, hs⟩
  have hlt : i < o.length := by
    rcases Nat.lt_or_ge i o.length with h | h
    · exact h
    · rw [List.getElem?_eq_none h] at he; cases he
  have he' : (Far.expand n e o)[i]? = some e := by
    show ((pairs n).foldl _ _)[i]? = _
    rw [hs, List.getElem?_append_left hlt]
    exact he
  obtain ⟨c1, c2⟩ := g'.cur e he'
  refine { g' with cl := fun j x hj hx p h1 h2 => ?_, cur := fun x hx => ⟨fun y hy => ?_, fun p hp => by cases hp⟩ }
  · rcases Nat.lt_or_ge j i with h | h
    · exact g'.cl j x h hx p h1 h2
    · obtain rfl : j = i := by omega
      obtain rfl := Option.some.inj (he'.symm.trans hx)
      exact c2 p (by rw [List.nil_append]; exact mem_pairs.2 ⟨h1, h2⟩)
  · have a := c1 y hy
    have hl2 : i + 1 < (Far.expand n e o).length := by
      rcases Nat.lt_or_ge (i + 1) (Far.expand n e o).length with h | h
      · exact h
      · rw [List.getElem?_eq_none h] at hx; cases hx
    have b : e.2 ≤ x.2 := by
      have := List.pairwise_iff_getElem.1 g'.srt i (i + 1) (Nat.lt_of_succ_lt hl2) hl2 (by omega)
      have e1 := List.getElem?_eq_getElem (Nat.lt_of_succ_lt hl2)
      have e2 := List.getElem?_eq_getElem hl2
      rw [← Option.some.inj (e1.symm.trans he'), ← Option.some.inj (e2.symm.trans hx)]
      exact this
    omega
theorem G.few {n : Nat} {i : Nat} {o : Out} {dn : List (Nat × Nat)} (g : G n o i dn) : o.length ≤ allOf n := by
  have := all_once (allOf n) (o.map fun e => ((rank e.1 : Nat) : Int)) ?_ ?_
  · rw [List.length_map] at this
    exact this.1
  · have nd := g.nd
    have bd := g.bd
    clear g
    induction o with
    | nil => exact List.nodup_nil
    | cons a o ih =>
      rw [List.map_cons, List.nodup_cons] at nd ⊢
      refine ⟨fun h => ?_, ih nd.2 (fun e he => bd e (by simp [he]))⟩
      obtain ⟨x, hx, e⟩ := List.mem_map.1 h
      have := rank_inj (bd x (by simp [hx])) (bd a (by simp)) (by omega)
      exact nd.1 (this ▸ List.mem_map_of_mem hx)
  · intro x hx
    obtain ⟨e, he, rfl⟩ := List.mem_map.1 hx
    have := rank_lt (g.bd e he)
    omega
/-- The whole: each binding with its least number of turns. -/
structure Done (n : Nat) (o : Out) : Prop where
  nd : (o.map (·.1)).Nodup
  bd : ∀ e ∈ o, Bd n e.1
  nn : ∀ e ∈ o, 0 ≤ e.2
  all : ∀ b, Bd n b → ∃ v, o.lookup b = some v ∧ 0 ≤ v
  near : ∀ b v f t u, o.lookup b = some v → f ≤ t → t < n → o.lookup (turn b f t) = some u → u ≤ v + 1
  par : ∀ b v, o.lookup b = some v → (b = right n ∧ v = 0) ∨ (0 < v ∧ ∃ f t, f ≤ t ∧ t < n ∧ o.lookup (turn b f t) = some (v - 1))
  zero : o.lookup (right n) = some 0
theorem G.done {n : Nat} {o : Out} (g : G n o o.length []) : Done n o := by
  have hz : o.lookup (right n) = some 0 := lookup_in g.nd (List.mem_of_getElem? g.ne)
  have cl : ∀ b v f t, o.lookup b = some v → f ≤ t → t < n → ∃ u, o.lookup (turn b f t) = some u ∧ u ≤ v + 1 := by
    intro b v f t hb hf ht
    obtain ⟨j, hj, e⟩ := List.mem_iff_getElem.1 (lookup_mem hb)
    obtain ⟨u, hu, hle⟩ := g.cl j (b, v) hj (by rw [List.getElem?_eq_getElem hj, e]) (f, t) hf ht
    exact ⟨u, hu, hle⟩
  refine ⟨g.nd, g.bd, g.nn, ?_, ?_, ?_, hz⟩
  · intro b hb
    have := all_in (n := n) (fun b => ∃ v, o.lookup b = some v ∧ 0 ≤ v) ⟨0, hz, Int.le_refl _⟩ (fun b f t ⟨v, hv, _⟩ _ hf ht => by
      obtain ⟨u, hu, _⟩ := cl b v f t hv hf ht
      exact ⟨u, hu, g.nn _ (lookup_mem hu)⟩) b hb
    exact this
  · intro b v f t u hb hf ht hu
    obtain ⟨u', hu', hle⟩ := cl b v f t hb hf ht
    obtain rfl := Option.some.inj (hu.symm.trans hu')
    exact hle
  · intro b v hb
    rcases g.par _ (lookup_mem hb) with h | ⟨h, p, h1, h2, h3⟩
    · exact .inl h
    · exact .inr ⟨h, p.1, p.2, h1, h2, h3⟩
/-- The search ends. -/
theorem bfs_ends {n : Nat} : ∀ (d i : Nat) (o : Out), G n o i [] → i ≤ o.length → allOf n + 1 - i ≤ d → ∃ o', Done n o' ∧ o'.length ≤ allOf n ∧ ∀ k, d ≤ k → bfs n k i o = some o' := by
  intro d
  induction d with
  | zero =>
    intro i o g hi hd
    have := g.few
    omega
  | succ d ih =>
    intro i o g hi hd
    cases he : o[i]? with
    | none =>
      have hl : i = o.length := by
        have := List.getElem?_eq_none_iff.1 he
        omega
      subst hl
      refine ⟨o, g.done, g.few, fun k hk => ?_⟩
      obtain ⟨k, rfl⟩ : ∃ m, k = m + 1 := ⟨k - 1, by omega⟩
      rw [bfs, he]
    | some e =>
      obtain ⟨g', s, hs⟩ := g.expand he
      have hlt : i < o.length := by
        rcases Nat.lt_or_ge i o.length with h | h
        · exact h
        · rw [List.getElem?_eq_none h] at he; cases he
      obtain ⟨o', h1, h2, h3⟩ := ih (i + 1) (expand n e o) g' (by rw [hs, List.length_append]; omega) (by omega)
      refine ⟨o', h1, h2, fun k hk => ?_⟩
      obtain ⟨k, rfl⟩ : ∃ m, k = m + 1 := ⟨k - 1, by omega⟩
      rw [bfs, he]
      exact h3 k (by omega)
/-- The row by ranks. -/
def arrOf (N : Nat) (o : Out) : List Int := o.foldl (fun a e => a.set (rank e.1) e.2) (List.replicate N (-1))
theorem arrOf_snoc (N : Nat) (o : Out) (e : List Int × Int) : arrOf N (o ++ [e]) = (arrOf N o).set (rank e.1) e.2 := by
  unfold arrOf
  rw [List.foldl_append]
  rfl
theorem arr_len (N : Nat) (o : Out) : (arrOf N o).length = N := by
  unfold arrOf
  have : ∀ (o : Out) (a : List Int), (o.foldl (fun a e => a.set (rank e.1) e.2) a).length = a.length := by
    intro o
    induction o with
    | nil => intro a; rfl
    | cons e o ih => intro a; rw [List.foldl_cons, ih, List.length_set]
  rw [this, List.length_replicate]
theorem snoc_ind {α : Type} {P : List α → Prop} (h0 : P []) (h1 : ∀ l a, P l → P (l ++ [a])) : ∀ l, P l := by
  intro l
  have : ∀ l : List α, P l.reverse := by
    intro l
    induction l with
    | nil => exact h0
    | cons a l ih => rw [List.reverse_cons]; exact h1 _ _ ih
  have := this l.reverse
  rwa [List.reverse_reverse] at this
theorem arr_at {n : Nat} {b : List Int} (hb : Bd n b) : ∀ (o : Out), (∀ e ∈ o, Bd n e.1) → (o.map (·.1)).Nodup → (arrOf (allOf n) o).getD (rank b) 0 = (o.lookup b).getD (-1) := by
  refine snoc_ind ?_ ?_
  · intro _ _
    have := rank_lt hb
    unfold arrOf
    rw [List.foldl_nil, List.getD_eq_getElem?_getD, List.getElem?_replicate, if_pos this]
    rfl
  · intro o e ih hbd nd
    rw [List.map_append, List.nodup_append] at nd
    have ih := ih (fun x hx => hbd x (by simp [hx])) nd.1
    have he := hbd e (by simp)
    rw [arrOf_snoc, show e = (e.1, e.2) from rfl, lookup_snoc]
    by_cases h : b = e.1
    · have hn : o.lookup b = none := by
        cases hl : o.lookup b with
        | none => rfl
        | some v => exact absurd rfl (nd.2.2 b (by have := List.mem_map_of_mem (f := fun x : List Int × Int => x.1) (lookup_mem hl); exact this) b (by simp [h]))
      rw [hn, h, beq_self_eq_true, List.getD_eq_getElem?_getD, List.getElem?_set_self (by rw [arr_len]; exact rank_lt he)]
      rfl
    · have : (b == e.1) = false := beq_eq_false_iff_ne.2 h
      rw [this, List.getD_eq_getElem?_getD, List.getElem?_set_ne (fun e' => h (rank_inj hb he e'.symm)), ← List.getD_eq_getElem?_getD, ih]
      cases o.lookup b <;> rfl
theorem arr_count {n : Nat} (v : Int) (hv : 0 ≤ v) : ∀ (o : Out), (∀ e ∈ o, Bd n e.1) → (o.map (·.1)).Nodup → (arrOf (allOf n) o).countP (· == v) = o.countP (fun e => e.2 == v) := by
  refine snoc_ind ?_ ?_
  · intro _ _
    unfold arrOf
    rw [List.foldl_nil, List.countP_nil, List.countP_eq_zero]
    intro a ha
    rw [List.mem_replicate] at ha
    rw [ha.2]
    simp
    omega
  · intro o e ih hbd nd
    rw [List.map_append, List.nodup_append] at nd
    have hb := (fun x hx => hbd x (List.mem_append_left _ hx) : ∀ x ∈ o, Bd n x.1)
    have ih := ih hb nd.1
    have he := hbd e (by simp)
    have ha := arr_at he o hb nd.1
    have hl : o.lookup e.1 = none := by
      cases hl : o.lookup e.1 with
      | none => rfl
      | some v => exact absurd rfl (nd.2.2 e.1 (by have := List.mem_map_of_mem (f := fun x : List Int × Int => x.1) (lookup_mem hl); exact this) e.1 (by simp))
    have hr : rank e.1 < (arrOf (allOf n) o).length := by rw [arr_len]; exact rank_lt he
    rw [hl] at ha
    rw [Base.getD_at _ 0 hr] at ha
    rw [arrOf_snoc, List.countP_set hr, ha, ih, List.countP_append, List.countP_singleton]
    have : ((Option.getD none (-1) : Int) == v) = false := beq_eq_false_iff_ne.2 (by show (-1 : Int) ≠ v; omega)
    rw [this]
    simp
end Go.Proofs.YtppbpefehpbejaaDoor.Far
end

section
namespace Go.Proofs.YtppbpefehpbejaaDoor.P
open Go.RowKit Go.Proofs.YtppbpefehpbejaaDoorW.PrintWords Go.Proofs.YtppbpefehpbejaaDoorW.PrintLast Go.Proofs.YtppbpefehpbejaaDoorW.PrintMore
set_option linter.unusedVariables false
set_option linter.unusedSimpArgs false

/-- A binding's key. -/
def keyV (l : List Int) : Value := .agg #[.int .i64 (l.getD 0 0), .int .i64 (l.getD 1 0), .int .i64 (l.getD 2 0), .int .i64 (l.getD 3 0), .int .i64 (l.getD 4 0), .int .i64 (l.getD 5 0), .int .i64 (l.getD 6 0), .int .i64 (l.getD 7 0)]
theorem key_cell {l : List Int} (hl : l.length ≤ 8) {i : Nat} (hi : i < 8) : (splice (List.replicate 8 (Value.int .i64 0)) 0 (l.map (Value.int .i64)))[i]? = some (.int .i64 (l.getD i 0)) := by
  unfold splice
  rw [List.take_zero, List.nil_append, List.length_map, Nat.zero_add, List.getD_eq_getElem?_getD]
  by_cases h : i < l.length
  · rw [List.getElem?_append_left (by rw [List.length_map]; exact h), List.getElem?_map, List.getElem?_eq_getElem h]
    rfl
  · rw [List.getElem?_append_right (by rw [List.length_map]; omega), List.getElem?_eq_none (by omega : l.length ≤ i), List.length_map, List.drop_replicate, List.getElem?_replicate, if_pos (by omega)]
    rfl

/-- Eight numbers 0. -/
def zero8 : Obj := .cells #[.int .i64 0, .int .i64 0, .int .i64 0, .int .i64 0, .int .i64 0, .int .i64 0, .int .i64 0, .int .i64 0] 142
theorem zero8_size (w : World) : (w.alloc zero8).heap.size = w.heap.size + 1 := by simp
theorem zero8_at (w : World) : ((w.alloc zero8).alloc zero8).heap[w.heap.size + 1]? = some (.cells (List.replicate 8 (Value.int .i64 0)).toArray 142 (0, 0)) := by
  have h := heap_alloc_new (w.alloc zero8) zero8
  rw [zero8_size] at h
  exact h
theorem zero8_below (w : World) : Below (w.heap.size + 1) (w.alloc zero8) ((w.alloc zero8).alloc zero8) := by
  have h := below_alloc (Below.refl (w.alloc zero8).heap.size _) zero8
  rw [zero8_size] at h
  exact h
theorem key_src {w : World} {A : Option Addr} {l : List Int} (hr : Kd.C (Kd.int .i64) w A l.length l) (h0 : 0 < (l.map (Value.int .i64)).length) : ∃ ad, A = some ad ∧ ∀ j v, (l.map (Value.int .i64))[j]? = some v → w.cell? (ad.add j) = some v := by
  rw [List.length_map] at h0
  obtain ⟨ad, e, _⟩ := Kd.at_int hr 0 (Int.le_refl _) (by omega)
  refine ⟨ad, e, fun j v hv => ?_⟩
  rw [List.getElem?_map] at hv
  obtain ⟨x, hx, rfl⟩ := Option.map_eq_some_iff.1 hv
  obtain ⟨hj, rfl⟩ := List.getElem?_eq_some_iff.1 hx
  obtain ⟨ad', e', hc⟩ := Kd.at_int hr (j : Int) (by omega) (by omega)
  cases e.symm.trans e'
  rw [Int.toNat_natCast] at hc
  rw [hc]
  unfold rd
  rw [Int.toNat_natCast, List.getD_eq_getElem?_getD, List.getElem?_eq_getElem hj]
  rfl

set_option maxHeartbeats 2000000 in
set_option maxRecDepth 100000 in
theorem keyOf_calls (A : Option Addr) (c : Nat) (l : List Int) (w : World) (hr : Kd.C (Kd.int .i64) w A l.length l) (hl : l.length ≤ 8) :
    Calls Tryd.prog 151 #[.slice A l.length c] w fun e w' => e = .returned (keyV l) ∧ Below w.heap.size w w' := by
  have hu53 := Tryd.underlying142
  have HR := Aside0.mk hr
  have HL := Aside0.mk hl
  have HB := Aside0.mk (Below.refl w.heap.size w)
  clear hr hl
  obtain ⟨y0, e0_⟩ : ∃ y, y = l.getD 0 0 := ⟨_, rfl⟩
  obtain ⟨y1, e1_⟩ : ∃ y, y = l.getD 1 0 := ⟨_, rfl⟩
  obtain ⟨y2, e2_⟩ : ∃ y, y = l.getD 2 0 := ⟨_, rfl⟩
  obtain ⟨y3, e3_⟩ : ∃ y, y = l.getD 3 0 := ⟨_, rfl⟩
  obtain ⟨y4, e4_⟩ : ∃ y, y = l.getD 4 0 := ⟨_, rfl⟩
  obtain ⟨y5, e5_⟩ : ∃ y, y = l.getD 5 0 := ⟨_, rfl⟩
  obtain ⟨y6, e6_⟩ : ∃ y, y = l.getD 6 0 := ⟨_, rfl⟩
  obtain ⟨y7, e7_⟩ : ∃ y, y = l.getD 7 0 := ⟨_, rfl⟩
  have E := Aside0.mk (show keyV l = .agg #[.int .i64 y0, .int .i64 y1, .int .i64 y2, .int .i64 y3, .int .i64 y4, .int .i64 y5, .int .i64 y6, .int .i64 y7] from by unfold keyV; rw [← e0_, ← e1_, ← e2_, ← e3_, ← e4_, ← e5_, ← e6_, ← e7_])
  rw [E.out]
  have EY := Aside0.mk (And.intro e0_ (And.intro e1_ (And.intro e2_ (And.intro e3_ (And.intro e4_ (And.intro e5_ (And.intro e6_ e7_)))))))
  clear e0_ e1_ e2_ e3_ e4_ e5_ e6_ e7_ E
  go_enter Tryd.func151, Tryd.ntmps151
  go_wp2_with ((with_reducible refine gate_builtin (b := .copy) (xs := #[.tmp 5, .tmp 6]) rfl ?_); (refine wpList_copy_splice rfl (.tmp 5) (.tmp 6) 49 49 rfl 3 Tryd.underlying49 (by kernel_rfl) (some ⟨w.heap.size + 1, 0, none⟩) A 8 8 l.length c (by first | rfl | simp) (by first | rfl | simp) (w.heap.size + 1) 0 (List.replicate 8 (Value.int .i64 0)) 142 (zero8_at w) (l.map (Value.int .i64)) ?hn ?hpos ?hfit ?h1 (w.heap.size + 1) (w.alloc zero8) (zero8_below w) (Nat.le_refl _) ?_; (case hn => have := HL.out; rw [List.length_map]; exact (Nat.min_eq_left this).symm); (case hpos => exact fun h0 => ⟨rfl, key_src (Kd.C_alloc (Kd.C_alloc HR.out _) _) h0⟩); (case hfit => have := HL.out; simp; omega); (case h1 => intro v hv; obtain ⟨x, _, rfl⟩ := List.mem_map.1 hv; rfl); intro w3 hw3 hb3; have B2 := Aside0.mk hb3; have K3 := Aside0.mk hw3.out; clear hb3 hw3; have c0 : w3.cell? ⟨w.heap.size + 1, 0, none⟩ = some (.int .i64 y0) := (blk_cell K3.out 0).trans (by rw [List.getElem?_toArray, EY.out.1]; exact key_cell HL.out (by decide)); have c1 : w3.cell? ⟨w.heap.size + 1, 1, none⟩ = some (.int .i64 y1) := (blk_cell K3.out 1).trans (by rw [List.getElem?_toArray, EY.out.2.1]; exact key_cell HL.out (by decide)); have c2 : w3.cell? ⟨w.heap.size + 1, 2, none⟩ = some (.int .i64 y2) := (blk_cell K3.out 2).trans (by rw [List.getElem?_toArray, EY.out.2.2.1]; exact key_cell HL.out (by decide)); have c3 : w3.cell? ⟨w.heap.size + 1, 3, none⟩ = some (.int .i64 y3) := (blk_cell K3.out 3).trans (by rw [List.getElem?_toArray, EY.out.2.2.2.1]; exact key_cell HL.out (by decide)); have c4 : w3.cell? ⟨w.heap.size + 1, 4, none⟩ = some (.int .i64 y4) := (blk_cell K3.out 4).trans (by rw [List.getElem?_toArray, EY.out.2.2.2.2.1]; exact key_cell HL.out (by decide)); have c5 : w3.cell? ⟨w.heap.size + 1, 5, none⟩ = some (.int .i64 y5) := (blk_cell K3.out 5).trans (by rw [List.getElem?_toArray, EY.out.2.2.2.2.2.1]; exact key_cell HL.out (by decide)); have c6 : w3.cell? ⟨w.heap.size + 1, 6, none⟩ = some (.int .i64 y6) := (blk_cell K3.out 6).trans (by rw [List.getElem?_toArray, EY.out.2.2.2.2.2.2.1]; exact key_cell HL.out (by decide)); have c7 : w3.cell? ⟨w.heap.size + 1, 7, none⟩ = some (.int .i64 y7) := (blk_cell K3.out 7).trans (by rw [List.getElem?_toArray, EY.out.2.2.2.2.2.2.2]; exact key_cell HL.out (by decide)); have BK := Aside0.mk ((B2.out.block w.heap.size (Nat.lt_succ_self _)).trans (heap_alloc_new w zero8)); have d0 : w3.cell? ⟨w.heap.size, 0, none⟩ = some (.int .i64 0) := (blk_cell BK.out 0).trans rfl; have d1 : w3.cell? ⟨w.heap.size, 1, none⟩ = some (.int .i64 0) := (blk_cell BK.out 1).trans rfl; have d2 : w3.cell? ⟨w.heap.size, 2, none⟩ = some (.int .i64 0) := (blk_cell BK.out 2).trans rfl; have d3 : w3.cell? ⟨w.heap.size, 3, none⟩ = some (.int .i64 0) := (blk_cell BK.out 3).trans rfl; have d4 : w3.cell? ⟨w.heap.size, 4, none⟩ = some (.int .i64 0) := (blk_cell BK.out 4).trans rfl; have d5 : w3.cell? ⟨w.heap.size, 5, none⟩ = some (.int .i64 0) := (blk_cell BK.out 5).trans rfl; have d6 : w3.cell? ⟨w.heap.size, 6, none⟩ = some (.int .i64 0) := (blk_cell BK.out 6).trans rfl; have d7 : w3.cell? ⟨w.heap.size, 7, none⟩ = some (.int .i64 0) := (blk_cell BK.out 7).trans rfl; have e0 := blk_frozen BK.out 0; have e1 := blk_frozen BK.out 1; have e2 := blk_frozen BK.out 2; have e3 := blk_frozen BK.out 3; have e4 := blk_frozen BK.out 4; have e5 := blk_frozen BK.out 5; have e6 := blk_frozen BK.out 6; have e7 := blk_frozen BK.out 7))
  exact bodyPost_ret (v := .agg #[.int .i64 y0, .int .i64 y1, .int .i64 y2, .int .i64 y3, .int .i64 y4, .int .i64 y5, .int .i64 y6, .int .i64 y7]) (by simp [results, Tryd.results151, go_sem, d0, d1, d2, d3, d4, d5, d6, d7]) rfl ⟨rfl, by
    refine below_set (below_set (below_set (below_set (below_set (below_set (below_set (below_set ?_ (Nat.le_refl _)) (Nat.le_refl _)) (Nat.le_refl _)) (Nat.le_refl _)) (Nat.le_refl _)) (Nat.le_refl _)) (Nat.le_refl _)) (Nat.le_refl _)
    exact (below_alloc (Below.refl _ _) zero8).trans (B2.out.mono (Nat.le_succ _))⟩
end Go.Proofs.YtppbpefehpbejaaDoor.P
end

section
namespace Go.Proofs.YtppbpefehpbejaaDoor.P
open Go.Maps Go.RowKit Go.Proofs.YtppbpefehpbejaaDoorW.PrintWords Go.Proofs.YtppbpefehpbejaaDoor.Far
set_option linter.unusedVariables false
set_option maxRecDepth 100000
set_option linter.unusedSimpArgs false

theorem farLaid : laidOutB Tryd.prog = true := by kernel_rfl
theorem farKey : WideMaps.KeyLaw Tryd.prog 142 := deep_law_laid farLaid (m := 2) (by omega) (of_decide_eq_true (by kernel_rfl)) (by kernel_rfl) (by kernel_rfl)
theorem farKeyed : Keyed Tryd.prog 142 := Keyed.of_law farKey
theorem farZero (w : World) : (zeroValue 3).run Tryd.prog w = .ok (.int .i64 0) w := by kernel_rfl
theorem farTypes : Tryd.prog.keyType 142 = true := by kernel_rfl
theorem farFormed (y0 y1 y2 y3 y4 y5 y6 y7 : Value) : (Value.agg #[y0, y1, y2, y3, y4, y5, y6, y7]).formed Tryd.prog 142 = true := by kernel_rfl
theorem farSize : ∃ m, Tryd.prog.types.size + 1 = m + 2 := ⟨Tryd.prog.types.size - 1, by have : 1 ≤ Tryd.prog.types.size := of_decide_eq_true (by kernel_rfl); omega⟩
theorem farCells8 : Tryd.prog.cellsOf 142 = 8 := by kernel_rfl
theorem farCells1 : Tryd.prog.cellsOf 3 = 1 := by kernel_rfl
/-- What a key reads as. -/
theorem key_lit (y0 y1 y2 y3 y4 y5 y6 y7 : Int) (h0 : (Lit.int .i64 y0).wf = true) (h1 : (Lit.int .i64 y1).wf = true) (h2 : (Lit.int .i64 y2).wf = true) (h3 : (Lit.int .i64 y3).wf = true) (h4 : (Lit.int .i64 y4).wf = true) (h5 : (Lit.int .i64 y5).wf = true) (h6 : (Lit.int .i64 y6).wf = true) (h7 : (Lit.int .i64 y7).wf = true) :
    keyOf Tryd.prog 142 (.agg #[.int .i64 y0, .int .i64 y1, .int .i64 y2, .int .i64 y3, .int .i64 y4, .int .i64 y5, .int .i64 y6, .int .i64 y7]) = some (.string (keyBytes [.int .i64 y0, .int .i64 y1, .int .i64 y2, .int .i64 y3, .int .i64 y4, .int .i64 y5, .int .i64 y6, .int .i64 y7])) := by
  obtain ⟨m, hm⟩ := farSize
  have hu := Tryd.underlying142
  have hi := Tryd.underlying3
  unfold keyOf
  rw [hu]
  simp only [farTypes, farFormed, Bool.and_self, if_true, hm]
  simp only [Program.keyLits, hu, hi, farCells8, farCells1, Value.cells]
  simp [List.range_succ, List.mapM_cons, h0, h1, h2, h3, h4, h5, h6, h7]
/-- The key of a binding, as it reads. -/
def klit (l : List Int) : Lit := .string (keyBytes [.int .i64 (l.getD 0 0), .int .i64 (l.getD 1 0), .int .i64 (l.getD 2 0), .int .i64 (l.getD 3 0), .int .i64 (l.getD 4 0), .int .i64 (l.getD 5 0), .int .i64 (l.getD 6 0), .int .i64 (l.getD 7 0)])
theorem bd_small {n : Nat} {l : List Int} (h : Bd n l) (hn : n ≤ 8) (i : Nat) : (Lit.int .i64 (l.getD i 0)).wf = true := by
  refine WalkArith.wf_i64 ?_
  rcases Nat.lt_or_ge i l.length with hi | hi
  · have := h.2.1 (l.getD i 0) (by rw [Base.getD_at l 0 hi]; exact List.getElem_mem hi)
    omega
  · rw [List.getD_eq_getElem?_getD, List.getElem?_eq_none hi]
    decide
theorem klit_key {n : Nat} {l : List Int} (h : Bd n l) (hn : n ≤ 8) : keyOf Tryd.prog 142 (keyV l) = some (klit l) := by
  exact key_lit _ _ _ _ _ _ _ _ (bd_small h hn 0) (bd_small h hn 1) (bd_small h hn 2) (bd_small h hn 3) (bd_small h hn 4) (bd_small h hn 5) (bd_small h hn 6) (bd_small h hn 7)
theorem keyV_inj {n : Nat} {l m : List Int} (hl : Bd n l) (hm : Bd n m) (hn : n ≤ 8) (h : keyV l = keyV m) : l = m := by
  unfold keyV at h
  simp only [Value.agg.injEq, Array.mk.injEq, List.cons.injEq, Value.int.injEq, true_and, and_true] at h
  obtain ⟨h0, h1, h2, h3, h4, h5, h6, h7⟩ := h
  refine ext_at (by rw [hl.1, hm.1]) (fun i hi => ?_)
  have : i < 8 := by have := hm.1; omega
  rcases (by omega : i = 0 ∨ i = 1 ∨ i = 2 ∨ i = 3 ∨ i = 4 ∨ i = 5 ∨ i = 6 ∨ i = 7) with rfl | rfl | rfl | rfl | rfl | rfl | rfl | rfl <;> assumption
theorem klit_inj {n : Nat} {l m : List Int} (hl : Bd n l) (hm : Bd n m) (hn : n ≤ 8) (h : klit l = klit m) : l = m := by
  have a := klit_key hl hn
  have b := klit_key hm hn
  rw [← h] at b
  exact keyV_inj hl hm hn (farKeyed.inj a b)
theorem klit_is {n : Nat} {l : List Int} (hl : Bd n l) (hn : n ≤ 8) : WideAt.IsKeyLit (klit l) := farKeyed.key (klit_key hl hn)
/-- The map's datum. -/
def Dm (o : Out) : DataW Unit := o.foldl (fun m e => m.put (klit e.1) (.lit (.int .i64 e.2))) (.map [])
theorem Dm_snoc (o : Out) (e : List Int × Int) : Dm (o ++ [e]) = (Dm o).put (klit e.1) (.lit (.int .i64 e.2)) := by
  unfold Dm
  rw [List.foldl_append]
  rfl
theorem Dm_map : ∀ o : Out, IsMap (Dm o) := by
  refine snoc_ind isMap_empty (fun o e ih => ?_)
  rw [Dm_snoc]
  exact ih.put _ _
theorem Dm_at {n : Nat} {b : List Int} (hb : Bd n b) (hn : n ≤ 8) : ∀ o : Out, (∀ e ∈ o, Bd n e.1) → (o.map (·.1)).Nodup → (Dm o).atKey (klit b) (.lit (.int .i64 0)) = .lit (.int .i64 ((o.lookup b).getD 0)) ∧ Maps.has (Dm o) (klit b) = (o.lookup b).isSome := by
  refine snoc_ind ?_ ?_
  · intro _ _
    exact ⟨rfl, rfl⟩
  · intro o e ih hbd nd
    rw [List.map_append, List.nodup_append] at nd
    obtain ⟨h1, h2⟩ := ih (fun x hx => hbd x (by simp [hx])) nd.1
    have he := hbd e (by simp)
    rw [Dm_snoc, show e = (e.1, e.2) from rfl, lookup_snoc]
    by_cases h : b = e.1
    · have hnl : o.lookup b = none := by
        cases hl : o.lookup b with
        | none => rfl
        | some v => exact absurd rfl (nd.2.2 b (by have := List.mem_map_of_mem (f := fun x : List Int × Int => x.1) (lookup_mem hl); exact this) b (by simp [h]))
      rw [hnl, h, beq_self_eq_true]
      exact ⟨atKey_put_same (Dm_map o) (klit_is he hn) _ _, has_put_same (Dm_map o) (klit_is he hn) _⟩
    · have hne : klit b ≠ klit e.1 := fun e' => h (klit_inj hb he hn e')
      have : (b == e.1) = false := beq_eq_false_iff_ne.2 h
      rw [this, atKey_put_other hne, has_put_other hne, h1, h2]
      cases o.lookup b <;> exact ⟨rfl, rfl⟩
/-- Block B is the map. -/
def FarAt (w : World) (B : Nat) (o : Out) : Prop := w.ownsMap Tryd.prog 142 (plainElem (H := Unit) Tryd.prog 3) B o.length (Dm o)
theorem FarAt.kept {w w' : World} {B : Nat} {o : Out} {row : Option Nat} (h : FarAt w B o) (hg : w.grownBy w' row) (hne : some B ≠ row) : FarAt w' B o := World.ownsMap.kept h hg hne
theorem FarAt.below {w w' : World} {B : Nat} {o : Out} (h : FarAt w B o) (hb : Below w.heap.size w w') : FarAt w' B o := h.kept (grown_of_below hb none) (by simp)
theorem FarAt.lt {w : World} {B : Nat} {o : Out} (h : FarAt w B o) : B < w.heap.size := World.ownsMap.lt h
section
variable {w : World} {ops : Array Oper} {rest : List Oper} {o : Oper} {a : Act} {Q : Exit → Act → World → Prop} {n B : Nat} {xs : Out} {l : List Int}
theorem far_run (hF : FarAt w B xs) (hn : n ≤ 8) (hbd : ∀ e ∈ xs, Bd n e.1) (nd : (xs.map (·.1)).Nodup) (hl : Bd n l) : (Instr.lookup 139 (.map (some B)) (keyV l) false).run Tryd.prog w = .ok (.int .i64 ((xs.lookup l).getD 0)) w := by
  obtain ⟨c, hrun, hat, _⟩ := World.ownsMap.lookup_int hF farKeyed Tryd.underlying139 Tryd.underlying3 (farZero w) (klit_key hl hn)
  rw [(Dm_at hl hn xs hbd nd).1] at hat
  injection hat with hat
  injection hat with _ hat
  rw [hrun, hat]
theorem far_look_ok (hg : o.guard = none) (m x : Operand) (hop : o.op = Op.lookup 139 m x true) (hm : a.eval m = .map (some B)) (hx : a.eval x = keyV l) (hF : FarAt w B xs) (hn : n ≤ 8) (hbd : ∀ e ∈ xs, Bd n e.1) (nd : (xs.map (·.1)).Nodup) (hl : Bd n l)
    (hK : wpList Tryd.prog ops Q rest (a.put o.dst (.tuple #[.int .i64 ((xs.lookup l).getD 0), .bool (xs.lookup l).isSome])) w) : wpList Tryd.prog ops Q (o :: rest) a w := by
  refine wpList_lookup_own_ok_int w hg m x 139 hop 142 3 .i64 farKeyed Tryd.underlying139 Tryd.underlying3 (farZero w) B xs.length (Dm xs) hm hF _ _ hx (klit_key hl hn) (fun c hat _ => ?_)
  obtain ⟨h1, h2⟩ := Dm_at hl hn xs hbd nd
  rw [h1] at hat
  injection hat with hat
  injection hat with _ hat
  rw [← hat, h2]
  exact hK
theorem far_look (hg : o.guard = none) (m x : Operand) (hop : o.op = Op.lookup 139 m x false) (hm : a.eval m = .map (some B)) (hx : a.eval x = keyV l) (hF : FarAt w B xs) (hn : n ≤ 8) (hbd : ∀ e ∈ xs, Bd n e.1) (nd : (xs.map (·.1)).Nodup) (hl : Bd n l)
    (hK : wpList Tryd.prog ops Q rest (a.put o.dst (.int .i64 ((xs.lookup l).getD 0))) w) : wpList Tryd.prog ops Q (o :: rest) a w := by
  refine wpList_plain hg fun K' hK' => ?_
  unfold Oper.wp
  simp [execOp, hop, hm, hx, far_run hF hn hbd nd hl, Result.andThen]
  exact hK' _ _ hK
/-- A new binding is put in. -/
theorem far_update (hF : FarAt w B xs) (hn : n ≤ 8) (hl : Bd n l) (hlen : xs.length ≤ 100000) {v : Int} (hv : (Lit.int .i64 v).wf = true) : ∃ w', (Instr.mapUpdate 139 (.map (some B)) (keyV l) (.int .i64 v)).run Tryd.prog w = .ok () w' ∧ FarAt w' B (xs ++ [(l, v)]) ∧ w.grownBy w' (some B) := by
  obtain ⟨w', h1, h2, h3⟩ := World.ownsMap.update hF farKeyed Tryd.underlying139 (by unfold maxLen; omega) (klit_key hl hn) (plainElem_int Tryd.underlying3 hv)
  refine ⟨w', h1, ?_, h3⟩
  unfold FarAt
  rw [Dm_snoc, List.length_append]
  exact h2
theorem far_insert (hg : o.guard = none) (m x y : Operand) (hop : o.op = Op.insert 139 m x y) {v : Int} (hm : a.eval m = .map (some B)) (hx : a.eval x = keyV l) (hy : a.eval y = .int .i64 v) (hF : FarAt w B xs) (hn : n ≤ 8) (hl : Bd n l) (hlen : xs.length ≤ 100000) (hv : (Lit.int .i64 v).wf = true)
    (hK : ∀ w', FarAt w' B (xs ++ [(l, v)]) → w.grownBy w' (some B) → wpList Tryd.prog ops Q rest (a.put o.dst undef) w') : wpList Tryd.prog ops Q (o :: rest) a w := by
  refine wpList_plain hg fun K' hK' => ?_
  obtain ⟨w', hrun, r1, r2⟩ := far_update hF hn hl hlen hv
  unfold Oper.wp
  simp [execOp, hop, hm, hx, hy, hrun, Result.andThen]
  exact hK' _ _ (hK w' r1 r2)
/-- A new map. -/
theorem far_event (hg : o.guard = none) (hop : o.op = Op.makeMap 139 none) (hK : ∀ B w1, B = w.heap.size → FarAt w1 B [] → Below w.heap.size w w1 → wpList Tryd.prog ops Q rest (a.put o.dst (.map (some B))) w1) : wpList Tryd.prog ops Q (o :: rest) a w := by
  refine wpList_plain hg fun K' hK' => ?_
  unfold Oper.wp
  simp [execOp, hop, run_makeMap, Result.andThen]
  exact hK' _ _ (hK _ _ rfl (World.ownsMap_made _ _ _ _) (below_alloc (Below.refl _ _) _))
end
end Go.Proofs.YtppbpefehpbejaaDoor.P
end

section
namespace Go.Proofs.YtppbpefehpbejaaDoor.P
open Go.RowKit Go.Proofs.YtppbpefehpbejaaDoorW.PrintWords Go.Proofs.YtppbpefehpbejaaDoor.Base
set_option linter.unusedVariables false

theorem rd_nat (l : List Int) (i : Nat) : rd l (i : Int) = l.getD i 0 := by unfold rd; rw [Int.toNat_natCast]
theorem nextI (n : Nat) (h : n ≤ 4000000) : wrap64 ((n : Int) + 1) = ((n + 1 : Nat) : Int) := by
  rw [w64 (by omega) (by omega)]; omega
end Go.Proofs.YtppbpefehpbejaaDoor.P
end

section
namespace Go.Proofs.YtppbpefehpbejaaDoor.P
open Go.RowKit Go.Proofs.YtppbpefehpbejaaDoorW.PrintWords Go.Proofs.YtppbpefehpbejaaDoorW.PrintLast Go.Proofs.YtppbpefehpbejaaDoorW.PrintMore Go.Proofs.YtppbpefehpbejaaDoor.Base
set_option linter.unusedVariables false

theorem has_drop (l : List Int) (x : Int) {i : Nat} (h : i < l.length) : (l.drop i).contains x = (x == l.getD i 0 || (l.drop (i + 1)).contains x) := by
  rw [List.drop_eq_getElem_cons h, List.contains_cons, getD_at l 0 h]
theorem l1Has_l0 (l : List Int) (x : Int) (hn : l.length ≤ 1048576) : ∀ n i : Nat, i + n = l.length → Ev (fun k => spec_l1Has.l0 k x l (l.length : Int) (i : Int)) ((l.drop i).contains x) := by
  intro n
  induction n with
  | zero =>
    intro i hi
    refine Ev_step (fun k => ?_) (Ev.now _)
    rw [spec_l1Has.l0, if_neg (by omega), List.drop_of_length_le (by omega)]
    rfl
  | succ n ih =>
    intro i hi
    have h : i < l.length := by omega
    refine Ev_step (fun k => by rw [spec_l1Has.l0, if_pos (by omega), if_pos (by omega), if_pos (by omega), rd_nat, nextI i (by omega)]) ?_
    rw [has_drop l x h]
    by_cases e : l.getD i 0 = x
    · rw [e, beq_self_eq_true, Bool.true_or]
      exact Ev_pos rfl (Ev.now _)
    · rw [beq_false_of_ne (fun h => e h.symm), Bool.false_or]
      exact Ev_neg e (ih (i + 1) (by omega))
theorem l1Has_ev (l : List Int) (x : Int) (hn : l.length ≤ 1048576) : Ev (fun k => spec_l1Has.f k l x) (l.contains x) :=
  Ev.congr (fun k => by rw [spec_l1Has.f]; rfl) (l1Has_l0 l x hn l.length 0 (by omega))
end Go.Proofs.YtppbpefehpbejaaDoor.P
end

section
namespace Go.Proofs.YtppbpefehpbejaaDoor.P
open Go.RowKit Go.Proofs.YtppbpefehpbejaaDoorW.PrintWords Go.Proofs.YtppbpefehpbejaaDoorW.PrintLast Go.Proofs.YtppbpefehpbejaaDoorW.PrintMore Go.Proofs.YtppbpefehpbejaaDoor.Base

theorem l1In_eq (n lo hi : Int) : spec_l1In.f n lo hi = some (inB n lo hi) := by
  unfold spec_l1In.f inB
  by_cases h : lo ≤ n <;> simp [h]
theorem within_eq (n lo hi : Int) : impl_within.f n lo hi = some (inB n lo hi) := by
  unfold impl_within.f inB
  by_cases h : lo ≤ n <;> simp [h]
end Go.Proofs.YtppbpefehpbejaaDoor.P
end

section
namespace Go.Proofs.YtppbpefehpbejaaDoor.P
open Go.RowKit Go.Proofs.YtppbpefehpbejaaDoorW.PrintWords Go.Proofs.YtppbpefehpbejaaDoorW.PrintLast Go.Proofs.YtppbpefehpbejaaDoorW.PrintMore Go.Proofs.YtppbpefehpbejaaDoor.Base
set_option linter.unusedVariables false

theorem l1All_l0 (l : List Int) (lo hi : Int) (hn : l.length ≤ 1048576) : ∀ n i : Nat, i + n = l.length → Ev (fun k => spec_l1All.l0 k lo hi l (l.length : Int) (i : Int)) ((l.drop i).all fun x => decide (lo ≤ x ∧ x ≤ hi)) := by
  intro n
  induction n with
  | zero =>
    intro i hi
    refine Ev_step (fun k => ?_) (Ev.now _)
    rw [spec_l1All.l0, if_neg (by omega), List.drop_of_length_le (by omega)]
    rfl
  | succ n ih =>
    intro i hi
    have h : i < l.length := by omega
    refine Ev_step (fun k => by rw [spec_l1All.l0, if_pos (by omega), if_pos (by omega), if_pos (by omega), rd_nat, nextI i (by omega)]) ?_
    refine Ev_some (l1In_eq _ _ _) ?_
    rw [all_drop _ l 0 h]
    unfold inB
    cases decide (lo ≤ l.getD i 0 ∧ l.getD i 0 ≤ _) with
    | true => exact Ev_pos rfl (by rw [Bool.true_and]; exact ih (i + 1) (by omega))
    | false => exact Ev_neg (by decide) (Ev.now _)
theorem l1All_ev (l : List Int) (lo hi : Int) (hn : l.length ≤ 1048576) : Ev (fun k => spec_l1All.f k l lo hi) (l.all fun x => decide (lo ≤ x ∧ x ≤ hi)) :=
  Ev.congr (fun k => by rw [spec_l1All.f]; rfl) (l1All_l0 l lo hi hn l.length 0 (by omega))
end Go.Proofs.YtppbpefehpbejaaDoor.P
end

section
namespace Go.Proofs.YtppbpefehpbejaaDoor.P
open Go.RowKit Go.Proofs.YtppbpefehpbejaaDoorW.PrintWords Go.Proofs.YtppbpefehpbejaaDoorW.PrintLast Go.Proofs.YtppbpefehpbejaaDoorW.PrintMore Go.Proofs.YtppbpefehpbejaaDoor.Base Go.Proofs.YtppbpefehpbejaaDoor.Order
set_option linter.unusedVariables false

theorem index_l0 (l : List Int) (x : Int) (hn : l.length ≤ 1048576) : ∀ n i : Nat, i + n = l.length → ∃ r : Int, Ev (fun k => slices_Index_int_int.l0 k l x (l.length : Int) (i : Int)) r ∧ decide (r ≥ 0) = (l.drop i).contains x := by
  intro n
  induction n with
  | zero =>
    intro i hi
    refine ⟨-1, Ev_step (fun k => ?_) (Ev.now _), ?_⟩
    · rw [slices_Index_int_int.l0, if_neg (by omega)]
    · rw [List.drop_of_length_le (by omega)]
      rfl
  | succ n ih =>
    intro i hi
    have h : i < l.length := by omega
    have hs : ∀ k, slices_Index_int_int.l0 (k + 1) l x (l.length : Int) (i : Int) = if x = l.getD i 0 then some (i : Int) else slices_Index_int_int.l0 k l x (l.length : Int) ((i + 1 : Nat) : Int) := fun k => by
      rw [slices_Index_int_int.l0, if_pos (by omega), if_pos (by omega), if_pos (by omega), rd_nat, nextI i (by omega)]
    rw [has_drop l x h]
    by_cases e : x = l.getD i 0
    · refine ⟨i, Ev_step hs (Ev_pos e (Ev.now _)), ?_⟩
      rw [← e, beq_self_eq_true, Bool.true_or]
      exact decide_eq_true (by omega)
    · obtain ⟨r, h1, h2⟩ := ih (i + 1) (by omega)
      refine ⟨r, Ev_step hs (Ev_neg e h1), ?_⟩
      rw [beq_false_of_ne e, Bool.false_or]
      exact h2
theorem contains_ev (l : List Int) (x : Int) (hn : l.length ≤ 1048576) : Ev (fun k => slices_Contains_int_int.f k l x) (l.contains x) := by
  obtain ⟨r, h1, h2⟩ := index_l0 l x hn l.length 0 (by omega)
  rw [List.drop_zero] at h2
  simp only [slices_Contains_int_int.f]
  refine Ev_bind (Ev.congr (fun k => by rw [slices_Index_int_int.f]; rfl) h1) ?_
  rw [← h2]
  exact Ev.now _
theorem isOrder_l0 (ls : List Int) (hn : ls.length ≤ 1048576) : ∀ n i : Nat, i + n = ls.length → Ev (fun k => impl_isOrder.l0 k ls (ls.length : Int) (ls.length : Int) (i : Int)) (hasAll ls n i) := by
  intro n
  induction n with
  | zero =>
    intro i hi
    refine Ev_step (fun k => ?_) (Ev.now _)
    rw [impl_isOrder.l0, if_neg (by omega), beq_self_eq_true]
    rfl
  | succ n ih =>
    intro i hi
    refine Ev_step (fun k => by rw [impl_isOrder.l0, if_pos (by omega), nextI i (by omega)]) ?_
    refine Ev_bind (contains_ev ls (i : Int) hn) ?_
    rw [hasAll]
    cases ls.contains (i : Int) with
    | true => exact Ev_pos rfl (by rw [Bool.true_and]; exact ih (i + 1) (by omega))
    | false => exact Ev_neg (by decide) (Ev.now _)
theorem isOrder_ev (ls : List Int) (hn : ls.length ≤ 1048576) : Ev (fun k => impl_isOrder.f k ls (ls.length : Int)) (hasAll ls ls.length 0) :=
  Ev.congr (fun k => by rw [impl_isOrder.f]; rfl) (isOrder_l0 ls hn ls.length 0 (by omega))
theorem leafOf_eq (x : Int) (h : -8 ≤ x ∧ x ≤ 8) : impl_leafOf.f x = some (leaf x + 1) := by
  rw [impl_leafOf.f, w64 (x := -x) (by omega) (by omega)]
  unfold mx leaf
  congr 1
  split <;> split <;> omega
theorem take_succ_map (f : Int → Int) (l : List Int) {i : Nat} (h : i < l.length) : (l.take (i + 1)).map f = (l.take i).map f ++ [f (l.getD i 0)] := by
  rw [List.take_add_one, List.getElem?_eq_getElem h, List.map_append, getD_at l 0 h]
  rfl
theorem isBinding_l0 (b : List Int) (hn : b.length ≤ 1048576) : ∀ n i : Nat, i + n = b.length → Ev (fun k => impl_IsBinding.l0 k b ((b.take i).map leaf) b (b.length : Int) (i : Int))
    ((b.drop i).all (fun x => decide (-8 ≤ x ∧ x ≤ 8)) && (decide (1 ≤ b.length ∧ b.length ≤ 8) && hasAll (b.map leaf) b.length 0)) := by
  intro n
  induction n with
  | zero =>
    intro i hi
    refine Ev_step (fun k => by rw [impl_IsBinding.l0, if_neg (by omega)]) ?_
    rw [List.drop_of_length_le (by omega), List.take_of_length_le (by omega), List.all_nil, Bool.true_and]
    refine Ev_some (within_eq _ _ _) ?_
    have e : inB (b.length : Int) 1 8 = decide (1 ≤ b.length ∧ b.length ≤ 8) := by
      unfold inB
      exact decide_eq_decide.2 (by omega)
    rw [e]
    by_cases h : 1 ≤ b.length ∧ b.length ≤ 8
    · rw [decide_eq_true h, Bool.true_and]
      refine Ev_pos rfl ?_
      have := isOrder_ev (b.map leaf) (by rw [List.length_map]; exact hn)
      simp only [List.length_map] at this ⊢
      exact Ev_bind this (Ev.now _)
    · rw [decide_eq_false h, Bool.false_and]
      exact Ev_neg (by decide) (Ev.now _)
  | succ n ih =>
    intro i hi
    have h : i < b.length := by omega
    refine Ev_step (fun k => by rw [impl_IsBinding.l0, if_pos (by omega), if_pos (by omega), if_pos (by omega), rd_nat, nextI i (by omega)]) ?_
    refine Ev_some (within_eq _ _ _) ?_
    rw [all_drop (fun x => decide (-8 ≤ x ∧ x ≤ 8)) b 0 h]
    by_cases e : -8 ≤ b.getD i 0 ∧ b.getD i 0 ≤ 8
    · rw [show inB (b.getD i 0) (-8) 8 = true from decide_eq_true e, decide_eq_true e, Bool.true_and]
      refine Ev_pos rfl (Ev_some (leafOf_eq _ e) (Ev_pos (by rw [List.length_map, List.length_take]; omega) ?_))
      have hl : -1 ≤ leaf (b.getD i 0) ∧ leaf (b.getD i 0) ≤ 7 := by unfold leaf; split <;> omega
      rw [show leaf (b.getD i 0) + 1 - 1 = leaf (b.getD i 0) by omega, w64 (by omega) (by omega), ← take_succ_map leaf b h]
      exact ih (i + 1) (by omega)
    · rw [show inB (b.getD i 0) (-8) 8 = false from decide_eq_false e, decide_eq_false e, Bool.false_and, Bool.false_and]
      exact Ev_neg (by decide) (Ev.now _)
theorem isBinding_ev (b : List Int) (hn : b.length ≤ 1048576) : Ev (fun k => impl_IsBinding.f k b) (bindS b) := by
  rw [← bind_eq]
  exact Ev.congr (fun k => by rw [impl_IsBinding.f]; rfl) (isBinding_l0 b hn b.length 0 (by omega))
theorem take_one (l : List Int) {i : Nat} (h : i < l.length) : l.take (i + 1) = l.take i ++ [l.getD i 0] := by
  rw [List.take_add_one, List.getElem?_eq_getElem h, getD_at l 0 h]
  rfl
theorem biGood_l0 (b : List Int) (hn : b.length ≤ 8) (hb : ∀ x ∈ b, -8 ≤ x ∧ x ≤ 8) : ∀ n i : Nat, i + n = b.length → Ev (fun k => spec_biGood.l0 k b b (b.length : Int) (i : Int)) (fresh (b.take i) (b.drop i)) := by
  intro n
  induction n with
  | zero =>
    intro i hi
    refine Ev_step (fun k => ?_) (Ev.now _)
    rw [spec_biGood.l0, if_neg (by omega), List.drop_of_length_le (by omega)]
    rfl
  | succ n ih =>
    intro i hi
    have h : i < b.length := by omega
    have hx : -8 ≤ b.getD i 0 ∧ b.getD i 0 ≤ 8 := by rw [getD_at b 0 h]; exact hb _ (List.getElem_mem h)
    have ht : (b.take i).length ≤ 1048576 := by rw [List.length_take]; omega
    refine Ev_step (fun k => by rw [spec_biGood.l0, if_pos (by omega), if_pos (by omega), if_pos (by omega), rd_nat, nextI i (by omega), w64 (x := -(b.getD i 0)) (by omega) (by omega), Int.toNat_natCast]) ?_
    have e := ih (i + 1) (by omega)
    rw [take_one b h] at e
    rw [List.drop_eq_getElem_cons h, ← getD_at b 0 h, fresh]
    by_cases h0 : b.getD i 0 = 0
    · rw [show (b.getD i 0 != 0) = false by rw [h0]; rfl, Bool.false_and]
      exact Ev_pos h0 (Ev.now _)
    · rw [show (b.getD i 0 != 0) = true from bne_iff_ne.2 h0, Bool.true_and]
      refine Ev_neg h0 (Ev_pos (by omega) (Ev_bind (l1Has_ev _ _ ht) ?_))
      cases (b.take i).contains (b.getD i 0) with
      | true => exact Ev_pos rfl (Ev.now _)
      | false =>
        refine Ev_neg (by decide) (Ev_bind (l1Has_ev _ _ ht) ?_)
        cases (b.take i).contains (-(b.getD i 0)) with
        | true => exact Ev_pos rfl (Ev.now _)
        | false => exact Ev_neg (by decide) e
theorem biGood_ev (b : List Int) (hn : b.length ≤ 1048576) : Ev (fun k => spec_biGood.f k b) (bindS b) := by
  simp only [spec_biGood.f]
  refine Ev_some (l1In_eq _ _ _) ?_
  have e : inB (b.length : Int) 1 8 = decide (1 ≤ b.length ∧ b.length ≤ 8) := by
    unfold inB
    exact decide_eq_decide.2 (by omega)
  rw [e]
  unfold bindS
  by_cases h : 1 ≤ b.length ∧ b.length ≤ 8
  · rw [decide_eq_true h, Bool.true_and]
    refine Ev_pos rfl ?_
    rw [w64 (x := -(b.length : Int)) (by omega) (by omega)]
    refine Ev_bind (l1All_ev b _ _ hn) (Ev_step (fun k => by rw [spec_biGood.j0]) ?_)
    cases ha : b.all (fun x => decide (-(b.length : Int) ≤ x ∧ x ≤ b.length)) with
    | false => exact Ev_pos rfl (Ev.now _)
    | true =>
      refine Ev_neg (by decide) ?_
      rw [Bool.true_and]
      exact biGood_l0 b h.2 (fun x hx => by have := of_decide_eq_true (List.all_eq_true.1 ha x hx); omega) b.length 0 (by omega)
  · rw [decide_eq_false h, Bool.false_and]
    exact Ev_neg (by decide) (Ev_step (fun k => by rw [spec_biGood.j0]) (Ev_pos rfl (Ev.now _)))
end Go.Proofs.YtppbpefehpbejaaDoor.P
end

section
namespace Go.Proofs.YtppbpefehpbejaaDoor.P
open Go.RowKit Go.Proofs.YtppbpefehpbejaaDoorW.PrintWords Go.Proofs.YtppbpefehpbejaaDoorW.PrintLast Go.Proofs.YtppbpefehpbejaaDoorW.PrintMore Go.Proofs.YtppbpefehpbejaaDoor.Base Go.Proofs.YtppbpefehpbejaaDoor.Order
set_option linter.unusedVariables false

theorem bind_len {b : List Int} (h : bindS b = true) : 1 ≤ b.length ∧ b.length ≤ 8 := by
  unfold bindS at h
  rw [Bool.and_eq_true, decide_eq_true_eq] at h
  exact h.1
/-- Is there a part? -/
def partB (b : List Int) (f t : Int) : Bool := decide (0 ≤ f ∧ f ≤ t ∧ t ≤ (b.length : Int) - 1)
theorem biPart_ev (b : List Int) (f t : Int) (hn : b.length ≤ 1048576) : Ev (fun k => spec_biPart.f k b f t) (bindS b && partB b f t) := by
  simp only [spec_biPart.f]
  refine Ev_bind (biGood_ev b hn) ?_
  cases hb : bindS b with
  | false => exact Ev_neg (by decide) (Ev.now _)
  | true =>
    have hl := bind_len hb
    rw [Bool.true_and, w64 (x := (b.length : Int) - 1) (by omega) (by omega)]
    refine Ev_pos rfl (Ev_some (l1In_eq _ _ _) ?_)
    unfold inB partB
    by_cases h : 0 ≤ f ∧ f ≤ (b.length : Int) - 1
    · rw [decide_eq_true h]
      refine Ev_pos rfl (Ev_some (l1In_eq _ _ _) ?_)
      unfold inB
      rw [show decide (0 ≤ f ∧ f ≤ t ∧ t ≤ (b.length : Int) - 1) = decide (f ≤ t ∧ t ≤ (b.length : Int) - 1) from decide_eq_decide.2 (by omega)]
      exact Ev.now _
    · rw [decide_eq_false h, show decide (0 ≤ f ∧ f ≤ t ∧ t ≤ (b.length : Int) - 1) = false from decide_eq_false (by omega)]
      exact Ev_neg (by decide) (Ev.now _)
theorem isPart_eq (b : List Int) (f t : Int) (hb : bindS b = true) : impl_isPartOf.f b f t = some (partB b f t) := by
  have hl := bind_len hb
  rw [impl_isPartOf.f, w64 (x := (b.length : Int) - 1) (by omega) (by omega), within_eq]
  simp only [Option.bind_some]
  unfold inB partB
  by_cases h : 0 ≤ t ∧ t ≤ (b.length : Int) - 1
  · rw [decide_eq_true h, if_pos rfl, within_eq]
    simp only [Option.bind_some]
    unfold inB
    rw [show decide (0 ≤ f ∧ f ≤ t ∧ t ≤ (b.length : Int) - 1) = decide (0 ≤ f ∧ f ≤ t) from decide_eq_decide.2 (by omega)]
  · rw [decide_eq_false h, show decide (0 ≤ f ∧ f ≤ t ∧ t ≤ (b.length : Int) - 1) = false from decide_eq_false (by omega)]
    rfl
end Go.Proofs.YtppbpefehpbejaaDoor.P
end

section
namespace Go.Proofs.YtppbpefehpbejaaDoor.P
open Go.RowKit Go.Proofs.YtppbpefehpbejaaDoorW.PrintWords Go.Proofs.YtppbpefehpbejaaDoorW.PrintLast Go.Proofs.YtppbpefehpbejaaDoorW.PrintMore Go.Proofs.YtppbpefehpbejaaDoor.Base Go.Proofs.YtppbpefehpbejaaDoor.Order
set_option linter.unusedVariables false

theorem same_l0 : ∀ (k : Nat) (b : List Int) (f t : Int) (acc : List Int) (i : Int), impl_turned.l0 k b f t acc i = spec_biTurn.l0 k b f t acc i := by
  intro k
  induction k with
  | zero => intros; rfl
  | succ k ih =>
    intro b f t acc i
    rw [impl_turned.l0, spec_biTurn.l0]
    simp only [ih]
end Go.Proofs.YtppbpefehpbejaaDoor.P
end

section
namespace Go.Proofs.YtppbpefehpbejaaDoor.P
open Go.RowKit Go.Proofs.YtppbpefehpbejaaDoorW.PrintWords Go.Proofs.YtppbpefehpbejaaDoorW.PrintLast Go.Proofs.YtppbpefehpbejaaDoorW.PrintMore Go.Proofs.YtppbpefehpbejaaDoor.Base Go.Proofs.YtppbpefehpbejaaDoor.Order Go.Proofs.YtppbpefehpbejaaDoor.Far
set_option linter.unusedVariables false

/-- A binding while its part is being turned. -/
def accT (b : List Int) (f t i : Nat) : List Int := (List.range b.length).map fun j => if f ≤ j ∧ j < i then -(b.getD (f + t - j) 0) else b.getD j 0
theorem accT_len (b : List Int) (f t i : Nat) : (accT b f t i).length = b.length := by simp [accT]
theorem accT_at (b : List Int) (f t i j : Nat) (h : j < b.length) : (accT b f t i).getD j 0 = if f ≤ j ∧ j < i then -(b.getD (f + t - j) 0) else b.getD j 0 := by
  rw [List.getD_eq_getElem?_getD]
  simp [accT, h]
theorem accT_start (b : List Int) (f t : Nat) : accT b f t f = b := by
  refine ext_at (accT_len _ _ _ _) (fun j hj => ?_)
  rw [accT_at b f t f j hj, if_neg (by omega)]
theorem accT_end (b : List Int) (f t : Nat) (hf : f ≤ t) (ht : t < b.length) : accT b f t (t + 1) = turn b f t := by
  refine ext_at (by rw [accT_len, turn_len hf ht]) (fun j hj => ?_)
  rw [turn_len hf ht] at hj
  rw [accT_at b f t _ j hj, turn_at hf ht]
  by_cases h : f ≤ j ∧ j ≤ t
  · rw [if_pos h, if_pos (by omega)]
  · rw [if_neg h, if_neg (by omega)]
theorem accT_set (b : List Int) (f t i : Nat) (hi : f ≤ i) (h : i < b.length) : (accT b f t i).set i (-(b.getD (f + t - i) 0)) = accT b f t (i + 1) := by
  refine ext_at (by rw [List.length_set, accT_len, accT_len]) (fun j hj => ?_)
  rw [accT_len] at hj
  rw [accT_at b f t _ j hj]
  by_cases e : j = i
  · subst e
    rw [getD_set_self _ _ _ (by rw [accT_len]; exact h), if_pos (by omega)]
  · rw [List.getD_eq_getElem?_getD, List.getElem?_set_ne (fun h => e h.symm), ← List.getD_eq_getElem?_getD, accT_at b f t i j hj]
    by_cases h2 : f ≤ j ∧ j < i
    · rw [if_pos h2, if_pos (by omega)]
    · rw [if_neg h2, if_neg (by omega)]
theorem bd_at {n : Nat} {b : List Int} (h : Bd n b) (hn : n ≤ 8) (i : Nat) : -8 ≤ b.getD i 0 ∧ b.getD i 0 ≤ 8 := by
  rcases Nat.lt_or_ge i b.length with hi | hi
  · have := h.2.1 (b.getD i 0) (by rw [getD_at b 0 hi]; exact List.getElem_mem hi)
    omega
  · rw [List.getD_eq_getElem?_getD, List.getElem?_eq_none hi]
    decide
theorem biTurn_l0 {n : Nat} {b : List Int} (hb : Bd n b) (hn : n ≤ 8) (f t : Nat) (hf : f ≤ t) (ht : t < n) : ∀ (d i : Nat), i + d = t + 1 → f ≤ i → Ev (fun k => spec_biTurn.l0 k b (f : Int) (t : Int) (accT b f t i) (i : Int)) (turn b f t) := by
  have hl := hb.1
  intro d
  induction d with
  | zero =>
    intro i hi h1
    obtain rfl : i = t + 1 := by omega
    refine Ev_step (fun k => ?_) (Ev.now _)
    rw [spec_biTurn.l0, if_neg (by omega), accT_end b f t hf (by omega)]
  | succ d ih =>
    intro i hi h1
    have w1 : wrap64 (wrap64 ((f : Int) + (t : Int)) - (i : Int)) = ((f + t - i : Nat) : Int) := by rw [w64 (x := (f : Int) + t) (by omega) (by omega), w64 (by omega) (by omega)]; omega
    have ha := bd_at hb hn (f + t - i)
    refine Ev_step (fun k => ?_) (ih (i + 1) (by omega) (by omega))
    rw [spec_biTurn.l0, w1, if_pos (by omega), if_pos (by omega), if_pos (by omega), if_pos (by omega), if_pos (by rw [accT_len]; omega), nextI i (by omega), Int.toNat_natCast, rd_nat, w64 (x := -(b.getD (f + t - i) 0)) (by omega) (by omega), accT_set b f t i h1 (by omega)]
theorem biTurn_ev {n : Nat} {b : List Int} (hb : Bd n b) (hn : n ≤ 8) (f t : Nat) (hf : f ≤ t) (ht : t < n) : Ev (fun k => spec_biTurn.f k b (f : Int) (t : Int)) (turn b f t) := by
  have hl := hb.1
  simp only [spec_biTurn.f]
  refine Ev_some (a := b) ?_ ?_
  · rw [spec_l1Own.f]
    simp only [Option.bind_some, List.length_nil, List.nil_append]
    rw [if_pos (by omega)]
  · have := biTurn_l0 hb hn f t hf ht (t + 1 - f) f (by omega) (Nat.le_refl _)
    rwa [accT_start] at this
theorem turned_ev {n : Nat} {b : List Int} (hb : Bd n b) (hn : n ≤ 8) (f t : Nat) (hf : f ≤ t) (ht : t < n) : Ev (fun k => impl_turned.f k b (f : Int) (t : Int)) (turn b f t) := by
  have hl := hb.1
  simp only [impl_turned.f]
  refine Ev_some (a := b) ?_ (Ev.congr (fun k => same_l0 k b f t b f) ?_)
  · rw [clone_Int.f, if_pos (by omega)]
  · have := biTurn_l0 hb hn f t hf ht (t + 1 - f) f (by omega) (Nat.le_refl _)
    rwa [accT_start] at this
theorem right_succ (i : Nat) : right (i + 1) = right i ++ [(i : Int) + 1] := by simp [right, List.range_succ]
theorem right_l0 (n : Nat) (hn : n ≤ 8) : ∀ d i : Nat, i + d = n → Ev (fun k => impl_right.l0 k (right i) (n : Int) (i : Int)) (right n) := by
  intro d
  induction d with
  | zero =>
    intro i hi
    obtain rfl : i = n := by omega
    refine Ev_step (fun k => ?_) (Ev.now _)
    rw [impl_right.l0, if_neg (by omega)]
  | succ d ih =>
    intro i hi
    refine Ev_step (fun k => ?_) (ih (i + 1) (by omega))
    have w1 : wrap64 ((i : Int) + 1) = (i : Int) + 1 := w64 (by omega) (by omega)
    rw [impl_right.l0, if_pos (by omega), if_pos (by rw [right_len]; omega), w1, ← right_succ]
    rfl
theorem right_ev (n : Nat) (hn : n ≤ 8) : Ev (fun k => impl_right.f k (n : Int)) (right n) := by
  refine Ev.congr (fun k => ?_) (right_l0 n hn n 0 (by omega))
  rw [impl_right.f]
  rfl
theorem allOf_le {m : Nat} (h : m ≤ 8) : allOf m ≤ 10321920 := by
  rcases (by omega : m = 0 ∨ m = 1 ∨ m = 2 ∨ m = 3 ∨ m = 4 ∨ m = 5 ∨ m = 6 ∨ m = 7 ∨ m = 8) with rfl | rfl | rfl | rfl | rfl | rfl | rfl | rfl | rfl <;> decide
theorem biAll_l0 (n : Nat) (hn : n ≤ 8) : ∀ d m : Nat, m + d = n → Ev (fun k => spec_biAll.l0 k (n : Int) ((allOf m : Nat) : Int) ((m : Int) + 1)) ((allOf n : Nat) : Int) := by
  intro d
  induction d with
  | zero =>
    intro m hm
    obtain rfl : m = n := by omega
    refine Ev_step (fun k => ?_) (Ev.now _)
    rw [spec_biAll.l0, if_neg (by omega)]
  | succ d ih =>
    intro m hm
    refine Ev_step (fun k => ?_) (ih (m + 1) (by omega))
    have h1 := allOf_le (m := m + 1) (by omega)
    have w1 : wrap64 (2 * ((m : Int) + 1)) = ((2 * (m + 1) : Nat) : Int) := by rw [w64 (by omega) (by omega)]; omega
    have w2 : wrap64 (((allOf m : Nat) : Int) * ((2 * (m + 1) : Nat) : Int)) = ((allOf (m + 1) : Nat) : Int) := by
      have e : allOf m * (2 * (m + 1)) = allOf (m + 1) := rfl
      rw [← Int.natCast_mul, e, w64 (by omega) (by omega)]
    rw [spec_biAll.l0, if_pos (by omega), w1, w2, w64 (x := (m : Int) + 1 + 1) (by omega) (by omega)]
    rfl
theorem biAll_ev (n : Nat) (hn : n ≤ 8) : Ev (fun k => spec_biAll.f k (n : Int)) ((allOf n : Nat) : Int) := by
  refine Ev.congr (fun k => ?_) (biAll_l0 n hn n 0 (by omega))
  rw [spec_biAll.f]
  rfl
theorem biRank_l1 {n : Nat} {b : List Int} (hb : Bd n b) (hn : n ≤ 8) {i : Nat} (hi : i < n) (acc : Nat) (r : Int) (ha : acc ≤ 20000000)
    (hnext : Ev (fun k => spec_biRank.l0 k b ((acc * (2 * (n - i)) + digit n (b.take i) (b.getD i 0) : Nat) : Int) b (n : Int) ((i + 1 : Nat) : Int)) r) :
    ∀ d j : Nat, j + d = (b.getD i 0 + n).toNat → Ev (fun k => spec_biRank.l1 k b (acc : Int) (i : Int) (b.getD i 0) ((cnt (free (b.take i)) (-(n : Int)) j : Nat) : Int) (-(n : Int) + (j : Int)) b (n : Int) (i : Int)) r := by
  have hl := hb.1
  have hx := hb.2.1 (b.getD i 0) (by rw [getD_at b 0 (by omega)]; exact List.getElem_mem (by omega))
  have hcj : ∀ j, cnt (free (b.take i)) (-(n : Int)) j ≤ j := by
    intro j
    induction j with
    | zero => exact Nat.le_refl _
    | succ j ih => rw [cnt]; split <;> omega
  have ht : (b.take i).length ≤ 1048576 := by rw [List.length_take]; omega
  intro d
  induction d with
  | zero =>
    intro j hj
    obtain rfl : j = (b.getD i 0 + n).toNat := by omega
    have hd : cnt (free (b.take i)) (-(n : Int)) (b.getD i 0 + n).toNat = digit n (b.take i) (b.getD i 0) := rfl
    have hc := hcj (b.getD i 0 + n).toNat
    rw [hd] at hc ⊢
    have m1 : acc * 2 * (n - i) ≤ 20000000 * 2 * 8 := Nat.mul_le_mul (Nat.mul_le_mul_right _ ha) (by omega)
    have e1 : (((acc : Nat) : Int) * 2 * ((n : Int) - (i : Int))) = ((acc * 2 * (n - i) : Nat) : Int) := by
      rw [Int.natCast_mul, Int.natCast_mul, Int.natCast_sub (by omega)]
      rfl
    refine Ev_step (fun k => ?_) hnext
    rw [spec_biRank.l1, if_neg (by omega), nextI i (by omega), hl, w64 (x := (acc : Int) * 2) (by omega) (by omega), w64 (x := (n : Int) - (i : Int)) (by omega) (by omega), e1, w64 (x := ((acc * 2 * (n - i) : Nat) : Int)) (by omega) (by omega), w64 (by omega) (by omega), Nat.mul_assoc acc 2]
    congr 1
  | succ d ih =>
    intro j hj
    have hnx := ih (j + 1) (by omega)
    have w1 : wrap64 (-(n : Int) + (j : Int) + 1) = -(n : Int) + ((j + 1 : Nat) : Int) := by rw [w64 (by omega) (by omega)]; omega
    have w2 : wrap64 (-(-(n : Int) + (j : Int))) = -(-(n : Int) + (j : Int)) := w64 (by omega) (by omega)
    have hc := hcj j
    have w3 : wrap64 (((cnt (free (b.take i)) (-(n : Int)) j : Nat) : Int) + 1) = ((cnt (free (b.take i)) (-(n : Int)) j + 1 : Nat) : Int) := by rw [w64 (by omega) (by omega)]; omega
    have hs : ∀ k, spec_biRank.l1 (k + 1) b (acc : Int) (i : Int) (b.getD i 0) ((cnt (free (b.take i)) (-(n : Int)) j : Nat) : Int) (-(n : Int) + (j : Int)) b (n : Int) (i : Int) = _ := fun k => by
      rw [spec_biRank.l1, if_pos (by omega), w1, w2, w3, Int.toNat_natCast]
    refine Ev_step hs ?_
    have hf : free (b.take i) (-(n : Int) + (j : Int)) = (-(n : Int) + (j : Int) != 0 && (!(b.take i).contains (-(n : Int) + (j : Int)) && !(b.take i).contains (-(-(n : Int) + (j : Int))))) := rfl
    have hcs : cnt (free (b.take i)) (-(n : Int)) (j + 1) = cnt (free (b.take i)) (-(n : Int)) j + if free (b.take i) (-(n : Int) + (j : Int)) = true then 1 else 0 := rfl
    rw [hf] at hcs
    by_cases h0 : -(n : Int) + (j : Int) = 0
    · rw [show (-(n : Int) + (j : Int) != 0) = false by rw [h0]; rfl, Bool.false_and, if_neg (by decide), Nat.add_zero] at hcs
      rw [hcs] at hnx
      exact Ev_pos h0 hnx
    · rw [show (-(n : Int) + (j : Int) != 0) = true from bne_iff_ne.2 h0, Bool.true_and] at hcs
      refine Ev_neg h0 (Ev_pos (by omega) (Ev_pos (by omega) (Ev_bind (l1Has_ev _ _ ht) ?_)))
      cases h1 : (b.take i).contains (-(n : Int) + (j : Int)) with
      | true =>
        rw [h1, Bool.not_true, Bool.false_and, if_neg (by decide), Nat.add_zero] at hcs
        rw [hcs] at hnx
        exact Ev_pos rfl hnx
      | false =>
        rw [h1, Bool.not_false, Bool.true_and] at hcs
        refine Ev_neg (by decide) (Ev_bind (l1Has_ev _ _ ht) ?_)
        cases h2 : (b.take i).contains (-(-(n : Int) + (j : Int))) with
        | true =>
          rw [h2, Bool.not_true, if_neg (by decide), Nat.add_zero] at hcs
          rw [hcs] at hnx
          exact Ev_pos rfl hnx
        | false =>
          rw [h2, Bool.not_false, if_pos rfl] at hcs
          rw [hcs] at hnx
          exact Ev_neg (by decide) hnx
theorem biRank_l0 {n : Nat} {b : List Int} (hb : Bd n b) (hn : n ≤ 8) : ∀ (rest pre : List Int) (acc : Nat), pre ++ rest = b → rk n pre rest acc ≤ 20000000 → Ev (fun k => spec_biRank.l0 k b (acc : Int) b (n : Int) ((pre.length : Nat) : Int)) ((rk n pre rest acc : Nat) : Int) := by
  have hl := hb.1
  intro rest
  induction rest with
  | nil =>
    intro pre acc hp hr
    rw [List.append_nil] at hp
    refine Ev_step (fun k => ?_) (Ev.now _)
    rw [spec_biRank.l0, if_neg (by rw [hp, hl]; omega), rk]
  | cons x xs ih =>
    intro pre acc hp hr
    have hlen : pre.length + (xs.length + 1) = n := by rw [← hl, ← hp, List.length_append, List.length_cons]
    have hx : b.getD pre.length 0 = x := by rw [← hp, List.getD_eq_getElem?_getD, List.getElem?_append_right (Nat.le_refl _), Nat.sub_self]; rfl
    have htk : b.take pre.length = pre := by rw [← hp, List.take_left']; rfl
    rw [rk] at hr ⊢
    have hacc : acc ≤ 20000000 := by
      have h1 := rk_acc n xs (pre ++ [x]) (acc * (2 * (xs.length + 1)) + digit n pre x)
      have h2 := allOf_pos xs.length
      have h3 : acc * (2 * (xs.length + 1)) ≤ (acc * (2 * (xs.length + 1)) + digit n pre x) * allOf xs.length := Nat.le_trans (Nat.le_add_right _ _) (Nat.le_mul_of_pos_right _ h2)
      have h4 : acc ≤ acc * (2 * (xs.length + 1)) := Nat.le_mul_of_pos_right _ (by omega)
      omega
    have hnx := ih (pre ++ [x]) (acc * (2 * (xs.length + 1)) + digit n pre x) (by rw [List.append_assoc]; exact hp) hr
    rw [List.length_append, List.length_singleton] at hnx
    have hl1 := biRank_l1 hb hn (i := pre.length) (by omega) acc ((rk n (pre ++ [x]) xs (acc * (2 * (xs.length + 1)) + digit n pre x) : Nat) : Int) hacc (by
      rw [hx, htk, show n - pre.length = xs.length + 1 by omega]
      exact hnx) (b.getD pre.length 0 + n).toNat 0 (by omega)
    refine Ev_step (fun k => ?_) hl1
    rw [spec_biRank.l0, if_pos (by omega), if_pos (by omega), if_pos (by omega), rd_nat, hl, w64 (x := -(n : Int)) (by omega) (by omega)]
    rw [show (-(n : Int) + ((0 : Nat) : Int)) = -(n : Int) by omega]
    rfl
theorem biRank_ev {n : Nat} {b : List Int} (hb : Bd n b) (hn : n ≤ 8) : Ev (fun k => spec_biRank.f k b) ((rank b : Nat) : Int) := by
  have hr := rank_lt hb
  have ha := allOf_le hn
  have hl := hb.1
  unfold rank at hr ⊢
  rw [hl] at hr ⊢
  have := biRank_l0 hb hn b [] 0 rfl (by omega)
  refine Ev.congr (fun k => ?_) this
  rw [spec_biRank.f, hl]
  rfl
end Go.Proofs.YtppbpefehpbejaaDoor.P
end

section
set_option linter.unusedVariables false
namespace Go.Proofs.YtppbpefehpbejaaDoor.Far
open Go.Proofs.YtppbpefehpbejaaDoor.Order

/-- Each binding with its least number of turns. -/
def distO (n : Nat) : Out := (bfs n (allOf n + 2) 0 [(right n, 0)]).getD []
theorem dist_all (n : Nat) : Done n (distO n) ∧ (distO n).length ≤ allOf n ∧ bfs n (allOf n + 2) 0 [(right n, 0)] = some (distO n) := by
  obtain ⟨o, h1, h2, h3⟩ := bfs_ends (allOf n + 1) 0 _ (G.start n) (Nat.zero_le _) (by omega)
  have h4 := h3 (allOf n + 2) (by omega)
  have : distO n = o := by
    unfold distO
    rw [h4]
    rfl
  rw [this]
  exact ⟨h1, h2, h4⟩
/-- The parts from a first place on. -/
def rowsFrom (n f : Nat) : List (Nat × Nat) := (List.range' f (n - f)).flatMap fun f => (List.range' f (n - f)).map fun t => (f, t)
/-- The parts from a first and a last place on. -/
def restOf (n f t : Nat) : List (Nat × Nat) := (List.range' t (n - t)).map (fun t => (f, t)) ++ rowsFrom n (f + 1)
theorem pairs_rows (n : Nat) : pairs n = rowsFrom n 0 := by
  unfold pairs rowsFrom
  rw [List.range_eq_range']
  rfl
theorem rows_end (n : Nat) : rowsFrom n n = [] := by simp [rowsFrom]
theorem rows_rest {n f : Nat} (h : f < n) : rowsFrom n f = restOf n f f := by
  unfold restOf
  have : n - f = (n - (f + 1)) + 1 := by omega
  conv => lhs; unfold rowsFrom; rw [this, List.range'_succ, List.flatMap_cons]
  rfl
theorem rest_end (n f : Nat) : restOf n f n = rowsFrom n (f + 1) := by simp [restOf]
theorem rest_cons {n f t : Nat} (h : t < n) : restOf n f t = (f, t) :: restOf n f (t + 1) := by
  unfold restOf
  have : n - t = (n - (t + 1)) + 1 := by omega
  rw [this, List.range'_succ, List.map_cons, List.cons_append]
/-- What a turn puts behind. -/
def news (q : List Int) (o : Out) (p : Nat × Nat) : List (List Int) := if (o.lookup (turn q p.1 p.2)).isSome = true then [] else [turn q p.1 p.2]
theorem put_news (q : List Int) (d : Int) (o : Out) (p : Nat × Nat) : put q d o p = o ++ (news q o p).map (fun b => (b, d + 1)) := by
  unfold put news
  split
  · rw [List.map_nil, List.append_nil]
  · rfl
/-- All that the turns of one put behind. -/
def newsAll (q : List Int) (d : Int) : List (Nat × Nat) → Out → List (List Int)
  | [], _ => []
  | p :: ps, o => news q o p ++ newsAll q d ps (put q d o p)
theorem puts_news (q : List Int) (d : Int) : ∀ (ps : List (Nat × Nat)) (o : Out), ps.foldl (put q d) o = o ++ (newsAll q d ps o).map (fun b => (b, d + 1)) := by
  intro ps
  induction ps with
  | nil => intro o; simp [newsAll]
  | cons p ps ih =>
    intro o
    rw [List.foldl_cons, ih, put_news, newsAll, List.map_append, List.append_assoc, ← put_news]
/-- Some of the turns of one are done, rest is left. -/
def St (n : Nat) (o : Out) (q : List Int) (d : Int) (rest : List (Nat × Nat)) (o2 : Out) : Prop := ∃ ps, ps ++ rest = pairs n ∧ o2 = ps.foldl (put q d) o
theorem St.start (n : Nat) (o : Out) (q : List Int) (d : Int) : St n o q d (rowsFrom n 0) o := ⟨[], (pairs_rows n).symm, rfl⟩
theorem St.good {n i : Nat} {o o2 : Out} {q : List Int} {d : Int} {rest : List (Nat × Nat)} (h : St n o q d rest o2) (g : G n o i []) (he : o[i]? = some (q, d)) : (∃ dn, G n o2 i dn) ∧ o2[i]? = some (q, d) := by
  obtain ⟨ps, hp, rfl⟩ := h
  obtain ⟨g', s, hs⟩ := G.puts ps o [] (fun p hp' => mem_pairs.1 (by rw [← hp]; exact List.mem_append_left _ hp')) g he
  refine ⟨⟨_, g'⟩, ?_⟩
  show (ps.foldl (put q d) o)[i]? = _
  rw [hs, List.getElem?_append_left (List.getElem?_eq_some_iff.1 he).1]
  exact he
theorem St.step {n : Nat} {o o2 : Out} {q : List Int} {d : Int} {p : Nat × Nat} {rest : List (Nat × Nat)} (h : St n o q d (p :: rest) o2) : St n o q d rest (put q d o2 p) := by
  obtain ⟨ps, hp, rfl⟩ := h
  refine ⟨ps ++ [p], by rw [List.append_assoc]; exact hp, ?_⟩
  rw [List.foldl_append]
  rfl
theorem St.done {n : Nat} {o o2 : Out} {q : List Int} {d : Int} (h : St n o q d [] o2) : o2 = expand n (q, d) o := by
  obtain ⟨ps, hp, rfl⟩ := h
  rw [List.append_nil] at hp
  rw [hp]
  rfl
/-- The numbers rise by one at most, place by place. -/
def Bnd (o : Out) : Prop := ∀ (j : Nat) (e : List Int × Int), o[j]? = some e → e.2 ≤ (j : Int)
theorem Bnd.put {o : Out} {i : Nat} {e : List Int × Int} (h : Bnd o) (he : o[i]? = some e) (p : Nat × Nat) : Bnd (put e.1 e.2 o p) := by
  unfold Far.put
  split
  · exact h
  · intro j x hx
    have hi := h i e he
    have hil := (List.getElem?_eq_some_iff.1 he).1
    rcases Nat.lt_or_ge j o.length with hj | hj
    · rw [List.getElem?_append_left hj] at hx
      exact h j x hx
    · rw [List.getElem?_append_right hj] at hx
      have hz := (List.getElem?_eq_some_iff.1 hx).1
      rw [List.length_singleton] at hz
      obtain hz : j - o.length = 0 := by omega
      rw [hz] at hx
      obtain rfl := Option.some.inj hx
      show e.2 + 1 ≤ (j : Int)
      omega
theorem St.bnd {n i : Nat} {o o2 : Out} {q : List Int} {d : Int} {rest : List (Nat × Nat)} (h : St n o q d rest o2) (hb : Bnd o) (he : o[i]? = some (q, d)) : Bnd o2 := by
  obtain ⟨ps, hps, rfl⟩ := h
  clear hps
  induction ps generalizing o with
  | nil => exact hb
  | cons p ps ih =>
    have he' : (put q d o p)[i]? = some (q, d) := by
      obtain ⟨s, hs⟩ := put_more q d o p
      rw [hs, List.getElem?_append_left (List.getElem?_eq_some_iff.1 he).1]
      exact he
    exact ih (Bnd.put hb he p) he'
theorem Bnd.start (n : Nat) : Bnd [(right n, 0)] := by
  intro j e h
  have hz := (List.getElem?_eq_some_iff.1 h).1
  rw [List.length_singleton] at hz
  obtain rfl : j = 0 := by omega
  obtain rfl := Option.some.inj h
  exact Int.le_refl _
end Go.Proofs.YtppbpefehpbejaaDoor.Far
end

section
namespace Go.Proofs.YtppbpefehpbejaaDoor.P
open Go.RowKit Go.Proofs.YtppbpefehpbejaaDoorW.PrintWords Go.Proofs.YtppbpefehpbejaaDoorW.PrintLast Go.Proofs.YtppbpefehpbejaaDoorW.PrintMore Go.Proofs.YtppbpefehpbejaaDoor.Base Go.Proofs.YtppbpefehpbejaaDoor.Order Go.Proofs.YtppbpefehpbejaaDoor.Far
set_option linter.unusedVariables false
set_option linter.unusedSimpArgs false

/-- What the search answers. -/
def FarPost (n : Nat) (w : World) (e : Ending) (w' : World) : Prop := ∃ B, e = .returned (.map (some B)) ∧ w.heap.size ≤ B ∧ FarAt w' B (distO n) ∧ Below w.heap.size w w'
/-- The rows that were met, and which block they are not. -/
def Rows (w : World) (base B : Nat) (v : Value) (o : Out) : Prop := Kd.N (Kd.slice 3 (Kd.int .i64)) 49 w base (fun k => k ≠ B) v (o.map (·.1))
theorem Rows.at_ {w : World} {base B : Nat} {ad : Addr} {m c : Nat} {o : Out} (h : Rows w base B (.slice (some ad) m c) o) {i : Nat} {q : List Int} {d : Int} (hi : o[i]? = some (q, d)) :
    m = o.length ∧ ∃ A cc, w.cell? (ad.add i) = some (.slice A q.length cc) ∧ q.length ≤ cc ∧ Kd.C (Kd.int .i64) w A q.length q := by
  have hr := Kd.N_reads' h
  have hil := (List.getElem?_eq_some_iff.1 hi).1
  rw [List.length_map] at hr
  obtain ⟨ad', A, cc, e, hx, hl, hC⟩ := at_L2 hr.2.2 (i : Int) (by omega) (by omega)
  cases e
  have hq : rd_L2 (o.map (·.1)) (i : Int) = q := by
    unfold rd_L2
    rw [Int.toNat_natCast, List.getD_eq_getElem?_getD, List.getElem?_map, hi]
    rfl
  rw [hq] at hx hl hC
  rw [Int.toNat_natCast] at hx
  exact ⟨hr.1, A, cc, hx, hl, hC⟩

theorem Rows.slice {w : World} {base B : Nat} {v : Value} {o : Out} (h : Rows w base B v o) : ∃ A c, v = .slice A o.length c := by
  obtain ⟨A, c, e⟩ := Kd.N_slice h
  rw [List.length_map] at e
  exact ⟨A, c, e⟩
theorem add_nought (a : Addr) : a.add 0 = a := by
  unfold Addr.add
  rw [if_pos rfl]
theorem Rows.addr {w : World} {base B m c : Nat} {A : Option Addr} {o : Out} (h : Rows w base B (.slice A m c) o) (ho : 0 < o.length) : ∃ ad, A = some ad := by
  have hr := Kd.N_reads' h
  rw [List.length_map] at hr
  obtain ⟨ad, _, _, e, _⟩ := at_L2 hr.2.2 0 (by omega) (by omega)
  exact ⟨ad, e⟩
set_option maxHeartbeats 4000000 in
set_option maxRecDepth 100000 in
theorem distances_calls (n : Nat) (h1 : 1 ≤ n) (hn : n ≤ 5) (w : World) : Calls Tryd.prog 142 #[.int .i64 (n : Int)] w (FarPost n w) := by
  obtain ⟨K1, hK1⟩ := Ev_at (right_ev n (by omega))
  have HR1 := Aside0.mk (hK1 K1 (Nat.le_refl _))
  clear hK1
  have HB := Aside0.mk (Below.refl w.heap.size w)
  have HN := Aside0.mk (And.intro h1 hn)
  clear h1 hn
  go_enter Tryd.func142, Tryd.ntmps142
  go_wp2_with (first | (go_at_call 187; (with_reducible refine (impl_right.calls K1 (n : Int) (right n) _ HR1.out).mono ?_); rintro e w1 ⟨v1, rfl, ho, hb⟩; have HO1 := Aside0.mk ho; have HB1 := Aside0.mk hb; clear ho hb; obtain ⟨A1, c1, e1⟩ := Kd.R_slice HO1.out; subst e1) | ((with_reducible refine gate_dst (N := 13) rfl ?_); refine Kd.N_lit (Kd.slice 3 (Kd.int .i64)) _ 49 ?hg (N' := 13) ?hd (xs := ([right n] : List (List Int))) (inner := [.slice A1 (right n).length c1]) (ok := (fun _ => True)) (okp := (fun _ => True)) ?hr ?hp (fun _ hk => hk) trivial (Below.refl _ _) (Nat.le_refl _) (by simp) ?_; (case hd => rfl); (case hg => rfl); (case hr => first | (go_simp; done) | (go_simp; rfl)); (case hp => exact (Reps.one (show Kd.FK (Kd.slice 3 (Kd.int .i64)) _ _ (right n) [.slice A1 (right n).length c1] from (Kd.FK_slice_mk (Kd.R_reads' HO1.out).2.1 (Kd.R_F HO1.out))) (Reps.none _ _))); intro v2 w2 ho2 hb2 hg_ hnew_; clear hg_ hnew_; have HO2 := Aside0.mk ho2; have HB2 := Aside0.mk hb2; clear ho2 hb2; obtain ⟨A2, c2, e2⟩ := Kd.N_slice HO2.out; subst e2) | ((with_reducible refine gate_dst (N := 14) rfl ?_); refine far_event rfl rfl ?_; intro B w3 hB hF hb3; have HB3 := Aside0.mk (below_step (below_step HB1.out HB2.out) hb3); have HF := Aside0.mk hF; have GB := Aside0.mk (show w.heap.size ≤ B from by rw [hB]; exact Nat.le_trans HB1.out.size HB2.out.size); have HO := Aside0.mk (show Rows w3 w.heap.size B (.slice A2 1 c2) [(right n, 0)] from Kd.N_below (Kd.N_mono (Kd.N_elderB (Kd.N_lower HO2.out HB1.out.size) B (by rw [hB]; exact Nat.le_refl _)) (fun k hk => hk.2)) hb3); clear hB hF hb3 HO2 HO1; obtain ⟨ad, ea⟩ := HO.out.addr Nat.zero_lt_one; subst ea; obtain ⟨-, A3, c3, hx3, hl3, hC3⟩ := HO.out.at_ (i := 0) rfl; rw [add_nought] at hx3; have HL3 := Aside0.mk hl3; have HC3 := Aside0.mk hC3; clear hl3 hC3) | (go_at_call 151; (refine (keyOf_calls _ _ (right n) _ HC3.out (by rw [right_len]; have := HN.out; omega)).mono ?_); rintro e w4 ⟨rfl, hb⟩; have HF4 := Aside0.mk (HF.out.below hb); have HO4 := Aside0.mk (show Rows w4 w.heap.size B _ _ from Kd.N_below HO.out hb); have HB4 := Aside0.mk (below_step HB3.out hb); clear hb HF HO) | (refine far_insert rfl (.tmp 14) (.tmp 18) (.const (.int .i64 0)) rfl (n := n) (l := right n) (v := 0) (by rfl) (by rfl) (by rfl) HF4.out (by have := HN.out; omega) (right_bd n) (by decide) (by decide) ?_; intro w5 hF hg; have HF5 := Aside0.mk hF; have HO5 := Aside0.mk (show Rows w5 w.heap.size B _ _ from Kd.N_grown HO4.out hg (fun k hk e => hk (Option.some.inj e))); have HB5 := Aside0.mk (show Below w.heap.size w w5 from pw_below_grown HB4.out (some B) HB4.out.size hg (fun k e => by injection e with e; rw [← e]; exact GB.out)); clear hF hg HF4 HO4))
  have RT := Aside0.mk (dist_all n).2.2
  go_loopg [3, 5] (allOf n + 2) (fun kq v3 v5 w' => ∃ (o : Out) (i : Nat), v5 = .int .i64 (i : Int) ∧ Aside0 (G n o i [] ∧ bfs n kq i o = some (distO n) ∧ i ≤ o.length ∧ Bnd o) ∧ Aside0 (Rows w' w.heap.size B v3 o) ∧ Aside0 (FarAt w' B o) ∧ Aside0 (Below w.heap.size w w'))
  case atStart => exact ⟨[(right n, 0)], 0, rfl, ⟨G.start n, RT.out, Nat.zero_le _, Bnd.start n⟩, HO5, HF5, HB5⟩
  case round =>
    clear hx3 HO5 HF5 HB5 HB1 HB2 HB3 HB4 HL3 HC3 RT
    obtain ⟨o, i, rfl, HG, HO, HF, HB5⟩ := hrel
    cases gk with
    | zero => exact absurd HG.out.2.1 (by simp [bfs])
    | succ kk =>
    obtain ⟨A3, c3, e3⟩ := HO.out.slice
    subst e3
    by_cases hil : i < o.length
    · obtain ⟨q, d, hq⟩ : ∃ q d, o[i]? = some (q, d) := ⟨_, _, List.getElem?_eq_getElem hil⟩
      have HQ := Aside0.mk hq
      clear hq
      have c0 : decide ((i : Int) < (o.length : Int)) = true := decide_eq_true (by omega)
      have c1 : decide (i < o.length) = true := decide_eq_true hil
      clear hil
      go_wp2
      go_loopg [3, 27] n (fun kq v3 v27 w' => ∃ (o2 : Out) (f : Nat), v27 = .int .i64 (f : Int) ∧ Aside0 (f + kq = n) ∧ Aside0 (St n o q d (rowsFrom n f) o2) ∧ Aside0 (Rows w' w.heap.size B v3 o2) ∧ Aside0 (FarAt w' B o2) ∧ Aside0 (Below w.heap.size w w'))
      case atStart => exact ⟨o, 0, rfl, ⟨Nat.zero_add _⟩, ⟨St.start n o q d⟩, HO, HF, HB5⟩
      case round =>
        clear HO HF HB5 c0 c1
        obtain ⟨o2, f, rfl, HK, HS, HO, HF, HB5⟩ := hrel
        obtain rfl : gk = n - f := by have := HK.out; omega
        by_cases hf : f < n
        · have HFN := Aside0.mk hf
          have c0 : decide ((f : Int) < (n : Int)) = true := decide_eq_true (by omega)
          have c1 : decide (f < n) = true := decide_eq_true hf
          have HS2 := Aside0.mk (show St n o q d (restOf n f f) o2 from by rw [← rows_rest hf]; exact HS.out)
          clear hf HS
          go_wp2
          go_loopg [3, 7] (n - f) (fun kq v3 v7 w' => ∃ (o2 : Out) (t : Nat), v7 = .int .i64 (t : Int) ∧ Aside0 (t + kq = n ∧ f ≤ t) ∧ Aside0 (St n o q d (restOf n f t) o2) ∧ Aside0 (Rows w' w.heap.size B v3 o2) ∧ Aside0 (FarAt w' B o2) ∧ Aside0 (Below w.heap.size w w'))
          case atStart => exact ⟨o2, f, rfl, ⟨by have := HFN.out; omega, Nat.le_refl _⟩, HS2, HO, HF, HB5⟩
          case round =>
            clear HO HF HB5 c0 c1 HS2
            obtain ⟨o3, t, rfl, HK2, HS, HO, HF, HB5⟩ := hrel
            obtain rfl : gk = n - t := by have := HK2.out; omega
            obtain ⟨A4, c4, e4⟩ := HO.out.slice
            subst e4
            by_cases ht : t < n
            · have HTN := Aside0.mk ht
              have d0 : decide ((t : Int) < (n : Int)) = true := decide_eq_true (by omega)
              have d1 : decide (t < n) = true := decide_eq_true ht
              obtain ⟨hg3, hq3⟩ := St.good HS.out HG.out.1 HQ.out
              have hil := (List.getElem?_eq_some_iff.1 hq3).1
              obtain ⟨ad4, ea⟩ := HO.out.addr (Nat.lt_of_le_of_lt (Nat.zero_le _) hil)
              subst ea
              obtain ⟨-, A5, c5, hx5, hl5, hC5⟩ := HO.out.at_ hq3
              have HL5 := Aside0.mk hl5
              have HC5 := Aside0.mk hC5
              have d2 : decide ((i : Int) < (o3.length : Int)) = true := decide_eq_true (by omega)
              have d3 := eq_true hil
              have hqb : Bd n q := by
                obtain ⟨dn, g⟩ := hg3
                exact g.bd _ (List.mem_of_getElem? hq3)
              obtain ⟨K2, hK2⟩ := Ev_at (turned_ev hqb (by have := HN.out; omega) f t HK2.out.2 ht)
              have HT := Aside0.mk (hK2 K2 (Nat.le_refl _))
              have HNB := Aside0.mk (turn_bd hqb HK2.out.2 ht)
              have HG3 := Aside0.mk (And.intro hg3 hq3)
              have HQB := Aside0.mk hqb
              clear ht hil hl5 hC5 hqb hK2 hg3 hq3
              cases hl : o3.lookup (turn q f t) with
              | some v =>
                have HL := Aside0.mk hl
                clear hl
                go_wp2_with (first | (go_at_call 188; (with_reducible refine (impl_turned.calls K2 A5 c5 q (f : Int) (t : Int) (turn q f t) _ HC5.out HL5.out HT.out).mono ?_); rintro e w8 ⟨v8, rfl, ho, hb⟩; have HO8 := Aside0.mk ho; have HOb := Aside0.mk (show Rows w8 w.heap.size B _ o3 from Kd.N_below HO.out hb); have HFb := Aside0.mk (HF.out.below hb); have HBb := Aside0.mk (below_step HB5.out hb); clear ho hb HO HF HB5; obtain ⟨A8, c8, e8⟩ := Kd.R_slice HO8.out; subst e8) | (go_at_call 151; (refine (keyOf_calls A8 c8 (turn q f t) _ (Kd.R_reads' HO8.out).2.2 (by have := HN.out; have := HNB.out.1; omega)).mono ?_); rintro e w9 ⟨rfl, hb⟩; have HO := Aside0.mk (show Rows w9 w.heap.size B _ o3 from Kd.N_below HOb.out hb); have HF := Aside0.mk (HFb.out.below hb); have HB5 := Aside0.mk (below_step HBb.out hb); clear hb HOb HFb HBb HO8) | ((with_reducible refine gate_dst (N := 47) rfl ?_); refine far_look_ok rfl (.tmp 44) (.tmp 46) rfl (n := n) (l := turn q f t) (by rfl) (by rfl) HF.out (by have := HN.out; omega) (by obtain ⟨⟨dn, g⟩, _⟩ := HG3.out; exact g.bd) (by obtain ⟨⟨dn, g⟩, _⟩ := HG3.out; exact g.nd) HNB.out ?_; rw [HL.out]))
                go_roundg (n - (t + 1))
                case measure => have := HTN.out; omega
                case rel => exact ⟨o3, t + 1, congrArg (Value.int .i64) (nextI t (by have := HTN.out; have := HN.out; omega)), ⟨by have := HTN.out; omega, by have := HK2.out; omega⟩, ⟨by
                  have h := St.step (p := (f, t)) (by rw [← rest_cons HTN.out]; exact HS.out)
                  unfold put at h
                  rw [HL.out] at h
                  exact h⟩, HO, HF, HB5⟩
              | none =>
                have HL := Aside0.mk hl
                clear hl
                go_wp2_with (first | (go_at_call 188; (with_reducible refine (impl_turned.calls K2 A5 c5 q (f : Int) (t : Int) (turn q f t) _ HC5.out HL5.out HT.out).mono ?_); rintro e w8 ⟨v8, rfl, ho, hb⟩; have HO8 := Aside0.mk (show Kd.R (Kd.int .i64) 3 w8 wr.heap.size (fun k => k ≠ B) v8 (turn q f t) from Kd.R_mono (Kd.R_bound ho) (fun k hk => by have := hk.2.1; have := HF.out.lt; omega)); have HOb := Aside0.mk (show Rows w8 w.heap.size B _ o3 from Kd.N_below HO.out hb); have HFb := Aside0.mk (HF.out.below hb); have HBb := Aside0.mk (below_step HB5.out hb); clear ho hb HO HF HB5; obtain ⟨A8, c8, e8⟩ := Kd.R_slice HO8.out; subst e8) | (go_at_call 151; (refine (keyOf_calls A8 c8 (turn q f t) _ (Kd.R_reads' HO8.out).2.2 (by have := HN.out; have := HNB.out.1; omega)).mono ?_); rintro e w9 ⟨rfl, hb⟩; have HO9 := Aside0.mk (Kd.R_below HO8.out hb); have HO := Aside0.mk (show Rows w9 w.heap.size B _ o3 from Kd.N_below HOb.out hb); have HF := Aside0.mk (HFb.out.below hb); have HB5 := Aside0.mk (below_step HBb.out hb); clear hb HOb HFb HBb HO8; have HO8 := HO9; clear HO9; have hx6 := (HO.out.at_ HG3.out.2); obtain ⟨-, A6, c6, hx6, hl6, hC6⟩ := hx6; have HL6 := Aside0.mk hl6; have HC6 := Aside0.mk hC6; clear hl6 hC6 hx5 HC5 HL5) | ((with_reducible refine gate_dst (N := 47) rfl ?_); refine far_look_ok rfl (.tmp 44) (.tmp 46) rfl (n := n) (l := turn q f t) (by rfl) (by rfl) HF.out (by have := HN.out; omega) (by obtain ⟨⟨dn, g⟩, _⟩ := HG3.out; exact g.bd) (by obtain ⟨⟨dn, g⟩, _⟩ := HG3.out; exact g.nd) HNB.out ?_; rw [HL.out]))
                have HD : 0 ≤ d ∧ d ≤ 4000 ∧ o3.length ≤ 4000 ∧ o3.lookup q = some d := by
                  obtain ⟨⟨dn, g⟩, hq3⟩ := HG3.out
                  have h1 := g.nn _ (List.mem_of_getElem? hq3)
                  have h2 := St.bnd HS.out HG.out.2.2.2 HQ.out i (q, d) hq3
                  have h3 := g.few
                  have h4 : allOf n ≤ 3840 := by
                    have := HN.out
                    rcases (by omega : n = 1 ∨ n = 2 ∨ n = 3 ∨ n = 4 ∨ n = 5) with h | h | h | h | h <;> rw [h] <;> decide
                  have h5 := (List.getElem?_eq_some_iff.1 hq3).1
                  exact ⟨h1, by simp only at h2; omega, by omega, lookup_in g.nd (List.mem_of_getElem? hq3)⟩
                have HD := Aside0.mk HD
                have hw1 : IntKind.i64.wrap (d + 1) = d + 1 := IntWalk.i64_in _ (by have := HD.out; omega)
                have hw2 : wrap64 (d + 1) = d + 1 := w64 (by have := HD.out; omega) (by have := HD.out; omega)
                have HWF := Aside0.mk (show (Lit.int .i64 (d + 1)).wf = true from WalkArith.wf_i64 (by have := HD.out; omega))
                have hlk := far_run HF.out (by have := HN.out; omega) (by obtain ⟨⟨dn, g⟩, _⟩ := HG3.out; exact g.bd) (by obtain ⟨⟨dn, g⟩, _⟩ := HG3.out; exact g.nd) HQB.out
                rw [HD.out.2.2.2] at hlk
                replace hlk : (Instr.lookup 139 (.map (some B)) (keyV q) false).run Tryd.prog w9 = .ok (.int .i64 d) w9 := hlk
                replace HO := Aside0.mk (show Rows w9.drew w.heap.size B _ o3 from Kd.N_drew HO.out)
                replace HF := Aside0.mk (show FarAt w9.drew B o3 from World.ownsMap.drew HF.out)
                replace HB5 := Aside0.mk (below_drew HB5.out)
                replace HO8 := Aside0.mk (Kd.R_drew HO8.out)
                replace HC6 := Aside0.mk (Kd.C_drew HC6.out)
                go_region_with (first | (go_at_call 151; (first | ((with_reducible refine (keyOf_calls A8 c8 (turn q f t) _ ?x1 ?x2).mono ?_); (case x1 => exact (Kd.R_reads' HO8.out).2.2); (case x2 => have := HN.out; have := HNB.out.1; omega)) | ((with_reducible refine (keyOf_calls A6 c6 q _ ?x1 ?x2).mono ?_); (case x1 => exact HC6.out); (case x2 => have := HN.out; have := HQB.out.1; omega))); rintro e w10 ⟨rfl, hb⟩; replace HO := Aside0.mk (show Rows w10 w.heap.size B _ o3 from Kd.N_below HO.out hb); replace HF := Aside0.mk (HF.out.below hb); replace HB5 := Aside0.mk (below_step HB5.out hb); replace HO8 := Aside0.mk (Kd.R_below HO8.out hb); replace HC6 := Aside0.mk (Kd.C_below HC6.out hb); (first | replace hx6 := (hb.cell (World.block_lt_of_cell? _ _ hx6)).trans hx6 | replace hx6 := (hb.cell (World.block_lt_of_cell? w9.drew _ (show w9.drew.cell? _ = _ from hx6))).trans (show w9.drew.cell? _ = _ from hx6)); clear hb hlk; (try clear hrun HF11 HG11); have hlk := far_run HF.out (by have := HN.out; omega) (by obtain ⟨⟨dn, g⟩, _⟩ := HG3.out; exact g.bd) (by obtain ⟨⟨dn, g⟩, _⟩ := HG3.out; exact g.nd) HQB.out; rw [HD.out.2.2.2] at hlk; replace hlk : (Instr.lookup 139 (.map (some B)) (keyV q) false).run Tryd.prog w10 = .ok (.int .i64 d) w10 := hlk; obtain ⟨w11, hrun, hF11, hg11⟩ := far_update HF.out (by have := HN.out; omega) HNB.out (by have := HD.out; omega) HWF.out; have HF11 := Aside0.mk hF11; have HG11 := Aside0.mk hg11; clear hF11 hg11))
                all_goals
                  have HOa := Aside0.mk (show Rows w11 w.heap.size B _ o3 from Kd.N_grown HO.out HG11.out (fun k hk e => hk (Option.some.inj e)))
                  have HBa := Aside0.mk (show Below w.heap.size w w11 from pw_below_grown HB5.out (some B) HB5.out.size HG11.out (fun k e => by injection e with e; rw [← e]; exact GB.out))
                  have HRa := Aside0.mk (Kd.R_grown HO8.out HG11.out (fun k hk e => hk (Option.some.inj e)))
                  clear HO HF HB5 HO8 HC6 hx6 hlk hrun HG11 hw1
                  go_wp2_with ((with_reducible refine gate_builtin (b := .append) (xs := #[.tmp 63, .tmp 65]) rfl ?_); at_builtin; refine Kd.N_append (Kd.slice 3 (Kd.int .i64)) (w0 := w) w.heap.size rfl (.tmp 63) (.tmp 65) 172 49 (.slice none 0 0) 24 rfl Tryd.underlying172 info49 rfl (by decide) (by omega) (.slice (some ad4) o3.length c4) (o3.map (·.1)) (turn q f t) [.slice A8 (turn q f t).length c8] (fun k => k ≠ B) (fun k => k ≠ B ∧ some k ≠ (Value.slice (some ad4) o3.length c4).ownBlock) rfl rfl ?aP (fun _ hk => hk) ?aF ?aO ?aB ?aS ?aL ?_; (case aP => have R8 := Kd.R_apart' HRa.out (Kd.N_typed HOa.out) (by decide); exact Kd.FK_slice_mk (Kd.R_reads' R8).2.1 (Kd.R_F R8)); (case aF => exact fun k hk => by have := HF11.out.lt; omega); (case aO => exact HOa.out); (case aB => exact HBa.out); (case aS => exact HBa.out.size); (case aL => have := HD.out; rw [List.length_map]; omega); intro v12 w12 ho hb hg hat; have HO := Aside0.mk (show Rows w12 w.heap.size B v12 (o3 ++ [(turn q f t, d + 1)]) from by unfold Rows; rw [List.map_append]; exact ho); have HF := Aside0.mk (HF11.out.kept hg (fun e => (HOa.out.1 B e.symm) rfl)); have HB5 := Aside0.mk hb; clear ho hb hg hat HOa HBa HRa HF11)
                  go_roundg (n - (t + 1))
                  case measure => have := HTN.out; omega
                  case rel => exact ⟨o3 ++ [(turn q f t, d + 1)], t + 1, congrArg (Value.int .i64) (nextI t (by have := HTN.out; have := HN.out; omega)), ⟨by have := HTN.out; omega, by have := HK2.out; omega⟩, ⟨by
                    have h := St.step (p := (f, t)) (by rw [← rest_cons HTN.out]; exact HS.out)
                    unfold put at h
                    rw [HL.out] at h
                    exact h⟩, HO, HF, HB5⟩
            · have d0 : decide ((t : Int) < (n : Int)) = false := decide_eq_false (by omega)
              have d1 : decide (t < n) = false := decide_eq_false ht
              obtain rfl : t = n := by have := HK2.out; omega
              clear ht
              go_wp2
              go_roundg (t - (f + 1))
              case measure => have := HFN.out; omega
              case rel => exact ⟨o3, f + 1, congrArg (Value.int .i64) (nextI f (by have := HFN.out; have := HN.out; omega)), ⟨by have := HFN.out; omega⟩, ⟨by rw [← rest_end]; exact HS.out⟩, HO, HF, HB5⟩
        · have d0 : decide ((f : Int) < (n : Int)) = false := decide_eq_false (by omega)
          have d1 : decide (f < n) = false := decide_eq_false hf
          obtain rfl : f = n := by have := HK.out; omega
          clear hf
          go_wp2
          go_roundg kk
          case measure => omega
          case rel =>
            have hx := St.done (by rw [← rows_end f]; exact HS.out)
            subst hx
            obtain ⟨g1, g2, g3, g4⟩ := HG.out
            rw [bfs, HQ.out] at g2
            obtain ⟨g5, s, hs⟩ := g1.expand HQ.out
            have hb := St.bnd HS.out g4 HQ.out
            have hi := (List.getElem?_eq_some_iff.1 HQ.out).1
            exact ⟨expand f (q, d) o, i + 1, congrArg (Value.int .i64) (nextI i (by
              have := g1.few
              have h4 : allOf f ≤ 3840 := by
                have := HN.out
                rcases (by omega : f = 1 ∨ f = 2 ∨ f = 3 ∨ f = 4 ∨ f = 5) with h | h | h | h | h <;> rw [h] <;> decide
              omega)), ⟨g5, g2, by rw [hs, List.length_append]; omega, hb⟩, HO, HF, HB5⟩
    · have c0 : decide ((i : Int) < (o.length : Int)) = false := decide_eq_false (by omega)
      have c1 : decide (i < o.length) = false := decide_eq_false hil
      have hx : o = distO n := by
        have h := HG.out.2.1
        rw [bfs, List.getElem?_eq_none (Nat.le_of_not_lt hil)] at h
        exact Option.some.inj h
      clear hil
      have HX := Aside0.mk hx
      clear hx
      go_wp2
      go_ret
      exact ⟨B, rfl, GB.out, by rw [← HX.out]; exact HF.out, HB5.out⟩
end Go.Proofs.YtppbpefehpbejaaDoor.P
end

section
namespace Go.Proofs.YtppbpefehpbejaaDoor.P
open Go.Maps Go.RowKit Go.Proofs.YtppbpefehpbejaaDoorW.PrintWords Go.Proofs.YtppbpefehpbejaaDoor.Far
set_option linter.unusedVariables false
set_option linter.unusedSimpArgs false

theorem Dm_has {k : Lit} : ∀ o : Out, Maps.has (Dm o) k = true → ∃ e ∈ o, k = klit e.1 := by
  refine snoc_ind ?_ ?_
  · intro h
    cases h
  · intro o e ih h
    rw [Dm_snoc] at h
    by_cases hk : k = klit e.1
    · exact ⟨e, by simp, hk⟩
    · rw [has_put_other hk] at h
      obtain ⟨x, hx, e'⟩ := ih h
      exact ⟨x, by simp [hx], e'⟩
theorem same_self {k : Lit} (h : WideAt.IsKeyLit k) : k.sameKey k = true := by
  cases hs : k.sameKey k with
  | true => rfl
  | false =>
    have h1 := has_put_same (H := Unit) (isMap_empty) h (.lit (.bool true))
    rw [show ((DataW.map [] : DataW Unit).put k (.lit (.bool true))) = .map [(k, .lit (.bool true))] from rfl] at h1
    simp [Maps.has, hs] at h1
/-- A range over the map under way: what is still to come. -/
def FarIter (w : World) (B r : Nat) (o rem : Out) : Prop := ∃ left cnt, w.ranges Tryd.prog 142 (plainElem (H := Unit) Tryd.prog 3) B r o.length (Dm o) left cnt ∧ rem = o.filter (fun e => left (klit e.1))
theorem FarIter.owns {w : World} {B r : Nat} {o rem : Out} (h : FarIter w B r o rem) : FarAt w B o := by
  obtain ⟨left, cnt, h, _⟩ := h
  exact h.owns
theorem FarIter.kept {w w' : World} {B r : Nat} {o rem : Out} {row : Option Nat} (h : FarIter w B r o rem) (hg : w.grownBy w' row) (hb : some B ≠ row) (hr : some r ≠ row) : FarIter w' B r o rem := by
  obtain ⟨left, cnt, h, e⟩ := h
  exact ⟨left, cnt, h.kept hg hb hr, e⟩
theorem FarIter.below {w w' : World} {B r : Nat} {o rem : Out} (h : FarIter w B r o rem) (hb : Below w.heap.size w w') : FarIter w' B r o rem := h.kept (grown_of_below hb none) (by simp) (by simp)
theorem FarIter.lt {w : World} {B r : Nat} {o rem : Out} (h : FarIter w B r o rem) : r < w.heap.size := by
  obtain ⟨left, cnt, h, _⟩ := h
  exact h.lt
theorem filter_one {n : Nat} (hn : n ≤ 8) {e : List Int × Int} : ∀ (o : Out), (∀ x ∈ o, Bd n x.1) → (o.map (·.1)).Nodup → (left : Lit → Bool) → e ∈ o → left (klit e.1) = true →
    (o.filter (fun x => left (klit x.1))).Perm (e :: o.filter (fun x => left (klit x.1) && !(klit x.1).sameKey (klit e.1))) := by
  intro o
  induction o with
  | nil => intro _ _ _ h; cases h
  | cons a o ih =>
    intro hbd nd left he hl
    rw [List.map_cons, List.nodup_cons] at nd
    have ha := hbd a (by simp)
    rcases List.mem_cons.1 he with rfl | he
    · have h2 : o.filter (fun x => left (klit x.1) && !(klit x.1).sameKey (klit e.1)) = o.filter (fun x => left (klit x.1)) := by
        refine List.filter_congr (fun x hx => ?_)
        have hne : klit x.1 ≠ klit e.1 := fun h => nd.1 (by rw [← klit_inj (hbd x (by simp [hx])) ha hn h]; exact List.mem_map_of_mem hx)
        rw [sameKey_ne hne, Bool.not_false, Bool.and_true]
      rw [List.filter_cons, if_pos hl, List.filter_cons, if_neg (by rw [same_self (klit_is ha hn)]; simp), h2]
    · have hb := hbd e (by simp [he])
      have hne : klit a.1 ≠ klit e.1 := fun h => nd.1 (by rw [klit_inj ha hb hn h]; exact List.mem_map_of_mem he)
      have h3 := ih (fun x hx => hbd x (by simp [hx])) nd.2 left he hl
      rw [List.filter_cons, List.filter_cons, sameKey_ne hne, Bool.not_false, Bool.and_true]
      cases left (klit a.1) with
      | true =>
        simp only [if_true]
        exact (h3.cons a).trans (List.Perm.swap e a _)
      | false =>
        simp only [Bool.false_eq_true, if_false]
        exact h3
section
variable {w : World} {ops : Array Oper} {rest : List Oper} {o : Oper} {a : Act} {Q : Exit → Act → World → Prop} {n B r : Nat} {xs rem : Out}
theorem far_range (hg : o.guard = none) (m : Operand) (hop : o.op = Op.range 139 m) (hm : a.eval m = .map (some B)) (hF : FarAt w B xs) (hn : n ≤ 8) (hbd : ∀ e ∈ xs, Bd n e.1) (nd : (xs.map (·.1)).Nodup)
    (hK : ∀ r w', r = w.heap.size → FarIter w' B r xs xs → Below w.heap.size w w' → wpList Tryd.prog ops Q rest (a.put o.dst (.pointer (some ⟨r, 0, none⟩))) w') : wpList Tryd.prog ops Q (o :: rest) a w := by
  refine wpList_range_own w hg m 139 hop 142 3 farKeyed Tryd.underlying139 (plainElem (H := Unit) Tryd.prog 3) B xs.length (Dm xs) hm hF (fun w' h1 h2 h3 => hK _ w' rfl ⟨_, _, h1, ?_⟩ ⟨h2.os, h2.tape, h2.output, by omega, fun i hi => h2.block i hi (by simp)⟩)
  refine (List.filter_eq_self.2 (fun e he => ?_)).symm
  rw [(Dm_at (hbd e he) hn xs hbd nd).2, lookup_in nd he]
  rfl
theorem far_next (hg : o.guard = none) (it : Operand) (hop : o.op = Op.next it false) (hit : a.eval it = .pointer (some ⟨r, 0, none⟩)) (h : FarIter w B r xs rem) (hn : n ≤ 8) (hbd : ∀ e ∈ xs, Bd n e.1) (nd : (xs.map (·.1)).Nodup)
    (hDone : rem = [] → wpList Tryd.prog ops Q rest (a.put o.dst (.tuple #[.bool false])) w)
    (hMore : ∀ (q : List Int) (d : Int) (rem' : Out) (w' : World), rem.Perm ((q, d) :: rem') → (q, d) ∈ xs → FarIter w' B r xs rem' → w.grownBy w' (some r) → w'.heap.size = w.heap.size →
      (Instr.entry (.pointer (some ⟨r, 0, none⟩))).run Tryd.prog w' = .ok (.tuple #[keyV q, .int .i64 d]) w' → wpList Tryd.prog ops Q rest (a.put o.dst (.tuple #[.bool true, keyV q, .int .i64 d])) w') : wpList Tryd.prog ops Q (o :: rest) a w := by
  obtain ⟨left, cnt, h, rfl⟩ := h
  refine wpList_plain hg fun K' hK' => ?_
  unfold Oper.wp
  rcases h.next farKeyed o.type with ⟨h0, hl, hrun⟩ | ⟨key, v, kl, y, w', cnt', hkey, hlk, hv, hat, hrun, hrg, hlt, hgr, hsz, hen⟩
  · simp [execOp, hop, hit, hrun, Result.andThen]
    refine hK' _ _ (hDone ?_)
    rw [List.filter_eq_nil_iff]
    intro e _
    rw [hl]
    simp
  · obtain ⟨e, he, rfl⟩ := Dm_has xs (has_true_of_atKey hat)
    have hb := hbd e he
    have hk := farKeyed.inj hkey (klit_key hb hn)
    subst hk
    obtain ⟨c, rfl, hc, _⟩ := plainElem_int_inv Tryd.underlying3 hv
    have h1 := hat (.lit (.int .i64 0))
    rw [(Dm_at hb hn xs hbd nd).1, lookup_in nd he, hc] at h1
    injection h1 with h1
    injection h1 with _ h1
    have h2 : e.2 = c := h1
    subst h2
    simp [execOp, hop, hit, hrun, Result.andThen]
    exact hK' _ _ (hMore e.1 e.2 _ w' (filter_one hn xs hbd nd left he hlk) he ⟨_, _, hrg, rfl⟩ hgr hsz hen)
end
end Go.Proofs.YtppbpefehpbejaaDoor.P
end

section
set_option linter.unusedVariables false
namespace Go.Proofs.YtppbpefehpbejaaDoor.P
open Go.Proofs.YtppbpefehpbejaaDoor.Order Go.Proofs.YtppbpefehpbejaaDoor.Far

theorem small_all {n : Nat} (h1 : 1 ≤ n) (h : n ≤ 5) : (distO n).length ≤ 3840 := by
  refine Nat.le_trans (dist_all n).2.1 ?_
  rcases (by omega : n = 1 ∨ n = 2 ∨ n = 3 ∨ n = 4 ∨ n = 5) with h | h | h | h | h <;> rw [h] <;> decide
end Go.Proofs.YtppbpefehpbejaaDoor.P
end

section
namespace Go.Proofs.YtppbpefehpbejaaDoor.P
open Go.RowKit Go.Proofs.YtppbpefehpbejaaDoorW.PrintWords Go.Proofs.YtppbpefehpbejaaDoorW.PrintLast Go.Proofs.YtppbpefehpbejaaDoorW.PrintMore Go.Proofs.YtppbpefehpbejaaDoor.Base Go.Proofs.YtppbpefehpbejaaDoor.Order Go.Proofs.YtppbpefehpbejaaDoor.Far
set_option linter.unusedVariables false
set_option linter.unusedSimpArgs false

def impl_CountByTurns.f (k : Nat) (a0 a1 : Int) : Option (Int × Bool) := if 1 ≤ a0 ∧ a0 ≤ 5 ∧ 0 ≤ a1 then some (((distO a0.toNat).countP (fun e => e.2 == a1) : Nat), true) else some (0, false)
set_option maxHeartbeats 4000000 in
set_option maxRecDepth 100000 in
theorem impl_CountByTurns.calls (k : Nat) (a0 a1 : Int) (r1 : Int) (r2 : Bool) (w : World) (h : impl_CountByTurns.f k a0 a1 = some (r1, r2)) :
    Calls Tryd.prog 57 #[.int .i64 a0, .int .i64 a1] w fun e w' => e = .returned (.tuple #[.int .i64 r1, .bool r2]) ∧ Below w.heap.size w w' := by
  have HB := Aside0.mk (Below.refl w.heap.size w)
  unfold impl_CountByTurns.f at h
  by_cases hc : 1 ≤ a0 ∧ a0 ≤ 5 ∧ 0 ≤ a1
  · rw [if_pos hc] at h
    obtain ⟨h1, rfl⟩ := Prod.mk.inj (Option.some.inj h)
    have H1 := Aside0.mk h1
    obtain ⟨n, rfl⟩ := Int.eq_ofNat_of_zero_le (show 0 ≤ a0 by omega)
    have HN := Aside0.mk (show 1 ≤ n ∧ n ≤ 5 by omega)
    have HW := Aside0.mk (show impl_within.f (n : Int) 1 5 = some true by rw [within_eq]; unfold inB; rw [decide_eq_true (by omega)])
    have d0 : decide (a1 < 0) = false := decide_eq_false (by omega)
    clear h h1 hc
    go_enter Tryd.func57, Tryd.ntmps57
    go_wp2_with (first | (go_at_call 97; (with_reducible refine (impl_within.calls (n : Int) 1 5 true _ HW.out).mono ?_); rintro e w1 ⟨rfl, ⟨nd, rfl⟩⟩) | (go_at_call 142; (refine (distances_calls n HN.out.1 HN.out.2 _).mono ?_); rintro e w2 ⟨B, rfl, _, hF, hb⟩; have HFA := Aside0.mk hF; have HB2 := Aside0.mk (show Below w.heap.size w w2 from (pw_below_drewN (Below.refl w.heap.size w) nd).trans hb); clear hF hb) | ((with_reducible refine gate_dst (N := 18) rfl ?_); refine far_range rfl (.tmp 17) rfl (by rfl) HFA.out (n := n) (by have := HN.out; omega) (dist_all _).1.bd (dist_all _).1.nd ?_; intro r w3 hr hI hb; have HI := Aside0.mk hI; have HB3 := Aside0.mk (below_step HB2.out hb); have HR := Aside0.mk (show w.heap.size ≤ r from by rw [hr]; exact HB2.out.size); clear hr hI hb))
    go_frame
    go_loopg [6] (distO n).length (fun kq v6 w' => ∃ (rem : Out) (c : Nat), v6 = .int .i64 (c : Int) ∧ Aside0 (c + rem.countP (fun e => e.2 == a1) = (distO n).countP (fun e => e.2 == a1) ∧ rem.length ≤ kq) ∧ Aside0 (FarIter w' B r (distO n) rem) ∧ Aside0 (Below w.heap.size w w'))
    case atStart => exact ⟨distO n, 0, rfl, ⟨Nat.zero_add _, Nat.le_refl _⟩, HI, HB3⟩
    case round =>
      clear HI HB3
      obtain ⟨rem, c, rfl, HC, HI, HB3⟩ := hrel
      by_cases hr : rem = []
      · have HRM := Aside0.mk hr
        clear hr
        go_wp2_with ((with_reducible refine gate_dst (N := 19) rfl ?_); refine far_next rfl (.tmp 18) rfl (by rfl) HI.out (n := n) (by have := HN.out; omega) (dist_all _).1.bd (dist_all _).1.nd (fun _ => ?_) (fun q d rem' w' hp => absurd hp (by rw [HRM.out]; exact fun h => List.cons_ne_nil _ _ (List.nil_perm.1 h))))
        go_ret2
        have h := HC.out.1
        have h1 := H1.out
        rw [HRM.out, List.countP_nil, Nat.add_zero] at h
        rw [Int.toNat_natCast, ← h] at h1
        exact ⟨by rw [← h1]; rfl, HB3.out⟩
      · have HRM := Aside0.mk hr
        clear hr
        go_wp2_with ((with_reducible refine gate_dst (N := 19) rfl ?_); refine far_next rfl (.tmp 18) rfl (by rfl) HI.out (n := n) (by have := HN.out; omega) (dist_all _).1.bd (dist_all _).1.nd (fun h => absurd h HRM.out) ?_; intro q d rem' w4 hp hm hI hg hsz hen; have HP := Aside0.mk hp; have HI4 := Aside0.mk hI; have HB4 := Aside0.mk (show Below w.heap.size w w4 from pw_below_grown HB3.out (some r) HB3.out.size hg (fun k e => by injection e with e; rw [← e]; exact HR.out)); clear hp hm hI hg hsz)
        all_goals
          rename_i hd
          have HD := Aside0.mk hd
          clear hd hen
          go_roundg (gk - 1)
          case measure =>
            have h := HC.out.2
            have h2 := HP.out.length_eq
            rw [List.length_cons] at h2
            omega
          case rel =>
            have h1 := HC.out
            have h2 := HP.out.length_eq
            have h3 := HP.out.countP_eq (fun e => e.2 == a1)
            have h4 := small_all HN.out.1 HN.out.2
            have h5 : (distO n).countP (fun e => e.2 == a1) ≤ (distO n).length := List.countP_le_length
            rw [List.length_cons] at h2
            rw [List.countP_cons, HD.out] at h3
            first
            | exact ⟨rem', c + 1, congrArg (Value.int .i64) (nextI c (by omega)), ⟨by simp only [if_true] at h3; omega, by omega⟩, HI4, HB4⟩
            | exact ⟨rem', c, rfl, ⟨by simp only [Bool.false_eq_true, if_false] at h3; omega, by omega⟩, HI4, HB4⟩
  · rw [if_neg hc] at h
    obtain ⟨rfl, rfl⟩ := Prod.mk.inj (Option.some.inj h)
    clear h
    by_cases hw : 1 ≤ a0 ∧ a0 ≤ 5
    · have HW := Aside0.mk (show impl_within.f a0 1 5 = some true by rw [within_eq]; unfold inB; rw [decide_eq_true hw])
      have d0 : decide (a1 < 0) = true := decide_eq_true (by omega)
      clear hc hw
      go_enter Tryd.func57, Tryd.ntmps57
      go_wp2_with (go_at_call 97; (with_reducible refine (impl_within.calls a0 1 5 true _ HW.out).mono ?_); rintro e w1 ⟨rfl, ⟨nd, rfl⟩⟩)
      go_ret2
      exact ⟨rfl, pw_below_drewN (Below.refl w.heap.size w) nd⟩
    · have HW := Aside0.mk (show impl_within.f a0 1 5 = some false by rw [within_eq]; unfold inB; rw [decide_eq_false hw])
      clear hc hw
      go_enter Tryd.func57, Tryd.ntmps57
      go_wp2_with (go_at_call 97; (with_reducible refine (impl_within.calls a0 1 5 false _ HW.out).mono ?_); rintro e w1 ⟨rfl, ⟨nd, rfl⟩⟩)
      go_ret2
      exact ⟨rfl, pw_below_drewN (Below.refl w.heap.size w) nd⟩
end Go.Proofs.YtppbpefehpbejaaDoor.P
end

section
namespace Go.Proofs.YtppbpefehpbejaaDoor.P
open Go.RowKit Go.Proofs.YtppbpefehpbejaaDoorW.PrintWords Go.Proofs.YtppbpefehpbejaaDoorW.PrintLast Go.Proofs.YtppbpefehpbejaaDoorW.PrintMore
set_option linter.unusedVariables false
set_option linter.unusedSimpArgs false

theorem info_delInt : (Tryd.prog.info? 3).map (fun i => (i.zero, i.size, i.bytes)) = some (some (.int .i64 0), 1, 8) := by kernel_rfl
/-- What is known of the block behind the call. -/
def DelPostInt (g n c i j : Nat) (cur : Array Value) (w w' : World) : Prop :=
  ∃ cur' : Array Value, w'.heap[g]? = some (.cells cur' 3 (0, 0)) ∧ cur'.size = cur.size ∧ cur'.toList.take ((n - (j - i)) * 1) = cur.toList.take (i * 1) ++ (cur.toList.take (n * 1)).drop (j * 1) ∧ w.grownBy w' (some g)
theorem zero_delInt (W : World) : (zeroValue 3).run Tryd.prog W = .ok (.int .i64 0) W := by kernel_rfl
theorem grownBy_setInt (w : World) (g o : Nat) (vs : List Value) : w.grownBy (w.setCells g o vs) (some g) := by
  obtain ⟨s1, s2, s3, s4⟩ := setCells_same g vs o w
  exact ⟨s1, s2, s3, by rw [s4]; exact Nat.le_refl _, fun k _ hk => setCells_far vs _ k (fun he => hk (by rw [he]))⟩
/-- What clear lays. -/
def zeros_Int (n : Nat) : List Value := (Builtin.zeroCells (Value.cells (.int .i64 0)) n).toList
theorem zeros_lenInt (n : Nat) : (zeros_Int n).length = n * 1 := by simp [zeros_Int, Builtin.zeroCells, Value.cells]
theorem zeros_oneInt (n : Nat) : ∀ v ∈ zeros_Int n, v.oneCell' = true := by
  intro v hv
  simp only [zeros_Int, Builtin.zeroCells, Array.toList_map, List.mem_map] at hv
  obtain ⟨q, _, rfl⟩ := hv
  have hq : q % (Value.cells (.int .i64 0)).size < 1 := Nat.mod_lt _ (by decide)
  generalize q % (Value.cells (.int .i64 0)).size = r at hq ⊢
  match r, hq with
  | 0, _ => rfl
/-- clear of a slice of a known block. -/
theorem clear_runInt (W : World) (ty : TypeId) (g o n c : Nat) (cur : Array Value) (hh : W.heap[g]? = some (.cells cur 3 (0, 0))) (hn : 0 < n) (ho : o + n * 1 ≤ cur.size) :
    (Builtin.clear_ #[49] ty #[.slice (some ⟨g, o, none⟩) n c]).run Tryd.prog W = .ok (.tuple #[]) (W.setCells g o (zeros_Int n)) := by
  have hz := zeros_lenInt n
  have hst := run_storeCells_cells (P := Tryd.prog) g o (zeros_Int n) 0 W (fun j hj => by rw [cell_of_row W g _ cur _ (0, 0) hh]; rw [hz] at hj; simp; omega) (fun j _ => blk_frozen hh _) (zeros_oneInt n)
  simp only [Nat.add_zero] at hst
  unfold zeros_Int at hst ⊢
  obtain ⟨m, rfl⟩ : ∃ m, n = m + 1 := ⟨n - 1, by omega⟩
  have hzr := zero_delInt
  have hu := Tryd.underlying49
  simp [Builtin.clear_, run_underlying hu, hzr, hst]

set_option maxHeartbeats 4000000 in
set_option maxRecDepth 1000000 in
theorem delete_Int (g n c i j : Nat) (cur : Array Value) (w : World) (hh : w.heap[g]? = some (.cells cur 3 (0, 0))) (hcs : cur.size = c * 1) (hn : n ≤ c) (hc : c ≤ 9223372036854775807) (hij : i < j) (hj : j ≤ n) (hone : ∀ u ∈ cur.toList.take (n * 1), u.oneCell' = true) :
    Calls Tryd.prog 132 #[.slice (some ⟨g, 0, none⟩) n c, .int .i64 i, .int .i64 j] w fun e w' => e = .returned (.slice (some ⟨g, 0, none⟩) (n - (j - i)) c) ∧ DelPostInt g n c i j cur w w' := by
  obtain ⟨i0, hi0, hz0, hz1, hz2⟩ := info_parts info_delInt
  obtain ⟨news, hnews⟩ : ∃ news, news = (cur.toList.take (n * 1)).drop (j * 1) := ⟨_, rfl⟩
  have hlc : cur.toList.length = c * 1 := by simpa using hcs
  have hlen : news.length = (n - j) * 1 := by
    rw [hnews, List.length_drop, List.length_take, hlc]
    omega
  have hmem : ∀ u ∈ news, u ∈ cur.toList.take (n * 1) := fun u hu => List.mem_of_mem_drop (by rw [hnews] at hu; exact hu)
  have hget : ∀ t u, news[t]? = some u → cur[j * 1 + t]? = some u := by
    intro t u hu
    have ht := (List.getElem?_eq_some_iff.1 hu).1
    rw [hlen] at ht
    rw [hnews, List.getElem?_drop, List.getElem?_take, if_pos (by omega)] at hu
    simpa using hu
  obtain ⟨A, hA, hsrc⟩ : ∃ A : Addr, (if c = j then some (⟨g, 0, none⟩ : Addr) else (some (⟨g, 0, none⟩ : Addr)).map (·.add (j * 1))) = some A ∧ Hid (∀ t u, news[t]? = some u → w.drew.cell? (A.add t) = some u) := by
    by_cases h : c = j
    · refine ⟨⟨g, 0, none⟩, by simp [h], fun t u hu => ?_⟩
      have h0 : news.length = 0 := by rw [hlen]; omega
      rw [List.length_eq_zero_iff.1 h0] at hu
      simp at hu
    · refine ⟨⟨g, 0 + j * 1, none⟩, by simp [h, add_at], fun t u hu => ?_⟩
      rw [add_at, cell_of_row w.drew g _ cur _ (0, 0) hh, Nat.zero_add]
      exact hget t u hu
  have hcutF := cut_from (P := Tryd.prog) 49 3 .i64 Tryd.underlying49 hi0 1 hz1 (some ⟨g, 0, none⟩) n c (j : Int) (by omega) (by omega)
  have hcutT := cut_to (P := Tryd.prog) 49 3 .i64 Tryd.underlying49 hi0 (some ⟨g, 0, none⟩) n c (i : Int) (by omega) (by omega) hn
  simp only [Int.toNat_natCast] at hcutF hcutT
  rw [hA] at hcutF
  have s1 : Hid (news.length = (n - j) * 1) := hlen
  have s2 : Hid (∀ u ∈ news, u.oneCell' = true) := fun u hu => hone u (hmem u hu)
  have s3 : Hid (∀ t, t < news.length → (w.drew.cell? ⟨g, 0 + i * 1 + t, none⟩).isSome = true ∧ w.drew.frozen? ⟨g, 0 + i * 1 + t, none⟩ = false) := by
    intro t ht
    rw [hlen] at ht
    refine ⟨?_, blk_frozen (w := w.drew) hh _⟩
    rw [cell_of_row w.drew g _ cur _ (0, 0) hh]
    simp
    omega
  obtain ⟨W1, hW1⟩ : ∃ W1, W1 = w.drew.setCells g (0 + i * 1) news := ⟨_, rfl⟩
  obtain ⟨cur1, h3, h4, h5⟩ := setCells_row news (0 + i * 1) w.drew cur hh (by omega)
  rw [← hW1] at h3
  obtain ⟨m, hm0⟩ : ∃ m, m = i + (n - j) := ⟨_, rfl⟩
  have hcl := fun ty => clear_runInt W1 ty g (m * 1) (n - m) (c - m) cur1 h3 (by omega) (by omega)
  (try simp only [Nat.mul_one] at hcl)
  have hmid : ∀ W : World, (Instr.slice 49 (.slice (some ⟨g, 0, none⟩) m c) (some (.int .i64 (m : Int))) (some (.int .i64 (n : Int))) none).run Tryd.prog W = .ok (.slice (some ⟨g, 0 + m * 1, none⟩) (n - m) (c - m)) W := by
    intro W
    have hu := Tryd.underlying49
    have hel : Tryd.prog.elem 49 = 3 := by simp [Program.elem, hu]
    have hu' : Tryd.prog.underlying 49 = some (.slice (Tryd.prog.elem 49)) := by rw [hel]; exact hu
    have hne : ¬ c = m := by omega
    rw [run_slice_lh W 49 (some ⟨g, 0, none⟩) m c hu' .i64 .i64 (m : Int) (n : Int) (by omega) (by omega) (by omega), hel]
    simp [sizeOf, typeInfo, hi0, hz1, sliced, Result.andThen, hne, add_at]
  have hm : Hid (m = i + (n - j)) := hm0
  have hW : Hid (W1 = w.drew.setCells g (0 + i * 1) news) := hW1
  have h5' : Hid (cur1.toList = cur.toList.take (0 + i * 1) ++ news ++ cur.toList.drop (0 + i * 1 + news.length)) := h5
  have h3' : Hid (W1.heap[g]? = some (.cells cur1 3 (0, 0))) := h3
  have h4' : Hid (cur1.size = cur.size) := h4
  have hl' : Hid (news.length = (n - j) * 1) := hlen
  have hn' : Hid (news = (cur.toList.take (n * 1)).drop (j * 1)) := hnews
  have hlc' : Hid (cur.toList.length = c * 1) := hlc
  have hne : ¬ (i : Int) = (j : Int) := by omega
  have hic : i ≤ c := by omega
  have hjc : j ≤ c := by omega
  clear hm0 hW1 h5 h3 h4 hlen hnews hlc hcs hget hmem hone hh hA
  go_enter Tryd.func132, Tryd.ntmps132
  go_wp2_with fail
  go_region_law (refine step_append_room rfl (.tmp 22) (.tmp 25) 49 rfl 3 i0 1 Tryd.underlying49 hi0 hz1 g 0 i c (by simp [Act.eval, Act.put]) A (n - j) (c - j) news (by simp [Act.eval, Act.put]) s1.out hsrc.out s2.out (by omega) s3.out ?_; rw [← hW.out, ← hm.out])
  go_wp2
  go_ret
  have hlz := zeros_lenInt (n - m)
  have hmv := hm.out
  have e1 := hl'.out
  have e2 := hlc'.out
  have e3 := h4'.out
  have e4 : cur1.toList.length = c * 1 := by
    rw [Array.length_toList, e3, ← Array.length_toList, e2]
  obtain ⟨cur2, f3, f4, f5⟩ := setCells_row (zeros_Int (n - m)) (m * 1) W1 cur1 h3'.out (by rw [hlz, ← Array.length_toList, e4]; omega)
  have g1 : w.grownBy W1 (some g) := by
    rw [hW.out]
    have b := grownBy_setInt w.drew g (0 + i * 1) news
    exact ⟨b.os, b.tape, b.output, b.size, b.block⟩
  (try simp only [Nat.mul_one] at f3)
  refine ⟨by rw [show n - (j - i) = m by omega]; rfl, cur2, f3, by rw [f4, e3], ?_, ?_⟩
  · rw [f5, show (n - (j - i)) * 1 = m * 1 by rw [show n - (j - i) = m by omega], List.append_assoc, List.take_append_of_le_length (by rw [List.length_take, e4]; omega), List.take_take, Nat.min_self, h5'.out, List.take_append_of_le_length (by rw [List.length_append, List.length_take, e1, e2]; omega), List.take_of_length_le (by rw [List.length_append, List.length_take, e1, e2]; omega), Nat.zero_add, hn'.out]
  · obtain ⟨a1, a2, a3, a4, a5⟩ := g1
    obtain ⟨b1, b2, b3, b4, b5⟩ := grownBy_setInt W1 g m (zeros_Int (n - m))
    exact ⟨b1.trans a1, b2.trans a2, b3.trans a3, Nat.le_trans a4 b4, fun k hk hne => (b5 k (by omega) hne).trans (a5 k hk hne)⟩
end Go.Proofs.YtppbpefehpbejaaDoor.P
end

section
namespace Go.Proofs.YtppbpefehpbejaaDoor.P
open Go.Shelf Go.RowKit Go.Proofs.YtppbpefehpbejaaDoorW.PrintWords Go.Proofs.YtppbpefehpbejaaDoorW.PrintLast Go.Proofs.YtppbpefehpbejaaDoorW.PrintMore
set_option linter.unusedVariables false
set_option linter.unusedSimpArgs false

def insRen : Go.Shelf.Ren := ⟨fun | 21 => 134 | 27 => 184 | 28 => 185 | 35 => 204 | 39 => 213 | n => n, fun | 0 => 0 | 3 => 3 | 4 => 4 | 22 => 49 | n => n, fun n => n⟩
theorem insLays : Go.Proofs.Lays2.n21 Tryd.prog insRen := {
  mixed := by kernel_rfl
  f21 := Tryd.func134.trans (congrArg some (by kernel_rfl))
  f27 := Tryd.func184.trans (congrArg some (by kernel_rfl))
  f28 := Tryd.func185.trans (congrArg some (by kernel_rfl))
  f35 := Tryd.func204.trans (congrArg some (by kernel_rfl))
  f39 := Tryd.func213.trans (congrArg some (by kernel_rfl))
  t0 := Tryd.underlying0
  a0 := Tryd.isAgg0
  z0 := Tryd.sizeOf0
  v0 := Tryd.zeroValue0
  t3 := Tryd.underlying3
  a3 := Tryd.isAgg3
  z3 := Tryd.sizeOf3
  v3 := Tryd.zeroValue3
  t4 := Tryd.underlying4
  a4 := Tryd.isAgg4
  z4 := Tryd.sizeOf4
  v4 := Tryd.zeroValue4
  t22 := Tryd.underlying49
  a22 := Tryd.isAgg49
  z22 := Tryd.sizeOf49
  v22 := Tryd.zeroValue49
  i3 := by kernel_rfl }

/-- A row of the call's own as a block. -/
theorem row_block {v : Value} {xs : List Int} {w : World} {base : Nat} {ok : Nat → Prop} (HO : Kd.R (Kd.int .i64) 3 w base ok v xs) (h : 0 < xs.length) :
    ∃ (g c : Nat) (cur : Array Value), v = .slice (some ⟨g, 0, none⟩) xs.length c ∧ base ≤ g ∧ w.heap[g]? = some (.cells cur 3 (0, 0)) ∧ xs.length ≤ c ∧ c ≤ 9223372036854775807 ∧ cur.size = c ∧ cur.toList.take xs.length = encs (Value.int .i64) xs := by
  have ho := Kd.own_of_R HO
  rcases ho.2 with ⟨_, h0⟩ | ⟨g, c, cur, e, hb, hh, hnc, hcm, hcs, htake⟩
  · omega
  · exact ⟨g, c, cur, e, hb, hh, hnc, hcm, by simpa using hcs, by simpa using htake⟩
theorem block_row {xs : List Int} {w : World} {base g c n : Nat} {cur : Array Value} (hb : base ≤ g) (hh : w.heap[g]? = some (.cells cur 3 (0, 0))) (hn : n = xs.length) (hnc : xs.length ≤ c) (hcm : c ≤ 9223372036854775807) (hcs : cur.size = c) (ht : cur.toList.take xs.length = encs (Value.int .i64) xs) :
    Kd.R (Kd.int .i64) 3 w base (fun _ => True) (.slice (some ⟨g, 0, none⟩) n c) xs := by
  subst hn
  exact Kd.R_of_own ⟨by simp [encs], .inr ⟨g, c, cur, rfl, hb, hh, hnc, hcm, by simpa using hcs, by simpa using ht⟩⟩ (fun _ _ => trivial)
theorem encs_one (xs : List Int) : ∀ v ∈ encs (Value.int .i64) xs, v.oneCell' = true := by
  intro v hv
  obtain ⟨x, _, rfl⟩ := List.mem_map.1 hv
  rfl
/-- What is known behind Insert. -/
def InsPost (g c : Nat) (cur : Array Value) (out : List Value) (w w' : World) : Prop :=
  ∃ cur' : Array Value, w'.heap[g]? = some (.cells cur' 3 (0, 0)) ∧ cur'.size = cur.size ∧ cur'.toList.take out.length = out ∧ w.grownBy w' (some g)
theorem insert_Int (g n c i vb voff m vc : Nat) (cur cvb : Array Value) (cs vs : List Value) (w : World) (hh : w.heap[g]? = some (.cells cur 3 (0, 0))) (hv : w.heap[vb]? = some (.cells cvb 3 (0, 0))) (hne : vb ≠ g)
    (hi : i ≤ n) (hm : 0 < m) (hroom : n + m ≤ c) (hc : c ≤ 9223372036854775807) (hcs : cur.size = c) (hcl : cs.length = n) (hvl : vs.length = m) (htake : cur.toList.take n = cs) (hvs : ∀ j u, vs[j]? = some u → cvb[voff + j]? = some u)
    (h1c : ∀ v ∈ cs, v.oneCell' = true) (h1v : ∀ v ∈ vs, v.oneCell' = true) :
    Calls Tryd.prog 134 #[.slice (some ⟨g, 0, none⟩) n c, .int .i64 i, .slice (some ⟨vb, voff, none⟩) m vc] w fun e w' => e = .returned (.slice (some ⟨g, 0, none⟩) (n + m) c) ∧ InsPost g c cur (cs.take i ++ vs ++ cs.drop i) w w' := by
  have hlc : cur.toList.length = c := by rw [Array.length_toList]; exact hcs
  have hcell : ∀ j, w.cell? ⟨g, 0 + j, none⟩ = cur[j]? := fun j => by rw [cell_of_row w g _ cur _ (0, 0) hh, Nat.zero_add]
  have hcv : ∀ j u, vs[j]? = some u → w.cell? ⟨vb, voff + j, none⟩ = some u := fun j u hj => by rw [cell_of_row w vb _ cvb _ (0, 0) hv]; exact hvs j u hj
  rcases Nat.lt_or_ge i n with h | h
  · have hsa : w.shape? vb = some (3, cvb.size) := by unfold World.shape?; rw [hv]
    have hsb : w.shape? g = some (3, cur.size) := by unfold World.shape?; rw [hh]
    refine (Any2.slices_Insert_int_shift insLays g 0 n c i vb voff m vc cs vs w h hm hroom hc hne hcl hvl ?_ ?_ ?_ hcv h1c h1v _ _ _ _ hsa hsb (by omega) (blk_frozen hv _) (blk_frozen hv _)).mono ?_
    · intro j u hj
      rw [hcell, ← Array.getElem?_toList]
      have hjl := (List.getElem?_eq_some_iff.1 hj).1
      rw [← htake, List.getElem?_take, if_pos (by omega)] at hj
      exact hj
    · intro j hj
      rw [hcell, Array.getElem?_eq_getElem (by omega)]
      rfl
    · intro j _
      exact blk_frozen hh _
    · rintro e w' ⟨rfl, rfl⟩
      refine ⟨rfl, ?_⟩
      have hd : (cs.drop i).length = n - i := by rw [List.length_drop, hcl]
      obtain ⟨c1, a1, a2, a3⟩ := setCells_row (cs.drop i) (0 + (i + m)) w.drew cur hh (by omega)
      obtain ⟨c2, b1, b2, b3⟩ := setCells_row vs (0 + i) (w.drew.setCells g (0 + (i + m)) (cs.drop i)) c1 a1 (by omega)
      refine ⟨c2, b1, by omega, ?_, ?_⟩
      · have e1 : (cur.toList.take (i + m)).length = i + m := by rw [List.length_take]; omega
        have e0 : cur.toList.take i = cs.take i := by rw [← htake, List.take_take, Nat.min_eq_left (by omega)]
        rw [Nat.zero_add] at a3 b3
        have e2 : c1.toList.take i = cs.take i := by
          rw [a3, List.append_assoc, List.take_append_of_le_length (by omega), List.take_take, Nat.min_eq_left (by omega), e0]
        have e3 : c1.toList.drop (i + vs.length) = cs.drop i ++ cur.toList.drop (i + m + (cs.drop i).length) := by
          rw [a3, hvl, List.append_assoc, List.drop_left' e1]
        rw [b3, e2, e3, ← List.append_assoc, List.take_left' rfl]
      · have q1 := grownBy_setInt w.drew g (0 + (i + m)) (cs.drop i)
        have q2 := grownBy_setInt (w.drew.setCells g (0 + (i + m)) (cs.drop i)) g (0 + i) vs
        exact ⟨q2.os.trans q1.os, q2.tape.trans q1.tape, q2.output.trans q1.output, Nat.le_trans q1.size q2.size, fun k hk hk2 => (q2.block k (Nat.lt_of_lt_of_le hk q1.size) hk2).trans (q1.block k hk hk2)⟩
  · obtain rfl : i = n := by omega
    refine (Any2.slices_Insert_int_end_room insLays g 0 i c vb voff m vc vs w hm hroom hc hvl ?_ ?_ hcv h1v).mono ?_
    · intro j hj
      rw [Nat.add_assoc, hcell, Array.getElem?_eq_getElem (by omega)]
      rfl
    · intro j _
      exact blk_frozen hh _
    · rintro e w' ⟨rfl, rfl⟩
      refine ⟨rfl, ?_⟩
      obtain ⟨c1, a1, a2, a3⟩ := setCells_row vs (0 + i) w cur hh (by omega)
      refine ⟨c1, a1, a2, ?_, grownBy_setInt w g (0 + i) vs⟩
      have e1 : cs.take i = cs := List.take_of_length_le (by omega)
      have e2 : cs.drop i = [] := List.drop_of_length_le (by omega)
      rw [a3, Nat.zero_add, htake, e1, e2, List.append_nil, List.take_left' rfl]
end Go.Proofs.YtppbpefehpbejaaDoor.P
end

section
namespace Go.Proofs.YtppbpefehpbejaaDoor.P
open Go.RowKit Go.Proofs.YtppbpefehpbejaaDoorW.PrintWords Go.Proofs.YtppbpefehpbejaaDoorW.PrintLast Go.Proofs.YtppbpefehpbejaaDoorW.PrintMore
set_option linter.unusedVariables false
set_option linter.unusedSimpArgs false

/-- A part put in elsewhere. -/
def cutL (b : List Int) (f t a : Nat) : List Int := (b.take f ++ b.drop (t + 1)).take a ++ (b.take (t + 1)).drop f ++ (b.take f ++ b.drop (t + 1)).drop a
def cutOk (b : List Int) (f t a : Int) : Prop := 0 ≤ f ∧ f ≤ t ∧ t < b.length ∧ 0 ≤ a ∧ a + (t + 1 - f) ≤ b.length ∧ b.length < 17592186044416
instance (b : List Int) (f t a : Int) : Decidable (cutOk b f t a) := by unfold cutOk; infer_instance
def impl_CutPart.f (k : Nat) (b : List Int) (f t a : Int) : Option (List Int × Bool) :=
  (impl_IsBinding.f k b).bind fun g => (if g = true then ((impl_isPartOf.f b f t).bind fun p => (if p = true then ((impl_within.f a 0 (wrap64 ((b.length : Int) - (wrap64 ((wrap64 (t - f)) + 1))))).bind fun q => (if q = true then (if cutOk b f t a then some (cutL b f.toNat t.toNat a.toNat, true) else none) else some ([], false))) else some ([], false))) else some ([], false))
theorem run_cut (W : World) (vb n c f t : Nat) (h1 : f ≤ t) (h2 : t ≤ n) (h3 : n ≤ c) (h4 : f < n) (h63 : c ≤ 9223372036854775807) : (Instr.slice 49 (.slice (some ⟨vb, 0, none⟩) n c) (some (.int .i64 (f : Int))) (some (.int .i64 (t : Int))) none).run Tryd.prog W = .ok (.slice (some ⟨vb, f, none⟩) (t - f) (c - f)) W := by
  obtain ⟨i0, hi0, hz0, hz1, hz2⟩ := info_parts info_delInt
  have hu := Tryd.underlying49
  have hel : Tryd.prog.elem 49 = 3 := by simp [Program.elem, hu]
  have hu' : Tryd.prog.underlying 49 = some (.slice (Tryd.prog.elem 49)) := by rw [hel]; exact hu
  have hne : ¬ c = f := by omega
  rw [run_slice_lh W 49 (some ⟨vb, 0, none⟩) n c hu' .i64 .i64 (f : Int) (t : Int) (by omega) (by omega) (by omega), hel]
  simp [sizeOf, typeInfo, hi0, hz1, sliced, Result.andThen, hne, add_at]
theorem encs_take (xs : List Int) (n : Nat) : (encs (Value.int .i64) xs).take n = encs (Value.int .i64) (xs.take n) := by simp [encs]
theorem encs_drop (xs : List Int) (n : Nat) : (encs (Value.int .i64) xs).drop n = encs (Value.int .i64) (xs.drop n) := by simp [encs]
theorem encs_app (xs ys : List Int) : encs (Value.int .i64) xs ++ encs (Value.int .i64) ys = encs (Value.int .i64) (xs ++ ys) := by simp [encs]

theorem cut_del (f t : Nat) (l0 : List Int) (hf : f ≤ t) (ht : t < l0.length) (g c : Nat) (cur : Array Value) (w : World) (hh : w.heap[g]? = some (.cells cur 3 (0, 0))) (hnc : l0.length ≤ c) (hcm : c ≤ 9223372036854775807) (hcs : cur.size = c) (hct : cur.toList.take l0.length = encs (Value.int .i64) l0) :
    Calls Tryd.prog 132 #[.slice (some ⟨g, 0, none⟩) l0.length c, .int .i64 f, .int .i64 ((t : Int) + 1)] w fun e w' => e = .returned (.slice (some ⟨g, 0, none⟩) (l0.length - (t + 1 - f)) c) ∧ DelPostInt g l0.length c f (t + 1) cur w w' :=
  delete_Int g l0.length c f (t + 1) cur w hh (by rw [hcs, Nat.mul_one]) hnc hcm (by omega) (by omega) (by rw [Nat.mul_one, hct]; exact encs_one _)
theorem cut_ins (f t a : Nat) (l0 : List Int) (hf : f ≤ t) (ht : t < l0.length) (ha : a + (t + 1 - f) ≤ l0.length) (vb c0 : Nat) (cvb : Array Value) (htv : cvb.toList.take l0.length = encs (Value.int .i64) l0) (g c : Nat) (cur cur2 : Array Value) (w : World) (hv : w.heap[vb]? = some (.cells cvb 3 (0, 0))) (hne : vb ≠ g)
    (hh : w.heap[g]? = some (.cells cur2 3 (0, 0))) (hnc : l0.length ≤ c) (hcm : c ≤ 9223372036854775807) (hcs : cur.size = c) (h2 : cur2.size = cur.size) (hct : cur.toList.take l0.length = encs (Value.int .i64) l0) (h3 : cur2.toList.take ((l0.length - (t + 1 - f)) * 1) = cur.toList.take (f * 1) ++ (cur.toList.take (l0.length * 1)).drop ((t + 1) * 1)) :
    Calls Tryd.prog 134 #[.slice (some ⟨g, 0, none⟩) (l0.length - (t + 1 - f)) c, .int .i64 a, .slice (some ⟨vb, f, none⟩) (t + 1 - f) (c0 - f)] w fun e w' => e = .returned (.slice (some ⟨g, 0, none⟩) l0.length c) ∧ InsPost g c cur2 (encs (Value.int .i64) (cutL l0 f t a)) w w' := by
  have hq3 : cur2.toList.take (l0.length - (t + 1 - f)) = encs (Value.int .i64) (l0.take f ++ l0.drop (t + 1)) := by
    rw [Nat.mul_one, Nat.mul_one, Nat.mul_one, Nat.mul_one] at h3
    have h4 : cur.toList.take f = (cur.toList.take l0.length).take f := by rw [List.take_take, Nat.min_eq_left (by omega)]
    rw [h3, h4, hct, encs_take, encs_drop, encs_app]
  have h := insert_Int g (l0.length - (t + 1 - f)) c a vb f (t + 1 - f) (c0 - f) cur2 cvb (encs (Value.int .i64) (l0.take f ++ l0.drop (t + 1))) (encs (Value.int .i64) ((l0.take (t + 1)).drop f)) w hh hv hne (by omega) (by omega) (by omega) hcm (by rw [h2, hcs])
    (by simp [encs]; omega) (by simp [encs]; omega) hq3 (fun j u hj => by
      rw [← encs_drop, ← encs_take, List.getElem?_drop] at hj
      have hjl := (List.getElem?_eq_some_iff.1 hj).1
      rw [List.length_take] at hjl
      rw [List.getElem?_take, if_pos (by omega), ← htv, List.getElem?_take, if_pos (by omega), Array.getElem?_toList] at hj
      exact hj) (encs_one _) (encs_one _)
  rw [encs_take, encs_drop, encs_app, encs_app, Nat.sub_add_cancel (by omega)] at h
  exact h
set_option maxHeartbeats 1000000 in
set_option maxRecDepth 100000 in
theorem impl_CutPart.calls (k : Nat) (A0 : Option Addr) (c0 : Nat) (l0 : List Int) (a1 a2 a3 : Int) (r1 : List Int) (r2 : Bool) (w : World) (hr0 : ∃ base ok, Kd.R (Kd.int .i64) 3 w base ok (.slice A0 l0.length c0) l0) (hc0 : l0.length ≤ c0) (h : impl_CutPart.f k l0 a1 a2 a3 = some (r1, r2)) :
    Calls Tryd.prog 49 #[.slice A0 l0.length c0, .int .i64 a1, .int .i64 a2, .int .i64 a3] w fun e w' => ∃ v0_ : Value, e = .returned (.tuple #[v0_, .bool r2]) ∧ Kd.R (Kd.int .i64) 3 w' w.heap.size (fun _ => True) v0_ r1 ∧ Below w.heap.size w w' := by
  obtain ⟨base0, ok0, hrow⟩ := hr0
  have HR0 := Aside0.mk (Kd.R_reads' hrow).2.2
  have HC0 := Aside0.mk hc0
  have HROW := Aside0.mk hrow
  clear hrow hc0
  have HB := Aside0.mk (Below.refl w.heap.size w)
  unfold impl_CutPart.f at h
  replace h := Option.bind_eq_some_iff.mp h
  obtain ⟨g, A5', h⟩ := h
  have A5 := Aside0.mk A5'
  clear A5'
  cases g with
  | false =>
    rw [if_neg (by decide)] at h
    simp only [Option.some.injEq, Prod.mk.injEq] at h
    obtain ⟨rfl, rfl⟩ := h
    go_enter Tryd.func49, Tryd.ntmps49
    go_wp2_with (go_at_call 64; (with_reducible refine (impl_IsBinding.calls k _ _ l0 false _ ?side1 ?side2 A5.out).mono ?_); (case side1 => exact HR0.out); (case side2 => exact HC0.out); rintro e w10 ⟨rfl, hb⟩; have n0_ := Aside0.mk (below_step HB.out hb); clear HB hb; have HB := n0_; clear n0_)
    go_ret2
    exact ⟨_, rfl, Kd.R_nil _ _ _ _ _, by repeat (first | (with_reducible first | exact HB.out | apply below_alloc | apply pw_below_drewN | apply below_drew1) | exact HB.out)⟩
  | true =>
    rw [if_pos rfl] at h
    replace h := Option.bind_eq_some_iff.mp h
    obtain ⟨p, A7', h⟩ := h
    have A7 := Aside0.mk A7'
    clear A7'
    cases p with
    | false =>
      rw [if_neg (by decide)] at h
      simp only [Option.some.injEq, Prod.mk.injEq] at h
      obtain ⟨rfl, rfl⟩ := h
      go_enter Tryd.func49, Tryd.ntmps49
      go_wp2_with (first | (go_at_call 64; (with_reducible refine (impl_IsBinding.calls k _ _ l0 true _ ?side1 ?side2 A5.out).mono ?_); (case side1 => exact HR0.out); (case side2 => exact HC0.out); rintro e w10 ⟨rfl, hb⟩; have n0_ := Aside0.mk (below_step HB.out hb); clear HB hb; have HB := n0_; clear n0_) | (go_at_call 131; (with_reducible refine (impl_isPartOf.calls _ _ l0 a1 a2 false _ ?side1 ?side2 A7.out).mono ?_); (case side1 => exact Kd.C_below HR0.out (by repeat (first | (with_reducible first | exact HB.out | apply below_alloc | apply pw_below_drewN | apply below_drew1) | exact HB.out))); (case side2 => exact HC0.out); rintro e w' ⟨rfl, ⟨nd, rfl⟩⟩))
      go_ret2
      exact ⟨_, rfl, Kd.R_nil _ _ _ _ _, by repeat (first | (with_reducible first | exact HB.out | apply below_alloc | apply pw_below_drewN | apply below_drew1) | exact HB.out)⟩
    | true =>
      rw [if_pos rfl] at h
      replace h := Option.bind_eq_some_iff.mp h
      obtain ⟨q, A9', h⟩ := h
      have A9 := Aside0.mk A9'
      clear A9'
      cases q with
      | false =>
        rw [if_neg (by decide)] at h
        simp only [Option.some.injEq, Prod.mk.injEq] at h
        obtain ⟨rfl, rfl⟩ := h
        go_enter Tryd.func49, Tryd.ntmps49
        go_wp2_with (first | (go_at_call 64; (with_reducible refine (impl_IsBinding.calls k _ _ l0 true _ ?side1 ?side2 A5.out).mono ?_); (case side1 => exact HR0.out); (case side2 => exact HC0.out); rintro e w10 ⟨rfl, hb⟩; have n0_ := Aside0.mk (below_step HB.out hb); clear HB hb; have HB := n0_; clear n0_) | (go_at_call 131; (with_reducible refine (impl_isPartOf.calls _ _ l0 a1 a2 true _ ?side1 ?side2 A7.out).mono ?_); (case side1 => exact Kd.C_below HR0.out (by repeat (first | (with_reducible first | exact HB.out | apply below_alloc | apply pw_below_drewN | apply below_drew1) | exact HB.out))); (case side2 => exact HC0.out); rintro e w' ⟨rfl, ⟨nd, rfl⟩⟩) | (go_at_call 97; (with_reducible refine (impl_within.calls a3 0 (wrap64 ((l0.length : Int) - (wrap64 ((wrap64 (a2 - a1)) + 1)))) false _ A9.out).mono ?_); rintro e w' ⟨rfl, ⟨nd2, rfl⟩⟩))
        go_ret2
        exact ⟨_, rfl, Kd.R_nil _ _ _ _ _, by repeat (first | (with_reducible first | exact HB.out | apply below_alloc | apply pw_below_drewN | apply below_drew1) | exact HB.out)⟩
      | true =>
        rw [if_pos rfl] at h
        by_cases hk : cutOk l0 a1 a2 a3
        · rw [if_pos hk] at h
          simp only [Option.some.injEq, Prod.mk.injEq] at h
          obtain ⟨rfl, rfl⟩ := h
          obtain ⟨hk1, hk2, hk3, hk4, hk5, hk6⟩ := hk
          obtain ⟨f, rfl⟩ := Int.eq_ofNat_of_zero_le hk1
          obtain ⟨t, rfl⟩ := Int.eq_ofNat_of_zero_le (show 0 ≤ a2 by omega)
          obtain ⟨a, rfl⟩ := Int.eq_ofNat_of_zero_le hk4
          simp only [Int.toNat_natCast]
          have hf : f ≤ t := by omega
          have ht : t < l0.length := by omega
          have ha : a + (t + 1 - f) ≤ l0.length := by omega
          have hsum : IntKind.i64.wrap ((t : Int) + 1) = (t : Int) + 1 := by rw [i64_w]; unfold wrap64; omega
          obtain ⟨vb, c9, cvb, e9, hb9, hh9, hn9, hm9, hs9, ht9⟩ := row_block HROW.out (by omega)
          injection e9 with e91 e92 e93
          subst e91 e93
          clear e92 HROW
          have HV := Aside0.mk hh9
          have HT9 := Aside0.mk ht9
          have HC := Aside0.mk (show clone_Int.f l0 = some l0 by unfold clone_Int.f; rw [if_pos hk6])
          have hmid : ∀ W : World, (Instr.slice 49 (.slice (some ⟨vb, 0, none⟩) l0.length c0) (some (.int .i64 (f : Int))) (some (.int .i64 ((t : Int) + 1))) none).run Tryd.prog W = .ok (.slice (some ⟨vb, f, none⟩) (t + 1 - f) (c0 - f)) W := fun W => run_cut W vb l0.length c0 f (t + 1) (by omega) (by omega) hn9 (by omega) hm9
          have HF := Aside0.mk hf
          have HT := Aside0.mk ht
          have HA := Aside0.mk ha
          clear hk1 hk2 hk3 hk4 hk5 hk6 hf ht ha hh9 hb9 hn9 hm9 hs9 ht9
          go_enter Tryd.func49, Tryd.ntmps49
          go_wp2_with (first | (go_at_call 64; (with_reducible refine (impl_IsBinding.calls k _ _ l0 true _ ?side1 ?side2 A5.out).mono ?_); (case side1 => exact HR0.out); (case side2 => exact HC0.out); rintro e w10 ⟨rfl, hb⟩; have n0_ := Aside0.mk (below_step HB.out hb); clear HB hb; have HB := n0_; clear n0_) | (go_at_call 131; (with_reducible refine (impl_isPartOf.calls _ _ l0 f t true _ ?side1 ?side2 A7.out).mono ?_); (case side1 => exact Kd.C_below HR0.out (by repeat (first | (with_reducible first | exact HB.out | apply below_alloc | apply pw_below_drewN | apply below_drew1) | exact HB.out))); (case side2 => exact HC0.out); rintro e w' ⟨rfl, ⟨nd, rfl⟩⟩) | (go_at_call 97; refine (impl_within.calls a 0 _ true _ A9.out).mono ?_; rintro e w' ⟨rfl, ⟨nd2, rfl⟩⟩) | (go_at_call 133; refine (clone_Int.calls _ _ l0 l0 _ (Kd.C_below HR0.out (by repeat (first | (with_reducible first | exact HB.out | apply below_alloc | apply pw_below_drewN | apply below_drew1) | exact HB.out))) HC0.out HC.out).mono ?_; rintro e w1 ⟨v, rfl, hO, hb⟩; obtain ⟨g, c, cur, rfl, hg, hh, hnc, hcm, hcs, hct⟩ := row_block hO (by have := HT.out; omega); have HG := Aside0.mk (Nat.le_trans (below_size (by repeat (first | (with_reducible first | exact HB.out | apply below_alloc | apply pw_below_drewN | apply below_drew1) | exact HB.out))) hg); have HH := Aside0.mk hh; have HNC := Aside0.mk hnc; have HCM := Aside0.mk hcm; have HCS := Aside0.mk hcs; have HCT := Aside0.mk hct; have n0_ := Aside0.mk (below_step (by repeat (first | (with_reducible first | exact HB.out | apply below_alloc | apply pw_below_drewN | apply below_drew1) | exact HB.out)) hb); clear HB hb hO hg hh hnc hcm hcs hct; have HB := n0_; clear n0_) | (go_at_call 132; (with_reducible refine (cut_del f t l0 HF.out HT.out g c cur _ HH.out HNC.out HCM.out HCS.out HCT.out).mono ?_); rintro e w2 ⟨rfl, cur2, d1, d2, d3, d4⟩; have HD1 := Aside0.mk d1; have HD2 := Aside0.mk d2; have HD3 := Aside0.mk d3; have n0_ := Aside0.mk (HB.out.grown d4 HB.out.size (fun q hq => by injection hq with hq; rw [← hq]; exact HG.out)); clear HB d1 d2 d3 d4; have HB := n0_; clear n0_) | (go_at_call 134; (with_reducible refine (cut_ins f t a l0 HF.out HT.out HA.out vb c0 cvb HT9.out g c cur cur2 _ ?q1 ?q2 HD1.out HNC.out HCM.out HCS.out HD2.out HCT.out HD3.out).mono ?_); (case q1 => exact blk_below HV.out HB.out); (case q2 => have := blk_lt HV.out; have := HG.out; omega); rintro e w3 ⟨rfl, cur3, d1, d2, d3, d4⟩; have HE1 := Aside0.mk d1; have HE2 := Aside0.mk d2; have HE3 := Aside0.mk d3; have n0_ := Aside0.mk (HB.out.grown d4 HB.out.size (fun q hq => by injection hq with hq; rw [← hq]; exact HG.out)); clear HB d1 d2 d3 d4; have HB := n0_; clear n0_))
          go_ret2
          have hf := HF.out
          have ht := HT.out
          have ha := HA.out
          have hnc := HNC.out
          have hlen : (cutL l0 f t a).length = l0.length := by
            unfold cutL
            simp only [List.length_append, List.length_take, List.length_drop]
            omega
          refine ⟨_, rfl, block_row HG.out HE1.out hlen.symm (by rw [hlen]; exact hnc) HCM.out (by rw [HE2.out, HD2.out, HCS.out]) ?_, HB.out⟩
          have h3 := HE3.out
          have hl : (encs (Value.int .i64) (cutL l0 f t a)).length = (cutL l0 f t a).length := by simp [encs]
          rw [← hl]
          exact h3
        · rw [if_neg hk] at h
          cases h
end Go.Proofs.YtppbpefehpbejaaDoor.P
end

section
set_option linter.unusedVariables false
namespace Go.Proofs.YtppbpefehpbejaaDoor.Far
open Go.Proofs.YtppbpefehpbejaaDoor.Order

/-- The farthest one, the first of them. -/
def Best (o : Out) (b : List Int) (m : Int) : Prop := (b, m) ∈ o ∧ ∀ e ∈ o, e.2 < m ∨ e.2 = m ∧ lexlt e.1 b = false
theorem lex_irrefl : ∀ a : List Int, lexlt a a = false
  | [] => rfl
  | a :: r => by
    rw [lexlt, lex_irrefl r, Bool.and_false, Bool.or_false]
    exact decide_eq_false (by omega)
theorem Best.one {n : Nat} {o : Out} (hbd : ∀ e ∈ o, Bd n e.1) {b c : List Int} {m k : Int} (h : Best o b m) (h' : Best o c k) : b = c ∧ m = k := by
  have e : m = k := by
    have a1 := h.2 _ h'.1
    have a2 := h'.2 _ h.1
    simp only at a1 a2
    omega
  subst e
  refine ⟨?_, rfl⟩
  have a1 := h.2 _ h'.1
  have a2 := h'.2 _ h.1
  simp only at a1 a2
  rcases lex_total b c (by rw [(hbd _ h.1).1, (hbd _ h'.1).1]) with h1 | h1 | h1
  · rcases a2 with a2 | a2
    · omega
    · rw [a2.2] at h1; cases h1
  · exact h1
  · rcases a1 with a1 | a1
    · omega
    · rw [a1.2] at h1; cases h1
theorem lex_trans : ∀ (a b c : List Int), lexlt a b = true → lexlt b c = true → lexlt a c = true := by
  intro a
  induction a with
  | nil =>
    intro b c h1 h2
    cases b with
    | nil => cases h1
    | cons y ys => cases c with
      | nil => cases h2
      | cons z zs => rfl
  | cons x xs ih =>
    intro b c h1 h2
    cases b with
    | nil => cases h1
    | cons y ys =>
      cases c with
      | nil => cases h2
      | cons z zs =>
        simp only [lexlt, Bool.or_eq_true, decide_eq_true_eq, Bool.and_eq_true, beq_iff_eq] at h1 h2 ⊢
        rcases h1 with h1 | ⟨h1, h1'⟩
        · rcases h2 with h2 | ⟨h2, _⟩
          · exact .inl (by omega)
          · exact .inl (by omega)
        · rcases h2 with h2 | ⟨h2, h2'⟩
          · exact .inl (by omega)
          · exact .inr ⟨by omega, ih ys zs h1' h2'⟩
/-- The farthest one of those that have come; rem is still to come. -/
def Bst (o rem : Out) (b : List Int) (m : Int) : Prop := (b = [] ∧ m = -1 ∨ (b, m) ∈ o) ∧ ∀ e ∈ o, e ∈ rem ∨ e.2 < m ∨ e.2 = m ∧ lexlt e.1 b = false
theorem Bst.start (o : Out) : Bst o o [] (-1) := ⟨.inl ⟨rfl, rfl⟩, fun e he => .inl he⟩
theorem Bst.take {o rem rem' : Out} {b q : List Int} {m d : Int} (h : Bst o rem b m) (hp : rem.Perm ((q, d) :: rem')) (hm : (q, d) ∈ o) (hb : m < d ∨ d = m ∧ lexlt q b = true) : Bst o rem' q d := by
  refine ⟨.inr hm, fun e he => ?_⟩
  rcases h.2 e he with h1 | h1 | ⟨h1, h2⟩
  · rcases List.mem_cons.1 (hp.mem_iff.1 h1) with rfl | h1
    · exact .inr (.inr ⟨rfl, lex_irrefl _⟩)
    · exact .inl h1
  · rcases hb with hb | hb <;> exact .inr (.inl (by omega))
  · rcases hb with hb | ⟨hb, hl⟩
    · exact .inr (.inl (by omega))
    · refine .inr (.inr ⟨by omega, ?_⟩)
      cases hx : lexlt e.1 q with
      | false => rfl
      | true => rw [lex_trans _ _ _ hx hl] at h2; cases h2
theorem Bst.pass {o rem rem' : Out} {b q : List Int} {m d : Int} (h : Bst o rem b m) (hp : rem.Perm ((q, d) :: rem')) (hb : d < m ∨ d = m ∧ lexlt q b = false) : Bst o rem' b m := by
  refine ⟨h.1, fun e he => ?_⟩
  rcases h.2 e he with h1 | h1
  · rcases List.mem_cons.1 (hp.mem_iff.1 h1) with rfl | h1
    · exact .inr hb
    · exact .inl h1
  · exact .inr h1
theorem Bst.best {n : Nat} {o : Out} {b : List Int} {m : Int} (g : Done n o) (h : Bst o [] b m) : Best o b m := by
  have h0 := h.2 _ (lookup_mem g.zero)
  refine ⟨?_, fun e he => (h.2 e he).resolve_left (fun h => by cases h)⟩
  rcases h.1 with ⟨_, h1⟩ | h1
  · rcases h0 with h0 | h0 | h0
    · cases h0
    · simp only at h0; omega
    · simp only at h0; omega
  · exact h1
/-- The farthest one of all. -/
def farB (o : Out) : List Int × Int := o.foldl (fun s e => if s.2 < e.2 ∨ e.2 = s.2 ∧ lexlt e.1 s.1 = true then e else s) ([], -1)
theorem farB_best {n : Nat} {o : Out} (g : Done n o) : Best o (farB o).1 (farB o).2 := by
  have : ∀ (l pre : Out) (s : List Int × Int), o = pre ++ l → Bst o l s.1 s.2 → Bst o [] (l.foldl (fun s e => if s.2 < e.2 ∨ e.2 = s.2 ∧ lexlt e.1 s.1 = true then e else s) s).1 (l.foldl (fun s e => if s.2 < e.2 ∨ e.2 = s.2 ∧ lexlt e.1 s.1 = true then e else s) s).2 := by
    intro l
    induction l with
    | nil => intro _ s _ h; exact h
    | cons e l ih =>
      intro pre s ho h
      rw [List.foldl_cons]
      refine ih (pre ++ [e]) _ (by rw [List.append_assoc]; exact ho) ?_
      split
      · rename_i hc
        exact h.take (List.Perm.refl _) (by rw [ho]; simp) hc
      · rename_i hc
        refine h.pass (List.Perm.refl _) ?_
        rcases Int.lt_trichotomy s.2 e.2 with h1 | h1 | h1
        · exact absurd (.inl h1) hc
        · refine .inr ⟨h1.symm, ?_⟩
          cases hx : lexlt e.1 s.1 with
          | false => rfl
          | true => exact absurd (.inr ⟨h1.symm, hx⟩) hc
        · exact .inl h1
  exact Bst.best g (this o [] ([], -1) rfl (Bst.start o))
theorem farB_is {n : Nat} {o : Out} (g : Done n o) {b : List Int} {m : Int} (h : Bst o [] b m) : b = (farB o).1 ∧ m = (farB o).2 := Best.one g.bd (Bst.best g h) (farB_best g)
end Go.Proofs.YtppbpefehpbejaaDoor.Far
end

section
namespace Go.Proofs.YtppbpefehpbejaaDoor.P
open Go.RowKit Go.Proofs.YtppbpefehpbejaaDoorW.PrintWords Go.Proofs.YtppbpefehpbejaaDoorW.PrintLast Go.Proofs.YtppbpefehpbejaaDoorW.PrintMore Go.Proofs.YtppbpefehpbejaaDoor.Base Go.Proofs.YtppbpefehpbejaaDoor.Far
set_option linter.unusedVariables false

/-- What slices.Compare answers. -/
def cmpR : List Int → List Int → Int
  | a :: r, b :: s => if a < b then -1 else if b < a then 1 else cmpR r s
  | _, _ => 0
theorem cmpR_lt : ∀ (a b : List Int), a.length = b.length → (cmpR a b < 0 ↔ lexlt a b = true) := by
  intro a
  induction a with
  | nil =>
    intro b h
    cases b with
    | nil => exact ⟨(fun h => absurd h (by decide)), (fun h => by cases h)⟩
    | cons _ _ => cases h
  | cons x xs ih =>
    intro b h
    cases b with
    | nil => cases h
    | cons y ys =>
      have := ih ys (by simpa using h)
      rw [cmpR, lexlt]
      rcases Int.lt_trichotomy x y with h1 | rfl | h1
      · rw [if_pos h1, decide_eq_true h1, Bool.true_or]
        exact ⟨fun _ => rfl, fun _ => by decide⟩
      · rw [if_neg (by omega), if_neg (by omega), decide_eq_false (by omega), Bool.false_or, beq_self_eq_true, Bool.true_and]
        exact this
      · rw [if_neg (by omega), if_pos h1, decide_eq_false (by omega), Bool.false_or, beq_false_of_ne (by omega), Bool.false_and]
        exact ⟨fun h => absurd h (by decide), fun h => by cases h⟩
theorem cmp_eq (a b : Int) : cmp_Compare_int.f a b = some (if a < b then -1 else if b < a then 1 else 0) := by
  have h : ∀ x, cmp_isNaN_int.f x = some false := fun x => by simp [cmp_isNaN_int.f]
  rw [cmp_Compare_int.f, h, h]
  simp only [Option.bind_some]
  rw [if_neg (by decide), if_neg (by decide)]
  by_cases h1 : a < b
  · rw [if_pos h1, if_pos h1]
  · by_cases h2 : b < a
    · rw [if_neg h1, if_pos h2, if_neg h1, if_pos h2]
    · rw [if_neg h1, if_neg h2, if_neg h1, if_neg h2]
theorem compare_l0 (a b : List Int) (hl : a.length = b.length) (hn : a.length ≤ 1048576) : ∀ (d i : Nat), i + d = a.length → Ev (fun k => slices_Compare_int_int.l0 k a b a (a.length : Int) (i : Int)) (cmpR (a.drop i) (b.drop i)) := by
  intro d
  induction d with
  | zero =>
    intro i hi
    refine Ev_step (fun k => by rw [slices_Compare_int_int.l0, if_neg (by omega), if_neg (by omega)]) ?_
    rw [List.drop_of_length_le (by omega), List.drop_of_length_le (by omega)]
    exact Ev.now _
  | succ d ih =>
    intro i hi
    have h : i < a.length := by omega
    refine Ev_step (fun k => by rw [slices_Compare_int_int.l0, if_pos (by omega), if_pos (by omega), if_pos (by omega), if_neg (by omega), if_pos (by omega), rd_nat, rd_nat, nextI i (by omega)]) ?_
    refine Ev_some (cmp_eq _ _) ?_
    rw [List.drop_eq_getElem_cons h, List.drop_eq_getElem_cons (show i < b.length by omega), cmpR, ← getD_at a 0 h, ← getD_at b 0 (show i < b.length by omega)]
    by_cases h1 : a.getD i 0 < b.getD i 0
    · simp only [if_pos h1]
      exact Ev_neg (by decide) (Ev.now _)
    · simp only [if_neg h1]
      by_cases h2 : b.getD i 0 < a.getD i 0
      · simp only [if_pos h2]
        exact Ev_neg (by decide) (Ev.now _)
      · simp only [if_neg h2]
        first | exact Ev_pos rfl (ih (i + 1) (by omega)) | exact Ev_pos trivial (ih (i + 1) (by omega))
theorem compare_ev (a b : List Int) (hl : a.length = b.length) (hn : a.length ≤ 1048576) : Ev (fun k => slices_Compare_int_int.f k a b) (cmpR a b) :=
  Ev.congr (fun k => by rw [slices_Compare_int_int.f]; rfl) (compare_l0 a b hl hn a.length 0 (by omega))
end Go.Proofs.YtppbpefehpbejaaDoor.P
end

section
namespace Go.Proofs.YtppbpefehpbejaaDoor.P
open Go.RowKit Go.Proofs.YtppbpefehpbejaaDoorW.PrintWords Go.Proofs.YtppbpefehpbejaaDoorW.PrintLast Go.Proofs.YtppbpefehpbejaaDoorW.PrintMore Go.Proofs.YtppbpefehpbejaaDoor.Base Go.Proofs.YtppbpefehpbejaaDoor.Order Go.Proofs.YtppbpefehpbejaaDoor.Far
set_option linter.unusedVariables false
set_option linter.unusedSimpArgs false

def impl_FarthestBinding.f (k : Nat) (a0 : Int) : Option (List Int × Int × Bool) := if 1 ≤ a0 ∧ a0 ≤ 5 then some ((farB (distO a0.toNat)).1, (farB (distO a0.toNat)).2, true) else some ([], 0, false)
/-- Eight cells are written. -/
theorem put8 {w : World} {g : Nat} {t : TypeId} {z y0 y1 y2 y3 y4 y5 y6 y7 : Value} (h : w.heap[g]? = some (.cells #[z, z, z, z, z, z, z, z] t (0, 0))) :
    ((((((((w.setCell ⟨g, 0, none⟩ y0).setCell ⟨g, 1, none⟩ y1).setCell ⟨g, 2, none⟩ y2).setCell ⟨g, 3, none⟩ y3).setCell ⟨g, 4, none⟩ y4).setCell ⟨g, 5, none⟩ y5).setCell ⟨g, 6, none⟩ y6).setCell ⟨g, 7, none⟩ y7).heap[g]? = some (.cells #[y0, y1, y2, y3, y4, y5, y6, y7] t (0, 0)) := by
  refine blk_put (cs := #[y0, y1, y2, y3, y4, y5, y6, z]) ?_ 7 _ rfl
  refine blk_put (cs := #[y0, y1, y2, y3, y4, y5, z, z]) ?_ 6 _ rfl
  refine blk_put (cs := #[y0, y1, y2, y3, y4, z, z, z]) ?_ 5 _ rfl
  refine blk_put (cs := #[y0, y1, y2, y3, z, z, z, z]) ?_ 4 _ rfl
  refine blk_put (cs := #[y0, y1, y2, z, z, z, z, z]) ?_ 3 _ rfl
  refine blk_put (cs := #[y0, y1, z, z, z, z, z, z]) ?_ 2 _ rfl
  refine blk_put (cs := #[y0, z, z, z, z, z, z, z]) ?_ 1 _ rfl
  exact blk_put h 0 _ rfl
/-- What a written block keeps: all others. -/
theorem kept8 {w : World} {g : Nat} {y0 y1 y2 y3 y4 y5 y6 y7 : Value} : w.grownBy ((((((((w.setCell ⟨g, 0, none⟩ y0).setCell ⟨g, 1, none⟩ y1).setCell ⟨g, 2, none⟩ y2).setCell ⟨g, 3, none⟩ y3).setCell ⟨g, 4, none⟩ y4).setCell ⟨g, 5, none⟩ y5).setCell ⟨g, 6, none⟩ y6).setCell ⟨g, 7, none⟩ y7) (some g) := by
  have one : ∀ (W : World) (j : Nat) (y : Value), W.grownBy (W.setCell ⟨g, j, none⟩ y) (some g) := fun W j y => ⟨rfl, rfl, rfl, by simp [World.setCell], fun k _ hk => Below.heap_setCell W _ y k (fun e => hk (by rw [e]))⟩
  have both : ∀ {a b c : World}, a.grownBy b (some g) → b.grownBy c (some g) → a.grownBy c (some g) := fun h k => h.andThen k (fun j e => .inr e)
  exact both (both (both (both (both (both (both (one _ _ _) (one _ _ _)) (one _ _ _)) (one _ _ _)) (one _ _ _)) (one _ _ _)) (one _ _ _)) (one _ _ _)
theorem row_of_key {w : World} {g : Nat} {t : TypeId} {q : List Int} (hq : q.length ≤ 8) (h : w.heap[g]? = some (.cells #[.int .i64 (q.getD 0 0), .int .i64 (q.getD 1 0), .int .i64 (q.getD 2 0), .int .i64 (q.getD 3 0), .int .i64 (q.getD 4 0), .int .i64 (q.getD 5 0), .int .i64 (q.getD 6 0), .int .i64 (q.getD 7 0)] t (0, 0))) :
    Kd.C (Kd.int .i64) w (some ⟨g, 0, none⟩) q.length q := by
  refine ⟨rfl, by omega, fun hp => ⟨_, rfl, fun j p hj => ⟨[.int .i64 p], rfl, rfl, fun i u hu => ?_⟩⟩⟩
  obtain ⟨hl, rfl⟩ := List.getElem?_eq_some_iff.1 hj
  have hi : i = 0 := by
    have := (List.getElem?_eq_some_iff.1 hu).1
    simpa using this
  subst hi
  obtain rfl := Option.some.inj hu
  show w.cell? (Addr.add ⟨g, 0, none⟩ (j * 1 + 0)) = _
  rw [add_at, Nat.zero_add, Nat.mul_one, Nat.add_zero, blk_cell h j, ← getD_at q 0 hl]
  rcases (by omega : j = 0 ∨ j = 1 ∨ j = 2 ∨ j = 3 ∨ j = 4 ∨ j = 5 ∨ j = 6 ∨ j = 7) with rfl | rfl | rfl | rfl | rfl | rfl | rfl | rfl <;> rfl

/-- A copy of the row that a key's first numbers make. -/
theorem clone_key {w0 : World} {g n : Nat} {q : List Int} {t : TypeId} (hq : q.length = n) (hn : n ≤ 8) (h : w0.heap[g]? = some (.cells #[.int .i64 0, .int .i64 0, .int .i64 0, .int .i64 0, .int .i64 0, .int .i64 0, .int .i64 0, .int .i64 0] t (0, 0))) :
    Calls Tryd.prog 133 #[.slice (some ⟨g, 0, none⟩) n 8] ((((((((w0.setCell ⟨g, 0, none⟩ (.int .i64 (q[0]?.getD 0))).setCell ⟨g, 1, none⟩ (.int .i64 (q[1]?.getD 0))).setCell ⟨g, 2, none⟩ (.int .i64 (q[2]?.getD 0))).setCell ⟨g, 3, none⟩ (.int .i64 (q[3]?.getD 0))).setCell ⟨g, 4, none⟩ (.int .i64 (q[4]?.getD 0))).setCell ⟨g, 5, none⟩ (.int .i64 (q[5]?.getD 0))).setCell ⟨g, 6, none⟩ (.int .i64 (q[6]?.getD 0))).setCell ⟨g, 7, none⟩ (.int .i64 (q[7]?.getD 0))) fun e w' => ∃ v : Value, e = .returned v ∧ Kd.R (Kd.int .i64) 3 w' w0.heap.size (fun _ => True) v q ∧ w0.grownBy w' (some g) := by
  subst hq
  have hp := put8 (y0 := .int .i64 (q[0]?.getD 0)) (y1 := .int .i64 (q[1]?.getD 0)) (y2 := .int .i64 (q[2]?.getD 0)) (y3 := .int .i64 (q[3]?.getD 0)) (y4 := .int .i64 (q[4]?.getD 0)) (y5 := .int .i64 (q[5]?.getD 0)) (y6 := .int .i64 (q[6]?.getD 0)) (y7 := .int .i64 (q[7]?.getD 0)) h
  have hk := kept8 (w := w0) (g := g) (y0 := .int .i64 (q[0]?.getD 0)) (y1 := .int .i64 (q[1]?.getD 0)) (y2 := .int .i64 (q[2]?.getD 0)) (y3 := .int .i64 (q[3]?.getD 0)) (y4 := .int .i64 (q[4]?.getD 0)) (y5 := .int .i64 (q[5]?.getD 0)) (y6 := .int .i64 (q[6]?.getD 0)) (y7 := .int .i64 (q[7]?.getD 0))
  simp only [← List.getD_eq_getElem?_getD] at hp hk ⊢
  refine (clone_Int.calls (some ⟨g, 0, none⟩) 8 q q _ (row_of_key hn hp) hn (by rw [clone_Int.f, if_pos (by omega)])).mono ?_
  rintro e w' ⟨v, rfl, hO, hB⟩
  exact ⟨v, rfl, Kd.R_lower hO hk.size, hk.andThen (grown_of_below hB (some g)) (fun j e => .inr e)⟩

set_option maxHeartbeats 8000000 in
set_option maxRecDepth 100000 in
theorem impl_FarthestBinding.calls (k : Nat) (a0 : Int) (r1 : List Int) (r2 : Int) (r3 : Bool) (w : World) (h : impl_FarthestBinding.f k a0 = some (r1, r2, r3)) :
    Calls Tryd.prog 60 #[.int .i64 a0] w fun e w' => ∃ v0_ : Value, e = .returned (.tuple #[v0_, .int .i64 r2, .bool r3]) ∧ Kd.R (Kd.int .i64) 3 w' w.heap.size (fun _ => True) v0_ r1 ∧ Below w.heap.size w w' := by
  unfold impl_FarthestBinding.f at h
  by_cases hc : 1 ≤ a0 ∧ a0 ≤ 5
  · rw [if_pos hc] at h
    obtain ⟨n, rfl⟩ := Int.eq_ofNat_of_zero_le (show 0 ≤ a0 by omega)
    rw [Int.toNat_natCast] at h
    obtain ⟨h1, h⟩ := Prod.mk.inj (Option.some.inj h)
    obtain ⟨h2, rfl⟩ := Prod.mk.inj h
    have H1 := Aside0.mk (And.intro h1 h2)
    have HN := Aside0.mk (show 1 ≤ n ∧ n ≤ 5 by omega)
    have HW := Aside0.mk (show impl_within.f (n : Int) 1 5 = some true by rw [within_eq]; unfold inB; rw [decide_eq_true (by omega)])
    have hn5 : n ≤ 5 := by omega
    have hn1 : 1 ≤ n := by omega
    clear h1 h2 hc h
    (try clear h)
    (try clear h)
    have hal : Tryd.prog.arrayLen 142 = 8 := by kernel_rfl
    have hu53 := Tryd.underlying142
    have hn8 : n ≤ 8 := by omega
    have hn8' : (n : Int) ≤ 8 := by omega
    go_enter Tryd.func60, Tryd.ntmps60
    go_wp2_with (first | (go_at_call 97; (with_reducible refine (impl_within.calls (n : Int) 1 5 true _ HW.out).mono ?_); rintro e w1 ⟨rfl, ⟨nd, rfl⟩⟩) | ((with_reducible refine gate_dst (N := 13) rfl ?_); refine Kd.R_lit (Kd.int .i64) _ 3 ?hg (N := 13) ?hd (xs := ([] : List Int)) (inner := []) (ok := fun _ => True) (okp := fun _ => True) ?hr ?hp (fun _ hk => hk) trivial (Below.refl _ _) (Nat.le_refl _) (by simp) ?_; (case hd => rfl); (case hg => rfl); (case hr => first | (go_simp; done) | (go_simp; rfl)); (case hp => exact (Reps.none _ _)); intro v5 w2 ho hb hg_ hnew_; clear hg_ hnew_; have HB2 := Aside0.mk (show Below w.heap.size w w2 from (pw_below_drewN (Below.refl w.heap.size w) nd).trans hb); have HO2 := Aside0.mk (show Kd.R (Kd.int .i64) 3 w2 w.heap.size (fun _ => True) v5 [] from ho); clear ho hb) | (go_at_call 142; (refine (distances_calls n HN.out.1 HN.out.2 _).mono ?_); rintro e w3 ⟨B, rfl, hB, hF, hb⟩; have HFA := Aside0.mk hF; have HB3 := Aside0.mk (below_step HB2.out hb); have HO3 := Aside0.mk (show Kd.R (Kd.int .i64) 3 w3 w.heap.size (fun k => k ≠ B) v5 [] from Kd.R_below (Kd.R_mono (Kd.R_bound HO2.out) (fun k hk => by have := hk.2.2.1; omega)) hb); clear hF hb hB HO2) | ((with_reducible refine gate_dst (N := 16) rfl ?_); refine far_range rfl (.tmp 15) rfl (by rfl) HFA.out (n := n) (by have := HN.out; omega) (dist_all _).1.bd (dist_all _).1.nd ?_; intro r w4 hr hI hb; have HI := Aside0.mk hI; have HB4 := Aside0.mk (below_step HB3.out hb); have HR := Aside0.mk (show w.heap.size ≤ r from by rw [hr]; exact HB3.out.size); have HO := Aside0.mk (show Kd.R (Kd.int .i64) 3 w4 w.heap.size (fun k => k ≠ B ∧ k ≠ r) v5 [] from Kd.R_below (Kd.R_mono (Kd.R_bound HO3.out) (fun k hk => ⟨hk.1, by have := hk.2.2.1; omega⟩)) hb); clear hr hI hb HO3))
    go_frame
    go_loopg [5, 6] (distO n).length (fun kq v5 v6 w' => ∃ (rem : Out) (b : List Int) (m : Int), v6 = .int .i64 m ∧ Aside0 (Bst (distO n) rem b m ∧ rem.length ≤ kq) ∧ Aside0 (Kd.R (Kd.int .i64) 3 w' w.heap.size (fun k => k ≠ B ∧ k ≠ r) v5 b) ∧ Aside0 (FarIter w' B r (distO n) rem) ∧ Aside0 (Below w.heap.size w w'))
    case atStart => exact ⟨distO n, [], -1, rfl, ⟨Bst.start _, Nat.le_refl _⟩, HO, HI, HB4⟩
    case round =>
      clear HI HB4 HO HB3 HB2 HFA
      obtain ⟨rem, b, m, rfl, HC, HO, HI, HB3⟩ := hrel
      obtain ⟨Ab, cb, eb⟩ := Kd.R_slice HO.out
      subst eb
      by_cases hr : rem = []
      · have HRM := Aside0.mk hr
        clear hr
        go_wp2_with ((with_reducible refine gate_dst (N := 17) rfl ?_); refine far_next rfl (.tmp 16) rfl (by rfl) HI.out (n := n) (by have := HN.out; omega) (dist_all _).1.bd (dist_all _).1.nd (fun _ => ?_) (fun q d rem' w' hp => absurd hp (by rw [HRM.out]; exact fun h => List.cons_ne_nil _ _ (List.nil_perm.1 h))))
        go_ret3
        have hB := farB_is (dist_all n).1 (by have := HC.out.1; rw [HRM.out] at this; exact this)
        have h1 := H1.out
        obtain ⟨rfl, rfl⟩ := hB
        rw [h1.1, h1.2] at *
        exact ⟨_, rfl, Kd.R_mono HO.out (fun _ _ => trivial), HB3.out⟩
      · have HRM := Aside0.mk hr
        clear hr
        go_wp2_with (first | ((with_reducible refine gate_dst (N := 17) rfl ?_); refine far_next rfl (.tmp 16) rfl (by rfl) HI.out (n := n) (by have := HN.out; omega) (dist_all _).1.bd (dist_all _).1.nd (fun h => absurd h HRM.out) ?_; intro q d rem' w4 hp hm hI hg hsz hen; have HP := Aside0.mk hp; have HM := Aside0.mk hm; have HI4 := Aside0.mk hI; have HB4 := Aside0.mk (show Below w.heap.size w w4 from pw_below_grown HB3.out (some r) HB3.out.size hg (fun k e => by injection e with e; rw [← e]; exact HR.out)); have HO4 := Aside0.mk (Kd.R_grown HO.out hg (fun k hk e => hk.2 (Option.some.inj e))); clear hp hm hI hg hsz; unfold keyV at hen) | ((with_reducible refine gate_dst (N := 7) rfl ?_); refine box_event ?hg (N := 7) ?hd (cs := #[.int .i64 0, .int .i64 0, .int .i64 0, .int .i64 0, .int .i64 0, .int .i64 0, .int .i64 0, .int .i64 0]) (t := 142) ?hr ?_; (case hd => rfl); (case hg => rfl); (case hr => first | (go_simp; done) | (go_simp; rfl)); intro g hg w5 hbox hb; have BK5 := Aside0.mk hbox; have HI5 := Aside0.mk (HI4.out.below hb); have HB5 := Aside0.mk (below_step HB4.out hb); have GE := Aside0.mk (show w.heap.size ≤ g from by rw [hg]; exact HB4.out.size); have GB := Aside0.mk (show g ≠ B ∧ g ≠ r from ⟨by have := HI4.out.owns.lt; omega, by have := HI4.out.lt; omega⟩); have HO5 := Aside0.mk (show Kd.R (Kd.int .i64) 3 w5 w.heap.size (fun k => k ≠ g ∧ k ≠ B ∧ k ≠ r) (.slice Ab b.length cb) b from Kd.R_below (Kd.R_mono (Kd.R_bound HO4.out) (fun k hk => ⟨by have := hk.2.2.1; omega, hk.1⟩)) hb); clear hbox hb hg HI4 HO4; have q0 : w5.cell? ⟨g, 0, none⟩ = some (.int .i64 0) := (blk_cell BK5.out 0).trans rfl; have q1 : w5.cell? ⟨g, 1, none⟩ = some (.int .i64 0) := (blk_cell BK5.out 1).trans rfl; have q2 : w5.cell? ⟨g, 2, none⟩ = some (.int .i64 0) := (blk_cell BK5.out 2).trans rfl; have q3 : w5.cell? ⟨g, 3, none⟩ = some (.int .i64 0) := (blk_cell BK5.out 3).trans rfl; have q4 : w5.cell? ⟨g, 4, none⟩ = some (.int .i64 0) := (blk_cell BK5.out 4).trans rfl; have q5 : w5.cell? ⟨g, 5, none⟩ = some (.int .i64 0) := (blk_cell BK5.out 5).trans rfl; have q6 : w5.cell? ⟨g, 6, none⟩ = some (.int .i64 0) := (blk_cell BK5.out 6).trans rfl; have q7 : w5.cell? ⟨g, 7, none⟩ = some (.int .i64 0) := (blk_cell BK5.out 7).trans rfl; have z0 := blk_frozen BK5.out 0; have z1 := blk_frozen BK5.out 1; have z2 := blk_frozen BK5.out 2; have z3 := blk_frozen BK5.out 3; have z4 := blk_frozen BK5.out 4; have z5 := blk_frozen BK5.out 5; have z6 := blk_frozen BK5.out 6; have z7 := blk_frozen BK5.out 7))
        refine (clone_key (show q.length = n from ((dist_all n).1.bd _ HM.out).1) hn8 BK5.out).mono ?_
        rintro e w6 ⟨v, rfl, hO, hG⟩
        obtain ⟨Aq, cq, ev⟩ := Kd.R_slice hO
        subst ev
        have HQ := Aside0.mk (Kd.R_lower (Kd.R_mono (Kd.R_bound hO) (ok' := fun k => k ≠ g ∧ k ≠ B ∧ k ≠ r) (fun k hk => ⟨by have := (blk_lt BK5.out); have := hk.2.1; omega, by have := HI5.out.owns.lt; have := hk.2.1; omega, by have := HI5.out.lt; have := hk.2.1; omega⟩)) HB5.out.size)
        have HO6 := Aside0.mk (Kd.R_grown HO5.out hG (fun k hk e => hk.1 (Option.some.inj e)))
        have HB6 := Aside0.mk (pw_below_grown HB5.out (some g) HB5.out.size hG (fun k e => by injection e with e; rw [← e]; exact GE.out))
        have HI6 := Aside0.mk (HI5.out.kept hG (fun e => GB.out.1 (Option.some.inj e).symm) (fun e => GB.out.2 (Option.some.inj e).symm))
        clear hO hG q0 q1 q2 q3 q4 q5 q6 q7 z0 z1 z2 z3 z4 z5 z6 z7 BK5 HO5 HI5 HB5 HB4 HO HB3
        rcases Int.lt_trichotomy d m with h0 | h0 | h0
        · have e1 : decide (m < d) = false := decide_eq_false (by omega)
          have e2 : decide (d = m) = false := decide_eq_false (by omega)
          have e3 : (d == m) = false := beq_false_of_ne (by omega)
          have HD := Aside0.mk h0
          clear h0 hen
          go_wp2
          go_roundg (gk - 1)
          case measure => have h := HC.out.2; have h2 := HP.out.length_eq; rw [List.length_cons] at h2; omega
          case rel => exact ⟨rem', b, m, rfl, ⟨HC.out.1.pass HP.out (.inl HD.out), by have h := HC.out.2; have h2 := HP.out.length_eq; rw [List.length_cons] at h2; omega⟩, ⟨Kd.R_mono HO6.out (fun _ h => h.2)⟩, HI6, HB6⟩
        · have HQL := Aside0.mk (show q.length = n from ((dist_all n).1.bd _ HM.out).1)
          have HBL := Aside0.mk (show b.length = n from by
            rcases HC.out.1.1 with ⟨_, h1⟩ | h1
            · have := (dist_all n).1.nn _ HM.out
              simp only at this
              omega
            · exact ((dist_all n).1.bd _ h1).1)
          obtain ⟨fl, hfl0⟩ := compare_ev q b (by rw [HQL.out, HBL.out]) (by have := HN.out; have := HQL.out; omega)
          have hfl := hfl0 fl (Nat.le_refl _)
          clear hfl0
          have HFL := Aside0.mk (hfl)
          have e1 : decide (m < d) = false := decide_eq_false (by omega)
          have e2 : decide (d = m) = true := decide_eq_true h0
          have e3 : (d == m) = true := beq_iff_eq.2 h0
          have HD := Aside0.mk h0
          clear h0 hen hfl
          rcases hlx : lexlt q b with _ | _
          · have e4 : decide (cmpR q b < 0) = false := decide_eq_false (fun h => by rw [(cmpR_lt q b (by rw [HQL.out, HBL.out])).1 h] at hlx; cases hlx)
            have HX := Aside0.mk hlx
            clear hlx
            go_wp2_with (go_at_call 144; (with_reducible refine (slices_Compare_int_int.calls fl _ _ q _ _ b (cmpR q b) _ ?side1 ?side2 ?side3 ?side4 HFL.out).mono ?_); (case side1 => exact (Kd.R_reads' HQ.out).2.2); (case side2 => exact (Kd.R_reads' HQ.out).2.1); (case side3 => exact (Kd.R_reads' HO6.out).2.2); (case side4 => exact (Kd.R_reads' HO6.out).2.1); rintro e w7 ⟨rfl, ⟨nd, rfl⟩⟩)
            have HD6 := Aside0.mk (pw_below_drewN (Below.refl w6.heap.size w6) nd)
            go_roundg (gk - 1)
            case measure => have h := HC.out.2; have h2 := HP.out.length_eq; rw [List.length_cons] at h2; omega
            case rel => exact ⟨rem', b, m, rfl, ⟨HC.out.1.pass HP.out (.inr ⟨HD.out, HX.out⟩), by have h := HC.out.2; have h2 := HP.out.length_eq; rw [List.length_cons] at h2; omega⟩, ⟨Kd.R_below (Kd.R_mono HO6.out (fun _ h => h.2)) HD6.out⟩, ⟨HI6.out.below HD6.out⟩, ⟨below_step HB6.out HD6.out⟩⟩
          · have e4 : decide (cmpR q b < 0) = true := decide_eq_true ((cmpR_lt q b (by rw [HQL.out, HBL.out])).2 hlx)
            have HX := Aside0.mk hlx
            clear hlx
            go_wp2_with (go_at_call 144; (with_reducible refine (slices_Compare_int_int.calls fl _ _ q _ _ b (cmpR q b) _ ?side1 ?side2 ?side3 ?side4 HFL.out).mono ?_); (case side1 => exact (Kd.R_reads' HQ.out).2.2); (case side2 => exact (Kd.R_reads' HQ.out).2.1); (case side3 => exact (Kd.R_reads' HO6.out).2.2); (case side4 => exact (Kd.R_reads' HO6.out).2.1); rintro e w7 ⟨rfl, ⟨nd, rfl⟩⟩)
            have HD6 := Aside0.mk (pw_below_drewN (Below.refl w6.heap.size w6) nd)
            go_roundg (gk - 1)
            case measure => have h := HC.out.2; have h2 := HP.out.length_eq; rw [List.length_cons] at h2; omega
            case rel => exact ⟨rem', q, d, rfl, ⟨HC.out.1.take HP.out HM.out (.inr ⟨HD.out, HX.out⟩), by have h := HC.out.2; have h2 := HP.out.length_eq; rw [List.length_cons] at h2; omega⟩, ⟨Kd.R_below (Kd.R_mono HQ.out (fun _ h => h.2)) HD6.out⟩, ⟨HI6.out.below HD6.out⟩, ⟨below_step HB6.out HD6.out⟩⟩
        · have e1 : decide (m < d) = true := decide_eq_true (by omega)
          have HD := Aside0.mk h0
          clear h0 hen
          go_wp2
          go_roundg (gk - 1)
          case measure => have h := HC.out.2; have h2 := HP.out.length_eq; rw [List.length_cons] at h2; omega
          case rel => exact ⟨rem', q, d, rfl, ⟨HC.out.1.take HP.out HM.out (.inl HD.out), by have h := HC.out.2; have h2 := HP.out.length_eq; rw [List.length_cons] at h2; omega⟩, ⟨Kd.R_mono HQ.out (fun _ h => h.2)⟩, HI6, HB6⟩
  · rw [if_neg hc] at h
    obtain ⟨rfl, h1⟩ := Prod.mk.inj (Option.some.inj h)
    obtain ⟨rfl, rfl⟩ := Prod.mk.inj h1
    have HW := Aside0.mk (show impl_within.f a0 1 5 = some false by rw [within_eq]; unfold inB; rw [decide_eq_false hc])
    clear hc h
    go_enter Tryd.func60, Tryd.ntmps60
    go_wp2_with (go_at_call 97; (with_reducible refine (impl_within.calls a0 1 5 false _ HW.out).mono ?_); rintro e w1 ⟨rfl, ⟨nd, rfl⟩⟩)
    go_ret3
    exact ⟨_, rfl, Kd.R_nil _ _ _ _ _, pw_below_drewN (Below.refl w.heap.size w) nd⟩
end Go.Proofs.YtppbpefehpbejaaDoor.P
end

section
namespace Go.Proofs.YtppbpefehpbejaaDoor.P
open Go.RowKit Go.Proofs.YtppbpefehpbejaaDoorW.PrintWords Go.Proofs.YtppbpefehpbejaaDoorW.PrintLast Go.Proofs.YtppbpefehpbejaaDoorW.PrintMore Go.Proofs.YtppbpefehpbejaaDoor.Base Go.Proofs.YtppbpefehpbejaaDoor.Order Go.Proofs.YtppbpefehpbejaaDoor.Far
set_option linter.unusedVariables false
set_option linter.unusedSimpArgs false

def impl_FewestTurns.f (k : Nat) (l0 : List Int) : Option (Int × Bool) := (impl_isFew.f k l0).bind fun t => if t = true then (if bindS l0 = true ∧ l0.length ≤ 5 then some (((distO l0.length).lookup l0).getD 0, true) else none) else some (0, false)
set_option maxHeartbeats 4000000 in
set_option maxRecDepth 100000 in
theorem impl_FewestTurns.calls (k : Nat) (A0 : Option Addr) (c0 : Nat) (l0 : List Int) (r1 : Int) (r2 : Bool) (w : World) (hr0 : Kd.C (Kd.int .i64) w A0 l0.length l0) (hc0 : l0.length ≤ c0) (h : impl_FewestTurns.f k l0 = some (r1, r2)) :
    Calls Tryd.prog 66 #[.slice A0 l0.length c0] w fun e w' => e = .returned (.tuple #[.int .i64 r1, .bool r2]) ∧ Below w.heap.size w w' := by
  have HR0 := Aside0.mk hr0
  have HC0 := Aside0.mk hc0
  clear hr0 hc0
  obtain ⟨b, hb, h⟩ := Option.bind_eq_some_iff.1 h
  have HF := Aside0.mk hb
  clear hb
  cases b with
  | false =>
    rw [if_neg (by decide)] at h
    obtain ⟨rfl, rfl⟩ := Prod.mk.inj (Option.some.inj h)
    clear h
    go_enter Tryd.func66, Tryd.ntmps66
    go_wp2_with (go_at_call 150; (with_reducible refine (impl_isFew.calls k A0 c0 l0 false _ HR0.out HC0.out HF.out).mono ?_); rintro e w1 ⟨rfl, hb⟩; have HB := Aside0.mk hb; clear hb)
    go_ret2
    exact ⟨rfl, HB.out⟩
  | true =>
    rw [if_pos rfl] at h
    by_cases hc : bindS l0 = true ∧ l0.length ≤ 5
    · rw [if_pos hc] at h
      obtain ⟨h1, rfl⟩ := Prod.mk.inj (Option.some.inj h)
      have H1 := Aside0.mk h1
      have HB0 := Aside0.mk (And.intro ((bd_iff l0).1 hc.1) hc.2)
      clear h h1 hc
      go_enter Tryd.func66, Tryd.ntmps66
      go_wp2_with (first | (go_at_call 150; (with_reducible refine (impl_isFew.calls k A0 c0 l0 true _ HR0.out HC0.out HF.out).mono ?_); rintro e w1 ⟨rfl, hb⟩; have HB := Aside0.mk hb; clear hb) | (go_at_call 142; (refine (distances_calls l0.length HB0.out.1.2.1 HB0.out.2 _).mono ?_); rintro e w2 ⟨B, rfl, _, hF, hb⟩; have HFA := Aside0.mk hF; have HB2 := Aside0.mk (below_step HB.out hb); clear hF hb) | (go_at_call 151; (refine (keyOf_calls A0 c0 l0 _ (Kd.C_below HR0.out HB2.out) (by have := HB0.out.2; omega)).mono ?_); rintro e w3 ⟨rfl, hb⟩; have HFB := Aside0.mk (HFA.out.below hb); have HB3 := Aside0.mk (below_step HB2.out hb); clear hb) | ((with_reducible refine gate_dst (N := 12) rfl ?_); refine far_look rfl (.tmp 9) (.tmp 11) rfl (n := l0.length) (l := l0) (by rfl) (by rfl) HFB.out (by have := HB0.out.2; omega) (dist_all _).1.bd (dist_all _).1.nd HB0.out.1.1 ?_; rw [H1.out]))
      go_ret2
      exact ⟨rfl, HB3.out⟩
    · rw [if_neg hc] at h
      cases h
end Go.Proofs.YtppbpefehpbejaaDoor.P
end

section
namespace Go.Proofs.YtppbpefehpbejaaDoor.P
open Go.Shelf Go.RowKit Go.Proofs.YtppbpefehpbejaaDoorW.PrintWords Go.Proofs.YtppbpefehpbejaaDoorW.PrintLast Go.Proofs.YtppbpefehpbejaaDoorW.PrintMore
set_option linter.unusedVariables false
set_option linter.unusedSimpArgs false

/-- What is asked of a predicate on whole numbers: in every later world it answers p. -/
def PredInt (g : Nat) (lb : Array Value) (p : Int → Bool) (l : List Int) (w : World) : Prop :=
  ∀ (W : World) (x : Int), x ∈ l → Below w.heap.size w W → Calls Tryd.prog g (#[.int .i64 x] ++ lb) W fun e w' => e = .returned (.bool (p x)) ∧ Below W.heap.size W w'
/-- The first place whose element is met, or -1. -/
def firstAt (p : Int → Bool) : List Int → Int → Int
  | [], _ => -1
  | x :: xs, i => if p x = true then i else firstAt p xs (i + 1)
theorem firstAt_hit (p : Int → Bool) : ∀ (l : List Int) (i0 : Int) (i : Nat), i < l.length → p (l.getD i 0) = true → (∀ j, j < i → p (l.getD j 0) = false) → firstAt p l i0 = i0 + i := by
  intro l
  induction l with
  | nil => intro _ i h; exact absurd h (by simp)
  | cons x l ih =>
    intro i0 i h hp hb
    rw [firstAt]
    cases i with
    | zero =>
      have : p x = true := hp
      rw [if_pos this]
      omega
    | succ i =>
      have h0 : p x = false := hb 0 (by omega)
      rw [if_neg (by rw [h0]; decide), ih (i0 + 1) i (by simpa using h) hp (fun j hj => hb (j + 1) (by omega))]
      omega
theorem firstAt_miss (p : Int → Bool) : ∀ (l : List Int) (i0 : Int), (∀ j, j < l.length → p (l.getD j 0) = false) → firstAt p l i0 = -1 := by
  intro l
  induction l with
  | nil => intro _ _; rfl
  | cons x l ih =>
    intro i0 h
    have h0 : p x = false := h 0 (by simp)
    rw [firstAt, if_neg (by rw [h0]; decide)]
    exact ih _ (fun j hj => h (j + 1) (by simpa using hj))

set_option maxHeartbeats 2000000 in
set_option maxRecDepth 100000 in
theorem indexFunc_int (g : Nat) (lb : Array Value) (p : Int → Bool) (eg : ∀ args w, (callFunc g args).run Tryd.prog w = .ok (.enter g args) w) (A : Option Addr) (c : Nat) (l : List Int) (w : World)
    (hr : Kd.C (Kd.int .i64) w A l.length l) (hp : PredInt g lb p l w) :
    Calls Tryd.prog 127 #[.slice A l.length c, .func (.func g) #[] lb] w fun e w' => e = .returned (.int .i64 (firstAt p l 0)) ∧ Below w.heap.size w w' := by
  have hbig : l.length ≤ 9223372036854775807 := hr.2.1
  have HR := Aside0.mk hr
  have HP := Aside0.mk hp
  clear hr hp
  go_enter Tryd.func127, Tryd.ntmps127
  go_wp2
  go_loopg [5, 8] l.length (fun gg _ s8 wr => ∃ x : Int, s8 = .int .i64 x ∧ Aside0 (0 ≤ x ∧ x ≤ l.length ∧ l.length - x.toNat ≤ gg) ∧ Aside0 (Below w.heap.size w wr) ∧ Aside0 (∀ j, j < x.toNat → p (l.getD j 0) = false))
  case atStart => exact ⟨0, rfl, ⟨by omega, by omega, by simp⟩, ⟨Below.refl _ w⟩, ⟨fun j hj => absurd hj (by simp)⟩⟩
  case round =>
    obtain ⟨x, rfl, HX, HB, HM⟩ := hrel
    by_cases hlt : x < (l.length : Int)
    · have h0 : 0 ≤ x := HX.out.1
      obtain ⟨ad, e, hx0⟩ := Kd.at_int HR.out x h0 hlt
      cases e
      replace hx0 := (HB.out.cell (World.block_lt_of_cell? w _ hx0)).trans hx0
      have hmem : rd l x ∈ l := by
        unfold rd
        rw [List.getD_eq_getElem?_getD, List.getElem?_eq_getElem (by omega)]
        exact List.getElem_mem _
      have hcall := HP.out wr (rd l x) hmem HB.out
      have HQ := Aside0.mk (show rd l x = l.getD x.toNat 0 from rfl)
      generalize rd l x = y at hx0 hcall HQ
      clear hmem
      cases hq : p y with
      | true =>
        rw [hq] at hcall
        go_wp2_with (go_at_fn g; refine hcall.mono ?_; rintro e w' ⟨rfl, hb'⟩)
        go_ret
        refine ⟨?_, below_step HB.out hb'⟩
        rw [firstAt_hit p l 0 x.toNat (by omega) (by rw [← HQ.out]; exact hq) (fun j hj => HM.out j hj), show (0 : Int) + (x.toNat : Int) = x by omega]
        rfl
      | false =>
        rw [hq] at hcall
        go_wp2_with (go_at_fn g; refine hcall.mono ?_; rintro e w' ⟨rfl, hb'⟩)
        go_roundg (l.length - (x + 1).toNat)
        case measure => have := HX.out; omega
        case rel =>
          refine ⟨x + 1, by go_num, ⟨by omega, by omega, Nat.le_refl _⟩, ⟨below_step HB.out hb'⟩, ⟨fun j hj => ?_⟩⟩
          by_cases e : j = x.toNat
          · subst e
            rw [← HQ.out]; exact hq
          · exact HM.out j (by omega)
    · have hx : x = (l.length : Int) := by have := HX.out; omega
      go_wp2
      go_ret
      refine ⟨?_, HB.out⟩
      rw [firstAt_miss p l 0 (fun j hj => HM.out j (by omega))]
      rfl
end Go.Proofs.YtppbpefehpbejaaDoor.P
end

section
namespace Go.Proofs.YtppbpefehpbejaaDoor.P
open Go.RowKit Go.Proofs.YtppbpefehpbejaaDoorW.PrintWords Go.Proofs.YtppbpefehpbejaaDoorW.PrintLast Go.Proofs.YtppbpefehpbejaaDoorW.PrintMore
attribute [local go_sem] max2_int min2_int max_two min_two max_three min_three max_four min_four
set_option linter.unusedVariables false
set_option linter.unusedSimpArgs false

def placeP (a1 : Int) (x : Int) : Bool := mx x (wrap64 (-x)) == a1
def impl_PlaceOfLeaf.f (k : Nat) (l0 : List Int) (a1 : Int) : Option (Int × Bool × Bool) :=
  (impl_IsBinding.f k l0).bind fun t => if t = true then ((impl_within.f a1 1 (l0.length : Int)).bind fun u => if u = true then (if 0 ≤ firstAt (placeP a1) l0 0 then (if firstAt (placeP a1) l0 0 < (l0.length : Int) then some (firstAt (placeP a1) l0 0, decide (rd l0 (firstAt (placeP a1) l0 0) < 0), true) else none) else none) else some (0, false, false)) else some (0, false, false)
theorem impl_PlaceOfLeaf.mono : ∀ a0 a1 k, LeO (impl_PlaceOfLeaf.f k a0 a1) (impl_PlaceOfLeaf.f (k + 1) a0 a1) := by
  intro a0 a1 k
  unfold impl_PlaceOfLeaf.f
  refine LeO.bind (impl_IsBinding.mono _ _) (fun _ => ?_)
  exact LeO.refl _
set_option maxHeartbeats 4000000 in
theorem leafOf_calls0 (x : Int) (w : World) : Calls Tryd.prog 129 #[.int .i64 x] w fun e w' => e = .returned (.int .i64 (mx x (wrap64 (-x)))) ∧ Drawn0 w w' := by
  generalize hm : mx x (wrap64 (-x)) = y
  unfold mx at hm
  go_enter Tryd.func129, Tryd.ntmps129
  go_wp2
  all_goals (go_ret; refine ⟨?_, Drawn0.refl _⟩; (first | (rw [← hm]; simp [*]; done) | (rw [← hm]; split <;> (simp; try omega))))
set_option maxHeartbeats 4000000 in
set_option maxRecDepth 100000 in
theorem place_1_calls (a1 : Int) (g : Nat) (x : Int) (w : World) (hb : w.heap[g]? = some (.cells #[.int .i64 a1] 3 (0, 0))) :
    Calls Tryd.prog 128 #[.int .i64 x, .pointer (some ⟨g, 0, none⟩)] w fun e w' => e = .returned (.bool (placeP a1 x)) ∧ Below w.heap.size w w' := by
  have A2 := Aside0.mk (leafOf_calls0 x)
  have BK := Aside0.mk hb
  clear hb
  unfold placeP
  generalize mx x (wrap64 (-x)) = y at A2
  have hcz_0 : w.cell? ⟨g, 0, none⟩ = some (.int .i64 a1) := (blk_cell BK.out 0).trans rfl
  have hfz_0 := blk_frozen BK.out 0
  go_enter Tryd.func128, Tryd.ntmps128
  go_wp2
  go_quiet ((go_at_call 129; (with_reducible refine (A2.out _).mono ?_); rintro e w' ⟨rfl, ⟨nd, rfl⟩⟩; (try first | exact ⟨rfl, _, World.drewN_drewN _ _ _⟩ | exact ⟨rfl, _, Eq.trans (World.drewN_drewN _ _ _) (congrArg (World.drewN _) (Nat.add_assoc _ _ _))⟩)))
  go_wp2
  go_ret
  exact ⟨by first | rfl | (simp; done) | (simp [*]; done), by repeat (first | (with_reducible first | exact Below.refl _ _ | apply below_alloc | apply pw_below_drewN | apply below_drew1) | exact Below.refl _ _)⟩
set_option maxHeartbeats 4000000 in
set_option maxRecDepth 100000 in
theorem impl_PlaceOfLeaf.calls (k : Nat) (A0 : Option Addr) (c0 : Nat) (l0 : List Int) (a1 : Int) (r1 : Int) (r2 : Bool) (r3 : Bool) (w : World) (hr0 : Kd.C (Kd.int .i64) w A0 l0.length l0) (hc0 : l0.length ≤ c0) (h : impl_PlaceOfLeaf.f k l0 a1 = some (r1, r2, r3)) :
    Calls Tryd.prog 47 #[.slice A0 l0.length c0, .int .i64 a1] w fun e w' => e = .returned (.tuple #[.int .i64 r1, .bool r2, .bool r3]) ∧ Below w.heap.size w w' := by
  have HR := Aside0.mk hr0
  have HC := Aside0.mk hc0
  have HB := Aside0.mk (Below.refl w.heap.size w)
  clear hr0 hc0
  unfold impl_PlaceOfLeaf.f at h
  obtain ⟨t, h1, h⟩ := Option.bind_eq_some_iff.mp h
  have A1 := Aside0.mk h1
  clear h1
  cases t with
  | false =>
    rw [if_neg (by decide)] at h
    simp only [Option.some.injEq, Prod.mk.injEq] at h
    obtain ⟨rfl, rfl, rfl⟩ := h
    go_enter Tryd.func47, Tryd.ntmps47
    go_wp2_with (first | (go_at_call 64; (with_reducible refine (impl_IsBinding.calls k A0 c0 l0 false _ ?side1 HC.out A1.out).mono ?_); (case side1 => exact Kd.C_alloc HR.out _); rintro e w1 ⟨rfl, hb⟩; have HB1 := Aside0.mk (below_step (below_alloc (Below.refl _ _) _) hb); have BK := Aside0.mk (blk_below (blk_new _ _) hb); have hcz_0 : w1.cell? ⟨w.heap.size, 0, none⟩ = some (.int .i64 a1) := (blk_cell BK.out 0).trans rfl; have hfz_0 := blk_frozen BK.out 0; clear hb))
    go_ret3
    exact ⟨by first | rfl | (simp; done) | (simp [*]; done), HB1.out⟩
  | true =>
    rw [if_pos rfl] at h
    obtain ⟨u, h2, h⟩ := Option.bind_eq_some_iff.mp h
    have A2 := Aside0.mk h2
    clear h2
    cases u with
    | false =>
      rw [if_neg (by decide)] at h
      simp only [Option.some.injEq, Prod.mk.injEq] at h
      obtain ⟨rfl, rfl, rfl⟩ := h
      go_enter Tryd.func47, Tryd.ntmps47
      go_wp2_with (first | (go_at_call 64; (with_reducible refine (impl_IsBinding.calls k A0 c0 l0 true _ ?side1 HC.out A1.out).mono ?_); (case side1 => exact Kd.C_alloc HR.out _); rintro e w1 ⟨rfl, hb⟩; have HB1 := Aside0.mk (below_step (below_alloc (Below.refl _ _) _) hb); have BK := Aside0.mk (blk_below (blk_new _ _) hb); have hcz_0 : w1.cell? ⟨w.heap.size, 0, none⟩ = some (.int .i64 a1) := (blk_cell BK.out 0).trans rfl; have hfz_0 := blk_frozen BK.out 0; clear hb) | (go_at_call 97; (with_reducible refine (impl_within.calls a1 1 (l0.length : Int) false _ A2.out).mono ?_); rintro e w2 ⟨rfl, ⟨nd, rfl⟩⟩))
      go_ret3
      exact ⟨by first | rfl | (simp; done) | (simp [*]; done), by repeat (first | (with_reducible first | exact HB1.out | apply pw_below_drewN) | exact HB1.out)⟩
    | true =>
      rw [if_pos rfl] at h
      by_cases c1 : 0 ≤ firstAt (placeP a1) l0 0
      · rw [if_pos c1] at h
        by_cases c2 : firstAt (placeP a1) l0 0 < (l0.length : Int)
        · rw [if_pos c2] at h
          simp only [Option.some.injEq, Prod.mk.injEq] at h
          obtain ⟨rfl, rfl, rfl⟩ := h
          have EG := Aside0.mk (enters_of Tryd.func128 (by kernel_rfl) rfl)
          generalize hI : firstAt (placeP a1) l0 0 = i at c1 c2
          have HI := Aside0.mk hI
          clear hI
          obtain ⟨ad, e, hx0⟩ := Kd.at_int HR.out i c1 c2
          cases e
          go_enter Tryd.func47, Tryd.ntmps47
          go_wp2_with (first | (go_at_call 64; (with_reducible refine (impl_IsBinding.calls k (some ad) c0 l0 true _ ?side1 HC.out A1.out).mono ?_); (case side1 => exact Kd.C_alloc HR.out _); rintro e w1 ⟨rfl, hb⟩; have HB1 := Aside0.mk (below_step (below_alloc (Below.refl _ _) _) hb); have BK := Aside0.mk (blk_below (blk_new _ _) hb); have hcz_0 : w1.cell? ⟨w.heap.size, 0, none⟩ = some (.int .i64 a1) := (blk_cell BK.out 0).trans rfl; have hfz_0 := blk_frozen BK.out 0; clear hb) | (go_at_call 97; (with_reducible refine (impl_within.calls a1 1 (l0.length : Int) true _ A2.out).mono ?_); rintro e w2 ⟨rfl, ⟨nd, rfl⟩⟩) | (go_at_call 127; (refine (indexFunc_int 128 #[.pointer (some ⟨w.heap.size, 0, none⟩)] (placeP a1) EG.out (some ad) c0 l0 _ ?side1 ?side2).mono ?_); (case side1 => exact Kd.C_drewN (Kd.C_below HR.out HB1.out) _); (case side2 => exact fun W' x _ hb => place_1_calls a1 w.heap.size x W' (blk_below (blk_drewN BK.out _) hb)); rintro e w3 ⟨rfl, hb⟩; rw [HI.out]; have HR3 := Aside0.mk (Kd.C_below (Kd.C_drewN (Kd.C_below HR.out HB1.out) nd) hb); have HB3 := Aside0.mk (below_step (pw_below_drewN HB1.out nd) hb); have hx1 := (HB3.out.cell (World.block_lt_of_cell? w _ hx0)).trans hx0; clear hb))
          repeat (go_quiet (fail); try go_wp2)
          go_ret3
          exact ⟨by first | rfl | (simp; done) | (simp [*]; done), by repeat (first | (with_reducible first | exact HB3.out | apply pw_below_drewN | apply below_drew1) | exact HB3.out)⟩
        · rw [if_neg c2] at h
          cases h
      · rw [if_neg c1] at h
        cases h
end Go.Proofs.YtppbpefehpbejaaDoor.P
end

section
namespace Go.Proofs.YtppbpefehpbejaaDoor.P
open Go.RowKit Go.Proofs.YtppbpefehpbejaaDoorW.PrintWords Go.Proofs.YtppbpefehpbejaaDoorW.PrintLast Go.Proofs.YtppbpefehpbejaaDoorW.PrintMore
attribute [local go_sem] max2_int min2_int max_two min_two max_three min_three max_four min_four   -- for this text's walks alone
set_option linter.unusedVariables false
set_option linter.unusedSimpArgs false

/-! ### laws_FnBindingsRead: function 4 -/
mutual
def laws_FnBindingsRead.j0 : Nat → List Int → List Int → List Int → Bool → ByteArray → Int → Bool → Option (Bool)
 | 0, _, _, _, _, _, _, _ => none
 | k + 1, x1, x5, x6, x7, x10, x14, x162 => if x162 = true then (some false) else (if x7 = true then ((impl_ParseBinding.f k x10).bind fun bt537 => (if (x6.length : Int) = (wrap64 (2 * (x5.length : Int))) then (if bt537.2 = true then ((laws_fSame.f k bt537.1 x5).bind fun t541 => (laws_FnBindingsRead.j1 k x1 x5 x6 x14 0 (!t541))) else (laws_FnBindingsRead.j1 k x1 x5 x6 x14 0 true)) else (laws_FnBindingsRead.j1 k x1 x5 x6 x14 0 true))) else (laws_FnBindingsRead.j6 k x1))
def laws_FnBindingsRead.j6 : Nat → List Int → Option (Bool)
 | 0, _ => none
 | k + 1, x1 => (spec_DrawCutPart.f k x1).bind fun bt555 => ((impl_CutPart.f k bt555.1 bt555.2.1 bt555.2.2.1 bt555.2.2.2).bind fun bt561 => ((spec_CutPart.f k bt555.1 bt555.2.1 bt555.2.2.1 bt555.2.2.2).bind fun bt565 => ((spec_DrawBindingOfRank.f x1).bind fun bt569 => ((impl_BindingOfRank.f k bt569.1 bt569.2).bind fun bt571 => ((spec_BindingOfRank.f k bt569.1 bt569.2).bind fun bt575 => ((impl_CountBindings.f k bt569.1).bind fun bt579 => ((spec_CountBindings.f k bt569.1).bind fun bt581 => ((spec_DrawCountByTurns.f x1).bind fun bt583 => ((impl_CountByTurns.f k bt583.1 bt583.2).bind fun bt585 => ((spec_CountByTurns.f k bt583.1 bt583.2).bind fun bt587 => ((spec_DrawFarthestBinding.f x1).bind fun t589 => ((impl_FarthestBinding.f k t589).bind fun bt590 => ((spec_FarthestBinding.f k t589).bind fun bt595 => ((spec_DrawParseBinding.f k x1).bind fun t600 => ((impl_ParseBinding.f k t600).bind fun bt601 => ((spec_ParseBinding.f k t600).bind fun bt605 => (if (bt561.2 != bt565.2) = true then (laws_FnBindingsRead.j7 k bt555.1 bt555.2.1 bt555.2.2.1 bt555.2.2.2 bt561.1 bt561.2 bt569.2 bt571.1 bt571.2 bt583.1 bt585.2 t589 bt590.1 bt590.2.1 bt590.2.2 t600 bt601.1 bt601.2 true) else ((laws_fSame.f k bt561.1 bt565.1).bind fun t609 => (if t609 = true then (if (bt571.2 != bt575.2) = true then (laws_FnBindingsRead.j7 k bt555.1 bt555.2.1 bt555.2.2.1 bt555.2.2.2 bt561.1 bt561.2 bt569.2 bt571.1 bt571.2 bt583.1 bt585.2 t589 bt590.1 bt590.2.1 bt590.2.2 t600 bt601.1 bt601.2 true) else ((laws_fSame.f k bt571.1 bt575.1).bind fun t610 => (if t610 = true then (if (bt579.2 != bt581.2) = true then (laws_FnBindingsRead.j7 k bt555.1 bt555.2.1 bt555.2.2.1 bt555.2.2.2 bt561.1 bt561.2 bt569.2 bt571.1 bt571.2 bt583.1 bt585.2 t589 bt590.1 bt590.2.1 bt590.2.2 t600 bt601.1 bt601.2 true) else (if bt579.1 = bt581.1 then (if (bt585.2 != bt587.2) = true then (laws_FnBindingsRead.j7 k bt555.1 bt555.2.1 bt555.2.2.1 bt555.2.2.2 bt561.1 bt561.2 bt569.2 bt571.1 bt571.2 bt583.1 bt585.2 t589 bt590.1 bt590.2.1 bt590.2.2 t600 bt601.1 bt601.2 true) else (if bt585.1 = bt587.1 then (if (bt590.2.2 != bt595.2.2) = true then (laws_FnBindingsRead.j7 k bt555.1 bt555.2.1 bt555.2.2.1 bt555.2.2.2 bt561.1 bt561.2 bt569.2 bt571.1 bt571.2 bt583.1 bt585.2 t589 bt590.1 bt590.2.1 bt590.2.2 t600 bt601.1 bt601.2 true) else ((laws_fSame.f k bt590.1 bt595.1).bind fun t611 => (if t611 = true then (if bt590.2.1 = bt595.2.1 then (if (bt601.2 != bt605.2) = true then (laws_FnBindingsRead.j7 k bt555.1 bt555.2.1 bt555.2.2.1 bt555.2.2.2 bt561.1 bt561.2 bt569.2 bt571.1 bt571.2 bt583.1 bt585.2 t589 bt590.1 bt590.2.1 bt590.2.2 t600 bt601.1 bt601.2 true) else ((laws_fSame.f k bt601.1 bt605.1).bind fun t612 => (if t612 = true then (if bt579.2 = true then (if bt569.2 ≥ 0 then (laws_FnBindingsRead.j7 k bt555.1 bt555.2.1 bt555.2.2.1 bt555.2.2.2 bt561.1 bt561.2 bt569.2 bt571.1 bt571.2 bt583.1 bt585.2 t589 bt590.1 bt590.2.1 bt590.2.2 t600 bt601.1 bt601.2 (bt571.2 != (decide (bt569.2 < bt579.1)))) else (laws_FnBindingsRead.j7 k bt555.1 bt555.2.1 bt555.2.2.1 bt555.2.2.2 bt561.1 bt561.2 bt569.2 bt571.1 bt571.2 bt583.1 bt585.2 t589 bt590.1 bt590.2.1 bt590.2.2 t600 bt601.1 bt601.2 (bt571.2 != false))) else (laws_FnBindingsRead.j7 k bt555.1 bt555.2.1 bt555.2.2.1 bt555.2.2.2 bt561.1 bt561.2 bt569.2 bt571.1 bt571.2 bt583.1 bt585.2 t589 bt590.1 bt590.2.1 bt590.2.2 t600 bt601.1 bt601.2 (bt571.2 != false))) else (laws_FnBindingsRead.j7 k bt555.1 bt555.2.1 bt555.2.2.1 bt555.2.2.2 bt561.1 bt561.2 bt569.2 bt571.1 bt571.2 bt583.1 bt585.2 t589 bt590.1 bt590.2.1 bt590.2.2 t600 bt601.1 bt601.2 true)))) else (laws_FnBindingsRead.j7 k bt555.1 bt555.2.1 bt555.2.2.1 bt555.2.2.2 bt561.1 bt561.2 bt569.2 bt571.1 bt571.2 bt583.1 bt585.2 t589 bt590.1 bt590.2.1 bt590.2.2 t600 bt601.1 bt601.2 true)) else (laws_FnBindingsRead.j7 k bt555.1 bt555.2.1 bt555.2.2.1 bt555.2.2.2 bt561.1 bt561.2 bt569.2 bt571.1 bt571.2 bt583.1 bt585.2 t589 bt590.1 bt590.2.1 bt590.2.2 t600 bt601.1 bt601.2 true)))) else (laws_FnBindingsRead.j7 k bt555.1 bt555.2.1 bt555.2.2.1 bt555.2.2.2 bt561.1 bt561.2 bt569.2 bt571.1 bt571.2 bt583.1 bt585.2 t589 bt590.1 bt590.2.1 bt590.2.2 t600 bt601.1 bt601.2 true))) else (laws_FnBindingsRead.j7 k bt555.1 bt555.2.1 bt555.2.2.1 bt555.2.2.2 bt561.1 bt561.2 bt569.2 bt571.1 bt571.2 bt583.1 bt585.2 t589 bt590.1 bt590.2.1 bt590.2.2 t600 bt601.1 bt601.2 true))) else (laws_FnBindingsRead.j7 k bt555.1 bt555.2.1 bt555.2.2.1 bt555.2.2.2 bt561.1 bt561.2 bt569.2 bt571.1 bt571.2 bt583.1 bt585.2 t589 bt590.1 bt590.2.1 bt590.2.2 t600 bt601.1 bt601.2 true)))) else (laws_FnBindingsRead.j7 k bt555.1 bt555.2.1 bt555.2.2.1 bt555.2.2.2 bt561.1 bt561.2 bt569.2 bt571.1 bt571.2 bt583.1 bt585.2 t589 bt590.1 bt590.2.1 bt590.2.2 t600 bt601.1 bt601.2 true))))))))))))))))))))
def laws_FnBindingsRead.j7 : Nat → List Int → Int → Int → Int → List Int → Bool → Int → List Int → Bool → Int → Bool → Int → List Int → Int → Bool → ByteArray → List Int → Bool → Bool → Option (Bool)
 | 0, _, _, _, _, _, _, _, _, _, _, _, _, _, _, _, _, _, _, _ => none
 | k + 1, x33, x34, x35, x36, x37, x38, x42, x43, x44, x51, x54, x57, x58, x59, x60, x64, x65, x66, x473 => if x473 = true then (some false) else (if x38 = true then ((impl_CutPart.f k x37 x36 (wrap64 (x36 + (wrap64 (x35 - x34)))) x34).bind fun bt613 => ((impl_IsBinding.f k x37).bind fun t617 => (if t617 = true then (if bt613.2 = true then ((laws_fSame.f k bt613.1 x33).bind fun t618 => (laws_FnBindingsRead.j8 k x33 x34 x36 x37 x42 x43 x44 x51 x54 x57 x58 x59 x60 x64 x65 x66 (wrap64 (x35 - x34)) (!t618))) else (laws_FnBindingsRead.j8 k x33 x34 x36 x37 x42 x43 x44 x51 x54 x57 x58 x59 x60 x64 x65 x66 (wrap64 (x35 - x34)) true)) else (laws_FnBindingsRead.j8 k x33 x34 x36 x37 x42 x43 x44 x51 x54 x57 x58 x59 x60 x64 x65 x66 (wrap64 (x35 - x34)) true)))) else (laws_FnBindingsRead.j10 k x42 x43 x44 x51 x54 x57 x58 x59 x60 x64 x65 x66))
def laws_FnBindingsRead.j10 : Nat → Int → List Int → Bool → Int → Bool → Int → List Int → Int → Bool → ByteArray → List Int → Bool → Option (Bool)
 | 0, _, _, _, _, _, _, _, _, _, _, _, _ => none
 | k + 1, x42, x43, x44, x51, x54, x57, x58, x59, x60, x64, x65, x66 => if x44 = true then ((impl_RankOfBinding.f k x43).bind fun bt621 => (if bt621.2 = true then (if bt621.1 = x42 then (laws_FnBindingsRead.j11 k x51 x54 x57 x58 x59 x60 x64 x65 x66) else (some false)) else (some false))) else (laws_FnBindingsRead.j11 k x51 x54 x57 x58 x59 x60 x64 x65 x66)
def laws_FnBindingsRead.j11 : Nat → Int → Bool → Int → List Int → Int → Bool → ByteArray → List Int → Bool → Option (Bool)
 | 0, _, _, _, _, _, _, _, _, _ => none
 | k + 1, x51, x54, x57, x58, x59, x60, x64, x65, x66 => if x54 = true then (laws_FnBindingsRead.j12 k x51 x57 x58 x59 x60 x64 x65 x66 (decide (x51 ≤ 3))) else (laws_FnBindingsRead.j12 k x51 x57 x58 x59 x60 x64 x65 x66 false)
def laws_FnBindingsRead.j12 : Nat → Int → Int → List Int → Int → Bool → ByteArray → List Int → Bool → Bool → Option (Bool)
 | 0, _, _, _, _, _, _, _, _, _ => none
 | k + 1, x51, x57, x58, x59, x60, x64, x65, x66, x536 => if x536 = true then ((impl_CountBindings.f k x51).bind fun bt623 => (laws_FnBindingsRead.l2 k x51 x57 x58 x59 x60 x64 x65 x66 0 bt623.1 bt623.2 0)) else (laws_FnBindingsRead.j14 k x57 x58 x59 x60 x64 x65 x66)
def laws_FnBindingsRead.j14 : Nat → Int → List Int → Int → Bool → ByteArray → List Int → Bool → Option (Bool)
 | 0, _, _, _, _, _, _, _ => none
 | k + 1, x57, x58, x59, x60, x64, x65, x66 => if x60 = true then ((impl_FewestTurns.f k x58).bind fun bt627 => ((impl_CountByTurns.f k x57 x59).bind fun bt629 => ((impl_CountByTurns.f k x57 (wrap64 (x59 + 1))).bind fun bt631 => (if (x58.length : Int) = x57 then (if bt627.2 = true then (if bt627.1 = x59 then (if bt629.2 = true then (if bt629.1 < 1 then (laws_FnBindingsRead.j15 k x64 x65 x66 true) else (if bt631.2 = true then (laws_FnBindingsRead.j15 k x64 x65 x66 (bt631.1 != 0)) else (laws_FnBindingsRead.j15 k x64 x65 x66 true))) else (laws_FnBindingsRead.j15 k x64 x65 x66 true)) else (laws_FnBindingsRead.j15 k x64 x65 x66 true)) else (laws_FnBindingsRead.j15 k x64 x65 x66 true)) else (laws_FnBindingsRead.j15 k x64 x65 x66 true))))) else (if x66 = true then ((impl_BindingText.f k x65).bind fun bt635 => (if bt635.2 = true then (some (bt635.1.toList == x64.toList)) else (some false))) else (some true))
def laws_FnBindingsRead.j15 : Nat → ByteArray → List Int → Bool → Bool → Option (Bool)
 | 0, _, _, _, _ => none
 | k + 1, x64, x65, x66, x625 => if x625 = true then (some false) else (if x66 = true then ((impl_BindingText.f k x65).bind fun bt633 => (if bt633.2 = true then (some (bt633.1.toList == x64.toList)) else (some false))) else (some true))
def laws_FnBindingsRead.l2 : Nat → Int → Int → List Int → Int → Bool → ByteArray → List Int → Bool → Int → Int → Bool → Int → Option (Bool)
 | 0, _, _, _, _, _, _, _, _, _, _, _, _ => none
 | k + 1, x51, x57, x58, x59, x60, x64, x65, x66, x75, x76, x77, x78 => if x78 ≤ (wrap64 (x51 + 1)) then ((impl_CountByTurns.f k x51 x78).bind fun bt625 => (if bt625.2 = true then (if bt625.1 < 0 then (some false) else (if x78 = 0 then (if bt625.1 = 1 then (laws_FnBindingsRead.l2 k x51 x57 x58 x59 x60 x64 x65 x66 (wrap64 (x75 + bt625.1)) x76 x77 (wrap64 (x78 + 1))) else (some false)) else (laws_FnBindingsRead.l2 k x51 x57 x58 x59 x60 x64 x65 x66 (wrap64 (x75 + bt625.1)) x76 x77 (wrap64 (x78 + 1))))) else (some false))) else (if x77 = true then (if x75 = x76 then (laws_FnBindingsRead.j14 k x57 x58 x59 x60 x64 x65 x66) else (some false)) else (some false))
def laws_FnBindingsRead.j8 : Nat → List Int → Int → Int → List Int → Int → List Int → Bool → Int → Bool → Int → List Int → Int → Bool → ByteArray → List Int → Bool → Int → Bool → Option (Bool)
 | 0, _, _, _, _, _, _, _, _, _, _, _, _, _, _, _, _, _, _ => none
 | k + 1, x33, x34, x36, x37, x42, x43, x44, x51, x54, x57, x58, x59, x60, x64, x65, x66, x69, x500 => if x500 = true then (some false) else (laws_FnBindingsRead.l1 k x33 x34 x36 x37 x42 x43 x44 x51 x54 x57 x58 x59 x60 x64 x65 x66 x69 0)
def laws_FnBindingsRead.l1 : Nat → List Int → Int → Int → List Int → Int → List Int → Bool → Int → Bool → Int → List Int → Int → Bool → ByteArray → List Int → Bool → Int → Int → Option (Bool)
 | 0, _, _, _, _, _, _, _, _, _, _, _, _, _, _, _, _, _, _ => none
 | k + 1, x33, x34, x36, x37, x42, x43, x44, x51, x54, x57, x58, x59, x60, x64, x65, x66, x69, x72 => if x72 ≤ x69 then (if 0 ≤ (wrap64 (x36 + x72)) then (if (wrap64 (x36 + x72)) < (x37.length : Int) then (if 0 ≤ (wrap64 (x34 + x72)) then (if (wrap64 (x34 + x72)) < (x33.length : Int) then (if (rd x37 (wrap64 (x36 + x72))) = (rd x33 (wrap64 (x34 + x72))) then (laws_FnBindingsRead.l1 k x33 x34 x36 x37 x42 x43 x44 x51 x54 x57 x58 x59 x60 x64 x65 x66 x69 (wrap64 (x72 + 1))) else (some false)) else (none)) else (none)) else (none)) else (none)) else (laws_FnBindingsRead.j10 k x42 x43 x44 x51 x54 x57 x58 x59 x60 x64 x65 x66)
def laws_FnBindingsRead.j1 : Nat → List Int → List Int → List Int → Int → Int → Bool → Option (Bool)
 | 0, _, _, _, _, _, _ => none
 | k + 1, x1, x5, x6, x14, x20, x184 => if x184 = true then (some false) else (laws_FnBindingsRead.l0 k x1 x5 x6 x14 x20 x5 (x5.length : Int) 0)
def laws_FnBindingsRead.l0 : Nat → List Int → List Int → List Int → Int → Int → List Int → Int → Int → Option (Bool)
 | 0, _, _, _, _, _, _, _, _ => none
 | k + 1, x1, x5, x6, x14, x20, x185, x186, x187 => if x187 < x186 then (if 0 ≤ x187 then (if x187 < (x185.length : Int) then (if 0 ≤ (wrap64 (2 * x187)) then (if (wrap64 (2 * x187)) < (x6.length : Int) then (if 0 ≤ (wrap64 ((wrap64 (2 * x187)) + 1)) then (if (wrap64 ((wrap64 (2 * x187)) + 1)) < (x6.length : Int) then (if (rd x185 x187) > 0 then (if (rd x6 (wrap64 (2 * x187))) = (wrap64 ((wrap64 (2 * (rd x185 x187))) - 1)) then (if (rd x6 (wrap64 ((wrap64 (2 * x187)) + 1))) = (wrap64 (2 * (rd x185 x187))) then (if (rd x185 x187) < 0 then (if (rd x6 (wrap64 (2 * x187))) = (wrap64 ((-2) * (rd x185 x187))) then (laws_FnBindingsRead.j3 k x1 x5 x6 x14 x20 x187 (rd x185 x187) (rd x6 (wrap64 ((wrap64 (2 * x187)) + 1))) x185 x186 x187 ((rd x6 (wrap64 ((wrap64 (2 * x187)) + 1))) != (wrap64 ((wrap64 ((-2) * (rd x185 x187))) - 1)))) else (laws_FnBindingsRead.j3 k x1 x5 x6 x14 x20 x187 (rd x185 x187) (rd x6 (wrap64 ((wrap64 (2 * x187)) + 1))) x185 x186 x187 true)) else (laws_FnBindingsRead.j3 k x1 x5 x6 x14 x20 x187 (rd x185 x187) (rd x6 (wrap64 ((wrap64 (2 * x187)) + 1))) x185 x186 x187 false)) else (laws_FnBindingsRead.j3 k x1 x5 x6 x14 x20 x187 (rd x185 x187) (rd x6 (wrap64 ((wrap64 (2 * x187)) + 1))) x185 x186 x187 true)) else (laws_FnBindingsRead.j3 k x1 x5 x6 x14 x20 x187 (rd x185 x187) (rd x6 (wrap64 ((wrap64 (2 * x187)) + 1))) x185 x186 x187 true)) else (if (rd x185 x187) < 0 then (if (rd x6 (wrap64 (2 * x187))) = (wrap64 ((-2) * (rd x185 x187))) then (laws_FnBindingsRead.j3 k x1 x5 x6 x14 x20 x187 (rd x185 x187) (rd x6 (wrap64 ((wrap64 (2 * x187)) + 1))) x185 x186 x187 ((rd x6 (wrap64 ((wrap64 (2 * x187)) + 1))) != (wrap64 ((wrap64 ((-2) * (rd x185 x187))) - 1)))) else (laws_FnBindingsRead.j3 k x1 x5 x6 x14 x20 x187 (rd x185 x187) (rd x6 (wrap64 ((wrap64 (2 * x187)) + 1))) x185 x186 x187 true)) else (laws_FnBindingsRead.j3 k x1 x5 x6 x14 x20 x187 (rd x185 x187) (rd x6 (wrap64 ((wrap64 (2 * x187)) + 1))) x185 x186 x187 false))) else (none)) else (none)) else (none)) else (none)) else (none)) else (none)) else (if x20 = x14 then (laws_FnBindingsRead.j6 k x1) else (some false))
def laws_FnBindingsRead.j3 : Nat → List Int → List Int → List Int → Int → Int → Int → Int → Int → List Int → Int → Int → Bool → Option (Bool)
 | 0, _, _, _, _, _, _, _, _, _, _, _, _ => none
 | k + 1, x1, x5, x6, x14, x20, x21, x22, x24, x185, x186, x187, x234 => if x234 = true then (some false) else (if x22 < 0 then (laws_FnBindingsRead.j4 k x1 x5 x6 x14 (wrap64 (x20 + 1)) x21 x22 x24 x185 x186 x187) else (laws_FnBindingsRead.j4 k x1 x5 x6 x14 x20 x21 x22 x24 x185 x186 x187))
def laws_FnBindingsRead.j4 : Nat → List Int → List Int → List Int → Int → Int → Int → Int → Int → List Int → Int → Int → Option (Bool)
 | 0, _, _, _, _, _, _, _, _, _, _, _ => none
 | k + 1, x1, x5, x6, x14, x20, x21, x22, x24, x185, x186, x187 => (impl_OpenAt.f k x5 x21).bind fun bt545 => (if (wrap64 (x21 + 1)) < (x5.length : Int) then (if 0 ≤ (wrap64 ((wrap64 (2 * x21)) + 2)) then (if (wrap64 ((wrap64 (2 * x21)) + 2)) < (x6.length : Int) then (laws_FnBindingsRead.j5 k x1 x5 x6 x14 x20 x21 x22 x24 bt545.1 bt545.2.1 bt545.2.2 (rd x6 (wrap64 ((wrap64 (2 * x21)) + 2))) x185 x186 x187) else (none)) else (none)) else (laws_FnBindingsRead.j5 k x1 x5 x6 x14 x20 x21 x22 x24 bt545.1 bt545.2.1 bt545.2.2 0 x185 x186 x187))
def laws_FnBindingsRead.j5 : Nat → List Int → List Int → List Int → Int → Int → Int → Int → Int → Int → Int → Bool → Int → List Int → Int → Int → Option (Bool)
 | 0, _, _, _, _, _, _, _, _, _, _, _, _, _, _, _ => none
 | k + 1, x1, x5, x6, x14, x20, x21, x22, x24, x25, x26, x27, x28, x185, x186, x187 => if x22 < 0 then ((impl_PlaceOfLeaf.f k x5 (wrap64 (-x22))).bind fun bt549 => (if x27 = true then (if x25 = x24 then (if x26 = x28 then (if bt549.2.2 = true then (if bt549.1 = x21 then (if (bt549.2.1 != (decide (x22 < 0))) = true then (some false) else (laws_FnBindingsRead.l0 k x1 x5 x6 x14 x20 x185 x186 (wrap64 (x187 + 1)))) else (some false)) else (some false)) else (some false)) else (some false)) else (some false))) else ((impl_PlaceOfLeaf.f k x5 x22).bind fun bt552 => (if x27 = true then (if x25 = x24 then (if x26 = x28 then (if bt552.2.2 = true then (if bt552.1 = x21 then (if (bt552.2.1 != (decide (x22 < 0))) = true then (some false) else (laws_FnBindingsRead.l0 k x1 x5 x6 x14 x20 x185 x186 (wrap64 (x187 + 1)))) else (some false)) else (some false)) else (some false)) else (some false)) else (some false)))
end
def laws_FnBindingsRead.f (k : Nat) (l0 : List Int) (l1 : List Int) : Option (Bool) := (laws_big.f l0 l1).bind fun t516 => (if t516 = true then (some true) else ((spec_DrawPagesRead.f k l0).bind fun t517 => ((impl_PagesRead.f k t517).bind fun bt520 => ((spec_PagesRead.f k t517).bind fun bt524 => ((impl_BindingText.f k t517).bind fun bt528 => ((spec_BindingText.f k t517).bind fun bt530 => ((impl_CountTurned.f k t517).bind fun bt532 => ((spec_CountTurned.f k t517).bind fun bt534 => (if (bt520.2 != bt524.2) = true then (laws_FnBindingsRead.j0 k l1 t517 bt520.1 bt520.2 bt528.1 bt532.1 true) else ((laws_fSame.f k bt520.1 bt524.1).bind fun t536 => (if t536 = true then (if (bt528.2 != bt530.2) = true then (laws_FnBindingsRead.j0 k l1 t517 bt520.1 bt520.2 bt528.1 bt532.1 true) else (if bt528.1.toList = bt530.1.toList then (if (bt532.2 != bt534.2) = true then (laws_FnBindingsRead.j0 k l1 t517 bt520.1 bt520.2 bt528.1 bt532.1 true) else (if bt532.1 = bt534.1 then (if (bt528.2 != bt520.2) = true then (laws_FnBindingsRead.j0 k l1 t517 bt520.1 bt520.2 bt528.1 bt532.1 true) else (laws_FnBindingsRead.j0 k l1 t517 bt520.1 bt520.2 bt528.1 bt532.1 (bt532.2 != bt520.2))) else (laws_FnBindingsRead.j0 k l1 t517 bt520.1 bt520.2 bt528.1 bt532.1 true))) else (laws_FnBindingsRead.j0 k l1 t517 bt520.1 bt520.2 bt528.1 bt532.1 true))) else (laws_FnBindingsRead.j0 k l1 t517 bt520.1 bt520.2 bt528.1 bt532.1 true))))))))))))
theorem laws_FnBindingsRead.j0_no (k : Nat) (y0_ : List Int) (y1_ : List Int) (y2_ : List Int) (y3_ : Bool) (y4_ : ByteArray) (y5_ : Int) (r : Bool) (hr : r = true) (H : laws_FnBindingsRead.j0 k y0_ y1_ y2_ y3_ y4_ y5_ true = some r) : False := by
 subst hr
 cases k with
 | zero => simp [laws_FnBindingsRead.j0] at H
 | succ k => rw [laws_FnBindingsRead.j0, if_pos rfl] at H; cases H
theorem laws_FnBindingsRead.j7_no (k : Nat) (y0_ : List Int) (y1_ : Int) (y2_ : Int) (y3_ : Int) (y4_ : List Int) (y5_ : Bool) (y6_ : Int) (y7_ : List Int) (y8_ : Bool) (y9_ : Int) (y10_ : Bool) (y11_ : Int) (y12_ : List Int) (y13_ : Int) (y14_ : Bool) (y15_ : ByteArray) (y16_ : List Int) (y17_ : Bool) (r : Bool) (hr : r = true) (H : laws_FnBindingsRead.j7 k y0_ y1_ y2_ y3_ y4_ y5_ y6_ y7_ y8_ y9_ y10_ y11_ y12_ y13_ y14_ y15_ y16_ y17_ true = some r) : False := by
 subst hr
 cases k with
 | zero => simp [laws_FnBindingsRead.j7] at H
 | succ k => rw [laws_FnBindingsRead.j7, if_pos rfl] at H; cases H
theorem laws_FnBindingsRead.j15_no (k : Nat) (y0_ : ByteArray) (y1_ : List Int) (y2_ : Bool) (r : Bool) (hr : r = true) (H : laws_FnBindingsRead.j15 k y0_ y1_ y2_ true = some r) : False := by
 subst hr
 cases k with
 | zero => simp [laws_FnBindingsRead.j15] at H
 | succ k => rw [laws_FnBindingsRead.j15, if_pos rfl] at H; cases H
theorem laws_FnBindingsRead.j8_no (k : Nat) (y0_ : List Int) (y1_ : Int) (y2_ : Int) (y3_ : List Int) (y4_ : Int) (y5_ : List Int) (y6_ : Bool) (y7_ : Int) (y8_ : Bool) (y9_ : Int) (y10_ : List Int) (y11_ : Int) (y12_ : Bool) (y13_ : ByteArray) (y14_ : List Int) (y15_ : Bool) (y16_ : Int) (r : Bool) (hr : r = true) (H : laws_FnBindingsRead.j8 k y0_ y1_ y2_ y3_ y4_ y5_ y6_ y7_ y8_ y9_ y10_ y11_ y12_ y13_ y14_ y15_ y16_ true = some r) : False := by
 subst hr
 cases k with
 | zero => simp [laws_FnBindingsRead.j8] at H
 | succ k => rw [laws_FnBindingsRead.j8, if_pos rfl] at H; cases H
theorem laws_FnBindingsRead.j1_no (k : Nat) (y0_ : List Int) (y1_ : List Int) (y2_ : List Int) (y3_ : Int) (y4_ : Int) (r : Bool) (hr : r = true) (H : laws_FnBindingsRead.j1 k y0_ y1_ y2_ y3_ y4_ true = some r) : False := by
 subst hr
 cases k with
 | zero => simp [laws_FnBindingsRead.j1] at H
 | succ k => rw [laws_FnBindingsRead.j1, if_pos rfl] at H; cases H
theorem laws_FnBindingsRead.j3_no (k : Nat) (y0_ : List Int) (y1_ : List Int) (y2_ : List Int) (y3_ : Int) (y4_ : Int) (y5_ : Int) (y6_ : Int) (y7_ : Int) (y8_ : List Int) (y9_ : Int) (y10_ : Int) (r : Bool) (hr : r = true) (H : laws_FnBindingsRead.j3 k y0_ y1_ y2_ y3_ y4_ y5_ y6_ y7_ y8_ y9_ y10_ true = some r) : False := by
 subst hr
 cases k with
 | zero => simp [laws_FnBindingsRead.j3] at H
 | succ k => rw [laws_FnBindingsRead.j3, if_pos rfl] at H; cases H

/-- THE ONE PURE STATEMENT of laws_FnBindingsRead. -/
def laws_FnBindingsRead.Pure : Prop := ∀ (l0 : List Int) (l1 : List Int), (l0.length ≤ maxLen ∧ ∀ x0_, x0_ ∈ l0 → (Lit.int .u8 x0_).wf = true) → (l1.length ≤ maxLen ∧ ∀ x0_, x0_ ∈ l1 → (Lit.int .u8 x0_).wf = true) → ∃ k, laws_FnBindingsRead.f k l0 l1 = some true

end Go.Proofs.YtppbpefehpbejaaDoor.P
end
