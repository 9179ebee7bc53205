/- Small facts on wrapped numbers, lists and rounds; no condition. -/
import Derived.Test.YtppbpefehpbejaaDoorZim0
import Derived.Test.YtppbpefehpbejaaDoorZim21
import Derived.Test.YtppbpefehpbejaaDoorZim22
import Derived.Test.YtppbpefehpbejaaDoorZim25
import Derived.Test.YtppbpefehpbejaaDoorZim23
import Derived.Test.YtppbpefehpbejaaDoorZim24
import Derived.Lib.Split
import Derived.Lib.Join
import Derived.Lib.AtoiTie
import Derived.Laws.BitsLemmas
import Derived.OpenShut
import Derived.ProofKit
import Derived.Deep.Slices
import Derived.Lib.SmallJoins
import Derived.WalkKit
section
namespace Go.Proofs.YtppbpefehpbejaaDoor.Base
open Go.RowKit Go.Proofs.YtppbpefehpbejaaDoorW.PrintWords
set_option linter.unusedVariables false

theorem w64 {x : Int} (h1 : -4611686018427387904 ≤ x) (h2 : x ≤ 4611686018427387904) : wrap64 x = x := by
  unfold wrap64
  omega
theorem getD_at {α : Type} (l : List α) (z : α) {i : Nat} (h : i < l.length) : l.getD i z = l[i] := by
  rw [List.getD_eq_getElem?_getD, List.getElem?_eq_getElem h]
  rfl
theorem Ev_bind {α β : Type} {g : Nat → Option α} {f : Nat → α → Option β} {a : α} {r : β} (h : Ev g a) (k : Ev (fun n => f n a) r) : Ev (fun n => (g n).bind (f n)) r := Ev.bind h k
theorem Ev_some {α β : Type} {x : Option α} {f : Nat → α → Option β} {a : α} {r : β} (h : x = some a) (k : Ev (fun n => f n a) r) : Ev (fun n => x.bind (f n)) r := by
  subst h
  exact k
theorem Ev_pos {α : Type} {c : Prop} [Decidable c] {f g : Nat → Option α} {r : α} (h : c) (k : Ev f r) : Ev (fun n => if c then f n else g n) r := by
  simp only [if_pos h]
  exact k
theorem Ev_neg {α : Type} {c : Prop} [Decidable c] {f g : Nat → Option α} {r : α} (h : ¬ c) (k : Ev g r) : Ev (fun n => if c then f n else g n) r := by
  simp only [if_neg h]
  exact k
theorem getD_set_self {α : Type} (l : List α) (z v : α) {i : Nat} (h : i < l.length) : (l.set i v).getD i z = v := by
  rw [List.getD_eq_getElem?_getD, List.getElem?_set_self h]
  rfl
theorem Ev_step {α : Type} {g f : Nat → Option α} {r : α} (h : ∀ k, g (k + 1) = f k) (k : Ev f r) : Ev g r := Ev.step h k
def inB (n lo hi : Int) : Bool := decide (lo ≤ n ∧ n ≤ hi)
end Go.Proofs.YtppbpefehpbejaaDoor.Base
end

section
namespace Go.Proofs.YtppbpefehpbejaaDoor.P
open Go.RowKit Go.Proofs.YtppbpefehpbejaaDoorW.PrintWords Go.Proofs.YtppbpefehpbejaaDoorW.PrintLast Go.Proofs.YtppbpefehpbejaaDoorW.PrintMore Go.Proofs.YtppbpefehpbejaaDoor.Base

theorem l1In_eq (n lo hi : Int) : spec_l1In.f n lo hi = some (inB n lo hi) := by
  unfold spec_l1In.f inB
  by_cases h : lo ≤ n <;> simp [h]
theorem within_eq (n lo hi : Int) : impl_within.f n lo hi = some (inB n lo hi) := by
  unfold impl_within.f inB
  by_cases h : lo ≤ n <;> simp [h]
end Go.Proofs.YtppbpefehpbejaaDoor.P
end

section
namespace Go.Proofs.YtppbpefehpbejaaDoor.P
open Go.RowKit Go.Proofs.YtppbpefehpbejaaDoorW.PrintWords Go.Proofs.YtppbpefehpbejaaDoor.Base
set_option linter.unusedVariables false

theorem nextI (n : Nat) (h : n ≤ 4000000) : wrap64 ((n : Int) + 1) = ((n + 1 : Nat) : Int) := by
  rw [w64 (by omega) (by omega)]; omega
end Go.Proofs.YtppbpefehpbejaaDoor.P
end

section
namespace Go.Proofs.YtppbpefehpbejaaDoor.P
open Go.RowKit Go.Proofs.YtppbpefehpbejaaDoorW.PrintWords Go.Proofs.YtppbpefehpbejaaDoorW.PrintLast Go.Proofs.YtppbpefehpbejaaDoorW.PrintMore Go.Proofs.YtppbpefehpbejaaDoor.Base
set_option linter.unusedVariables false

def rangeB (a b : Int) : Bool := decide (1 ≤ a ∧ a ≤ b ∧ b ≤ 2000)
theorem ixRange_eq (a b : Int) : spec_ixRange.f a b = some (rangeB a b) := by
  rw [spec_ixRange.f, l1In_eq]
  simp only [Option.bind_some]
  unfold inB rangeB
  by_cases h : 1 ≤ a ∧ a ≤ 2000; rotate_left
  · rw [decide_eq_false h, show decide (1 ≤ a ∧ a ≤ b ∧ b ≤ 2000) = false from decide_eq_false (by omega)]
    rfl
  rw [decide_eq_true h, if_pos rfl, l1In_eq]
  simp only [Option.bind_some]
  unfold inB
  rw [show decide (1 ≤ a ∧ a ≤ b ∧ b ≤ 2000) = decide (a ≤ b ∧ b ≤ 2000) from decide_eq_decide.2 (by omega)]
theorem isRange_eq (a b : Int) : impl_isRange.f a b = some (rangeB a b) := by
  rw [impl_isRange.f, within_eq]
  simp only [Option.bind_some]
  unfold inB rangeB
  by_cases h : 1 ≤ b ∧ b ≤ 2000; rotate_left
  · rw [decide_eq_false h, show decide (1 ≤ a ∧ a ≤ b ∧ b ≤ 2000) = false from decide_eq_false (by omega)]
    rfl
  rw [decide_eq_true h, if_pos rfl, within_eq]
  simp only [Option.bind_some]
  unfold inB
  rw [show decide (1 ≤ a ∧ a ≤ b ∧ b ≤ 2000) = decide (1 ≤ a ∧ a ≤ b) from decide_eq_decide.2 (by omega)]

theorem set_more (xs ys : List Bool) (p : Nat) (b : Bool) (h : p < xs.length) : (xs ++ ys).set p b = xs.set p b ++ ys := List.set_append_left _ _ h
theorem getD_set_far (xs : List Bool) (p q : Nat) (b : Bool) (h : p ≠ q) : (xs.set p b).getD q false = xs.getD q false := by
  rw [List.getD_eq_getElem?_getD, List.getElem?_set_ne h, ← List.getD_eq_getElem?_getD]
theorem getD_more (xs ys : List Bool) (q : Nat) (h : q < xs.length) : (xs ++ ys).getD q false = xs.getD q false := by
  rw [List.getD_eq_getElem?_getD, List.getElem?_append_left h, ← List.getD_eq_getElem?_getD]
structure Set1 (xs : List Bool) : Prop where
  len : xs.length = 2001
  none : xs.getD 0 false = false
theorem rep_none (m q : Nat) : (List.replicate m false).getD q false = false := by
  rw [List.getD_eq_getElem?_getD]
  cases e : (List.replicate m false)[q]? with
  | none => rfl
  | some b => exact (List.mem_replicate.1 (List.mem_of_getElem? e)).2
theorem Set1.empty : Set1 (List.replicate 2001 false) := ⟨List.length_replicate, rep_none _ _⟩
theorem Set1.put {xs : List Bool} (h : Set1 xs) {p : Nat} (h1 : 1 ≤ p) (b : Bool) : Set1 (xs.set p b) := ⟨by rw [List.length_set]; exact h.len, by rw [getD_set_far _ _ _ _ (by omega)]; exact h.none⟩

section
variable (l : List S100) (hn : l.length ≤ 1048576)
end
structure Upto (xs : List Bool) (out : List S100) (p : Nat) : Prop where
  len : out.length + 1 ≤ p
  last : xs.getD (p - 1) false = true → out ≠ [] ∧ (out.getD (out.length - 1) z100).f1 = (p : Int) - 1
  old : out ≠ [] → (out.getD (out.length - 1) z100).f1 ≤ (p : Int) - 1
  not : xs.getD (p - 1) false = false → out ≠ [] → (out.getD (out.length - 1) z100).f1 ≠ (p : Int) - 1
def few (r : List S100) : List S100 × Bool := if (r.length : Int) > 20 then ([], false) else (r, true)
theorem ixOf_end (marks : List Bool) (hm : marks.length ≤ 1048576) (out : List S100) : ∀ (n p : Nat), p + n = marks.length → (∀ q, p ≤ q → marks.getD q false = false) → Ev (fun k => spec_ixOf.l0 k marks out marks (marks.length : Int) (p : Int)) (few out) := by
  intro n
  induction n with
  | zero =>
    intro p hp hq
    refine Ev_step (fun k => ?_) (Ev.now _)
    rw [spec_ixOf.l0, if_neg (by omega)]
    by_cases h : (out.length : Int) > 20; rotate_left
    · rw [if_neg h, show few out = (out, true) from if_neg h]
    rw [if_pos h, show few out = ([], false) from if_pos h]
  | succ n ih =>
    intro p hp hq
    refine Ev_step (fun k => ?_) (ih (p + 1) (by omega) (fun q h => hq q (by omega)))
    have e : rdOf false marks (p : Int) = false := by unfold rdOf; rw [Int.toNat_natCast]; exact hq p (Nat.le_refl _)
    rw [spec_ixOf.l0, if_pos (by omega), if_pos (by omega), if_pos (by omega), e, if_neg (by decide), nextI p (by omega)]
theorem rdOf_nat (xs : List Bool) (p : Nat) : rdOf false xs (p : Int) = xs.getD p false := by unfold rdOf; rw [Int.toNat_natCast]
theorem getD_snoc (out : List S100) (x : S100) : (out ++ [x]).getD ((out ++ [x]).length - 1) z100 = x := by
  rw [List.getD_eq_getElem?_getD, List.length_append, List.length_singleton, Nat.add_sub_cancel, List.getElem?_append_right (Nat.le_refl _), Nat.sub_self]
  rfl
theorem getD_last (out : List S100) (x : S100) (h : out ≠ []) : (out.set (out.length - 1) x).getD ((out.set (out.length - 1) x).length - 1) z100 = x := by
  have := List.length_pos_iff.2 h
  rw [List.length_set, getD_set_self _ _ _ (by omega)]
end Go.Proofs.YtppbpefehpbejaaDoor.P
end

section
namespace Go.Proofs.YtppbpefehpbejaaDoor.Runs
open Go.Proofs.YtppbpefehpbejaaDoor.P
set_option linter.unusedVariables false

abbrev RG := S100
def GoodF (lo : Int) : List RG → Prop
  | [] => True
  | r :: l => lo ≤ r.f0 ∧ r.f0 ≤ r.f1 ∧ r.f1 ≤ 2000 ∧ GoodF (r.f1 + 2) l
def has (l : List RG) (p : Int) : Bool := l.any fun r => decide (r.f0 ≤ p ∧ p ≤ r.f1)
theorem has_nil (p : Int) : has [] p = false := rfl
theorem has_cons (r : RG) (l : List RG) (p : Int) : has (r :: l) p = (decide (r.f0 ≤ p ∧ p ≤ r.f1) || has l p) := rfl
theorem has_append (l m : List RG) (p : Int) : has (l ++ m) p = (has l p || has m p) := by unfold has; rw [List.any_append]
theorem GoodF.mono {lo lo' : Int} {l : List RG} (h : GoodF lo l) (hl : lo' ≤ lo) : GoodF lo' l := by
  cases l with
  | nil => trivial
  | cons r l => exact ⟨Int.le_trans hl h.1, h.2⟩
theorem has_below : ∀ {l : List RG} {lo p : Int}, GoodF lo l → p < lo → has l p = false := by
  intro l
  induction l with
  | nil => intro lo p _ _; rfl
  | cons r l ih =>
    intro lo p h hp
    obtain ⟨h1, h2, h3, h4⟩ := h
    rw [has_cons, ih h4 (by omega), Bool.or_false]
    exact decide_eq_false (by omega)
theorem has_above : ∀ {l : List RG} {lo p : Int}, GoodF lo l → 2000 < p → has l p = false := by
  intro l
  induction l with
  | nil => intro lo p _ _; rfl
  | cons r l ih =>
    intro lo p h hp
    obtain ⟨h1, h2, h3, h4⟩ := h
    rw [has_cons, ih h4 hp, Bool.or_false]
    exact decide_eq_false (by omega)
theorem has_head {r : RG} {l : List RG} {lo p : Int} (h : GoodF lo (r :: l)) (hp : p ≤ r.f1 + 1) : has (r :: l) p = decide (r.f0 ≤ p ∧ p ≤ r.f1) := by
  obtain ⟨h1, h2, h3, h4⟩ := h
  rw [has_cons, has_below h4 (by omega), Bool.or_false]
theorem good_one : ∀ {l m : List RG} {lo : Int}, GoodF lo l → GoodF lo m → (∀ p, has l p = has m p) → l = m := by
  intro l
  induction l with
  | nil =>
    intro m lo _ hm he
    cases m with
    | nil => rfl
    | cons r m =>
      have := he r.f0
      rw [has_nil, has_head hm (by have := hm.2.1; omega), decide_eq_true ⟨Int.le_refl _, hm.2.1⟩] at this
      cases this
  | cons r l ih =>
    intro m lo hl hm he
    cases m with
    | nil =>
      have := he r.f0
      rw [has_nil, has_head hl (by have := hl.2.1; omega), decide_eq_true ⟨Int.le_refl _, hl.2.1⟩] at this
      cases this
    | cons q m =>
      have hl2 := hl.2.1
      have hm2 := hm.2.1
      have e0 : r.f0 = q.f0 := by
        have a := he r.f0
        have b := he q.f0
        rw [has_head hl (by omega), decide_eq_true (show r.f0 ≤ r.f0 ∧ r.f0 ≤ r.f1 by omega)] at a
        rw [has_head hm (show q.f0 ≤ q.f1 + 1 by omega), decide_eq_true (show q.f0 ≤ q.f0 ∧ q.f0 ≤ q.f1 by omega)] at b
        rcases Int.lt_trichotomy r.f0 q.f0 with h | h | h
        · rw [has_head hm (by omega), decide_eq_false (by omega)] at a
          cases a
        · exact h
        · rw [has_head hl (by omega), decide_eq_false (by omega)] at b
          cases b
      have e1 : r.f1 = q.f1 := by
        rcases Int.lt_trichotomy r.f1 q.f1 with h | h | h
        · have a := he (r.f1 + 1)
          rw [has_head hl (by omega), has_head hm (by omega), decide_eq_false (by omega), decide_eq_true (by omega)] at a
          cases a
        · exact h
        · have a := he (q.f1 + 1)
          rw [has_head hl (by omega), has_head hm (by omega), decide_eq_true (by omega), decide_eq_false (by omega)] at a
          cases a
      have er : r = q := by
        cases r; cases q
        simp only at e0 e1
        rw [e0, e1]
      subst er
      have := ih hl.2.2.2 hm.2.2.2 (fun p => by
        rcases Int.lt_or_le p (r.f1 + 2) with h | h
        · rw [has_below hl.2.2.2 h, has_below hm.2.2.2 h]
        · have a := he p
          rw [has_cons, has_cons, decide_eq_false (by omega), Bool.false_or, Bool.false_or] at a
          exact a)
      rw [this]
def cnt (f : Int → Bool) (a : Int) : Nat → Nat
  | 0 => 0
  | n + 1 => (if f a = true then 1 else 0) + cnt f (a + 1) n
theorem cnt_congr {f g : Int → Bool} : ∀ {n : Nat} {a : Int}, (∀ p, a ≤ p → p < a + n → f p = g p) → cnt f a n = cnt g a n := by
  intro n
  induction n with
  | zero => intro a _; rfl
  | succ n ih =>
    intro a h
    rw [cnt, cnt, h a (Int.le_refl _) (by omega), ih (fun p h1 h2 => h p (by omega) (by omega))]
theorem cnt_add (f : Int → Bool) : ∀ (n m : Nat) (a : Int), cnt f a (n + m) = cnt f a n + cnt f (a + n) m := by
  intro n
  induction n with
  | zero => intro m a; rw [Nat.zero_add, cnt, Nat.zero_add, show a + ((0 : Nat) : Int) = a by omega]
  | succ n ih => intro m a; rw [show n + 1 + m = (n + m) + 1 by omega, cnt, cnt, ih, Nat.add_assoc, show a + 1 + (n : Int) = a + ((n + 1 : Nat) : Int) by omega]
theorem cnt_all {f : Int → Bool} : ∀ {n : Nat} {a : Int}, (∀ p, a ≤ p → p < a + n → f p = true) → cnt f a n = n := by
  intro n
  induction n with
  | zero => intro a _; rfl
  | succ n ih =>
    intro a h
    rw [cnt, h a (Int.le_refl _) (by omega), ih (fun p h1 h2 => h p (by omega) (by omega)), if_pos rfl]
    omega
theorem cnt_none {f : Int → Bool} : ∀ {n : Nat} {a : Int}, (∀ p, a ≤ p → p < a + n → f p = false) → cnt f a n = 0 := by
  intro n
  induction n with
  | zero => intro a _; rfl
  | succ n ih =>
    intro a h
    rw [cnt, h a (Int.le_refl _) (by omega), ih (fun p h1 h2 => h p (by omega) (by omega))]
    rfl
theorem cnt_le {f g : Int → Bool} : ∀ {n : Nat} {a : Int}, (∀ p, a ≤ p → p < a + n → f p = true → g p = true) → cnt f a n ≤ cnt g a n := by
  intro n
  induction n with
  | zero => intro a _; exact Nat.le_refl _
  | succ n ih =>
    intro a h
    have h1 := ih (a := a + 1) (fun p h1 h2 => h p (by omega) (by omega))
    rw [cnt, cnt]
    by_cases hf : f a = true; rotate_left
    · rw [if_neg hf]
      omega
    rw [if_pos hf, if_pos (h a (Int.le_refl _) (by omega) hf)]
    omega
def size : List RG → Int
  | [] => 0
  | r :: l => (r.f1 - r.f0 + 1) + size l
theorem size_cnt : ∀ {l : List RG} {lo : Int} {n : Nat}, GoodF lo l → lo + n = 2001 → size l = (cnt (has l) lo n : Int) := by
  intro l
  induction l with
  | nil =>
    intro lo n _ _
    rw [cnt_none (fun p _ _ => has_nil p)]
    rfl
  | cons r l ih =>
    intro lo n h hn
    have h1 := h.1
    have h2 := h.2.1
    have h3 := h.2.2.1
    have hg := h.2.2.2
    obtain ⟨a, ha⟩ := Int.eq_ofNat_of_zero_le (show 0 ≤ r.f0 - lo by omega)
    obtain ⟨b, hb⟩ := Int.eq_ofNat_of_zero_le (show 0 ≤ r.f1 - r.f0 + 1 by omega)
    obtain ⟨c, hc⟩ := Int.eq_ofNat_of_zero_le (show 0 ≤ 2000 - r.f1 by omega)
    have e : n = a + (b + c) := by omega
    rw [e, cnt_add, cnt_add, size]
    have z1 : cnt (has (r :: l)) lo a = 0 := cnt_none (fun p p1 p2 => by rw [has_head h (by omega)]; exact decide_eq_false (by omega))
    have z2 : cnt (has (r :: l)) (lo + a) b = b := cnt_all (fun p p1 p2 => by rw [has_head h (by omega)]; exact decide_eq_true (by omega))
    have z3 : cnt (has (r :: l)) (lo + a + b) c = cnt (has l) (lo + a + b) c := cnt_congr (fun p p1 p2 => by rw [has_cons, decide_eq_false (by omega), Bool.false_or])
    rw [z1, z2, z3]
    cases c with
    | zero =>
      have : l = [] := by
        cases l with
        | nil => rfl
        | cons q l => have := hg.1; have := hg.2.1; have := hg.2.2.1; omega
      subst this
      rw [cnt]
      show r.f1 - r.f0 + 1 + 0 = _
      omega
    | succ c =>
      rw [cnt, has_below hg (by omega), if_neg (by decide), Nat.zero_add, ih (n := c) hg (by omega), show lo + (a : Int) + (b : Int) + 1 = r.f1 + 2 by omega]
      omega
def rise (f : Int → Bool) (p : Int) : Bool := f p && !f (p - 1)
theorem len_rise : ∀ {l : List RG} {lo : Int} {n : Nat}, GoodF lo l → lo + n = 2001 → l.length = cnt (rise (has l)) lo n := by
  intro l
  induction l with
  | nil =>
    intro lo n _ _
    rw [cnt_none (f := rise (has [])) (fun p _ _ => rfl)]
    rfl
  | cons r l ih =>
    intro lo n h hn
    have h1 := h.1
    have h2 := h.2.1
    have h3 := h.2.2.1
    have hg := h.2.2.2
    obtain ⟨a, ha⟩ := Int.eq_ofNat_of_zero_le (show 0 ≤ r.f0 - lo by omega)
    obtain ⟨b, hb⟩ := Int.eq_ofNat_of_zero_le (show 0 ≤ r.f1 - r.f0 by omega)
    obtain ⟨c, hc⟩ := Int.eq_ofNat_of_zero_le (show 0 ≤ 2000 - r.f1 by omega)
    have e : n = a + ((b + c) + 1) := by omega
    rw [e, cnt_add, cnt, cnt_add, List.length_cons]
    have z1 : cnt (rise (has (r :: l))) lo a = 0 := cnt_none (fun p p1 p2 => by unfold rise; rw [has_head h (by omega), decide_eq_false (by omega)]; rfl)
    have z2 : rise (has (r :: l)) (lo + a) = true := by unfold rise; rw [has_head h (by omega), has_head h (by omega), decide_eq_true (by omega), decide_eq_false (by omega)]; rfl
    have z3 : cnt (rise (has (r :: l))) (lo + a + 1) b = 0 := cnt_none (fun p p1 p2 => by unfold rise; rw [has_head h (by omega), has_head h (show p - 1 ≤ r.f1 + 1 by omega), decide_eq_true (show r.f0 ≤ p - 1 ∧ p - 1 ≤ r.f1 by omega)]; simp)
    have z4 : cnt (rise (has (r :: l))) (lo + a + 1 + b) c = cnt (rise (has l)) (lo + a + 1 + b) c := cnt_congr (fun p p1 p2 => by
      unfold rise
      rw [has_cons, has_cons, decide_eq_false (show ¬ (r.f0 ≤ p ∧ p ≤ r.f1) by omega), Bool.false_or]
      by_cases hp : p = r.f1 + 1
      · subst hp
        rw [has_below hg (show r.f1 + 1 < r.f1 + 2 by omega)]
        rfl
      · rw [decide_eq_false (show ¬ (r.f0 ≤ p - 1 ∧ p - 1 ≤ r.f1) by omega), Bool.false_or])
    rw [z1, z2, if_pos rfl, z3, z4]
    cases c with
    | zero =>
      have : l = [] := by
        cases l with
        | nil => rfl
        | cons q l => have := hg.1; have := hg.2.1; have := hg.2.2.1; omega
      subst this
      rfl
    | succ c =>
      have z5 : rise (has l) (lo + a + 1 + b) = false := by unfold rise; rw [has_below hg (by omega)]; rfl
      rw [cnt, z5, if_neg (by decide), ih (n := c) hg (by omega), show lo + (a : Int) + 1 + (b : Int) + 1 = r.f1 + 2 by omega]
      omega
end Go.Proofs.YtppbpefehpbejaaDoor.Runs
end

section
namespace Go.Proofs.YtppbpefehpbejaaDoor.P
open Go.RowKit Go.Proofs.YtppbpefehpbejaaDoorW.PrintWords Go.Proofs.YtppbpefehpbejaaDoorW.PrintLast Go.Proofs.YtppbpefehpbejaaDoorW.PrintMore Go.Proofs.YtppbpefehpbejaaDoor.Base Go.Proofs.YtppbpefehpbejaaDoor.Runs
set_option linter.unusedVariables false

theorem rdT_mem (l : List RG) (i : Nat) (h : i < l.length) : rd_T100 l (i : Int) = l[i] := by unfold rd_T100; rw [Int.toNat_natCast, getD_at l _ h]
def goodB (lo : Int) : List RG → Bool
  | [] => true
  | r :: l => decide (lo ≤ r.f0 ∧ r.f0 ≤ r.f1 ∧ r.f1 ≤ 2000) && goodB (r.f1 + 2) l
theorem goodB_iff : ∀ {l : List RG} {lo : Int}, goodB lo l = true ↔ GoodF lo l := by
  intro l
  induction l with
  | nil => intro lo; exact ⟨fun _ => trivial, fun _ => rfl⟩
  | cons r l ih =>
    intro lo
    rw [goodB, Bool.and_eq_true, decide_eq_true_eq, ih, GoodF]
    exact ⟨fun ⟨⟨a, b, c⟩, d⟩ => ⟨a, b, c, d⟩, fun ⟨a, b, c, d⟩ => ⟨⟨a, b, c⟩, d⟩⟩
theorem areR_l0 (l : List RG) (hn : l.length ≤ 1048576) : ∀ (n i : Nat), i + n = l.length → 1 ≤ i → (h : i - 1 < l.length) → 1 ≤ l[i - 1].f1 → l[i - 1].f1 ≤ 2000 →
    Ev (fun k => spec_ixGood.l0 k l l (l.length : Int) (i : Int)) (goodB (l[i - 1].f1 + 2) (l.drop i)) ∧ Ev (fun k => impl_AreRanges.l0 k l l (l.length : Int) (i : Int)) (goodB (l[i - 1].f1 + 2) (l.drop i) && decide ((l.length : Int) ≤ 20)) := by
  intro n
  induction n with
  | zero =>
    intro i hi h1 hp p1 p2
    rw [List.drop_of_length_le (by omega)]
    refine ⟨Ev_step (fun k => ?_) (Ev.now _), Ev_step (fun k => ?_) (Ev.now _)⟩
    · rw [spec_ixGood.l0, if_neg (by omega)]
      rfl
    · rw [impl_AreRanges.l0, if_neg (by omega), goodB, Bool.true_and]
  | succ n ih =>
    intro i hi h1 hp p1 p2
    have h : i < l.length := by omega
    have w : wrap64 ((i : Int) - 1) = ((i - 1 : Nat) : Int) := by rw [w64 (by omega) (by omega)]; omega
    have w2 : wrap64 (l[i - 1].f1 + 2) = l[i - 1].f1 + 2 := w64 (by omega) (by omega)
    have e1 := rdT_mem l i h
    have e2 := rdT_mem l (i - 1) hp
    rw [List.drop_eq_getElem_cons h, goodB]
    have s1 : ∀ k, spec_ixGood.l0 (k + 1) l l (l.length : Int) (i : Int) = (if rangeB l[i].f0 l[i].f1 = true then (if l[i].f0 < l[i - 1].f1 + 2 then some false else spec_ixGood.l0 k l l (l.length : Int) ((i + 1 : Nat) : Int)) else some false) := fun k => by
      rw [spec_ixGood.l0, if_pos (by omega), if_pos (by omega), if_pos (by omega), ixRange_eq, w, nextI i (by omega), e1, e2, w2]
      simp only [Option.bind_some]
      rw [if_pos (show (i : Int) > 0 by omega), if_pos (show (0 : Int) ≤ ((i - 1 : Nat) : Int) by omega), if_pos (show ((i - 1 : Nat) : Int) < (l.length : Int) by omega)]
    have s2 : ∀ k, impl_AreRanges.l0 (k + 1) l l (l.length : Int) (i : Int) = (if rangeB l[i].f0 l[i].f1 = true then (if l[i].f0 < l[i - 1].f1 + 2 then some false else impl_AreRanges.l0 k l l (l.length : Int) ((i + 1 : Nat) : Int)) else some false) := fun k => by
      rw [impl_AreRanges.l0, if_pos (by omega), if_pos (by omega), if_pos (by omega), isRange_eq, w, nextI i (by omega), e1, e2, w2]
      simp only [Option.bind_some]
      rw [if_pos (show (i : Int) > 0 by omega), if_pos (show (0 : Int) ≤ ((i - 1 : Nat) : Int) by omega), if_pos (show ((i - 1 : Nat) : Int) < (l.length : Int) by omega)]
    by_cases hr : rangeB l[i].f0 l[i].f1 = true; rotate_left
    · have hr2 := hr
      unfold rangeB at hr2
      rw [decide_eq_true_eq] at hr2
      rw [decide_eq_false (by omega), Bool.false_and, Bool.false_and]
      exact ⟨Ev_step s1 (Ev_neg hr (Ev.now _)), Ev_step s2 (Ev_neg hr (Ev.now _))⟩
    have hr2 := hr
    unfold rangeB at hr2
    rw [decide_eq_true_eq] at hr2
    by_cases hg : l[i].f0 < l[i - 1].f1 + 2
    · rw [decide_eq_false (by omega), Bool.false_and, Bool.false_and]
      exact ⟨Ev_step s1 (Ev_pos hr (Ev_pos hg (Ev.now _))), Ev_step s2 (Ev_pos hr (Ev_pos hg (Ev.now _)))⟩
    rw [decide_eq_true (by omega), Bool.true_and]
    obtain ⟨a, b⟩ := ih (i + 1) (by omega) (by omega) (by omega) (by simp only [Nat.add_sub_cancel]; omega) (by simp only [Nat.add_sub_cancel]; omega)
    simp only [Nat.add_sub_cancel] at a b
    exact ⟨Ev_step s1 (Ev_pos hr (Ev_neg hg a)), Ev_step s2 (Ev_pos hr (Ev_neg hg b))⟩
def areB (l : List RG) : Bool := goodB 1 l && decide (l.length ≤ 20)
theorem areR_ev (l : List RG) (hn : l.length ≤ 1048576) : Ev (fun k => spec_ixGood.f k l) (areB l) ∧ Ev (fun k => impl_AreRanges.f k l) (areB l) := by
  have key : Ev (fun k => spec_ixGood.l0 k l l (l.length : Int) 0) (goodB 1 l) ∧ Ev (fun k => impl_AreRanges.l0 k l l (l.length : Int) 0) (goodB 1 l && decide ((l.length : Int) ≤ 20)) := by
    cases hl : l with
    | nil =>
      refine ⟨Ev_step (fun k => ?_) (Ev.now _), Ev_step (fun k => ?_) (Ev.now _)⟩
      · rw [spec_ixGood.l0, if_neg (by simp)]
        rfl
      · rw [impl_AreRanges.l0, if_neg (by simp)]
        rfl
    | cons r m =>
      rw [← hl]
      have h : 0 < l.length := by rw [hl]; simp
      have e0 : l[0] = r := by simp [hl]
      have e1 : rd_T100 l 0 = r := (rdT_mem l 0 h).trans e0
      have s1 : ∀ k, spec_ixGood.l0 (k + 1) l l (l.length : Int) 0 = (if rangeB r.f0 r.f1 = true then spec_ixGood.l0 k l l (l.length : Int) ((1 : Nat) : Int) else some false) := fun k => by
        rw [spec_ixGood.l0, if_pos (by omega), if_pos (by omega), if_pos (by omega), ixRange_eq, e1]
        simp only [Option.bind_some]
        rw [if_neg (show ¬ (0 : Int) > 0 by decide), show wrap64 (0 + 1) = ((1 : Nat) : Int) from w142_]
      have s2 : ∀ k, impl_AreRanges.l0 (k + 1) l l (l.length : Int) 0 = (if rangeB r.f0 r.f1 = true then impl_AreRanges.l0 k l l (l.length : Int) ((1 : Nat) : Int) else some false) := fun k => by
        rw [impl_AreRanges.l0, if_pos (by omega), if_pos (by omega), if_pos (by omega), isRange_eq, e1]
        simp only [Option.bind_some]
        rw [if_neg (show ¬ (0 : Int) > 0 by decide), show wrap64 (0 + 1) = ((1 : Nat) : Int) from w142_]
      have eg : goodB 1 l = (decide (1 ≤ r.f0 ∧ r.f0 ≤ r.f1 ∧ r.f1 ≤ 2000) && goodB (r.f1 + 2) (l.drop 1)) := by rw [hl, goodB]; rfl
      rw [eg]
      by_cases hr : rangeB r.f0 r.f1 = true; rotate_left
      · have hr2 := hr
        unfold rangeB at hr2
        rw [decide_eq_true_eq] at hr2
        rw [decide_eq_false (by omega), Bool.false_and, Bool.false_and]
        exact ⟨Ev_step s1 (Ev_neg hr (Ev.now _)), Ev_step s2 (Ev_neg hr (Ev.now _))⟩
      have hr2 := hr
      unfold rangeB at hr2
      rw [decide_eq_true_eq] at hr2
      obtain ⟨a, b⟩ := areR_l0 l hn (l.length - 1) 1 (by omega) (Nat.le_refl _) h (by rw [e0]; omega) (by rw [e0]; omega)
      rw [e0] at a b
      rw [decide_eq_true (by omega), Bool.true_and]
      exact ⟨Ev_step s1 (Ev_pos hr a), Ev_step s2 (Ev_pos hr b)⟩
  have ed : decide (l.length ≤ 20) = decide ((l.length : Int) ≤ 20) := decide_eq_decide.2 (by omega)
  unfold areB
  rw [ed]
  refine ⟨?_, Ev.congr (fun k => by rw [impl_AreRanges.f]) key.2⟩
  simp only [spec_ixGood.f]
  by_cases h : (l.length : Int) > 20; rotate_left
  · rw [decide_eq_true (by omega), Bool.and_true]
    exact Ev_neg h key.1
  rw [decide_eq_false (by omega), Bool.and_false]
  exact Ev_pos h (Ev.now _)
theorem areB_iff {l : List RG} : areB l = true ↔ GoodF 1 l ∧ l.length ≤ 20 := by
  unfold areB
  rw [Bool.and_eq_true, goodB_iff, decide_eq_true_eq]
theorem good_mem : ∀ {l : List RG} {lo : Int}, GoodF lo l → ∀ x ∈ l, lo ≤ x.f0 ∧ x.f0 ≤ x.f1 ∧ x.f1 ≤ 2000 := by
  intro l
  induction l with
  | nil => intro lo _ x hx; cases hx
  | cons r l ih =>
    intro lo h x hx
    rcases List.mem_cons.1 hx with rfl | hx
    · exact ⟨h.1, h.2.1, h.2.2.1⟩
    · have := ih h.2.2.2 x hx
      have := h.1
      have := h.2.1
      omega
theorem good_snoc : ∀ {l : List RG} {lo : Int} {r : RG}, GoodF lo l → (∀ x ∈ l, x.f1 + 2 ≤ r.f0) → lo ≤ r.f0 → r.f0 ≤ r.f1 → r.f1 ≤ 2000 → GoodF lo (l ++ [r]) := by
  intro l
  induction l with
  | nil => intro lo r _ _ h1 h2 h3; exact ⟨h1, h2, h3, trivial⟩
  | cons q l ih =>
    intro lo r h ha h1 h2 h3
    exact ⟨h.1, h.2.1, h.2.2.1, ih h.2.2.2 (fun x hx => ha x (List.mem_cons_of_mem _ hx)) (ha q (List.mem_cons_self)) h2 h3⟩
theorem good_last : ∀ {l : List RG} {lo : Int} {x : RG} {y : Int}, GoodF lo (l ++ [x]) → x.f0 ≤ y → y ≤ 2000 → GoodF lo (l ++ [⟨x.f0, y⟩]) := by
  intro l
  induction l with
  | nil => intro lo x y h h1 h2; exact ⟨h.1, h1, h2, trivial⟩
  | cons q l ih => intro lo x y h h1 h2; exact ⟨h.1, h.2.1, h.2.2.1, ih h.2.2.2 h1 h2⟩
theorem has_past {l : List RG} {p : Int} (h : ∀ x ∈ l, x.f1 < p) : has l p = false := by
  unfold has
  rw [List.any_eq_false]
  intro x hx
  have := h x hx
  rw [decide_eq_true_eq]
  omega
structure Sem (xs : List Bool) (out : List RG) (p : Nat) : Prop where
  good : GoodF 1 out
  past : ∀ x ∈ out, x.f1 < (p : Int)
  sem : ∀ q : Nat, q < p → has out (q : Int) = xs.getD q false
theorem all_sem (xs : List Bool) (hx : Set1 xs) (m : Nat) (hm : m ≤ 1000000) : ∀ (n p : Nat) (out : List RG), p + n = 2001 → 1 ≤ p → Upto xs out p → Sem xs out p →
    ∃ r, Ev (fun k => impl_pageSet_all.l0 k xs out (p : Int)) r ∧ Ev (fun k => spec_ixOf.l0 k (xs ++ List.replicate m false) out (xs ++ List.replicate m false) ((xs ++ List.replicate m false).length : Int) (p : Int)) (few r) ∧ Sem xs r 2001 := by
  have hl := hx.len
  have hlm : (xs ++ List.replicate m false).length = 2001 + m := by rw [List.length_append, hl, List.length_replicate]
  intro n
  induction n with
  | zero =>
    intro p out hp hp1 hu hs
    obtain rfl : p = 2001 := by omega
    refine ⟨out, Ev_step (fun k => ?_) (Ev.now _), ?_, hs⟩
    · rw [impl_pageSet_all.l0, if_neg (by omega)]
    · refine ixOf_end _ (by omega) out m 2001 hlm.symm (fun q hq => ?_)
      rw [List.getD_eq_getElem?_getD, List.getElem?_append_right (by omega), ← List.getD_eq_getElem?_getD]
      exact rep_none _ _
  | succ n ih =>
    intro p out hp hp1 hu hs
    have hn1 : ((p + 1 : Nat) : Int) - 1 = (p : Int) := by omega
    have w1 : wrap64 ((p : Int) - 1) = ((p - 1 : Nat) : Int) := by rw [w64 (by omega) (by omega)]; omega
    have hmk : ∀ q, q < 2001 → rdOf false (xs ++ List.replicate m false) ((q : Nat) : Int) = xs.getD q false := fun q hq => by rw [rdOf_nat, getD_more _ _ _ (by omega)]
    cases hb : xs.getD p false with
    | false =>
      have hs2 : Sem xs out (p + 1) := ⟨hs.good, fun x hx => by have := hs.past x hx; omega, fun q hq => by
        by_cases h : q = p
        · subst h
          rw [hb]
          exact has_past hs.past
        · exact hs.sem q (by omega)⟩
      obtain ⟨r, a, b, c⟩ := ih (p + 1) out (by omega) (by omega) ⟨by have := hu.len; omega, (fun h => by rw [Nat.add_sub_cancel, hb] at h; cases h), (fun h => by have := hu.old h; omega), (fun _ h => by have := hu.old h; omega)⟩ hs2
      refine ⟨r, Ev_step (fun k => ?_) a, Ev_step (fun k => ?_) b, c⟩
      · rw [impl_pageSet_all.l0, if_pos (by omega), if_pos (by omega), if_pos (by omega), rdOf_nat, hb, if_neg (by decide), nextI p (by omega)]
      · rw [spec_ixOf.l0, if_pos (by omega), if_pos (by omega), if_pos (by omega), hmk p (by omega), hb, if_neg (by decide), nextI p (by omega)]
    | true =>
      cases hc : xs.getD (p - 1) false with
      | true =>
        obtain ⟨h1, h2⟩ := hu.last hc
        have h3 := List.length_pos_iff.2 h1
        have hol := hu.len
        have w2 : wrap64 ((out.length : Int) - 1) = ((out.length - 1 : Nat) : Int) := by rw [w64 (by omega) (by omega)]; omega
        have hs2 : Sem xs (out.set (out.length - 1) ⟨(rd_T100 out ((out.length - 1 : Nat) : Int)).f0, (p : Int)⟩) (p + 1) := by
          rw [rdT_mem out (out.length - 1) (by omega)]
          rw [getD_at out _ (show out.length - 1 < out.length by omega)] at h2
          obtain ⟨init, x, rfl⟩ : ∃ init x, out = init ++ [x] := ⟨out.dropLast, out.getLast h1, (List.dropLast_concat_getLast h1).symm⟩
          have el : (init ++ [x]).length - 1 = init.length := by simp
          simp only [el] at h2 ⊢
          have ex : (init ++ [x])[init.length]'(by simp) = x := by simp
          rw [ex] at h2 ⊢
          rw [List.set_append_right _ _ (Nat.le_refl _), Nat.sub_self, List.set_cons_zero]
          have hmx := good_mem hs.good x (by simp)
          refine ⟨good_last hs.good (by omega) (by omega), fun y hy => ?_, fun q hq => ?_⟩
          · rcases List.mem_append.1 hy with h | h
            · have := hs.past y (List.mem_append_left _ h)
              omega
            · rw [List.mem_singleton.1 h]
              show (p : Int) < _
              omega
          · by_cases h : q = p
            · subst h
              rw [hb, has_append, has_cons, has_nil, Bool.or_false]
              rw [decide_eq_true (show x.f0 ≤ (q : Int) ∧ (q : Int) ≤ q by omega), Bool.or_true]
            · have := hs.sem q (by omega)
              rw [has_append, has_cons, has_nil, Bool.or_false] at this ⊢
              rw [← this, show decide (x.f0 ≤ (q : Int) ∧ (q : Int) ≤ (p : Int)) = decide (x.f0 ≤ (q : Int) ∧ (q : Int) ≤ x.f1) from decide_eq_decide.2 (by omega)]
        obtain ⟨r, a, b, c⟩ := ih (p + 1) (out.set (out.length - 1) ⟨(rd_T100 out ((out.length - 1 : Nat) : Int)).f0, (p : Int)⟩) (by omega) (by omega)
          ⟨by rw [List.length_set]; omega, fun _ => ⟨fun h => h1 ((List.set_eq_nil_iff _ _).1 h), by rw [getD_last _ _ h1, hn1]⟩, (fun _ => by rw [getD_last _ _ h1, hn1]; exact Int.le_refl _), (fun h => by rw [Nat.add_sub_cancel, hb] at h; cases h)⟩ hs2
        refine ⟨r, Ev_step (fun k => ?_) a, Ev_step (fun k => ?_) b, c⟩
        · have e : (rd_T100 out ((out.length - 1 : Nat) : Int)).f1 = ((p - 1 : Nat) : Int) := by unfold rd_T100; rw [Int.toNat_natCast, h2]; omega
          rw [impl_pageSet_all.l0, if_pos (by omega), if_pos (by omega), if_pos (by omega), rdOf_nat, hb, if_pos rfl, if_pos (by omega), w2, if_pos (by omega), if_pos (by omega), w1, if_pos e, nextI p (by omega), Int.toNat_natCast]
        · rw [spec_ixOf.l0, if_pos (by omega), if_pos (by omega), if_pos (by omega), hmk p (by omega), hb, if_pos rfl, if_pos (by omega), w1, if_pos (by omega), if_pos (by omega), hmk (p - 1) (by omega), hc, if_pos rfl, w2, if_pos (by omega), if_pos (by omega), nextI p (by omega), Int.toNat_natCast]
      | false =>
        have hol := hu.len
        have hfar : ∀ x ∈ out, x.f1 + 2 ≤ (p : Int) := fun x hx => by
          have h1 := hs.past x hx
          have h2 := good_mem hs.good x hx
          have h3 := hs.sem (p - 1) (by omega)
          rw [hc] at h3
          rcases Int.lt_or_le (x.f1 + 1) (p : Int) with h | h
          · omega
          · exfalso
            have : has out ((p - 1 : Nat) : Int) = true := by
              unfold has
              rw [List.any_eq_true]
              exact ⟨x, hx, decide_eq_true (by omega)⟩
            rw [this] at h3
            cases h3
        have hs2 : Sem xs (out ++ [⟨(p : Int), (p : Int)⟩]) (p + 1) := by
          refine ⟨good_snoc hs.good hfar (by show (1 : Int) ≤ (p : Int); omega) (Int.le_refl _) (by show (p : Int) ≤ 2000; omega), fun y hy => ?_, fun q hq => ?_⟩
          · rcases List.mem_append.1 hy with h | h
            · have := hs.past y h
              omega
            · rw [List.mem_singleton.1 h]
              show (p : Int) < _
              omega
          · rw [has_append, has_cons, has_nil, Bool.or_false]
            by_cases h : q = p; rotate_left
            · rw [decide_eq_false (show ¬ ((p : Int) ≤ q ∧ (q : Int) ≤ p) by omega), Bool.or_false]
              exact hs.sem q (by omega)
            subst h
            rw [hb, decide_eq_true (show (q : Int) ≤ q ∧ (q : Int) ≤ q by omega), Bool.or_true]
        obtain ⟨r, a, b, c⟩ := ih (p + 1) (out ++ [⟨(p : Int), (p : Int)⟩]) (by omega) (by omega)
          ⟨w132_, fun _ => ⟨by simp, by rw [getD_snoc, hn1]⟩, (fun _ => by rw [getD_snoc, hn1]; exact Int.le_refl _), (fun h => by rw [Nat.add_sub_cancel, hb] at h; cases h)⟩ hs2
        refine ⟨r, Ev_step (fun k => ?_) a, Ev_step (fun k => ?_) b, c⟩
        · rw [impl_pageSet_all.l0, if_pos (by omega), if_pos (by omega), if_pos (by omega), rdOf_nat, hb, if_pos rfl]
          by_cases h0 : (out.length : Int) > 0; rotate_left
          · rw [if_neg h0, if_pos (by omega), nextI p (by omega)]
          have w2 : wrap64 ((out.length : Int) - 1) = ((out.length - 1 : Nat) : Int) := by rw [w64 (by omega) (by omega)]; omega
          have hne := hu.not hc (by intro h; rw [h] at h0; simp at h0)
          have e : ¬ (rd_T100 out ((out.length - 1 : Nat) : Int)).f1 = ((p - 1 : Nat) : Int) := by unfold rd_T100; rw [Int.toNat_natCast]; intro h; exact hne (by rw [h]; omega)
          rw [if_pos h0, w2, if_pos (by omega), if_pos (by omega), w1, if_neg e, if_pos (by omega), nextI p (by omega)]
        · rw [spec_ixOf.l0, if_pos (by omega), if_pos (by omega), if_pos (by omega), hmk p (by omega), hb, if_pos rfl, if_pos (by omega), w1, if_pos (by omega), if_pos (by omega), hmk (p - 1) (by omega), hc, if_neg (by decide), if_pos (by omega), nextI p (by omega)]
theorem ranges_sem (xs : List Bool) (hx : Set1 xs) (m : Nat) (hm : m ≤ 1000000) : ∃ r : List RG, GoodF 1 r ∧ (∀ q : Nat, q ≤ 2000 → has r (q : Int) = xs.getD q false) ∧ Ev (fun k => impl_pageSet_ranges.f k xs) (few r) ∧ Ev (fun k => spec_ixOf.f k (xs ++ List.replicate m false)) (few r) := by
  have h0 : Sem xs [] 1 := ⟨trivial, fun x hx => (by cases hx), fun q hq => by
    obtain rfl : q = 0 := by omega
    rw [hx.none]
    rfl⟩
  obtain ⟨r, a, b, c⟩ := all_sem xs hx m hm 2000 1 [] (by omega) (by omega) ⟨by simp, (fun h => by rw [Nat.sub_self, hx.none] at h; cases h), fun h => absurd rfl h, fun _ h => absurd rfl h⟩ h0
  refine ⟨r, c.good, fun q hq => c.sem q (by omega), ?_, ?_⟩
  · simp only [impl_pageSet_ranges.f]
    refine Ev_bind (a := r) (Ev.congr (fun k => by rw [impl_pageSet_all.f]; rfl) a) ?_
    by_cases h : (r.length : Int) > 20; rotate_left
    · rw [show few r = (r, true) from if_neg h]
      exact Ev_neg h (Ev.now _)
    rw [show few r = ([], false) from if_pos h]
    exact Ev_pos h (Ev.now _)
  · refine Ev_step (fun k => ?_) b
    have hl := hx.len
    have e : rdOf false (xs ++ List.replicate m false) 0 = false := by rw [show (0 : Int) = ((0 : Nat) : Int) from rfl, rdOf_nat, getD_more _ _ _ (by omega)]; exact hx.none
    have hlm : (xs ++ List.replicate m false).length = 2001 + m := by rw [List.length_append, hl, List.length_replicate]
    rw [spec_ixOf.f, spec_ixOf.l0, if_pos (by omega), if_pos (by omega), if_pos (by omega), e, if_neg (by decide), show wrap64 (0 + 1) = ((1 : Nat) : Int) from w142_]
def fill (xs : List Bool) (p : Nat) : Nat → List Bool
  | 0 => xs
  | n + 1 => fill (xs.set p true) (p + 1) n
theorem fill_set : ∀ (n p : Nat) (xs : List Bool), Set1 xs → 1 ≤ p → Set1 (fill xs p n) := by
  intro n
  induction n with
  | zero => intro p xs h _; exact h
  | succ n ih => intro p xs h hp; exact ih (p + 1) _ (h.put hp true) (by omega)
theorem fill_at : ∀ (n p : Nat) (xs : List Bool), p + n ≤ xs.length → ∀ q, (fill xs p n).getD q false = (xs.getD q false || decide (p ≤ q ∧ q < p + n)) := by
  intro n
  induction n with
  | zero => intro p xs _ q; rw [fill, decide_eq_false (by omega), Bool.or_false]
  | succ n ih =>
    intro p xs h q
    rw [fill, ih (p + 1) _ (by rw [List.length_set]; omega) q]
    by_cases hq : q = p; rotate_left
    · rw [getD_set_far _ _ _ _ (fun h => hq h.symm), show decide (p + 1 ≤ q ∧ q < p + 1 + n) = decide (p ≤ q ∧ q < p + (n + 1)) from decide_eq_decide.2 (by omega)]
    subst hq
    rw [getD_set_self _ _ _ (by omega), decide_eq_true (show q ≤ q ∧ q < q + (n + 1) by omega), Bool.or_true, Bool.true_or]
def marksL (xs : List Bool) : List RG → List Bool
  | [] => xs
  | r :: l => marksL (fill xs r.f0.toNat (r.f1 + 1 - r.f0).toNat) l
def Valid (l : List RG) : Prop := ∀ x ∈ l, 1 ≤ x.f0 ∧ x.f0 ≤ x.f1 ∧ x.f1 ≤ 2000
theorem marksL_set : ∀ {l : List RG} {xs : List Bool}, Valid l → Set1 xs → Set1 (marksL xs l) := by
  intro l
  induction l with
  | nil => intro xs _ h; exact h
  | cons r l ih =>
    intro xs hv h
    have := hv r (List.mem_cons_self)
    exact ih (fun x hx => hv x (List.mem_cons_of_mem _ hx)) (fill_set _ _ _ h (by omega))
theorem marksL_at : ∀ {l : List RG} {xs : List Bool}, Valid l → Set1 xs → ∀ q : Nat, (marksL xs l).getD q false = (xs.getD q false || has l (q : Int)) := by
  intro l
  induction l with
  | nil => intro xs _ _ q; rw [marksL, has_nil, Bool.or_false]
  | cons r l ih =>
    intro xs hv h q
    have hr := hv r (List.mem_cons_self)
    rw [marksL, ih (fun x hx => hv x (List.mem_cons_of_mem _ hx)) (fill_set _ _ _ h (by omega)), fill_at _ _ _ (by rw [h.len]; omega), has_cons, Bool.or_assoc]
    rw [show decide (r.f0.toNat ≤ q ∧ q < r.f0.toNat + (r.f1 + 1 - r.f0).toNat) = decide (r.f0 ≤ (q : Int) ∧ (q : Int) ≤ r.f1) from decide_eq_decide.2 (by omega)]
theorem marksS_l1 (l : List RG) (hn : l.length ≤ 1048576) (i : Nat) (f0 f1 : Int) (h1 : f1 ≤ 2000) (hi : i < l.length) {r : List Bool} : ∀ (n p : Nat), (p : Int) + n = f1 + 1 → 1 ≤ p → ∀ xs, Set1 xs →
    Ev (fun k => impl_setOf.l0 k (fill xs p n) l (l.length : Int) ((i + 1 : Nat) : Int)) r → Ev (fun k => spec_ixMarks.l0 k (fill xs p n ++ [false]) l (l.length : Int) ((i + 1 : Nat) : Int)) (r ++ [false]) →
    Ev (fun k => impl_setOf.l1 k xs (p : Int) l (l.length : Int) (i : Int) f0 f1) r ∧ Ev (fun k => spec_ixMarks.l1 k (xs ++ [false]) (p : Int) l (l.length : Int) (i : Int) f0 f1) (r ++ [false]) := by
  intro n
  induction n with
  | zero =>
    intro p hp hp1 xs hx a b
    refine ⟨Ev_step (fun k => ?_) a, Ev_step (fun k => ?_) b⟩
    · rw [impl_setOf.l1, if_neg (by omega), nextI i (by omega), fill]
    · rw [spec_ixMarks.l1, if_neg (by omega), nextI i (by omega), fill]
  | succ n ih =>
    intro p hp hp1 xs hx a b
    have hl := hx.len
    obtain ⟨a, b⟩ := ih (p + 1) (by omega) (by omega) (xs.set p true) (hx.put hp1 true) a b
    refine ⟨Ev_step (fun k => ?_) a, Ev_step (fun k => ?_) b⟩
    · rw [impl_setOf.l1, if_pos (by omega), if_pos (by omega), if_pos (by omega), nextI p (by omega), Int.toNat_natCast]
    · rw [spec_ixMarks.l1, if_pos (by omega), if_pos (by omega), if_pos (by rw [List.length_append, hl]; simp only [List.length_singleton]; omega), nextI p (by omega), Int.toNat_natCast, set_more _ _ _ _ (by omega)]
theorem marksS_l0 (l : List RG) (hn : l.length ≤ 1048576) (hv : Valid l) : ∀ (n i : Nat), i + n = l.length → ∀ xs, Set1 xs →
    Ev (fun k => impl_setOf.l0 k xs l (l.length : Int) (i : Int)) (marksL xs (l.drop i)) ∧ Ev (fun k => spec_ixMarks.l0 k (xs ++ [false]) l (l.length : Int) (i : Int)) (marksL xs (l.drop i) ++ [false]) := by
  intro n
  induction n with
  | zero =>
    intro i hi xs hx
    rw [List.drop_of_length_le (by omega), marksL]
    refine ⟨Ev_step (fun k => ?_) (Ev.now _), Ev_step (fun k => ?_) (Ev.now _)⟩
    · rw [impl_setOf.l0, if_neg (by omega)]
    · rw [spec_ixMarks.l0, if_neg (by omega)]
  | succ n ih =>
    intro i hi xs hx
    have h : i < l.length := by omega
    have hr := hv _ (List.getElem_mem h)
    have e := rdT_mem l i h
    obtain ⟨p, hp⟩ := Int.eq_ofNat_of_zero_le (show 0 ≤ l[i].f0 by omega)
    obtain ⟨m, hm⟩ := Int.eq_ofNat_of_zero_le (show 0 ≤ l[i].f1 + 1 - l[i].f0 by omega)
    rw [List.drop_eq_getElem_cons h, marksL, hm, hp, Int.toNat_natCast, Int.toNat_natCast]
    obtain ⟨a, b⟩ := ih (i + 1) (by omega) (fill xs p m) (fill_set _ _ _ hx (by omega))
    obtain ⟨a, b⟩ := marksS_l1 l hn i l[i].f0 l[i].f1 hr.2.2 h m p (by omega) (by omega) xs hx a b
    rw [hp] at a b
    refine ⟨Ev_step (fun k => ?_) a, Ev_step (fun k => ?_) b⟩
    · rw [impl_setOf.l0, if_pos (by omega), if_pos (by omega), if_pos (by omega), e, hp]
    · rw [spec_ixMarks.l0, if_pos (by omega), if_pos (by omega), if_pos (by omega), e, hp]
theorem marks_sem (l : List RG) (hn : l.length ≤ 1048576) (hv : Valid l) : ∃ xs, Ev (fun k => impl_setOf.f k l) xs ∧ Ev (fun k => spec_ixMarks.f k l) (xs ++ [false]) ∧ Set1 xs ∧ ∀ q : Nat, xs.getD q false = has l (q : Int) := by
  obtain ⟨a, b⟩ := marksS_l0 l hn hv l.length 0 (by omega) _ Set1.empty
  rw [List.drop_zero] at a b
  refine ⟨_, Ev.congr (fun k => ?_) a, Ev.congr (fun k => ?_) b, marksL_set hv Set1.empty, fun q => ?_⟩
  · rw [impl_setOf.f, if_pos (by omega)]
    rfl
  · rw [spec_ixMarks.f, if_pos (by omega), show List.replicate 2002 false = List.replicate 2001 false ++ [false] from List.replicate_succ']
    rfl
  · rw [marksL_at hv Set1.empty, rep_none, Bool.false_or]
theorem good_valid {l : List RG} (h : GoodF 1 l) : Valid l := fun x hx => good_mem h x hx
end Go.Proofs.YtppbpefehpbejaaDoor.P
end

section
namespace Go.Proofs.YtppbpefehpbejaaDoor.Runs
open Go.Proofs.YtppbpefehpbejaaDoor.P
set_option linter.unusedVariables false

theorem cnt_move (f : Int → Bool) (d : Int) : ∀ (n : Nat) (a : Int), cnt (fun p => f (p + d)) a n = cnt f (a + d) n := by
  intro n
  induction n with
  | zero => intro a; rfl
  | succ n ih => intro a; rw [cnt, cnt, ih, show a + 1 + d = a + d + 1 by omega]
theorem cnt_max (f : Int → Bool) (n : Nat) (a : Int) : cnt f a n ≤ n := by
  have := cnt_le (f := f) (g := fun _ => true) (n := n) (a := a) (fun _ _ _ _ => rfl)
  rw [cnt_all (fun _ _ _ => rfl)] at this
  exact this
theorem size_big {l : List RG} (h : GoodF 1 l) (n : Nat) : size l = (cnt (has l) 1 (2000 + n) : Int) := by
  rw [cnt_add, cnt_none (a := 1 + ((2000 : Nat) : Int)) (fun p h1 h2 => has_above h (by omega)), Nat.add_zero]
  exact size_cnt h rfl
theorem len_big {l : List RG} (h : GoodF 1 l) (n : Nat) : l.length = cnt (rise (has l)) 1 (2000 + n) := by
  rw [cnt_add, cnt_none (a := 1 + ((2000 : Nat) : Int)) (fun p h1 h2 => by unfold rise; rw [has_above h (by omega)]; rfl), Nat.add_zero]
  exact len_rise h rfl
section
variable {a t : List RG} {p m : Int} (ha : GoodF 1 a) (ht : GoodF 1 t) (hp : 1 ≤ p) (hp2 : p ≤ 2000) (hm : 0 ≤ m) (hm2 : m ≤ 2000)
theorem take_len (ha : GoodF 1 a) (ht : GoodF 1 t) (hp : 1 ≤ p) (hp2 : p ≤ 2000) (hm : 0 ≤ m) (hm2 : m ≤ 2000) (e : ∀ q, has t q = if q < p then has a q else has a (q + m)) : t.length ≤ a.length + 1 := by
  obtain ⟨x, hx⟩ := Int.eq_ofNat_of_zero_le (show 0 ≤ p - 1 by omega)
  obtain ⟨y, rfl⟩ := Int.eq_ofNat_of_zero_le hm
  have e1 := len_big ha (x + (1 + (y + 2000)))
  have e2 := len_big ht (x + 1)
  rw [show 2000 + (x + (1 + (y + 2000))) = x + ((1 + y) + (2000 + 2000)) by omega, cnt_add, cnt_add, cnt_add _ 2000 2000] at e1
  rw [show 2000 + (x + 1) = x + (1 + 2000) by omega, cnt_add, cnt_add _ 1] at e2
  have c1 : cnt (rise (has t)) 1 x = cnt (rise (has a)) 1 x := cnt_congr (fun q h1 h2 => by unfold rise; rw [e, e, if_pos (by omega), if_pos (by omega)])
  have c2 := cnt_max (rise (has t)) 1 (1 + (x : Int))
  have c3 : cnt (rise (has t)) (1 + (x : Int) + ((1 : Nat) : Int)) 2000 = cnt (rise (has a)) (1 + (x : Int) + ((1 + y : Nat) : Int)) 2000 := by
    have := cnt_move (rise (has a)) y 2000 (1 + (x : Int) + ((1 : Nat) : Int))
    rw [show 1 + (x : Int) + ((1 + y : Nat) : Int) = 1 + (x : Int) + ((1 : Nat) : Int) + y by omega, ← this]
    refine cnt_congr (fun q h1 h2 => ?_)
    unfold rise
    rw [e, e, if_neg (by omega), if_neg (by omega), show q - 1 + (y : Int) = q + y - 1 by omega]
  omega
theorem take_size (ha : GoodF 1 a) (ht : GoodF 1 t) (hp : 1 ≤ p) (hp2 : p ≤ 2000) (hm : 0 ≤ m) (hm2 : m ≤ 2000) (e : ∀ q, has t q = if q < p then has a q else has a (q + m)) : size t ≤ size a ∧ size a - size t ≤ m := by
  obtain ⟨x, hx⟩ := Int.eq_ofNat_of_zero_le (show 0 ≤ p - 1 by omega)
  obtain ⟨y, rfl⟩ := Int.eq_ofNat_of_zero_le hm
  have e1 := size_big ha (x + y)
  have e2 := size_big ht x
  rw [show 2000 + (x + y) = x + (y + 2000) by omega, cnt_add, cnt_add _ y] at e1
  rw [show 2000 + x = x + 2000 by omega, cnt_add] at e2
  have c1 : cnt (has t) 1 x = cnt (has a) 1 x := cnt_congr (fun q h1 h2 => by rw [e, if_pos (by omega)])
  have c2 := cnt_max (has a) y (1 + (x : Int))
  have c3 : cnt (has t) (1 + (x : Int)) 2000 = cnt (has a) (1 + (x : Int) + (y : Int)) 2000 := by
    rw [← cnt_move (has a) y 2000 (1 + (x : Int))]
    exact cnt_congr (fun q h1 h2 => by rw [e, if_neg (by omega)])
  omega
theorem put_size (ha : GoodF 1 a) (ht : GoodF 1 t) (hp : 1 ≤ p) (hp2 : p ≤ 2000) (hm : 0 ≤ m) (hm2 : m ≤ 2000) (e : ∀ q, has t q = if q < p then has a q else if q < p + m then false else has a (q - m)) : size t = size a := by
  obtain ⟨x, hx⟩ := Int.eq_ofNat_of_zero_le (show 0 ≤ p - 1 by omega)
  obtain ⟨y, rfl⟩ := Int.eq_ofNat_of_zero_le hm
  have e1 := size_big ha x
  have e2 := size_big ht (x + y)
  rw [show 2000 + (x + y) = x + (y + 2000) by omega, cnt_add, cnt_add _ y] at e2
  rw [show 2000 + x = x + 2000 by omega, cnt_add] at e1
  have c1 : cnt (has t) 1 x = cnt (has a) 1 x := cnt_congr (fun q h1 h2 => by rw [e, if_pos (by omega)])
  have c2 : cnt (has t) (1 + (x : Int)) y = 0 := cnt_none (fun q h1 h2 => by rw [e, if_neg (by omega), if_pos (by omega)])
  have c3 : cnt (has t) (1 + (x : Int) + (y : Int)) 2000 = cnt (has a) (1 + (x : Int)) 2000 := by
    rw [← cnt_move (has t) y 2000 (1 + (x : Int))]
    exact cnt_congr (fun q h1 h2 => by rw [e, if_neg (by omega), if_neg (by omega), show q + (y : Int) - y = q by omega])
  omega
theorem put_take {b : List RG} (ha : GoodF 1 a) (hb : GoodF 1 b) (hm : 0 ≤ m) (e : ∀ q, has t q = if q < p then has a q else if q < p + m then false else has a (q - m)) (e2 : ∀ q, has b q = if q < p then has t q else has t (q + m)) : b = a := by
  refine good_one hb ha (fun q => ?_)
  rw [e2, e, e]
  by_cases h : q < p; rotate_left
  · rw [if_neg h, if_neg (by omega), if_neg (by omega), show q + m - m = q by omega]
  rw [if_pos h, if_pos h]
theorem take_none (ha : GoodF 1 a) (ht : GoodF 1 t) (e : ∀ q, has t q = if q < p then has a q else has a (q + 0)) : t = a := by
  refine good_one ht ha (fun q => ?_)
  rw [e, Int.add_zero]
  split <;> rfl
end
def gapsF (e : Int) : List RG → List RG
  | [] => []
  | r :: l => ⟨e + 1, r.f0 - 1⟩ :: gapsF r.f1 l
def gapsA : List RG → List RG
  | [] => []
  | r :: l => gapsF r.f1 l
theorem gapsF_len : ∀ (l : List RG) (e : Int), (gapsF e l).length = l.length := by
  intro l
  induction l with
  | nil => intro e; rfl
  | cons r l ih => intro e; rw [gapsF, List.length_cons, List.length_cons, ih]
theorem gapsF_good : ∀ {l : List RG} {e lo : Int}, GoodF (e + 2) l → lo ≤ e + 1 → GoodF lo (gapsF e l) := by
  intro l
  induction l with
  | nil => intro e lo _ _; trivial
  | cons r l ih =>
    intro e lo h hl
    obtain ⟨h1, h2, h3, h4⟩ := h
    exact ⟨hl, by show e + 1 ≤ r.f0 - 1; omega, by show r.f0 - 1 ≤ 2000; omega, ih h4 (by show r.f0 - 1 + 2 ≤ r.f1 + 1; omega)⟩
def lastF (e : Int) : List RG → Int
  | [] => e
  | r :: l => lastF r.f1 l
theorem lastF_ge : ∀ {l : List RG} {e : Int}, GoodF (e + 2) l → e ≤ lastF e l := by
  intro l
  induction l with
  | nil => intro e _; exact Int.le_refl _
  | cons r l ih =>
    intro e h
    have := ih h.2.2.2
    have := h.1
    have := h.2.1
    rw [lastF]
    omega
theorem lastF_le : ∀ {l : List RG} {e : Int}, GoodF (e + 2) l → e ≤ 2000 → lastF e l ≤ 2000 := by
  intro l
  induction l with
  | nil => intro e _ h; exact h
  | cons r l ih =>
    intro e h _
    exact ih h.2.2.2 h.2.2.1
theorem gapsF_all : ∀ {l : List RG} {e : Int}, GoodF (e + 2) l → ∀ p, e < p → (has l p || has (gapsF e l) p) = decide (p ≤ lastF e l) := by
  intro l
  induction l with
  | nil =>
    intro e _ p hp
    rw [gapsF, has_nil, lastF, decide_eq_false (by omega)]
    rfl
  | cons r l ih =>
    intro e h p hp
    obtain ⟨h1, h2, h3, h4⟩ := h
    have hge := lastF_ge h4
    rw [gapsF, has_cons, has_cons, lastF]
    by_cases hq : r.f1 < p
    · rw [← ih h4 p hq, decide_eq_false (by omega), decide_eq_false (by show ¬ (e + 1 ≤ p ∧ p ≤ r.f0 - 1); omega), Bool.false_or, Bool.false_or]
    rw [decide_eq_true (show p ≤ lastF r.f1 l by omega)]
    by_cases hf : r.f0 ≤ p; rotate_left
    · rw [decide_eq_true (show e + 1 ≤ p ∧ p ≤ r.f0 - 1 by omega), Bool.true_or, Bool.or_true]
    rw [decide_eq_true (show r.f0 ≤ p ∧ p ≤ r.f1 by omega), Bool.true_or, Bool.true_or]
theorem gapsA_good : ∀ {l : List RG} {lo : Int}, GoodF lo l → GoodF lo (gapsA l) := by
  intro l lo h
  cases l with
  | nil => trivial
  | cons r l => exact gapsF_good h.2.2.2 (by have := h.1; have := h.2.1; omega)
theorem gapsA_len (l : List RG) : (gapsA l).length = l.length - 1 := by
  cases l with
  | nil => rfl
  | cons r l => rw [gapsA, gapsF_len]; rfl
theorem gapsA_all {r : RG} {l u : List RG} {lo : Int} (h : GoodF lo (r :: l)) (hu : GoodF lo u) (e : ∀ p, has u p = (has (r :: l) p || has (gapsA (r :: l)) p)) : u = [⟨r.f0, lastF r.f1 l⟩] := by
  obtain ⟨h1, h2, h3, h4⟩ := h
  have hge := lastF_ge h4
  have hle := lastF_le h4 h3
  refine good_one hu ⟨h1, by show r.f0 ≤ lastF r.f1 l; omega, hle, trivial⟩ (fun p => ?_)
  rw [e, gapsA, has_cons, has_cons, has_nil, Bool.or_false]
  by_cases hp : r.f1 < p; rotate_left
  · rw [has_below h4 (by omega), has_below (gapsF_good h4 (Int.le_refl _)) (show p < r.f1 + 1 by omega), Bool.or_false, Bool.or_false]
    exact decide_eq_decide.2 ⟨fun h => ⟨h.1, by show p ≤ lastF r.f1 l; omega⟩, fun h => ⟨h.1, by omega⟩⟩
  rw [decide_eq_false (show ¬ (r.f0 ≤ p ∧ p ≤ r.f1) by omega), Bool.false_or, gapsF_all h4 p hp]
  exact decide_eq_decide.2 ⟨fun h => ⟨by show r.f0 ≤ p; omega, h⟩, fun h => h.2⟩
def joinF (g : Int) (x : RG) : List RG → List RG
  | [] => [x]
  | r :: l => if r.f0 - x.f1 - 1 ≤ g then joinF g ⟨x.f0, r.f1⟩ l else x :: joinF g r l
def joinA (g : Int) : List RG → List RG
  | [] => []
  | r :: l => joinF g r l
theorem joinF_len (g : Int) : ∀ (l : List RG) (x : RG), (joinF g x l).length ≤ l.length + 1 := by
  intro l
  induction l with
  | nil => intro x; exact Nat.le_refl _
  | cons r l ih =>
    intro x
    rw [joinF]
    split
    · have := ih ⟨x.f0, r.f1⟩
      rw [List.length_cons]
      omega
    · have := ih r
      rw [List.length_cons, List.length_cons]
      omega
theorem joinF_good (g : Int) : ∀ {l : List RG} {x : RG} {lo : Int}, GoodF lo (x :: l) → GoodF lo (joinF g x l) := by
  intro l
  induction l with
  | nil => intro x lo h; exact h
  | cons r l ih =>
    intro x lo h
    obtain ⟨h1, h2, h3, h4, h5, h6, h7⟩ := h
    rw [joinF]
    split
    · exact ih ⟨h1, by show x.f0 ≤ r.f1; omega, h6, h7⟩
    · exact ⟨h1, h2, h3, ih ⟨h4, h5, h6, h7⟩⟩
theorem joinF_head (g : Int) : ∀ (l : List RG) (x : RG), ∃ e m, joinF g x l = ⟨x.f0, e⟩ :: m := by
  intro l
  induction l with
  | nil => intro x; exact ⟨x.f1, [], rfl⟩
  | cons r l ih =>
    intro x
    rw [joinF]
    split
    · obtain ⟨e, m, h⟩ := ih ⟨x.f0, r.f1⟩
      exact ⟨e, m, h⟩
    · exact ⟨x.f1, _, rfl⟩
theorem gapsA_join (g : Int) : ∀ (l : List RG) (x : RG), gapsA (joinF g x l) = (gapsF x.f1 l).filter (fun y => decide (g < y.f1 - y.f0 + 1)) := by
  intro l
  induction l with
  | nil => intro x; rfl
  | cons r l ih =>
    intro x
    rw [joinF, gapsF, List.filter_cons]
    by_cases h : r.f0 - x.f1 - 1 ≤ g
    · rw [if_pos h, decide_eq_false (show ¬ g < r.f0 - 1 - (x.f1 + 1) + 1 by omega), if_neg (by decide)]
      exact ih ⟨x.f0, r.f1⟩
    rw [if_neg h, decide_eq_true (show g < r.f0 - 1 - (x.f1 + 1) + 1 by omega), if_pos rfl, ← ih r]
    obtain ⟨e, m, hj⟩ := joinF_head g l r
    rw [hj]
    rfl
def longF (b : RG) : List RG → RG
  | [] => b
  | r :: l => longF (if r.f1 - r.f0 > b.f1 - b.f0 then r else b) l
theorem longF_ge : ∀ (l : List RG) (b : RG), b.f1 - b.f0 ≤ (longF b l).f1 - (longF b l).f0 ∧ ∀ r ∈ l, r.f1 - r.f0 ≤ (longF b l).f1 - (longF b l).f0 := by
  intro l
  induction l with
  | nil => intro b; exact ⟨Int.le_refl _, fun r h => by cases h⟩
  | cons r l ih =>
    intro b
    rw [longF]
    obtain ⟨h1, h2⟩ := ih (if r.f1 - r.f0 > b.f1 - b.f0 then r else b)
    by_cases h : r.f1 - r.f0 > b.f1 - b.f0; rotate_left
    · rw [if_neg h] at h1 h2 ⊢
      exact ⟨h1, fun y hy => by rcases List.mem_cons.1 hy with rfl | hy; omega; exact h2 y hy⟩
    rw [if_pos h] at h1 h2 ⊢
    exact ⟨by omega, fun y hy => by rcases List.mem_cons.1 hy with rfl | hy; exact h1; exact h2 y hy⟩
theorem longF_mem : ∀ (l : List RG) (b : RG), longF b l = b ∨ longF b l ∈ l := by
  intro l
  induction l with
  | nil => intro b; exact Or.inl rfl
  | cons r l ih =>
    intro b
    rw [longF]
    rcases ih (if r.f1 - r.f0 > b.f1 - b.f0 then r else b) with h | h
    · by_cases hc : r.f1 - r.f0 > b.f1 - b.f0
      · rw [if_pos hc] at h ⊢
        rw [h]
        exact Or.inr (List.mem_cons_self ..)
      · rw [if_neg hc] at h ⊢
        exact Or.inl h
    · exact Or.inr (List.mem_cons_of_mem _ h)
def Near (l : List RG) (p n : Int) : Prop := has l n = true ∧ ∀ q, has l q = true → (n - p).natAbs ≤ (q - p).natAbs ∧ ((n - p).natAbs = (q - p).natAbs → n ≤ q)
end Go.Proofs.YtppbpefehpbejaaDoor.Runs
end

section
namespace Go.Proofs.YtppbpefehpbejaaDoor.P
open Go.RowKit Go.Proofs.YtppbpefehpbejaaDoorW.PrintWords Go.Proofs.YtppbpefehpbejaaDoorW.PrintLast Go.Proofs.YtppbpefehpbejaaDoorW.PrintMore Go.Proofs.YtppbpefehpbejaaDoor.Base Go.Proofs.YtppbpefehpbejaaDoor.Runs
set_option linter.unusedVariables false

theorem gaps_l0 (l : List RG) (hn : l.length ≤ 20) (hv : Valid l) : ∀ (n i : Nat) (acc : List RG), i + n = l.length → 1 ≤ i → acc.length ≤ i → (h : i - 1 < l.length) →
    Ev (fun k => impl_GapsBetween.l0 k l acc (i : Int)) (acc ++ gapsF l[i - 1].f1 (l.drop i), true) ∧ Ev (fun k => spec_GapsBetween.l0 k l acc (i : Int)) (acc ++ gapsF l[i - 1].f1 (l.drop i), true) := by
  intro n
  induction n with
  | zero =>
    intro i acc hi h1 ha hp
    rw [List.drop_of_length_le (by omega), gapsF, List.append_nil]
    exact ⟨Ev_step (fun k => by rw [impl_GapsBetween.l0, if_neg (by omega)]) (Ev.now _), Ev_step (fun k => by rw [spec_GapsBetween.l0, if_neg (by omega)]) (Ev.now _)⟩
  | succ n ih =>
    intro i acc hi h1 ha hp
    have h : i < l.length := by omega
    have v1 := hv _ (List.getElem_mem h)
    have v2 := hv _ (List.getElem_mem hp)
    have e1 := rdT_mem l i h
    have e2 := rdT_mem l (i - 1) hp
    have w : wrap64 ((i : Int) - 1) = ((i - 1 : Nat) : Int) := by rw [w64 (by omega) (by omega)]; omega
    have w1 : wrap64 (l[i - 1].f1 + 1) = l[i - 1].f1 + 1 := w64 (by omega) (by omega)
    have w2 : wrap64 (l[i].f0 - 1) = l[i].f0 - 1 := w64 (by omega) (by omega)
    obtain ⟨a, b⟩ := ih (i + 1) (acc ++ [⟨l[i - 1].f1 + 1, l[i].f0 - 1⟩]) (by omega) (by omega) (w132_) (by omega)
    simp only [Nat.add_sub_cancel] at a b
    rw [List.append_assoc] at a b
    rw [List.drop_eq_getElem_cons h, gapsF]
    refine ⟨Ev_step (fun k => ?_) a, Ev_step (fun k => ?_) b⟩
    · rw [impl_GapsBetween.l0, if_pos (by omega), w, if_pos (by omega), if_pos (by omega), if_pos (by omega), if_pos (by omega), e1, e2, w1, w2, nextI i (by omega)]
    · rw [spec_GapsBetween.l0, if_pos (by omega), w, if_pos (by omega), if_pos (by omega), if_pos (by omega), if_pos (by omega), e1, e2, w1, w2, nextI i (by omega)]
theorem gaps_sem (l : List RG) (hn : l.length ≤ 1048576) : Ev (fun k => impl_GapsBetween.f k l) (if areB l = true then gapsA l else [], areB l) ∧ Ev (fun k => spec_GapsBetween.f k l) (if areB l = true then gapsA l else [], areB l) := by
  obtain ⟨h1, h2⟩ := areR_ev l hn
  simp only [impl_GapsBetween.f, spec_GapsBetween.f]
  cases ha : areB l with
  | false =>
    rw [ha] at h1 h2
    exact ⟨Ev_bind h2 (Ev_neg Bool.false_ne_true (Ev.now _)), Ev_bind h1 (Ev_neg Bool.false_ne_true (Ev.now _))⟩
  | true =>
    rw [ha] at h1 h2
    rw [if_pos rfl]
    obtain ⟨hg, hl⟩ := areB_iff.1 ha
    cases l with
    | nil =>
      exact ⟨Ev_bind h2 (Ev_pos rfl (Ev_step (fun k => by rw [impl_GapsBetween.l0, if_neg (by decide)]; rfl) (Ev.now _))), Ev_bind h1 (Ev_pos rfl (Ev_step (fun k => by rw [spec_GapsBetween.l0, if_neg (by decide)]; rfl) (Ev.now _)))⟩
    | cons x l =>
      obtain ⟨a, b⟩ := gaps_l0 (x :: l) hl (good_valid hg) l.length 1 [] (w143_) (Nat.le_refl _) (Nat.zero_le _) (w143_)
      exact ⟨Ev_bind h2 (Ev_pos rfl a), Ev_bind h1 (Ev_pos rfl b)⟩
theorem getL (init : List RG) (x : RG) : rd_T100 (init ++ [x]) (init.length : Int) = x := by
  rw [rdT_mem _ _ (by simp)]
  simp
theorem setL (init : List RG) (x y : RG) : (init ++ [x]).set init.length y = init ++ [y] := by
  rw [List.set_append_right _ _ (Nat.le_refl _), Nat.sub_self]
  rfl
theorem join_l0 (l : List RG) (g : Int) (hg0 : 0 ≤ g) (hg1 : g ≤ 2000) (hn : l.length ≤ 20) (hv : Valid l) : ∀ (n i : Nat) (init : List RG) (x : RG), i + n = l.length → 1 ≤ i → init.length < i → (h : i - 1 < l.length) → x.f1 = l[i - 1].f1 →
    Ev (fun k => impl_JoinGaps.l0 k g (init ++ [x]) l (l.length : Int) (i : Int)) (init ++ joinF g x (l.drop i), true) ∧ Ev (fun k => spec_JoinGaps.l0 k l g (init ++ [x]) l (l.length : Int) (i : Int)) (init ++ joinF g x (l.drop i), true) := by
  intro n
  induction n with
  | zero =>
    intro i init x hi h1 ha hp hx
    rw [List.drop_of_length_le (by omega), joinF]
    exact ⟨Ev_step (fun k => by rw [impl_JoinGaps.l0, if_neg (by omega)]) (Ev.now _), Ev_step (fun k => by rw [spec_JoinGaps.l0, if_neg (by omega)]) (Ev.now _)⟩
  | succ n ih =>
    intro i init x hi h1 ha hp hx
    have h : i < l.length := by omega
    have v1 := hv _ (List.getElem_mem h)
    have v2 := hv _ (List.getElem_mem hp)
    have e1 := rdT_mem l i h
    have e2 := rdT_mem l (i - 1) hp
    have hlen : (init ++ [x]).length = init.length + 1 := by rw [List.length_append, List.length_singleton]
    have w : wrap64 ((i : Int) - 1) = ((i - 1 : Nat) : Int) := by rw [w64 (by omega) (by omega)]; omega
    have w0 : wrap64 (((init ++ [x]).length : Int) - 1) = (init.length : Int) := by rw [hlen, w64 (by omega) (by omega)]; omega
    have w1 : wrap64 (l[i].f0 - l[i - 1].f1) = l[i].f0 - l[i - 1].f1 := w64 (by omega) (by omega)
    have w2 : wrap64 (l[i].f0 - l[i - 1].f1 - 1) = l[i].f0 - l[i - 1].f1 - 1 := w64 (by omega) (by omega)
    rw [List.drop_eq_getElem_cons h, joinF]
    by_cases c : l[i].f0 - l[i - 1].f1 - 1 ≤ g
    · obtain ⟨a, b⟩ := ih (i + 1) init ⟨x.f0, l[i].f1⟩ (by omega) (by omega) (by omega) (by omega) (by simp only [Nat.add_sub_cancel])
      rw [if_pos (by rw [hx]; exact c)]
      refine ⟨Ev_step (fun k => ?_) a, Ev_step (fun k => ?_) b⟩
      · rw [impl_JoinGaps.l0, if_pos (by omega), if_pos (by omega), if_pos (by omega), if_pos (by omega), w0, if_pos (by omega), if_pos (by omega), e1, getL, hx, w1, w2, if_pos c, Int.toNat_natCast, setL, nextI i (by omega)]
      · rw [spec_JoinGaps.l0, if_pos (by omega), if_pos (by omega), if_pos (by omega), if_pos (by omega), w, if_pos (by omega), if_pos (by omega), e1, e2, w1, w2, if_pos c, w0, if_pos (by omega), if_pos (by omega), getL, Int.toNat_natCast, setL, nextI i (by omega)]
    obtain ⟨a, b⟩ := ih (i + 1) (init ++ [x]) l[i] (by omega) (by omega) (by omega) (by omega) (by simp only [Nat.add_sub_cancel])
    rw [List.append_assoc _ [x] (joinF _ _ _)] at a b
    rw [if_neg (by rw [hx]; exact c)]
    refine ⟨Ev_step (fun k => ?_) a, Ev_step (fun k => ?_) b⟩
    · rw [impl_JoinGaps.l0, if_pos (by omega), if_pos (by omega), if_pos (by omega), if_pos (by omega), w0, if_pos (by omega), if_pos (by omega), e1, getL, hx, w1, w2, if_neg c, if_pos (by omega), nextI i (by omega)]
    · rw [spec_JoinGaps.l0, if_pos (by omega), if_pos (by omega), if_pos (by omega), if_pos (by omega), w, if_pos (by omega), if_pos (by omega), e1, e2, w1, w2, if_neg c, if_pos (by omega), nextI i (by omega)]
theorem join_sem (l : List RG) (hn : l.length ≤ 1048576) (g : Int) : Ev (fun k => impl_JoinGaps.f k l g) (if (areB l && inB g 0 2000) = true then joinA g l else [], areB l && inB g 0 2000) ∧ Ev (fun k => spec_JoinGaps.f k l g) (if (areB l && inB g 0 2000) = true then joinA g l else [], areB l && inB g 0 2000) := by
  obtain ⟨h1, h2⟩ := areR_ev l hn
  have n1 : Ev (fun k => impl_JoinGaps.j0 k l g true) ([], false) := Ev_step (fun k => by rw [impl_JoinGaps.j0]) (Ev_pos rfl (Ev.now _))
  have n2 : Ev (fun k => spec_JoinGaps.j0 k l g true) ([], false) := Ev_step (fun k => by rw [spec_JoinGaps.j0]) (Ev_pos rfl (Ev.now _))
  simp only [impl_JoinGaps.f, spec_JoinGaps.f]
  cases ha : areB l with
  | false =>
    rw [ha] at h1 h2
    exact ⟨Ev_bind h2 (Ev_neg Bool.false_ne_true n1), Ev_bind h1 (Ev_neg Bool.false_ne_true n2)⟩
  | true =>
    rw [ha] at h1 h2
    rw [Bool.true_and]
    cases hb : inB g 0 2000 with
    | false =>
      exact ⟨Ev_bind h2 (Ev_pos rfl (Ev_some (within_eq _ _ _) (by rw [hb]; exact n1))), Ev_bind h1 (Ev_pos rfl (Ev_some (l1In_eq _ _ _) (by rw [hb]; exact n2)))⟩
    | true =>
      rw [if_pos rfl]
      obtain ⟨hg, hl⟩ := areB_iff.1 ha
      have hg' : 0 ≤ g ∧ g ≤ 2000 := by unfold inB at hb; exact of_decide_eq_true hb
      have go : Ev (fun k => impl_JoinGaps.l0 k g [] l (l.length : Int) 0) (joinA g l, true) ∧ Ev (fun k => spec_JoinGaps.l0 k l g [] l (l.length : Int) 0) (joinA g l, true) := by
        cases l with
        | nil => exact ⟨Ev_step (fun k => by rw [impl_JoinGaps.l0, if_neg (by decide)]; rfl) (Ev.now _), Ev_step (fun k => by rw [spec_JoinGaps.l0, if_neg (by decide)]; rfl) (Ev.now _)⟩
        | cons x l =>
          obtain ⟨a, b⟩ := join_l0 (x :: l) g hg'.1 hg'.2 hl (good_valid hg) l.length 1 [] x (w143_) (Nat.le_refl _) (Nat.zero_lt_one) (w143_) rfl
          have e1 : rd_T100 (x :: l) 0 = x := rfl
          have hlc : ((x :: l).length : Int) = l.length + 1 := by rw [List.length_cons]; omega
          refine ⟨Ev_step (fun k => ?_) a, Ev_step (fun k => ?_) b⟩
          · rw [impl_JoinGaps.l0, if_pos (by omega), if_pos (by omega), if_pos (by omega), if_neg (by decide), if_pos (by decide), e1, show wrap64 (0 + 1) = ((1 : Nat) : Int) from w142_]
          · rw [spec_JoinGaps.l0, if_pos (by omega), if_pos (by omega), if_pos (by omega), if_neg (by decide), if_pos (by decide), e1, show wrap64 (0 + 1) = ((1 : Nat) : Int) from w142_]
      refine ⟨Ev_bind h2 (Ev_pos rfl (Ev_some (within_eq _ _ _) ?_)), Ev_bind h1 (Ev_pos rfl (Ev_some (l1In_eq _ _ _) ?_))⟩
      · rw [hb]
        refine Ev_step (fun k => by rw [impl_JoinGaps.j0]) ?_
        exact Ev_neg Bool.false_ne_true go.1
      · rw [hb]
        refine Ev_step (fun k => by rw [spec_JoinGaps.j0]) ?_
        exact Ev_neg Bool.false_ne_true go.2
theorem long_l0 (l : List RG) (hn : l.length ≤ 20) (hv : Valid l) : ∀ (n i : Nat) (b : RG), i + n = l.length → 1 ≤ b.f0 → b.f0 ≤ b.f1 → b.f1 ≤ 2000 →
    Ev (fun k => impl_LongestRange.l0 k l (l.length : Int) (i : Int) b.f0 b.f1) ((longF b (l.drop i)).f0, (longF b (l.drop i)).f1, true) ∧ Ev (fun k => spec_LongestRange.l0 k l (l.length : Int) (i : Int) b.f0 b.f1) ((longF b (l.drop i)).f0, (longF b (l.drop i)).f1, true) := by
  intro n
  induction n with
  | zero =>
    intro i b hi b1 b2 b3
    rw [List.drop_of_length_le (by omega), longF]
    exact ⟨Ev_step (fun k => by rw [impl_LongestRange.l0, if_neg (by omega)]) (Ev.now _), Ev_step (fun k => by rw [spec_LongestRange.l0, if_neg (by omega)]) (Ev.now _)⟩
  | succ n ih =>
    intro i b hi b1 b2 b3
    have h : i < l.length := by omega
    have v1 := hv _ (List.getElem_mem h)
    have e1 := rdT_mem l i h
    have w1 : wrap64 (l[i].f1 - l[i].f0) = l[i].f1 - l[i].f0 := w64 (by omega) (by omega)
    have w2 : wrap64 (b.f1 - b.f0) = b.f1 - b.f0 := w64 (by omega) (by omega)
    rw [List.drop_eq_getElem_cons h, longF]
    by_cases c : l[i].f1 - l[i].f0 > b.f1 - b.f0; rotate_left
    · obtain ⟨x, y⟩ := ih (i + 1) b (by omega) b1 b2 b3
      rw [if_neg c]
      refine ⟨Ev_step (fun k => ?_) x, Ev_step (fun k => ?_) y⟩
      · rw [impl_LongestRange.l0, if_pos (by omega), if_pos (by omega), if_pos (by omega), e1, w1, w2, if_neg c, nextI i (by omega)]
      · rw [spec_LongestRange.l0, if_pos (by omega), if_pos (by omega), if_pos (by omega), e1, w1, w2, if_neg c, nextI i (by omega)]
    obtain ⟨x, y⟩ := ih (i + 1) l[i] (by omega) v1.1 v1.2.1 v1.2.2
    rw [if_pos c]
    refine ⟨Ev_step (fun k => ?_) x, Ev_step (fun k => ?_) y⟩
    · rw [impl_LongestRange.l0, if_pos (by omega), if_pos (by omega), if_pos (by omega), e1, w1, w2, if_pos c, nextI i (by omega)]
    · rw [spec_LongestRange.l0, if_pos (by omega), if_pos (by omega), if_pos (by omega), e1, w1, w2, if_pos c, nextI i (by omega)]
theorem long_sem (l : List RG) (hn : l.length ≤ 1048576) : ∃ a b c, Ev (fun k => impl_LongestRange.f k l) (a, b, c) ∧ Ev (fun k => spec_LongestRange.f k l) (a, b, c) ∧ c = (areB l && decide ((l.length : Int) > 0)) ∧ (c = true → Valid l ∧ 1 ≤ a ∧ a ≤ b ∧ b ≤ 2000 ∧ ∀ r ∈ l, r.f1 - r.f0 ≤ b - a) := by
  obtain ⟨h1, h2⟩ := areR_ev l hn
  have n1 : Ev (fun k => impl_LongestRange.j0 k l true) (0, 0, false) := Ev_step (fun k => by rw [impl_LongestRange.j0]) (Ev_pos rfl (Ev.now _))
  have n2 : Ev (fun k => spec_LongestRange.j0 k l true) (0, 0, false) := Ev_step (fun k => by rw [spec_LongestRange.j0]) (Ev_pos rfl (Ev.now _))
  cases ha : areB l with
  | false =>
    rw [ha] at h1 h2
    refine ⟨0, 0, false, ?_, ?_, rfl, fun h => by cases h⟩
    · simp only [impl_LongestRange.f]
      exact Ev_bind h2 (Ev_neg Bool.false_ne_true n1)
    · simp only [spec_LongestRange.f]
      exact Ev_bind h1 (Ev_neg Bool.false_ne_true n2)
  | true =>
    rw [ha] at h1 h2
    obtain ⟨hg, hl⟩ := areB_iff.1 ha
    cases l with
    | nil =>
      refine ⟨0, 0, false, ?_, ?_, rfl, fun h => by cases h⟩
      · simp only [impl_LongestRange.f]
        exact Ev_bind h2 (Ev_pos rfl n1)
      · simp only [spec_LongestRange.f]
        exact Ev_bind h1 (Ev_pos rfl n2)
    | cons x l =>
      have hv := good_valid hg
      have hx := hv x (List.mem_cons_self ..)
      obtain ⟨a, b⟩ := long_l0 (x :: l) hl hv (x :: l).length 0 x (Nat.zero_add _) hx.1 hx.2.1 hx.2.2
      rw [List.drop_zero] at a b
      have hlc : ((x :: l).length : Int) = l.length + 1 := by rw [List.length_cons]; omega
      have hz : (((x :: l).length : Int) == 0) = false := beq_eq_false_iff_ne.2 (by omega)
      have hm : longF x (x :: l) ∈ x :: l := by
        rcases longF_mem (x :: l) x with h | h
        · rw [h]; exact List.mem_cons_self ..
        · exact h
      have hvm := hv _ hm
      refine ⟨_, _, true, ?_, ?_, ?_, fun _ => ⟨hv, hvm.1, hvm.2.1, hvm.2.2, (longF_ge (x :: l) x).2⟩⟩
      · simp only [impl_LongestRange.f]
        refine Ev_bind h2 (Ev_pos rfl ?_)
        rw [hz]
        refine Ev_step (fun k => by rw [impl_LongestRange.j0]) ?_
        exact Ev_neg Bool.false_ne_true (Ev_pos (by omega) (Ev.congr (fun k => rfl) a))
      · simp only [spec_LongestRange.f]
        refine Ev_bind h1 (Ev_pos rfl ?_)
        rw [hz]
        refine Ev_step (fun k => by rw [spec_LongestRange.j0]) ?_
        exact Ev_neg Bool.false_ne_true (Ev_pos (by omega) (Ev.congr (fun k => rfl) b))
      · rw [Bool.true_and]
        exact (decide_eq_true (by omega)).symm
end Go.Proofs.YtppbpefehpbejaaDoor.P
end

section
namespace Go.Proofs.YtppbpefehpbejaaDoor.P
open Go.RowKit Go.Proofs.YtppbpefehpbejaaDoorW.PrintWords Go.Proofs.YtppbpefehpbejaaDoorW.PrintLast Go.Proofs.YtppbpefehpbejaaDoorW.PrintMore Go.Proofs.YtppbpefehpbejaaDoor.Base
set_option linter.unusedVariables false

def num (n : Nat) : ByteArray := ⟨(Lib.decDigits n).toArray⟩
theorem num_data (n : Nat) : (num n).data.toList = Lib.decDigits n := rfl
theorem mk_app (a b : List UInt8) : (⟨a.toArray⟩ : ByteArray) ++ (⟨b.toArray⟩ : ByteArray) = ⟨(a ++ b).toArray⟩ := by
  apply ByteArray.ext
  rw [ByteArray.data_append]
  simp
theorem mk_data (a : ByteArray) : (⟨a.data.toList.toArray⟩ : ByteArray) = a := by
  apply ByteArray.ext
  simp
theorem ten (a : Nat) (h : a < 10) : a = 0 ∨ a = 1 ∨ a = 2 ∨ a = 3 ∨ a = 4 ∨ a = 5 ∨ a = 6 ∨ a = 7 ∨ a = 8 ∨ a = 9 := by omega
theorem digitP (a : Nat) (h : a < 10) : strOfNums [wrap64 (48 + (a : Int)) % 256] = (⟨[UInt8.ofNat (48 + a)].toArray⟩ : ByteArray) := by
  rw [w64 (by omega) (by omega)]
  rcases ten a h with rfl | rfl | rfl | rfl | rfl | rfl | rfl | rfl | rfl | rfl <;> rfl
theorem num_small (a : Nat) (h : a < 10) : num a = ⟨[UInt8.ofNat (48 + a)].toArray⟩ := by unfold num; rw [Lib.decDigits_one h]
theorem num_big (a : Nat) (h : ¬ a < 10) : num a = num (a / 10) ++ (⟨[UInt8.ofNat (48 + a % 10)].toArray⟩ : ByteArray) := by
  unfold num
  rw [mk_app, Lib.decDigits, dif_neg h]
theorem num_size1 (a : Nat) (h : a < 10) : (num a).size = 1 := by rw [num_small a h]; rfl
theorem num_size : ∀ (n a : Nat), a < 10 ^ (n + 1) → (num a).size ≤ n + 1 := by
  intro n
  induction n with
  | zero => intro a h; rw [num_size1 a (by omega)]; omega
  | succ n ih =>
    intro a h
    by_cases h1 : a < 10
    · rw [num_size1 a h1]; omega
    rw [num_big a h1, ByteArray.size_append]
    have := ih (a / 10) (by rw [Nat.pow_succ] at h; omega)
    have e : (⟨[UInt8.ofNat (48 + a % 10)].toArray⟩ : ByteArray).size = 1 := rfl
    omega
theorem num_ev (n : Nat) : ∀ (a : Nat), a < 10 ^ (n + 1) → a ≤ 1000000 → Ev (fun k => spec_l1Num.f k (a : Int)) (num a) := by
  induction n with
  | zero =>
    intro a h h2
    refine Ev_step (fun k => by rw [spec_l1Num.f, if_pos (by omega), digitP a (by omega), ← num_small a (by omega)]) (Ev.now _)
  | succ n ih =>
    intro a h h2
    by_cases h1 : a < 10
    · exact Ev_step (fun k => by rw [spec_l1Num.f, if_pos (by omega), digitP a (by omega), ← num_small a (by omega)]) (Ev.now _)
    have e1 : wrap64 (Int.tdiv (a : Int) 10) = ((a / 10 : Nat) : Int) := by
      have : Int.tdiv (a : Int) 10 = ((a / 10 : Nat) : Int) := rfl
      rw [this, w64 (by omega) (by omega)]
    have e2 : Int.tmod (a : Int) 10 = ((a % 10 : Nat) : Int) := rfl
    refine Ev_step (fun k => by rw [spec_l1Num.f, if_neg (by omega), e1, e2]) ?_
    refine Ev_bind (ih (a / 10) (by rw [Nat.pow_succ] at h; omega) (by omega)) ?_
    refine Ev_some rfl ?_
    rw [digitP (a % 10) (by omega)]
    have := num_size 6 (a / 10) (by omega)
    have e : (⟨[UInt8.ofNat (48 + a % 10)].toArray⟩ : ByteArray).size = 1 := rfl
    refine Ev_pos (by omega) ?_
    rw [← num_big a h1]
    exact Ev.now _
theorem itoaP (a : Nat) (h : a ≤ 1000000) : itoa.f (a : Int) = some (num a) := by
  unfold itoa.f
  rw [if_pos (by omega)]
  unfold Lib.itoa
  rw [if_neg (by omega)]
  rfl
theorem app_data (a b : ByteArray) : (a ++ b).data.toList = a.data.toList ++ b.data.toList := by
  rw [ByteArray.data_append]
  simp
theorem size_list (a : ByteArray) : a.data.toList.length = a.size := by rw [Array.length_toList]; rfl

def mkB (l : List UInt8) : ByteArray := ⟨l.toArray⟩
def cut (b : UInt8) : List UInt8 → List UInt8 → List (List UInt8)
  | acc, [] => [acc]
  | acc, c :: r => if c = b then acc :: cut b [] r else cut b (acc ++ [c]) r
theorem cut_free (b : UInt8) : ∀ (l acc : List UInt8), b ∉ l → cut b acc l = [acc ++ l] := by
  intro l
  induction l with
  | nil => intro acc _; rw [cut, List.append_nil]
  | cons c r ih =>
    intro acc h
    rw [List.mem_cons, not_or] at h
    rw [cut, if_neg (fun e => h.1 e.symm), ih _ h.2, List.append_assoc, List.singleton_append]
theorem cut_sep (b : UInt8) (r : List UInt8) : ∀ (l acc : List UInt8), b ∉ l → cut b acc (l ++ b :: r) = (acc ++ l) :: cut b [] r := by
  intro l
  induction l with
  | nil => intro acc _; rw [List.nil_append, cut, if_pos rfl, List.append_nil]
  | cons c l ih =>
    intro acc h
    rw [List.mem_cons, not_or] at h
    rw [List.cons_append, cut, if_neg (fun e => h.1 e.symm), ih _ h.2, List.append_assoc, List.singleton_append]
theorem cut_pos (b : UInt8) : ∀ (l acc : List UInt8), 0 < (cut b acc l).length := by
  intro l
  induction l with
  | nil => intro acc; rw [cut]; exact Nat.one_pos
  | cons c r ih =>
    intro acc
    rw [cut]
    split
    · exact Nat.succ_pos _
    · exact ih _
theorem mkB_data (s : ByteArray) : mkB s.data.toList = s := mk_data s
theorem bt_list (s : ByteArray) (i : Nat) : bt s (i : Int) = (((s.data.toList[i]?).getD 0).toNat : Int) := by
  unfold bt
  rw [Int.toNat_natCast]
  by_cases h : i < s.size; rotate_left
  · rw [dif_neg h, List.getElem?_eq_none (by simpa using h)]
    rfl
  rw [dif_pos h, List.getElem?_eq_getElem (by simpa using h)]
  rfl
theorem split_l0 (s : ByteArray) (b : UInt8) (hs : s.size ≤ 1000) : ∀ (n i f : Nat) (out : List ByteArray), i + n = s.size → f ≤ i → out.length ≤ i →
    Ev (fun k => spec_l1Split.l0 k s ((b.toNat : Nat) : Int) out (f : Int) (i : Int)) (out ++ (cut b ((s.data.toList.take i).drop f) (s.data.toList.drop i)).map mkB) := by
  have hz : s.size = s.data.toList.length := Lib.size_eq s
  intro n
  induction n with
  | zero =>
    intro i f out hi hf ho
    refine Ev_step (fun k => by rw [spec_l1Split.l0, if_neg (by omega), if_pos (by omega), if_pos (by omega), if_pos (by omega), Int.toNat_natCast]) ?_
    have e : (cut b ((s.data.toList.take i).drop f) (s.data.toList.drop i)).map mkB = [s.extract f s.size] := by
      have ed : s.data.toList.drop i = [] := List.drop_of_length_le (by omega)
      rw [ed, cut, List.map_cons, List.map_nil]
      congr 1
      rw [← mkB_data (s.extract f s.size), Lib.extract_data, List.drop_take, show i = s.size by omega]
    rw [e]
    exact Ev.now _
  | succ n ih =>
    intro i f out hi hf ho
    have h : i < s.data.toList.length := by omega
    have w : wrap64 ((i : Int) + 1) = ((i + 1 : Nat) : Int) := by rw [w64 (by omega) (by omega)]; omega
    have hd : s.data.toList.drop i = s.data.toList[i] :: s.data.toList.drop (i + 1) := List.drop_eq_getElem_cons h
    have hb : bt s (i : Int) = ((s.data.toList[i].toNat : Nat) : Int) := by rw [bt_list, List.getElem?_eq_getElem h]; rfl
    refine Ev_step (fun k => by rw [spec_l1Split.l0, if_pos (by omega), if_pos (by omega), hb, w, Int.toNat_natCast, Int.toNat_natCast]) ?_
    rw [hd, cut]
    by_cases hc : s.data.toList[i] = b; rotate_left
    · rw [if_neg hc]
      refine Ev_neg (fun e => hc (UInt8.toNat_inj.1 (by omega))) ?_
      have hi2 := ih (i + 1) f out (by omega) (by omega) (by omega)
      have e : (s.data.toList.take (i + 1)).drop f = (s.data.toList.take i).drop f ++ [s.data.toList[i]] := by
        rw [List.take_succ_eq_append_getElem h, List.drop_append_of_le_length (by rw [List.length_take]; omega)]
      rw [e] at hi2
      exact hi2
    rw [if_pos hc]
    refine Ev_pos (by rw [hc]) (Ev_pos (by omega) (Ev_pos (by omega) (Ev_pos (by omega) (Ev_pos (by omega) ?_))))
    have hi2 := ih (i + 1) (i + 1) (out ++ [s.extract f i]) (by omega) (by omega) (by rw [List.length_append]; simp only [List.length_cons, List.length_nil]; omega)
    rw [List.drop_of_length_le (by rw [List.length_take]; omega), List.append_assoc, List.singleton_append] at hi2
    rw [List.map_cons]
    have e : mkB ((s.data.toList.take i).drop f) = s.extract f i := by rw [← mkB_data (s.extract f i), Lib.extract_data, List.drop_take]
    rw [e]
    exact hi2
theorem split_ev (s : ByteArray) (b : UInt8) (hs : s.size ≤ 1000) : Ev (fun k => spec_l1Split.f k s ((b.toNat : Nat) : Int)) ((cut b [] s.data.toList).map mkB) := by
  have := split_l0 s b hs s.size 0 0 [] (by omega) (by omega) (by simp)
  exact Ev.congr (fun k => by rw [spec_l1Split.f]; rfl) this
theorem split_or (b : UInt8) : ∀ l : List UInt8, b ∉ l ∨ ∃ a r, l = a ++ b :: r ∧ b ∉ a := by
  intro l
  induction l with
  | nil => exact .inl (by simp)
  | cons c l ih =>
    by_cases h : c = b
    · exact .inr ⟨[], l, by rw [h]; rfl, by simp⟩
    rcases ih with h1 | ⟨a, r, h1, h2⟩
    · exact .inl (by rw [List.mem_cons, not_or]; exact ⟨fun e => h e.symm, h1⟩)
    · exact .inr ⟨c :: a, r, by rw [h1]; rfl, by rw [List.mem_cons, not_or]; exact ⟨fun e => h e.symm, h2⟩⟩
theorem index_free (b : UInt8) : ∀ l : List UInt8, b ∉ l → Lib.index l [b] = -1 := by
  intro l
  induction l with
  | nil => intro _; rfl
  | cons c l ih =>
    intro h
    rw [List.mem_cons, not_or] at h
    have h1 : (b == c) = false := beq_eq_false_iff_ne.2 h.1
    rw [Lib.index, ih h.2]
    simp [List.isPrefixOf, h1]
theorem index_sep (b : UInt8) (r : List UInt8) : ∀ a : List UInt8, b ∉ a → Lib.index (a ++ b :: r) [b] = (a.length : Int) := by
  intro a
  induction a with
  | nil => intro _; rw [List.nil_append, Lib.index]; simp [List.isPrefixOf]
  | cons c a ih =>
    intro h
    rw [List.mem_cons, not_or] at h
    have h1 : (b == c) = false := beq_eq_false_iff_ne.2 h.1
    rw [List.cons_append, Lib.index, ih h.2]
    have h2 : ((a.length : Int) == -1) = false := beq_eq_false_iff_ne.2 (by omega)
    simp [List.isPrefixOf, h1, h2]
theorem dig_in : ∀ (n : Nat), ∀ c ∈ Lib.decDigits n, 48 ≤ c.toNat ∧ c.toNat ≤ 57 := by
  intro n
  induction n using Nat.strongRecOn with
  | ind n ih =>
    intro c hc
    have one : ∀ d, d < 10 → c = UInt8.ofNat (48 + d) → 48 ≤ c.toNat ∧ c.toNat ≤ 57 := by
      intro d hd e
      rw [e, UInt8.toNat_ofNat']
      omega
    by_cases h : n < 10
    · rw [Lib.decDigits_one h, List.mem_singleton] at hc
      exact one n h hc
    rw [Lib.decDigits, dif_neg h, List.mem_append, List.mem_singleton] at hc
    rcases hc with hc | hc
    · exact ih (n / 10) (by omega) c hc
    · exact one _ (by omega) hc
theorem dig_free (n : Nat) (b : UInt8) (hb : b.toNat < 48) : b ∉ Lib.decDigits n := fun h => by have := dig_in n b h; omega
theorem digitVal_of (d : Nat) (h : d < 10) : Lib.digitVal (UInt8.ofNat (48 + d)) = some d := by
  rcases ten d h with rfl | rfl | rfl | rfl | rfl | rfl | rfl | rfl | rfl | rfl <;> rfl
theorem decFrom_app : ∀ (l r : List UInt8) (a : Nat), Lib.decFrom a (l ++ r) = (Lib.decFrom a l).bind (Lib.decFrom · r) := by
  intro l
  induction l with
  | nil => intro r a; rfl
  | cons c l ih =>
    intro r a
    rw [List.cons_append, Lib.decFrom, Lib.decFrom]
    cases Lib.digitVal c with
    | none => rfl
    | some d => exact ih r _
theorem decFrom_dig : ∀ (n : Nat), Lib.decFrom 0 (Lib.decDigits n) = some n := by
  intro n
  induction n using Nat.strongRecOn with
  | ind n ih =>
    by_cases h : n < 10
    · rw [Lib.decDigits_one h, Lib.decFrom, digitVal_of n h]
      simp [Lib.decFrom]
    rw [Lib.decDigits, dif_neg h, decFrom_app, ih (n / 10) (by omega), Option.bind_some, Lib.decFrom, digitVal_of _ (by omega)]
    simp only [Lib.decFrom]
    congr 1
    omega
theorem dig_len (n : Nat) (h : n ≤ 1000000) : (Lib.decDigits n).length ≤ 7 := by
  have := num_size 6 n (by omega)
  rw [← size_list, num_data] at this
  exact this
theorem atoiAll_dig (n : Nat) (h : n ≤ 1000000) : Lib.atoiAll (Lib.decDigits n) = .ok (n : Int) := by
  rw [Lib.atoiAll_short _ (by have := dig_len n h; omega)]
  have hp : Lib.decDigits n ≠ [] := by
    by_cases h1 : n < 10; rotate_left
    · rw [Lib.decDigits, dif_neg h1]; simp
    rw [Lib.decDigits_one h1]; simp
  have hd := decFrom_dig n
  have hi := dig_in n
  rcases hc : Lib.decDigits n with _ | ⟨c, r⟩
  · exact absurd hc hp
  · rw [hc] at hd hi
    have h0 := hi c (by simp)
    have h1 : (c == 45) = false := beq_eq_false_iff_ne.2 (fun e => by rw [e] at h0; have : (45 : UInt8).toNat = 45 := rfl; omega)
    have h2 : (c == 43) = false := beq_eq_false_iff_ne.2 (fun e => by rw [e] at h0; have : (43 : UInt8).toNat = 43 := rfl; omega)
    have e : Lib.atoi (c :: r) = some (n : Int) := by
      simp [Lib.atoi, Lib.decNat, hd, h1, h2]
    rw [e]
    rfl

def rdL : Int → List UInt8 → Int
  | x, [] => x
  | x, c :: r => if c.toNat < 48 then -1 else if c.toNat > 57 then -1 else rdL (10 * x + ((c.toNat : Int) - 48)) r
theorem pow6 (i : Nat) (h : i ≤ 5) : (10 : Int) ^ i ≤ 100000 := by
  have : i = 0 ∨ i = 1 ∨ i = 2 ∨ i = 3 ∨ i = 4 ∨ i = 5 := by omega
  rcases this with rfl | rfl | rfl | rfl | rfl | rfl <;> decide
theorem read_l0 (s : ByteArray) (hs : s.size ≤ 6) : ∀ (n i : Nat) (x : Int), i + n = s.size → 0 ≤ x → x < (10 : Int) ^ i → Ev (fun k => spec_l1Read.l0 k s x (i : Int)) (rdL x (s.data.toList.drop i)) := by
  have hz : s.size = s.data.toList.length := Lib.size_eq s
  intro n
  induction n with
  | zero =>
    intro i x hi h0 hx
    rw [List.drop_of_length_le (by omega), rdL]
    exact Ev_step (fun k => by rw [spec_l1Read.l0, if_neg (by omega)]) (Ev.now _)
  | succ n ih =>
    intro i x hi h0 hx
    have h : i < s.data.toList.length := by omega
    have hp := pow6 i (by omega)
    have w : wrap64 ((i : Int) + 1) = ((i + 1 : Nat) : Int) := by rw [w64 (by omega) (by omega)]; omega
    have hb : bt s (i : Int) = ((s.data.toList[i].toNat : Nat) : Int) := by rw [bt_list, List.getElem?_eq_getElem h]; rfl
    rw [List.drop_eq_getElem_cons h, rdL]
    refine Ev_step (fun k => by rw [spec_l1Read.l0, if_pos (by omega), if_pos (by omega), hb, w]) ?_
    generalize s.data.toList[i].toNat = c
    by_cases h1 : c < 48
    · rw [if_pos h1]
      exact Ev_pos (by omega) (Ev.now _)
    rw [if_neg h1]
    by_cases h2 : c > 57
    · rw [if_pos h2]
      exact Ev_neg (by omega) (Ev_pos (by omega) (Ev.now _))
    rw [if_neg h2]
    refine Ev_neg (by omega) (Ev_neg (by omega) ?_)
    have e : wrap64 (wrap64 (10 * x) + ((c : Int) - 48) % 256) = 10 * x + ((c : Int) - 48) := by
      rw [w64 (x := 10 * x) (by omega) (by omega), w64 (by omega) (by omega)]
      omega
    rw [e]
    exact ih (i + 1) _ (by omega) (by omega) (by rw [Int.pow_succ]; omega)
theorem read_any (s : ByteArray) : ∃ v, Ev (fun k => spec_l1Read.f k s) v := by
  simp only [spec_l1Read.f, l1In_eq, Option.bind_some]
  have jt : Ev (fun k => spec_l1Read.j0 k s true) (-1) := Ev_step (fun k => by rw [spec_l1Read.j0, if_pos rfl]) (Ev.now _)
  by_cases h : inB (s.size : Int) 1 6 = true; rotate_left
  · exact ⟨_, Ev_neg h jt⟩
  have h2 := of_decide_eq_true h
  have jf : Ev (fun k => spec_l1Read.j0 k s false) (rdL 0 s.data.toList) := by
    refine Ev_step (fun k => by rw [spec_l1Read.j0, if_neg (by decide)]) ?_
    exact read_l0 s (by omega) s.size 0 0 (by omega) (by omega) (by decide)
  by_cases h0 : bt s 0 = 48; rotate_left
  · exact ⟨_, Ev_pos h (Ev_pos (by omega) (Ev_neg h0 jf))⟩
  by_cases h3 : (s.size : Int) > 1; rotate_left
  · exact ⟨_, Ev_pos h (Ev_pos (by omega) (Ev_pos h0 (by rw [decide_eq_false h3]; exact jf)))⟩
  exact ⟨_, Ev_pos h (Ev_pos (by omega) (Ev_pos h0 (by rw [decide_eq_true h3]; exact jt)))⟩
theorem rdL_app : ∀ (l r : List UInt8) (x : Int), (∀ c ∈ l, 48 ≤ c.toNat ∧ c.toNat ≤ 57) → rdL x (l ++ r) = rdL (rdL x l) r := by
  intro l
  induction l with
  | nil => intro r x _; rfl
  | cons c l ih =>
    intro r x h
    have hc := h c (by simp)
    rw [List.cons_append, rdL, rdL, if_neg (by omega), if_neg (by omega), if_neg (by omega), if_neg (by omega)]
    exact ih r _ (fun d hd => h d (by simp [hd]))
theorem rdL_dig : ∀ (n : Nat), rdL 0 (Lib.decDigits n) = (n : Int) := by
  intro n
  induction n using Nat.strongRecOn with
  | ind n ih =>
    have one : ∀ d, d < 10 → ∀ x, rdL x [UInt8.ofNat (48 + d)] = 10 * x + (d : Int) := by
      intro d hd x
      have e : (UInt8.ofNat (48 + d)).toNat = 48 + d := by rw [UInt8.toNat_ofNat']; omega
      rw [rdL, rdL, e, if_neg (by omega), if_neg (by omega)]
      omega
    by_cases h : n < 10; rotate_left
    · rw [Lib.decDigits, dif_neg h, rdL_app _ _ _ (dig_in _), ih (n / 10) (by omega), one _ (by omega)]
      omega
    rw [Lib.decDigits_one h, one n h]
    omega
theorem dig_head : ∀ (n : Nat), 0 < n → (Lib.decDigits n)[0]? ≠ some 48 := by
  intro n
  induction n using Nat.strongRecOn with
  | ind n ih =>
    intro hn
    by_cases h : n < 10
    · rw [Lib.decDigits_one h]
      rcases ten n h with rfl | rfl | rfl | rfl | rfl | rfl | rfl | rfl | rfl | rfl
      · omega
      all_goals decide
    rw [Lib.decDigits, dif_neg h]
    have h2 := ih (n / 10) (by omega) (by omega)
    rcases hc : Lib.decDigits (n / 10) with _ | ⟨c, r⟩
    · have hd := decFrom_dig (n / 10)
      rw [hc] at hd
      simp only [Lib.decFrom, Option.some.injEq] at hd
      omega
    · rw [hc] at h2
      exact h2
theorem read_num (a : Nat) (h : a ≤ 2000) : Ev (fun k => spec_l1Read.f k (num a)) (a : Int) := by
  have hs := num_size 3 a (by omega)
  have hp : 1 ≤ (num a).size := by
    by_cases h1 : a < 10
    · rw [num_size1 a h1]; omega
    rw [num_big a h1, ByteArray.size_append]
    have e : (⟨[UInt8.ofNat (48 + a % 10)].toArray⟩ : ByteArray).size = 1 := rfl
    omega
  simp only [spec_l1Read.f, l1In_eq, Option.bind_some]
  have hi : inB ((num a).size : Int) 1 6 = true := decide_eq_true ⟨by omega, by omega⟩
  have jf : Ev (fun k => spec_l1Read.j0 k (num a) false) (a : Int) := by
    refine Ev_step (fun k => by rw [spec_l1Read.j0, if_neg (by decide)]) ?_
    have := read_l0 (num a) (by omega) (num a).size 0 0 (by omega) (by omega) (by decide)
    rw [List.drop_zero, num_data, rdL_dig] at this
    exact this
  by_cases h0 : bt (num a) 0 = 48; rotate_left
  · exact Ev_pos hi (Ev_pos (by omega) (Ev_neg h0 jf))
  have ha : a = 0 := by
    rcases Nat.eq_zero_or_pos a with h1 | h1
    · exact h1
    · exfalso
      have hb := bt_list (num a) 0
      rw [num_data] at hb
      have h2 := dig_head a h1
      have h3 : (((Lib.decDigits a)[0]?).getD 0).toNat = 48 := by have : ((0 : Nat) : Int) = 0 := rfl; rw [this] at hb; omega
      rcases hc : (Lib.decDigits a)[0]? with _ | c
      · rw [hc] at h3; exact absurd h3 (by decide)
      · rw [hc] at h3 h2
        exact h2 (congrArg some (UInt8.toNat_inj.1 h3))
  have h3 : ¬ ((num a).size : Int) > 1 := by rw [ha, num_size1 0 (by omega)]; omega
  exact Ev_pos hi (Ev_pos (by omega) (Ev_pos h0 (by rw [decide_eq_false h3]; exact jf)))
theorem atoi_num (a : Nat) (h : a ≤ 2000) : atoi.f (num a) = some ((a : Int), none) := by
  have hs := num_size 3 a (by omega)
  unfold atoi.f
  rw [if_pos (by omega), num_data, atoiAll_dig a (by omega)]
theorem atoi_any (s : ByteArray) (h : s.size ≤ 281474976710656) : ∃ v e, atoi.f s = some (v, e) := by
  unfold atoi.f
  rw [if_pos h]
  cases Lib.atoiAll s.data.toList <;> exact ⟨_, _, rfl⟩

def lead : List UInt8 → List UInt8 → Nat
  | [], _ => 0
  | _ :: _, [] => 0
  | a :: l, b :: m => if a = b then lead l m + 1 else 0
theorem lead_same : ∀ (l m : List UInt8) (i : Nat), i < lead l m → l[i]? = m[i]? := by
  intro l
  induction l with
  | nil => intro m i h; rw [lead] at h; omega
  | cons a l ih =>
    intro m i h
    cases m with
    | nil => rw [lead] at h; omega
    | cons b m =>
      rw [lead] at h
      by_cases e : a = b; rotate_left
      · rw [if_neg e] at h
        omega
      rw [if_pos e] at h
      cases i with
      | zero => rw [e]; rfl
      | succ i => exact ih m i (by omega)
theorem lead_diff : ∀ (l m : List UInt8), l.length = m.length → l ≠ m → lead l m < l.length ∧ l[lead l m]? ≠ m[lead l m]? := by
  intro l
  induction l with
  | nil =>
    intro m h hn
    cases m with
    | nil => exact absurd rfl hn
    | cons b m => simp at h
  | cons a l ih =>
    intro m h hn
    cases m with
    | nil => simp at h
    | cons b m =>
      rw [lead]
      by_cases e : a = b; rotate_left
      · rw [if_neg e]
        exact ⟨w143_, by simpa using e⟩
      subst e
      rw [if_pos rfl]
      obtain ⟨h1, h2⟩ := ih m (by simpa using h) (fun q => hn (by rw [q]))
      exact ⟨w143_, h2⟩
theorem lead_take : ∀ (l m : List UInt8), l.take (lead l m) = m.take (lead l m) := by
  intro l
  induction l with
  | nil => intro m; rw [lead]; rfl
  | cons a l ih =>
    intro m
    cases m with
    | nil => rw [lead]; rfl
    | cons b m =>
      rw [lead]
      by_cases e : a = b; rotate_left
      · rw [if_neg e, List.take_zero, List.take_zero]
      rw [if_pos e, List.take_succ_cons, List.take_succ_cons, ih m, e]
theorem dig_mono : ∀ (b a : Nat), a ≤ b → (Lib.decDigits a).length ≤ (Lib.decDigits b).length := by
  intro b
  induction b using Nat.strongRecOn with
  | ind b ih =>
    intro a h
    by_cases ha : a < 10
    · rw [Lib.decDigits_one ha]
      by_cases hb : b < 10
      · rw [Lib.decDigits_one hb]; exact Nat.le_refl _
      rw [Lib.decDigits, dif_neg hb, List.length_append]
      simp
    rw [Lib.decDigits, dif_neg ha]
    have e : Lib.decDigits b = Lib.decDigits (b / 10) ++ [UInt8.ofNat (48 + b % 10)] := by rw [Lib.decDigits, dif_neg (by omega)]
    rw [e, List.length_append, List.length_append]
    have := ih (b / 10) (by omega) (a / 10) (by omega)
    simp only [List.length_singleton]
    omega
theorem dig_inj {a b : Nat} (h : Lib.decDigits a = Lib.decDigits b) : a = b := by
  have h1 := decFrom_dig a
  rw [h, decFrom_dig b] at h1
  exact (Option.some.inj h1).symm
def tail2 (a b : Nat) : List UInt8 := if (Lib.decDigits a).length = (Lib.decDigits b).length then (Lib.decDigits b).drop (lead (Lib.decDigits a) (Lib.decDigits b)) else Lib.decDigits b
def sh (a b : Nat) : List UInt8 := if a = b then Lib.decDigits a else Lib.decDigits a ++ 45 :: tail2 a b
theorem sh_size (a b : Nat) (ha : a ≤ 2000) (hb : b ≤ 2000) : (sh a b).length ≤ 9 := by
  have h1 := num_size 3 a (by omega)
  have h2 := num_size 3 b (by omega)
  rw [← size_list, num_data] at h1 h2
  unfold sh tail2
  split
  · omega
  · rw [List.length_append, List.length_cons]
    split
    · rw [List.length_drop]; omega
    · omega
theorem joinP (a b : Nat) (t : ByteArray) (ht : t.data.toList = tail2 a b) (h : a ≠ b) : (num a ++ (⟨#[45]⟩ : ByteArray)) ++ t = mkB (sh a b) := by
  apply ByteArray.ext
  apply Array.toList_inj.1
  rw [app_data, app_data, num_data, ht]
  show _ = sh a b
  unfold sh
  rw [if_neg h]
  simp
theorem shS_l0 (a b : Nat) (ha : a ≤ 2000) (hb : b ≤ 2000) (hab : a ≠ b) (hl : (Lib.decDigits a).length = (Lib.decDigits b).length) : ∀ n i : Nat, i + n = lead (Lib.decDigits a) (Lib.decDigits b) →
    Ev (fun k => spec_ixShort.l0 k (num a) (num b) (i : Int)) (mkB (sh a b)) ∧ Ev (fun k => impl_shortRange.l0 k (num a) (num b) (i : Int)) (mkB (sh a b)) := by
  obtain ⟨d1, d2⟩ := lead_diff _ _ hl (fun e => hab (dig_inj e))
  have s1 : (num a).size = (Lib.decDigits a).length := by rw [← size_list, num_data]
  have s2 : (num b).size = (Lib.decDigits b).length := by rw [← size_list, num_data]
  have z1 := num_size 3 a (by omega)
  have z2 := num_size 3 b (by omega)
  have s3 : (⟨#[45]⟩ : ByteArray).size = 1 := rfl
  intro n
  induction n with
  | zero =>
    intro i hi
    obtain rfl : i = lead (Lib.decDigits a) (Lib.decDigits b) := by omega
    generalize hq : lead (Lib.decDigits a) (Lib.decDigits b) = q at d1 d2 hi
    have hd : ¬ bt (num a) (q : Int) = bt (num b) (q : Int) := by
      rw [bt_list, bt_list, num_data, num_data, List.getElem?_eq_getElem d1, List.getElem?_eq_getElem (by omega)]
      rw [List.getElem?_eq_getElem d1, List.getElem?_eq_getElem (by omega)] at d2
      intro e
      apply d2
      congr 1
      exact UInt8.toNat_inj.1 (Int.ofNat.inj e)
    have hx : ((num b).extract q (num b).size).data.toList = tail2 a b := by
      rw [Lib.extract_data, num_data]
      unfold tail2
      rw [if_pos hl, hq, List.take_of_length_le (by rw [List.length_drop]; omega)]
    have hz : ((num b).extract q (num b).size).size ≤ 1000 := by
      rw [← size_list, hx]
      unfold tail2
      rw [if_pos hl, List.length_drop]
      omega
    have hj := joinP a b _ hx hab
    refine ⟨Ev_step (fun k => ?_) (Ev.now _), Ev_step (fun k => ?_) (Ev.now _)⟩
    · rw [spec_ixShort.l0, if_pos (by omega), if_pos (by omega), if_pos (by omega), if_neg hd, if_pos (by omega), if_pos (by omega), Int.toNat_natCast, if_pos (by rw [ByteArray.size_append]; omega), hj]
    · rw [impl_shortRange.l0, if_pos (by omega), if_pos (by omega), if_pos (by omega), if_pos (by omega), if_neg hd, if_pos (by omega), if_pos (by omega), Int.toNat_natCast, if_pos (by rw [ByteArray.size_append]; omega), hj]
  | succ n ih =>
    intro i hi
    have he : bt (num a) (i : Int) = bt (num b) (i : Int) := by
      rw [bt_list, bt_list, num_data, num_data, lead_same (Lib.decDigits a) (Lib.decDigits b) i (by omega)]
    obtain ⟨x, y⟩ := ih (i + 1) (by omega)
    refine ⟨Ev_step (fun k => ?_) x, Ev_step (fun k => ?_) y⟩
    · rw [spec_ixShort.l0, if_pos (by omega), if_pos (by omega), if_pos (by omega), if_pos he, nextI i (by omega)]
    · rw [impl_shortRange.l0, if_pos (by omega), if_pos (by omega), if_pos (by omega), if_pos (by omega), if_pos he, nextI i (by omega)]
theorem short_ev (a b : Nat) (ha : a ≤ 2000) (hb : b ≤ 2000) : Ev (fun k => spec_ixShort.f k (a : Int) (b : Int)) (mkB (sh a b)) ∧ Ev (fun k => impl_shortRange.f k (a : Int) (b : Int)) (mkB (sh a b)) := by
  have na := num_ev 3 a (by omega) (by omega)
  have nb := num_ev 3 b (by omega) (by omega)
  have s1 : (num a).size = (Lib.decDigits a).length := by rw [← size_list, num_data]
  have s2 : (num b).size = (Lib.decDigits b).length := by rw [← size_list, num_data]
  have z1 := num_size 3 a (by omega)
  have z2 := num_size 3 b (by omega)
  have s3 : (⟨#[45]⟩ : ByteArray).size = 1 := rfl
  simp only [spec_ixShort.f, impl_shortRange.f, itoaP a (by omega), itoaP b (by omega), Option.bind_some]
  by_cases h : a = b
  · have e : mkB (sh a b) = num a := by unfold sh; rw [if_pos h]; rfl
    rw [e]
    exact ⟨Ev_bind na (Ev_bind nb (Ev_pos (by omega) (Ev.now _))), Ev_pos (by omega) (Ev.now _)⟩
  by_cases hl : (Lib.decDigits a).length = (Lib.decDigits b).length
  · obtain ⟨x, y⟩ := shS_l0 a b ha hb h hl _ 0 (Nat.zero_add _)
    exact ⟨Ev_bind na (Ev_bind nb (Ev_neg (by omega) (Ev_pos (by omega) x))), Ev_neg (by omega) y⟩
  have hj := joinP a b (num b) (by rw [num_data]; unfold tail2; rw [if_neg hl]) h
  refine ⟨Ev_bind na (Ev_bind nb (Ev_neg (by omega) (Ev_neg (by omega) ?_))), Ev_neg (by omega) ?_⟩
  · refine Ev_pos (by omega) (Ev_pos (by rw [ByteArray.size_append]; omega) ?_)
    rw [hj]
    exact Ev.now _
  · have ex : (num b).extract (0 : Int).toNat (num b).size = num b := by
      rw [← mkB_data ((num b).extract (0 : Int).toNat (num b).size), Lib.extract_data]
      show mkB ((((num b).data.toList).drop 0).take _) = _
      rw [List.drop_zero, List.take_of_length_le (by rw [size_list]; exact Nat.le_refl _), mkB_data]
    refine Ev_step (fun k => ?_) (Ev.now _)
    rw [impl_shortRange.l0, if_neg (by omega), if_pos (by omega), if_pos (by omega), if_pos (by omega), ex, if_pos (by rw [ByteArray.size_append]; omega), hj]

def IsSh (s : List UInt8) (p q : Nat) : Prop := 1 ≤ p ∧ p ≤ q ∧ q ≤ 2000 ∧ sh p q = s
def Lg (s : List UInt8) (r : Int × Int × Bool) : Prop := (∃ p q : Nat, IsSh s p q ∧ r = ((p : Int), (q : Int), true)) ∨ ((∀ p q : Nat, ¬ IsSh s p q) ∧ r = (0, 0, false))
theorem data_mkB (l : List UInt8) : (mkB l).data.toList = l := rfl
theorem atoi_num2 (a : Nat) (h : a ≤ 2000) : atoi.f (num a) = some ((a : Int), none) := atoi_num a h
theorem j1_no (s f t : ByteArray) (hf : f.size ≤ 100000) (ht : t.size ≤ 100000) (h : ∀ p q : Nat, ¬ IsSh s.data.toList p q) : Ev (fun k => impl_longRange.j1 k s f t) (0, 0, false) := by
  obtain ⟨v, e1, h1⟩ := atoi_any f (by omega)
  obtain ⟨w, e2, h2⟩ := atoi_any t (by omega)
  have key : Ev (fun k => (impl_isRange.f v w).bind fun t412 => (if t412 = true then ((impl_shortRange.f k v w).bind fun t413 => (if t413.toList = s.toList then (some (v, w, true)) else (some (0, 0, false)))) else (some (0, 0, false)))) ((0, 0, false) : Int × Int × Bool) := by
    simp only [isRange_eq, Option.bind_some]
    by_cases hr : rangeB v w = true; rotate_left
    · exact Ev_neg hr (Ev.now _)
    have hr2 := of_decide_eq_true hr
    obtain ⟨p, rfl⟩ := Int.eq_ofNat_of_zero_le (show 0 ≤ v by omega)
    obtain ⟨q, rfl⟩ := Int.eq_ofNat_of_zero_le (show 0 ≤ w by omega)
    refine Ev_pos hr (Ev_bind (short_ev p q (by omega) (by omega)).2 (Ev_neg (fun e => ?_) (Ev.now _)))
    refine h p q ⟨by omega, by omega, by omega, ?_⟩
    rw [ByteArray.toList_eq, ByteArray.toList_eq] at e
    exact e
  refine Ev_step (fun k => by rw [impl_longRange.j1, h1, h2, Option.bind_some, Option.bind_some]) ?_
  cases e1 with
  | some x => exact Ev_neg (by simp) (Ev.now _)
  | none =>
    cases e2 with
    | some x => exact Ev_pos rfl (Ev_neg (by simp) (Ev.now _))
    | none => exact Ev_pos rfl (Ev_pos rfl key)
theorem short_same (s : ByteArray) {p q : Nat} (h : sh p q = s.data.toList) : (mkB (sh p q)).toList = s.toList := by rw [ByteArray.toList_eq, ByteArray.toList_eq, h, data_mkB]
theorem isSh_range {l : List UInt8} {p q : Nat} (h : IsSh l p q) : rangeB (p : Int) (q : Int) = true := by
  obtain ⟨h1, h2, h3, _⟩ := h
  exact decide_eq_true ⟨by omega, by omega, by omega⟩
theorem j1_yes (s : ByteArray) {p q : Nat} (h : IsSh s.data.toList p q) : Ev (fun k => impl_longRange.j1 k s (num p) (num q)) ((p : Int), (q : Int), true) := by
  obtain ⟨h1, h2, h3, h4⟩ := id h
  refine Ev_step (fun k => by rw [impl_longRange.j1, atoi_num2 p (by omega), atoi_num2 q (by omega), Option.bind_some, Option.bind_some]) ?_
  simp only [isRange_eq, Option.bind_some]
  exact Ev_pos rfl (Ev_pos rfl (Ev_pos (isSh_range h) (Ev_bind (short_ev p q (by omega) (by omega)).2 (Ev_pos (short_same s h4) (Ev.now _)))))
theorem j1s_no (s : ByteArray) (v w : Int) (h : ∀ p q : Nat, ¬ IsSh s.data.toList p q) : Ev (fun k => spec_ixLong.j1 k s v w) (0, 0, false) := by
  refine Ev_step (fun k => by rw [spec_ixLong.j1, ixRange_eq, Option.bind_some]) ?_
  by_cases hr : rangeB v w = true; rotate_left
  · exact Ev_neg hr (Ev.now _)
  have hr2 := of_decide_eq_true hr
  obtain ⟨p, rfl⟩ := Int.eq_ofNat_of_zero_le (show 0 ≤ v by omega)
  obtain ⟨q, rfl⟩ := Int.eq_ofNat_of_zero_le (show 0 ≤ w by omega)
  refine Ev_pos hr (Ev_bind (short_ev p q (by omega) (by omega)).1 (Ev_neg (fun e => ?_) (Ev.now _)))
  refine h p q ⟨by omega, by omega, by omega, ?_⟩
  rw [ByteArray.toList_eq, ByteArray.toList_eq] at e
  exact e
theorem j1s_yes (s : ByteArray) {p q : Nat} (h : IsSh s.data.toList p q) : Ev (fun k => spec_ixLong.j1 k s (p : Int) (q : Int)) ((p : Int), (q : Int), true) := by
  obtain ⟨h1, h2, h3, h4⟩ := id h
  refine Ev_step (fun k => by rw [spec_ixLong.j1, ixRange_eq, Option.bind_some]) ?_
  exact Ev_pos (isSh_range h) (Ev_bind (short_ev p q (by omega) (by omega)).1 (Ev_pos (short_same s h4) (Ev.now _)))
theorem uniq {a r a' r' : List UInt8} (h : a ++ 45 :: r = a' ++ 45 :: r') (ha : (45 : UInt8) ∉ a) (ha' : (45 : UInt8) ∉ a') : a = a' ∧ r = r' := by
  have h1 := index_sep 45 r a ha
  rw [h, index_sep 45 r' a' ha'] at h1
  obtain ⟨x, y⟩ := List.append_inj h (by omega)
  exact ⟨x, (List.cons.inj y).2⟩
def toL2 (f e : List UInt8) : List UInt8 := if e.length < f.length then f.take (f.length - e.length) ++ e else e
theorem to_tail {p q : Nat} (h : p < q) : toL2 (Lib.decDigits p) (tail2 p q) = Lib.decDigits q := by
  have hm := dig_mono q p (by omega)
  unfold toL2 tail2
  by_cases hl : (Lib.decDigits p).length = (Lib.decDigits q).length; rotate_left
  · rw [if_neg hl, if_neg (by omega)]
  obtain ⟨d1, _⟩ := lead_diff _ _ hl (fun e => by have := dig_inj e; omega)
  rw [if_pos hl, List.length_drop]
  by_cases h0 : lead (Lib.decDigits p) (Lib.decDigits q) = 0; rotate_left
  · rw [if_pos (by omega), show (Lib.decDigits p).length - ((Lib.decDigits q).length - lead (Lib.decDigits p) (Lib.decDigits q)) = lead (Lib.decDigits p) (Lib.decDigits q) by omega, lead_take, List.take_append_drop]
  rw [h0, if_neg (by omega), List.drop_zero]
theorem tail_free (p q : Nat) : (45 : UInt8) ∉ tail2 p q := by
  have hb := dig_free q 45 (by decide)
  unfold tail2
  split
  · exact fun h => hb (List.mem_of_mem_drop h)
  · exact hb
theorem isSh_free {l : List UInt8} {p q : Nat} (h : IsSh l p q) (hl : (45 : UInt8) ∉ l) : p = q ∧ l = Lib.decDigits p := by
  obtain ⟨h1, h2, h3, h4⟩ := h
  unfold sh at h4
  by_cases e : p = q
  · rw [if_pos e] at h4
    exact ⟨e, h4.symm⟩
  rw [if_neg e] at h4
  rw [← h4] at hl
  simp at hl
theorem isSh_sep {a r : List UInt8} {p q : Nat} (h : IsSh (a ++ 45 :: r) p q) (hl : (45 : UInt8) ∉ a) : p < q ∧ a = Lib.decDigits p ∧ r = tail2 p q := by
  obtain ⟨h1, h2, h3, h4⟩ := h
  have hb := dig_free p 45 (by decide)
  unfold sh at h4
  by_cases e : p = q; rotate_left
  · rw [if_neg e] at h4
    obtain ⟨x, y⟩ := uniq h4.symm hl hb
    exact ⟨by omega, x, y⟩
  rw [if_pos e] at h4
  rw [h4] at hb
  simp at hb
theorem strcut_free (s : ByteArray) (hs : s.size ≤ 1000) (h : (45 : UInt8) ∉ s.data.toList) : strcut.f s (⟨#[45]⟩ : ByteArray) = some (s, mkB [], false) := by
  have e : Lib.cut s.data.toList (⟨#[45]⟩ : ByteArray).data.toList = (s.data.toList, [], false) := by
    have : (⟨#[45]⟩ : ByteArray).data.toList = [45] := rfl
    rw [this]
    unfold Lib.cut
    rw [index_free 45 _ h, if_neg (by decide)]
  unfold strcut.f
  rw [if_pos (by omega), e]
  show some (mkB s.data.toList, mkB [], false) = _
  rw [mkB_data]
theorem strcut_sep (s : ByteArray) (hs : s.size ≤ 1000) {a r : List UInt8} (he : s.data.toList = a ++ 45 :: r) (h : (45 : UInt8) ∉ a) : strcut.f s (⟨#[45]⟩ : ByteArray) = some (mkB a, mkB r, true) := by
  have e : Lib.cut s.data.toList (⟨#[45]⟩ : ByteArray).data.toList = (a, r, true) := by
    have : (⟨#[45]⟩ : ByteArray).data.toList = [45] := rfl
    rw [this, he]
    unfold Lib.cut
    rw [index_sep 45 r a h, if_pos (by omega), Int.toNat_natCast, List.take_left' rfl]
    have e : (a ++ 45 :: r).drop (a.length + [(45 : UInt8)].length) = r := by
      rw [show a ++ 45 :: r = (a ++ [45]) ++ r by simp, List.drop_left' (by simp)]
    rw [e]
  unfold strcut.f
  rw [if_pos (by omega), e]
  rfl
theorem mkB_size (l : List UInt8) : (mkB l).size = l.length := by rw [← size_list, data_mkB]
theorem longI_free (s : ByteArray) (hs : s.size ≤ 1000) (h : (45 : UInt8) ∉ s.data.toList) {r : Int × Int × Bool} (hr : Ev (fun k => impl_longRange.j1 k s s s) r) : Ev (fun k => impl_longRange.f k s) r := by
  simp only [impl_longRange.f, strcut_free s hs h, Option.bind_some]
  refine Ev_neg Bool.false_ne_true (Ev_step (fun k => ?_) hr)
  rw [impl_longRange.j0, if_neg Bool.false_ne_true, if_neg Bool.false_ne_true]
theorem longI_sep (s : ByteArray) (hs : s.size ≤ 1000) {a b : List UInt8} (he : s.data.toList = a ++ 45 :: b) (h : (45 : UInt8) ∉ a) {r : Int × Int × Bool} (hr : Ev (fun k => impl_longRange.j1 k s (mkB a) (mkB (toL2 a b))) r) : Ev (fun k => impl_longRange.f k s) r := by
  have hz := congrArg List.length he
  rw [size_list, List.length_append, List.length_cons] at hz
  simp only [impl_longRange.f, strcut_sep s hs he h, Option.bind_some]
  refine Ev_pos trivial ?_
  have m1 := mkB_size a
  have m2 := mkB_size b
  by_cases hl : b.length < a.length; rotate_left
  · rw [decide_eq_false (show ¬ ((mkB b).size : Int) < ((mkB a).size : Int) by omega)]
    refine Ev_step (fun k => ?_) hr
    rw [impl_longRange.j0, if_neg Bool.false_ne_true, if_pos rfl]
    unfold toL2
    rw [if_neg hl]
  rw [decide_eq_true (show ((mkB b).size : Int) < ((mkB a).size : Int) by omega)]
  have w : wrap64 (((mkB a).size : Int) - ((mkB b).size : Int)) = ((a.length - b.length : Nat) : Int) := by rw [w64 (by omega) (by omega)]; omega
  have ex : (mkB a).extract 0 (a.length - b.length) ++ mkB b = mkB (toL2 a b) := by
    unfold toL2
    rw [if_pos hl]
    apply ByteArray.ext
    apply Array.toList_inj.1
    rw [app_data, Lib.extract_data, data_mkB, data_mkB, data_mkB, List.drop_zero, Nat.sub_zero]
  have es : ((mkB a).extract 0 (a.length - b.length)).size ≤ 1000 := by
    rw [← size_list, Lib.extract_data, List.length_take, List.length_drop, size_list]
    omega
  refine Ev_step (fun k => ?_) hr
  rw [impl_longRange.j0, if_pos rfl, w, if_pos (by omega), if_pos (by omega), Int.toNat_natCast, if_pos (by omega), ex]
theorem longS_free (s : ByteArray) (hs : s.size ≤ 9) (h : (45 : UInt8) ∉ s.data.toList) {v : Int} {r : Int × Int × Bool} (hv : Ev (fun k => spec_l1Read.f k s) v) (hr : Ev (fun k => spec_ixLong.j1 k s v v) r) : Ev (fun k => spec_ixLong.f k s) r := by
  have sp : Ev (fun k => spec_l1Split.f k s 45) ((cut 45 [] s.data.toList).map mkB) := split_ev s 45 (by omega)
  rw [cut_free 45 _ [] h, List.nil_append, List.map_cons, List.map_nil, mkB_data] at sp
  simp only [spec_ixLong.f]
  refine Ev_bind sp (Ev_neg (by omega) ?_)
  rw [decide_eq_false (show ¬ (([s] : List ByteArray).length : Int) > 2 by simp)]
  refine Ev_step (fun k => by rw [spec_ixLong.j0, if_neg Bool.false_ne_true, if_pos (show (0 : Int) < (([s] : List ByteArray).length : Int) by simp), show rdOf ByteArray.empty [s] 0 = s from rfl]) ?_
  exact Ev_bind hv (Ev_bind hv (Ev_neg (show ¬ (([s] : List ByteArray).length : Int) = 2 by simp) hr))
theorem longS_sep (s : ByteArray) (hs : s.size ≤ 9) {a b : List UInt8} (he : s.data.toList = a ++ 45 :: b) (h : (45 : UInt8) ∉ a) (h2 : (45 : UInt8) ∉ b) {v w : Int} {r : Int × Int × Bool} (hv : Ev (fun k => spec_l1Read.f k (mkB a)) v) (hw : Ev (fun k => spec_l1Read.f k (mkB (toL2 a b))) w) (hr : Ev (fun k => spec_ixLong.j1 k s v w) r) : Ev (fun k => spec_ixLong.f k s) r := by
  have sp : Ev (fun k => spec_l1Split.f k s 45) ((cut 45 [] s.data.toList).map mkB) := split_ev s 45 (by omega)
  rw [he, cut_sep 45 b a [] h, cut_free 45 b [] h2, List.nil_append, List.nil_append, List.map_cons, List.map_cons, List.map_nil] at sp
  have hz := congrArg List.length he
  rw [size_list, List.length_append, List.length_cons] at hz
  have m1 := mkB_size a
  have m2 := mkB_size b
  simp only [spec_ixLong.f]
  refine Ev_bind sp (Ev_neg (by omega) ?_)
  rw [decide_eq_false (show ¬ (([mkB a, mkB b] : List ByteArray).length : Int) > 2 by simp)]
  refine Ev_step (fun k => by rw [spec_ixLong.j0, if_neg Bool.false_ne_true, if_pos (show (0 : Int) < (([mkB a, mkB b] : List ByteArray).length : Int) by simp), show rdOf ByteArray.empty [mkB a, mkB b] 0 = mkB a from rfl, show rdOf ByteArray.empty [mkB a, mkB b] 1 = mkB b from rfl]) ?_
  refine Ev_bind hv (Ev_bind hv (Ev_pos (show (([mkB a, mkB b] : List ByteArray).length : Int) = 2 by simp) (Ev_pos (show (1 : Int) < (([mkB a, mkB b] : List ByteArray).length : Int) by simp) ?_)))
  by_cases hl : b.length < a.length; rotate_left
  · have e : toL2 a b = b := by unfold toL2; rw [if_neg hl]
    rw [e] at hw
    exact Ev_neg (by omega) (Ev_bind hw hr)
  have w' : wrap64 (((mkB a).size : Int) - ((mkB b).size : Int)) = ((a.length - b.length : Nat) : Int) := by rw [w64 (by omega) (by omega)]; omega
  have ex : (mkB a).extract 0 (a.length - b.length) ++ mkB b = mkB (toL2 a b) := by
    unfold toL2
    rw [if_pos hl]
    apply ByteArray.ext
    apply Array.toList_inj.1
    rw [app_data, Lib.extract_data, data_mkB, data_mkB, data_mkB, List.drop_zero, Nat.sub_zero]
  have es : ((mkB a).extract 0 (a.length - b.length)).size ≤ 1000 := by
    rw [← size_list, Lib.extract_data, List.length_take, List.length_drop, size_list]
    omega
  rw [w', Int.toNat_natCast, ex]
  exact Ev_pos (by omega) (Ev_pos (by omega) (Ev_pos (by omega) (Ev_pos (by omega) (Ev_bind hw hr))))
theorem long_ev (s : ByteArray) (hs : s.size ≤ 1000) : ∃ r, Ev (fun k => impl_longRange.f k s) r ∧ Ev (fun k => spec_ixLong.f k s) r ∧ Lg s.data.toList r := by
  have sp : Ev (fun k => spec_l1Split.f k s 45) ((cut 45 [] s.data.toList).map mkB) := split_ev s 45 (by omega)
  have hz := size_list s
  by_cases hex : ∃ p q : Nat, IsSh s.data.toList p q
  · obtain ⟨p, q, h⟩ := hex
    obtain ⟨h1, h2, h3, h4⟩ := id h
    have h9 := sh_size p q (by omega) h3
    rw [h4] at h9
    refine ⟨((p : Int), (q : Int), true), ?_, ?_, Or.inl ⟨p, q, h, rfl⟩⟩
    · rcases split_or 45 s.data.toList with hf | ⟨a, b, he, hf⟩
      · obtain ⟨rfl, hd⟩ := isSh_free h hf
        have e : num p = s := by rw [← mkB_data s, hd]; rfl
        have := j1_yes s h
        rw [e] at this
        exact longI_free s hs hf this
      · obtain ⟨hlt, hd, ht⟩ := isSh_sep (he ▸ h) hf
        have := j1_yes s h
        have e1 : num p = mkB a := by rw [hd]; rfl
        have e2 : num q = mkB (toL2 a b) := by rw [hd, ht, to_tail hlt]; rfl
        rw [e1, e2] at this
        exact longI_sep s hs he hf this
    · rcases split_or 45 s.data.toList with hf | ⟨a, b, he, hf⟩
      · obtain ⟨rfl, hd⟩ := isSh_free h hf
        have e : num p = s := by rw [← mkB_data s, hd]; rfl
        have hv := read_num p (by omega)
        rw [e] at hv
        exact longS_free s (by omega) hf hv (j1s_yes s h)
      · obtain ⟨hlt, hd, ht⟩ := isSh_sep (he ▸ h) hf
        have e1 : num p = mkB a := by rw [hd]; rfl
        have e2 : num q = mkB (toL2 a b) := by rw [hd, ht, to_tail hlt]; rfl
        have hv := read_num p (by omega)
        have hw := read_num q (by omega)
        rw [e1] at hv
        rw [e2] at hw
        exact longS_sep s (by omega) he hf (ht ▸ tail_free p q) hv hw (j1s_yes s h)
  have hno : ∀ p q : Nat, ¬ IsSh s.data.toList p q := fun p q h => hex ⟨p, q, h⟩
  refine ⟨(0, 0, false), ?_, ?_, Or.inr ⟨hno, rfl⟩⟩
  · rcases split_or 45 s.data.toList with hf | ⟨a, b, he, hf⟩
    · exact longI_free s hs hf (j1_no s s s (by omega) (by omega) hno)
    · have hl := congrArg List.length he
      rw [size_list, List.length_append, List.length_cons] at hl
      have hto : (toL2 a b).length ≤ 2000 := by
        unfold toL2
        split
        · rw [List.length_append, List.length_take]; omega
        · omega
      exact longI_sep s hs he hf (j1_no s _ _ (by rw [mkB_size]; omega) (by rw [mkB_size]; omega) hno)
  · have bad : Ev (fun k => spec_ixLong.j0 k s ((cut 45 [] s.data.toList).map mkB) true) (0, 0, false) := Ev_step (fun k => by rw [spec_ixLong.j0, if_pos rfl]) (Ev.now _)
    by_cases h9 : s.size ≤ 9; rotate_left
    · simp only [spec_ixLong.f]
      exact Ev_bind sp (Ev_pos (by omega) bad)
    rcases split_or 45 s.data.toList with hf | ⟨a, b, he, hf⟩
    · obtain ⟨v, hv⟩ := read_any s
      exact longS_free s h9 hf hv (j1s_no s v v hno)
    · by_cases hb : (45 : UInt8) ∈ b
      · simp only [spec_ixLong.f]
        refine Ev_bind sp (Ev_neg (by omega) ?_)
        have h2 : (((cut 45 [] s.data.toList).map mkB).length : Int) > 2 := by
          rw [List.length_map, he, cut_sep 45 b a [] hf, List.length_cons]
          rcases split_or 45 b with hb2 | ⟨c, d, rfl, hc⟩
          · exact absurd hb hb2
          · rw [cut_sep 45 d c [] hc, List.length_cons]
            have := cut_pos 45 d []
            omega
        rw [decide_eq_true h2]
        exact bad
      · obtain ⟨v, hv⟩ := read_any (mkB a)
        obtain ⟨w, hw⟩ := read_any (mkB (toL2 a b))
        exact longS_sep s h9 he hf hb hv hw (j1s_no s v w hno)
theorem sh_inj {p q p' q' : Nat} {l : List UInt8} (h : IsSh l p q) (h' : IsSh l p' q') : p = p' ∧ q = q' := by
  rcases split_or 45 l with hf | ⟨a, b, rfl, hf⟩
  · obtain ⟨rfl, e1⟩ := isSh_free h hf
    obtain ⟨rfl, e2⟩ := isSh_free h' hf
    have := dig_inj (e1.symm.trans e2)
    exact ⟨this, this⟩
  · obtain ⟨l1, d1, t1⟩ := isSh_sep h hf
    obtain ⟨l2, d2, t2⟩ := isSh_sep h' hf
    have e1 : p = p' := dig_inj (d1.symm.trans d2)
    have a1 := to_tail l1
    have a2 := to_tail l2
    rw [← d1, ← t1] at a1
    rw [← d2, ← t2] at a2
    exact ⟨e1, dig_inj (a1.symm.trans a2)⟩

def Bytes (c : List Int) : Prop := ∀ x ∈ c, 0 ≤ x ∧ x ≤ 255
theorem Bytes.of {c : List Int} (h : ∀ x ∈ c, (Lit.int .u8 x).wf = true) : Bytes c := fun x hx => bounds_u8 (h x hx)
theorem Bytes.at {c : List Int} (h : Bytes c) (i : Int) : 0 ≤ rd c i ∧ rd c i ≤ 255 := by
  unfold rd
  rw [List.getD_eq_getElem?_getD]
  cases e : c[i.toNat]? with
  | none => exact ⟨by decide, by decide⟩
  | some x => exact h x (List.mem_of_getElem? e)
theorem wrap_u64 (n : Int) : IntKind.u64.wrap n = n % 18446744073709551616 := by simp [IntKind.wrap, IntKind.bits, IntKind.signed]
theorem low8 (n : Int) : 0 ≤ wrap64 (Go.bits .and .u64 (IntKind.u64.wrap n / 1099511627776) 255) ∧ wrap64 (Go.bits .and .u64 (IntKind.u64.wrap n / 1099511627776) 255) ≤ 255 := by
  have hn := wrap_u64 n
  have e : Go.bits .and .u64 (IntKind.u64.wrap n / 1099511627776) 255 = (IntKind.u64.wrap n / 1099511627776) % 256 :=
    Go.bits_mask .u64 24 (by decide) (fun m h0 h1 => by rw [wrap_u64]; omega) 8 (by decide) _ (by omega) (by rw [hn]; omega)
  rw [e, w64 (by omega) (by omega)]
  omega
theorem next_ok {c : List Int} (hc : Bytes c) {a : Int} (s : Int) (h0 : 0 ≤ a) (h1 : a ≤ 1000000) :
    ∃ x s', spec_l1Cur_next.f c a s = some (x, a + 1, s') ∧ 0 ≤ x ∧ x ≤ 255 := by
  have hr := hc.at a
  have w1 : wrap64 (a + 1) = a + 1 := w64 (by omega) (by omega)
  have w2 : wrap64 (rd c a) = rd c a := w64 (by omega) (by omega)
  rw [spec_l1Cur_next.f, w1, w2]
  by_cases h : a < (c.length : Int); rotate_left
  · rw [if_neg h]
    by_cases h2 : a + 1 ≤ (c.length : Int); rotate_left
    · rw [if_neg h2]
      exact ⟨_, _, rfl, (low8 _).1, (low8 _).2⟩
    rw [if_pos h2]
    exact ⟨_, _, rfl, by decide, by decide⟩
  rw [if_pos h, if_pos h0]
  by_cases h2 : a + 1 ≤ (c.length : Int); rotate_left
  · rw [if_neg h2]
    exact ⟨_, _, rfl, (low8 _).1, (low8 _).2⟩
  rw [if_pos h2]
  exact ⟨_, _, rfl, hr.1, hr.2⟩
theorem pick_ok {c : List Int} (hc : Bytes c) {a : Int} (s n : Int) (h0 : 0 ≤ a) (h1 : a ≤ 999990) (hn : n ≤ 1000000) :
    ∃ x a' s', spec_l1Cur_pick.f c a s n = some (x, a', s') ∧ 0 ≤ x ∧ (x < n ∨ x = 0) ∧ a ≤ a' ∧ a' ≤ a + 2 := by
  rw [spec_l1Cur_pick.f]
  by_cases hs : n ≤ 1
  · rw [if_pos hs]
    exact ⟨0, a, s, rfl, by decide, .inr rfl, by omega, by omega⟩
  rw [if_neg hs]
  obtain ⟨x, s1, e1, hx0, hx1⟩ := next_ok hc s h0 (by omega)
  simp only [e1, Option.bind_some]
  by_cases hb : n > 200; rotate_left
  · rw [if_neg hb, if_neg (by omega), Int.tmod_eq_emod_of_nonneg (by omega)]
    exact ⟨_, _, _, rfl, Int.emod_nonneg _ (by omega), .inl (Int.emod_lt_of_pos _ (by omega)), by omega, by omega⟩
  rw [if_pos hb]
  obtain ⟨y, s2, e2, hy0, hy1⟩ := next_ok hc (a := a + 1) s1 (by omega) (by omega)
  simp only [e2, Option.bind_some]
  rw [if_neg (by omega), w64 (x := x * 256) (by omega) (by omega), w64 (x := x * 256 + y) (by omega) (by omega), Int.tmod_eq_emod_of_nonneg (by omega)]
  exact ⟨_, _, _, rfl, Int.emod_nonneg _ (by omega), .inl (Int.emod_lt_of_pos _ (by omega)), by omega, by omega⟩
theorem one_ok {c : List Int} (hc : Bytes c) {a : Int} (s n : Int) (h0 : 0 ≤ a) (h1 : a ≤ 999990) (hn : n ≤ 1000000) :
    ∃ b a' s', spec_l1Cur_one.f c a s n = some (b, a', s') ∧ a ≤ a' ∧ a' ≤ a + 2 := by
  obtain ⟨x, a', s', e, _, _, h2, h3⟩ := pick_ok hc s n h0 h1 hn
  refine ⟨x == 0, a', s', ?_, h2, h3⟩
  rw [spec_l1Cur_one.f, e]
  rfl

theorem among_ok {c : List Int} (hc : Bytes c) {a : Int} (s : Int) (l : List Int) (h0 : 0 ≤ a) (h1 : a ≤ 999990) (hl : 1 ≤ l.length ∧ l.length ≤ 1000) :
    ∃ x a' s', spec_l1Cur_among.f c a s l = some (x, a', s') ∧ x ∈ l ∧ a ≤ a' ∧ a' ≤ a + 2 := by
  obtain ⟨x, a', s', e, g0, g1, g2, g3⟩ := pick_ok hc s (l.length : Int) h0 h1 (by omega)
  have hx : x < (l.length : Int) := by omega
  refine ⟨rd l x, a', s', ?_, ?_, g2, g3⟩
  · rw [spec_l1Cur_among.f, e]
    simp only [Option.bind_some]
    rw [if_pos g0, if_pos hx]
  · unfold rd
    rw [List.getD_eq_getElem?_getD, List.getElem?_eq_getElem (by omega)]
    exact List.getElem_mem _

theorem one_size (b : Int) : (strOfNums [b]).size = 1 := rfl
theorem spoilt_j1 {c : List Int} {w t : ByteArray} {n : Nat} {a s j a1 s1 a2 s2 q a3 s3 : Int} {i : Nat} {r : ByteArray × Int × Int} (hn : n ≤ 2) (hz : (t.size : Int) > 0) (ht : t.size ≤ 500000) (hi : i < t.size)
    (e1 : spec_l1Cur_pick.f c a s (t.size : Int) = some ((i : Int), a1, s1)) (e2 : spec_l1Cur_pick.f c a1 s1 (w.size : Int) = some (j, a2, s2)) (e3 : spec_l1Cur_pick.f c a2 s2 3 = some (q, a3, s3)) (j0 : 0 ≤ j) (j1 : j < (w.size : Int))
    (h : ∃ u : ByteArray, (q = 0 ∧ u = ((t.extract 0 i) ++ (strOfNums [bt w j])) ++ (t.extract i t.size) ∨ q = 1 ∧ u = ((t.extract 0 i) ++ (strOfNums [bt w j])) ++ (t.extract (i + 1) t.size) ∨ q ≠ 0 ∧ q ≠ 1 ∧ u = (t.extract 0 i) ++ (t.extract (i + 1) t.size)) ∧ Ev (fun k => spec_l1Cur_spoilt.l0 k u w (n : Int) c a3 s3) r) :
    Ev (fun k => spec_l1Cur_spoilt.j1 k t w ((n + 1 : Nat) : Int) true c a s) r := by
  have w1 : wrap64 ((i : Int) + 1) = ((i + 1 : Nat) : Int) := by rw [w64 (by omega) (by omega)]; omega
  have w2 : wrap64 (((n + 1 : Nat) : Int) - 1) = (n : Int) := by rw [w64 (by omega) (by omega)]; omega
  have z1 : (t.extract 0 i).size = i := by rw [ByteArray.size_extract]; omega
  have z2 : (t.extract i t.size).size = t.size - i := by rw [ByteArray.size_extract]; omega
  have z3 : (t.extract (i + 1) t.size).size = t.size - (i + 1) := by rw [ByteArray.size_extract]; omega
  have z4 := one_size (bt w j)
  have b1 : (t.extract 0 i).size + (strOfNums [bt w j]).size ≤ 9223372036854775807 := by rw [z1, z4]; omega
  have b2 : ((t.extract 0 i) ++ (strOfNums [bt w j])).size + (t.extract i t.size).size ≤ 9223372036854775807 := by rw [ByteArray.size_append, z1, z4, z2]; omega
  have b3 : ((t.extract 0 i) ++ (strOfNums [bt w j])).size + (t.extract (i + 1) t.size).size ≤ 9223372036854775807 := by rw [ByteArray.size_append, z1, z4, z3]; omega
  have b4 : (t.extract 0 i).size + (t.extract (i + 1) t.size).size ≤ 9223372036854775807 := by rw [z1, z3]; omega
  have p0 : 0 ≤ (i : Int) := by omega
  have p1 : (i : Int) ≤ (t.size : Int) := by omega
  have p2 : 0 ≤ ((i + 1 : Nat) : Int) := by omega
  have p3 : ((i + 1 : Nat) : Int) ≤ (t.size : Int) := by omega
  clear z1 z2 z3 z4 hi ht hz hn
  refine Ev_step (fun k => by rw [spec_l1Cur_spoilt.j1, if_pos rfl, e1]) ?_
  simp only [Option.bind_some, e2, if_pos j0, if_pos j1, e3, w1, w2, Int.toNat_natCast]
  clear e1 e2 e3 w1 w2
  obtain ⟨u, hu, hev⟩ := h
  rcases hu with ⟨h0, rfl⟩ | ⟨h1, rfl⟩ | ⟨h0, h1, rfl⟩
  · simp only [if_pos h0, if_pos p0, if_pos p1, if_pos b1, if_pos b2]
    exact hev
  · have h0 : ¬ q = 0 := by omega
    simp only [if_neg h0, if_pos h1, if_pos p0, if_pos p1, if_pos p2, if_pos p3, if_pos b1, if_pos b3]
    exact hev
  · simp only [if_neg h0, if_neg h1, if_pos p0, if_pos p1, if_pos p2, if_pos p3, if_pos b4]
    exact hev
theorem spoilt_l0 {c : List Int} (hc : Bytes c) (w : ByteArray) (hw : 1 ≤ w.size ∧ w.size ≤ 200) : ∀ (n : Nat) (t : ByteArray) (a s : Int), n ≤ 2 → 0 ≤ a → a + 6 * n ≤ 999900 → t.size + n ≤ 500000 →
    ∃ t' a' s', Ev (fun k => spec_l1Cur_spoilt.l0 k t w (n : Int) c a s) (t', a', s') ∧ t'.size ≤ t.size + n ∧ a ≤ a' ∧ a' ≤ a + 6 * n := by
  intro n
  induction n with
  | zero =>
    intro t a s hn h0 h1 ht
    refine ⟨t, a, s, Ev_step (fun k => by rw [spec_l1Cur_spoilt.l0, if_neg (by omega)]) (Ev_step (fun k => by rw [spec_l1Cur_spoilt.j1]) (Ev_neg (by decide) (Ev.now _))), by omega, by omega, by omega⟩
  | succ n ih =>
    intro t a s hn h0 h1 ht
    have hp : ((n + 1 : Nat) : Int) > 0 := by omega
    by_cases hz : (t.size : Int) > 0; rotate_left
    · refine ⟨t, a, s, Ev_step (fun k => by rw [spec_l1Cur_spoilt.l0, if_pos hp, decide_eq_false hz]) (Ev_step (fun k => by rw [spec_l1Cur_spoilt.j1]) (Ev_neg (by decide) (Ev.now _))), by omega, by omega, by omega⟩
    obtain ⟨i, a1, s1, e1, i0, i1, g1, g2⟩ := pick_ok hc s (t.size : Int) h0 (by omega) (by omega)
    obtain ⟨j, a2, s2, e2, j0, j1, g3, g4⟩ := pick_ok hc (a := a1) s1 (w.size : Int) (by omega) (by omega) (by omega)
    obtain ⟨q, a3, s3, e3, q0, q1, g5, g6⟩ := pick_ok hc (a := a2) s2 3 (by omega) (by omega) (by omega)
    obtain ⟨i, rfl⟩ := Int.eq_ofNat_of_zero_le i0
    have hi : i < t.size := by omega
    have z1 : (t.extract 0 i).size = i := by rw [ByteArray.size_extract]; omega
    have z2 : (t.extract i t.size).size = t.size - i := by rw [ByteArray.size_extract]; omega
    have z3 : (t.extract (i + 1) t.size).size = t.size - (i + 1) := by rw [ByteArray.size_extract]; omega
    have z4 := one_size (bt w j)
    have hu : ∃ u : ByteArray, u.size ≤ t.size + 1 ∧ (q = 0 ∧ u = ((t.extract 0 i) ++ (strOfNums [bt w j])) ++ (t.extract i t.size) ∨ q = 1 ∧ u = ((t.extract 0 i) ++ (strOfNums [bt w j])) ++ (t.extract (i + 1) t.size) ∨ q ≠ 0 ∧ q ≠ 1 ∧ u = (t.extract 0 i) ++ (t.extract (i + 1) t.size)) := by
      by_cases h0q : q = 0
      · exact ⟨_, by rw [ByteArray.size_append, ByteArray.size_append, z1, z2, z4]; omega, .inl ⟨h0q, rfl⟩⟩
      by_cases h1q : q = 1; rotate_left
      · exact ⟨_, by rw [ByteArray.size_append, z1, z3]; omega, .inr (.inr ⟨h0q, h1q, rfl⟩)⟩
      exact ⟨_, by rw [ByteArray.size_append, ByteArray.size_append, z1, z3, z4]; omega, .inr (.inl ⟨h1q, rfl⟩)⟩
    obtain ⟨u, hus, hq⟩ := hu
    obtain ⟨t', a', s', e, r1, r2, r3⟩ := ih u a3 s3 (by omega) (by omega) (by omega) (by omega)
    refine ⟨t', a', s', ?_, by omega, by omega, by omega⟩
    have := spoilt_j1 (by omega) hz (by omega) hi e1 e2 e3 j0 (by omega) ⟨u, hq, e⟩
    exact Ev_step (fun k => by rw [spec_l1Cur_spoilt.l0, if_pos hp, decide_eq_true hz]) this
theorem spoilt_ok {c : List Int} (hc : Bytes c) {a : Int} (s : Int) (t w : ByteArray) (h0 : 0 ≤ a) (h1 : a ≤ 999800) (hw : 1 ≤ w.size ∧ w.size ≤ 200) (ht : t.size ≤ 400000) :
    ∃ t' a' s', Ev (fun k => spec_l1Cur_spoilt.f k c a s t w) (t', a', s') ∧ t'.size ≤ t.size + 2 ∧ a ≤ a' ∧ a' ≤ a + 14 := by
  obtain ⟨x, a1, s1, e1, x0, x1, g1, g2⟩ := pick_ok hc s 2 h0 (by omega) (by omega)
  obtain ⟨x, rfl⟩ := Int.eq_ofNat_of_zero_le x0
  obtain ⟨t', a', s', e, r1, r2, r3⟩ := spoilt_l0 hc w hw (x + 1) t a1 s1 (by omega) (by omega) (by omega) (by omega)
  refine ⟨t', a', s', ?_, by omega, by omega, by omega⟩
  have w1 : wrap64 (1 + (x : Int)) = ((x + 1 : Nat) : Int) := by rw [w64 (by omega) (by omega)]; omega
  simp only [spec_l1Cur_spoilt.f, e1, Option.bind_some, w1]
  exact e
end Go.Proofs.YtppbpefehpbejaaDoor.P
end

section
namespace Go.Proofs.YtppbpefehpbejaaDoor.P
open Go.RowKit Go.Proofs.YtppbpefehpbejaaDoorW.PrintWords Go.Proofs.YtppbpefehpbejaaDoorW.PrintLast Go.Proofs.YtppbpefehpbejaaDoorW.PrintMore Go.Proofs.YtppbpefehpbejaaDoor.Base Go.Proofs.YtppbpefehpbejaaDoor.Runs
set_option linter.unusedVariables false

theorem sure_l0 {c : List Int} (hc : Bytes c) : ∀ (n : Nat) (acc : List RG) (x : Int) (a s : Int), n ≤ 5 → GoodF 1 acc → (∀ r ∈ acc, r.f1 + 1 ≤ x) → 0 ≤ x → x + 30 * n ≤ 1800 → acc.length + n ≤ 5 → 0 ≤ a → a + 10 * n ≤ 999900 →
    ∃ l a' s', Ev (fun k => spec_l1Cur_sureRanges.l0 k acc x (n : Int) c a s) (l, a', s') ∧ GoodF 1 l ∧ l.length ≤ 5 ∧ a ≤ a' ∧ a' ≤ a + 10 * n := by
  intro n
  induction n with
  | zero =>
    intro acc x a s hn hg hp hx0 hx hl ha ha2
    exact ⟨acc, a, s, Ev_step (fun k => by rw [spec_l1Cur_sureRanges.l0, if_neg (by omega)]) (Ev.now _), hg, by omega, by omega, by omega⟩
  | succ n ih =>
    intro acc x a s hn hg hp hx0 hx hl ha ha2
    obtain ⟨v, a1, s1, e1, g0, g1, g2, g3⟩ := pick_ok hc s 8 ha (by omega) (by omega)
    obtain ⟨w, a2, s2, e2, hw, g4, g5⟩ := among_ok (a := a1) hc s1 [0, 0, 1, 2, 5, 12] (by omega) (by omega) (by decide)
    have hw2 : 0 ≤ w ∧ w ≤ 12 := by
      simp only [List.mem_cons, List.not_mem_nil, or_false] at hw
      omega
    have w1 : wrap64 (1 + v) = 1 + v := w64 (by omega) (by omega)
    have w2 : wrap64 (x + (1 + v)) = x + (1 + v) := w64 (by omega) (by omega)
    have w3 : wrap64 (x + (1 + v) + w) = x + (1 + v) + w := w64 (by omega) (by omega)
    have w4 : wrap64 (x + (1 + v) + w + 1) = x + (1 + v) + w + 1 := w64 (by omega) (by omega)
    have w5 : wrap64 (((n + 1 : Nat) : Int) - 1) = (n : Int) := by rw [w64 (by omega) (by omega)]; omega
    have hg2 : GoodF 1 (acc ++ [⟨x + (1 + v), x + (1 + v) + w⟩]) := good_snoc hg (fun r hr => by have := hp r hr; show r.f1 + 2 ≤ x + (1 + v); omega) (by show 1 ≤ x + (1 + v); omega) (by show x + (1 + v) ≤ x + (1 + v) + w; omega) (by show x + (1 + v) + w ≤ 2000; omega)
    obtain ⟨l, a', s', e3, gl, ll, b1, b2⟩ := ih (acc ++ [⟨x + (1 + v), x + (1 + v) + w⟩]) (x + (1 + v) + w + 1) a2 s2 (by omega) hg2 (fun r hr => by
      rcases List.mem_append.1 hr with h | h
      · have := hp r h
        omega
      · rw [List.mem_singleton.1 h]
        exact Int.le_refl _) (by omega) (by omega) (w132_) (by omega) (by omega)
    refine ⟨l, a', s', Ev_step (fun k => ?_) e3, gl, ll, by omega, by omega⟩
    rw [spec_l1Cur_sureRanges.l0, if_pos (by omega), e1, Option.bind_some, e2, Option.bind_some, if_pos (by omega), w1, w2, w3, w4, w5]
theorem sure_ok {c : List Int} (hc : Bytes c) {a : Int} (s : Int) (h0 : 0 ≤ a) (h1 : a ≤ 900000) :
    ∃ l a' s', Ev (fun k => spec_l1Cur_sureRanges.f k c a s) (l, a', s') ∧ GoodF 1 l ∧ l.length ≤ 5 ∧ a ≤ a' ∧ a' ≤ a + 100 := by
  obtain ⟨w, a2, s2, e2, hw, g4, g5⟩ := among_ok hc s [0, 0, 8, 95, 118, 995] h0 (by omega) (by decide)
  have hw2 : 0 ≤ w ∧ w ≤ 995 := by
    simp only [List.mem_cons, List.not_mem_nil, or_false] at hw
    omega
  obtain ⟨v, a1, s1, e1, g0, g1, g2, g3⟩ := pick_ok (a := a2) hc s2 6 (by omega) (by omega) (by omega)
  obtain ⟨n, rfl⟩ := Int.eq_ofNat_of_zero_le g0
  obtain ⟨l, a', s', e3, gl, ll, b1, b2⟩ := sure_l0 hc n [] w a1 s1 (by omega) trivial (fun r hr => by cases hr) (by omega) (by omega) (by simp; omega) (by omega) (by omega)
  refine ⟨l, a', s', ?_, gl, ll, by omega, by omega⟩
  refine Ev.congr (fun k => ?_) e3
  rw [spec_l1Cur_sureRanges.f, e2, Option.bind_some, e1, Option.bind_some]
theorem ranges_ok {c : List Int} (hc : Bytes c) {a : Int} (s : Int) (h0 : 0 ≤ a) (h1 : a ≤ 900000) :
    ∃ l a' s', Ev (fun k => spec_l1Cur_ranges.f k c a s) (l, a', s') ∧ l.length ≤ 6 ∧ a ≤ a' ∧ a' ≤ a + 200 := by
  obtain ⟨l, a1, s1, e1, hg, hl, g1, g2⟩ := sure_ok hc s h0 h1
  by_cases hn : (l.length : Int) = 0
  · refine ⟨l, a1, s1, ?_, by omega, by omega, by omega⟩
    simp only [spec_l1Cur_ranges.f]
    exact Ev_bind e1 (Ev_pos hn (Ev.now _))
  obtain ⟨v, a2, s2, e2, v0, v1, g3, g4⟩ := pick_ok (a := a1) hc s1 16 (by omega) (by omega) (by omega)
  have w1 : wrap64 ((l.length : Int) - 1) = ((l.length - 1 : Nat) : Int) := by rw [w64 (by omega) (by omega)]; omega
  by_cases hv0 : v = 0
  · obtain ⟨w, a3, s3, e3, hw, g5, g6⟩ := among_ok (a := a2) hc s2 [0, (-1), 2000, 2001, 4611686018427387904] (by omega) (by omega) (by decide)
    refine ⟨l.set (0 : Int).toNat ⟨w, (rd_T100 l 0).f1⟩, a3, s3, ?_, by rw [List.length_set]; omega, by omega, by omega⟩
    simp only [spec_l1Cur_ranges.f]
    refine Ev_bind e1 (Ev_neg hn ?_)
    simp only [e2, Option.bind_some]
    refine Ev_pos hv0 ?_
    simp only [e3, Option.bind_some]
    exact Ev_pos (by omega) (Ev.now _)
  by_cases hv1 : v = 1
  · obtain ⟨w, a3, s3, e3, hw, g5, g6⟩ := among_ok (a := a2) hc s2 [0, 2000, 2001, (-1), 4611686018427387904] (by omega) (by omega) (by decide)
    refine ⟨l.set (((l.length - 1 : Nat) : Int)).toNat ⟨(rd_T100 l ((l.length - 1 : Nat) : Int)).f0, w⟩, a3, s3, ?_, by rw [List.length_set]; omega, by omega, by omega⟩
    simp only [spec_l1Cur_ranges.f]
    refine Ev_bind e1 (Ev_neg hn ?_)
    simp only [e2, Option.bind_some]
    refine Ev_neg hv0 (Ev_pos hv1 ?_)
    simp only [e3, Option.bind_some, w1]
    exact Ev_pos (by omega) (Ev_pos (by omega) (Ev.now _))
  by_cases hv2 : v = 2; rotate_left
  · refine ⟨l, a2, s2, ?_, by omega, by omega, by omega⟩
    simp only [spec_l1Cur_ranges.f]
    refine Ev_bind e1 (Ev_neg hn ?_)
    simp only [e2, Option.bind_some]
    exact Ev_neg hv0 (Ev_neg hv1 (Ev_neg hv2 (Ev.now _)))
  refine ⟨l ++ [⟨wrap64 ((rd_T100 l ((l.length - 1 : Nat) : Int)).f1 + 1), wrap64 ((rd_T100 l ((l.length - 1 : Nat) : Int)).f1 + 3)⟩], a2, s2, ?_, w132_, by omega, by omega⟩
  simp only [spec_l1Cur_ranges.f]
  refine Ev_bind e1 (Ev_neg hn ?_)
  simp only [e2, Option.bind_some]
  refine Ev_neg hv0 (Ev_neg hv1 (Ev_pos hv2 ?_))
  simp only [w1]
  exact Ev_pos (by omega) (Ev_pos (by omega) (Ev_pos (by omega) (Ev.now _)))

def Sh (a b : Int) (r : ByteArray × Bool) : Prop := (∃ p q : Nat, a = p ∧ b = q ∧ 1 ≤ p ∧ p ≤ q ∧ q ≤ 2000 ∧ r = (mkB (sh p q), true)) ∨ r = (⟨#[]⟩, false)
theorem shortR_ev (a b : Int) : ∃ r, Ev (fun k => impl_ShortRange.f k a b) r ∧ Ev (fun k => spec_ShortRange.f k a b) r ∧ Sh a b r := by
  simp only [impl_ShortRange.f, spec_ShortRange.f]
  cases h : rangeB a b with
  | false => exact ⟨(⟨#[]⟩, false), Ev_some (isRange_eq _ _) (by rw [h]; exact Ev_neg Bool.false_ne_true (Ev.now _)), Ev_some (ixRange_eq _ _) (by rw [h]; exact Ev_neg Bool.false_ne_true (Ev.now _)), Or.inr rfl⟩
  | true =>
    have hr := h
    unfold rangeB at hr
    rw [decide_eq_true_eq] at hr
    obtain ⟨p, rfl⟩ := Int.eq_ofNat_of_zero_le (show 0 ≤ a by omega)
    obtain ⟨q, rfl⟩ := Int.eq_ofNat_of_zero_le (show 0 ≤ b by omega)
    obtain ⟨e1, e2⟩ := short_ev p q (by omega) (by omega)
    exact ⟨(mkB (sh p q), true), Ev_some (isRange_eq _ _) (by rw [h]; exact Ev_pos rfl (Ev_bind e2 (Ev.now _))), Ev_some (ixRange_eq _ _) (by rw [h]; exact Ev_pos rfl (Ev_bind e1 (Ev.now _))), Or.inl ⟨p, q, rfl, rfl, by omega, by omega, by omega, rfl⟩⟩
theorem longR_ev (s : ByteArray) (hs : s.size ≤ 1000) : ∃ r, Ev (fun k => impl_LongRange.f k s) r ∧ Ev (fun k => spec_LongRange.f k s) r ∧ Lg s.data.toList r := by
  obtain ⟨r, a, b, h⟩ := long_ev s hs
  simp only [impl_LongRange.f, spec_LongRange.f]
  exact ⟨r, Ev_bind a (Ev.now _), Ev_bind b (Ev.now _), h⟩
theorem drawShort_ok {c : List Int} (hc : Bytes c) : ∃ a b, spec_DrawShortRange.f c = some (a, b) := by
  obtain ⟨x, a1, s1, e1, _, g1, g2⟩ := among_ok hc 0 [1, 8, 9, 98, 120, 123, 199, 1000, 1990, 0] (a := 0) (by omega) (by omega) (by decide)
  obtain ⟨y, a2, s2, e2, _, g3, g4⟩ := among_ok hc s1 [0, 1, 2, 4, 10, 14, 100, (-1), 2000] (a := a1) (by omega) (by omega) (by decide)
  exact ⟨x, wrap64 (x + y), by rw [spec_DrawShortRange.f, e1, Option.bind_some, e2, Option.bind_some]⟩
theorem drawLong_ok {c : List Int} (hc : Bytes c) : ∃ t : ByteArray, Ev (fun k => spec_DrawLongRange.f k c) t ∧ t.size ≤ 1000 := by
  obtain ⟨x, a1, s1, e1, x0, x1, g1, g2⟩ := pick_ok hc 0 140 (a := 0) (by omega) (by omega) (by omega)
  obtain ⟨y, a2, s2, e2, y0, y1, g3, g4⟩ := pick_ok hc s1 30 (a := a1) (by omega) (by omega) (by omega)
  obtain ⟨b, a3, s3, e3, g5, g6⟩ := one_ok hc s2 3 (a := a2) (by omega) (by omega) (by omega)
  obtain ⟨p, rfl⟩ := Int.eq_ofNat_of_zero_le x0
  obtain ⟨q, rfl⟩ := Int.eq_ofNat_of_zero_le y0
  have w1 : wrap64 (1 + (p : Int)) = ((1 + p : Nat) : Int) := by rw [w64 (by omega) (by omega)]; omega
  have w2 : wrap64 (((1 + p : Nat) : Int) + q) = ((1 + p + q : Nat) : Int) := by rw [w64 (by omega) (by omega)]; omega
  obtain ⟨e4, _⟩ := short_ev (1 + p) (1 + p + q) (by omega) (by omega)
  have hz : (mkB (sh (1 + p) (1 + p + q))).size ≤ 9 := by rw [mkB_size]; exact sh_size _ _ (by omega) (by omega)
  by_cases hb : b = true; rotate_left
  · refine ⟨mkB (sh (1 + p) (1 + p + q)), ?_, by omega⟩
    simp only [spec_DrawLongRange.f, e1, e2, Option.bind_some, w1, w2]
    refine Ev_bind e4 ?_
    simp only [e3, Option.bind_some]
    exact Ev_neg hb (Ev.now _)
  obtain ⟨t, a4, s4, e5, hz2, _, _⟩ := spoilt_ok (a := a3) hc s3 (mkB (sh (1 + p) (1 + p + q))) (⟨#[48, 49, 50, 51, 45, 120]⟩ : ByteArray) (by omega) (by omega) ⟨by decide, by decide⟩ (by omega)
  refine ⟨t, ?_, by omega⟩
  simp only [spec_DrawLongRange.f, e1, e2, Option.bind_some, w1, w2]
  refine Ev_bind e4 ?_
  simp only [e3, Option.bind_some]
  exact Ev_pos hb (Ev_bind e5 (Ev.now _))
theorem drawJoin_ok {c : List Int} (hc : Bytes c) : ∃ (l : List RG) (g : Int), Ev (fun k => spec_DrawJoinGaps.f k c) (l, g) ∧ l.length ≤ 6 := by
  obtain ⟨l, a1, s1, e1, h1, g1, g2⟩ := ranges_ok hc (a := 0) 0 (by omega) (by omega)
  obtain ⟨y, a2, s2, e2, _, g3, g4⟩ := among_ok hc s1 [0, 1, 2, 3, 5, 2000, 2001, (-1)] (a := a1) (by omega) (by omega) (by decide)
  refine ⟨l, y, ?_, h1⟩
  simp only [spec_DrawJoinGaps.f]
  refine Ev_bind e1 ?_
  simp only [e2, Option.bind_some]
  exact Ev.now _
theorem indexed_ok {c : List Int} (hc : Bytes c) {a : Int} (s : Int) (h0 : 0 ≤ a) (h1 : a ≤ 990000) : ∃ x a' s', spec_l1Cur_indexed.f c a s = some (x, a', s') ∧ a ≤ a' ∧ a' ≤ a + 4 := by
  obtain ⟨b, a1, s1, e1, g1, g2⟩ := one_ok hc s 12 (a := a) (by omega) (by omega) (by omega)
  obtain ⟨y, a2, s2, e2, _, g3, g4⟩ := among_ok hc s1 [0, (-1), 2000, 2001, 4611686018427387904] (a := a1) (by omega) (by omega) (by decide)
  obtain ⟨z, a3, s3, e3, _, _, g5, g6⟩ := pick_ok hc s1 140 (a := a1) (by omega) (by omega) (by omega)
  cases b with
  | true => exact ⟨y, a2, s2, by rw [spec_l1Cur_indexed.f, e1, Option.bind_some, if_pos rfl, e2, Option.bind_some], by omega, by omega⟩
  | false => exact ⟨wrap64 (1 + z), a3, s3, by rw [spec_l1Cur_indexed.f, e1, Option.bind_some, if_neg Bool.false_ne_true, e3, Option.bind_some], by omega, by omega⟩
theorem drawPut_ok {c : List Int} (hc : Bytes c) : ∃ (l : List RG) (p m : Int), Ev (fun k => spec_DrawPutPages.f k c) (l, p, m) ∧ l.length ≤ 6 := by
  obtain ⟨l, a1, s1, e1, h1, g1, g2⟩ := ranges_ok hc (a := 0) 0 (by omega) (by omega)
  obtain ⟨x, a2, s2, e2, g3, g4⟩ := indexed_ok hc s1 (a := a1) (by omega) (by omega)
  obtain ⟨y, a3, s3, e3, _, g5, g6⟩ := among_ok hc s2 [0, 1, 2, 5, 10, 1000, 2000, 2001, (-1)] (a := a2) (by omega) (by omega) (by decide)
  refine ⟨l, x, y, ?_, h1⟩
  simp only [spec_DrawPutPages.f]
  refine Ev_bind e1 ?_
  simp only [e2, e3, Option.bind_some]
  exact Ev.now _

theorem countI_l0 (l : List RG) (hn : l.length ≤ 20) (hv : Valid l) : ∀ (n i : Nat) (acc : Int), i + n = l.length → 0 ≤ acc → acc ≤ 2001 * i →
    Ev (fun k => impl_CountIndexed.l0 k acc l (l.length : Int) (i : Int)) (acc + size (l.drop i), true) := by
  intro n
  induction n with
  | zero =>
    intro i acc hi h0 h1
    rw [List.drop_of_length_le (by omega), size, Int.add_zero]
    refine Ev_step (fun k => ?_) (Ev.now _)
    rw [impl_CountIndexed.l0, if_neg (by omega)]
  | succ n ih =>
    intro i acc hi h0 h1
    have h : i < l.length := by omega
    have hr := hv _ (List.getElem_mem h)
    have e := rdT_mem l i h
    have w1 : wrap64 (l[i].f1 - l[i].f0) = l[i].f1 - l[i].f0 := w64 (by omega) (by omega)
    have w2 : wrap64 (l[i].f1 - l[i].f0 + 1) = l[i].f1 - l[i].f0 + 1 := w64 (by omega) (by omega)
    have w3 : wrap64 (acc + (l[i].f1 - l[i].f0 + 1)) = acc + (l[i].f1 - l[i].f0 + 1) := w64 (by omega) (by omega)
    have a := ih (i + 1) (acc + (l[i].f1 - l[i].f0 + 1)) (by omega) (by omega) (by omega)
    rw [List.drop_eq_getElem_cons h, size, ← Int.add_assoc]
    refine Ev_step (fun k => ?_) a
    rw [impl_CountIndexed.l0, if_pos (by omega), if_pos (by omega), if_pos (by omega), e, w1, w2, w3, nextI i (by omega)]
theorem countI_ev {l : List RG} (h : areB l = true) : Ev (fun k => impl_CountIndexed.f k l) (size l, true) := by
  obtain ⟨hg, hl⟩ := areB_iff.1 h
  obtain ⟨h1, h2⟩ := areR_ev l (by omega)
  rw [h] at h2
  simp only [impl_CountIndexed.f]
  have a := countI_l0 l hl (good_valid hg) l.length 0 0 (by omega) (Int.le_refl _) (by omega)
  rw [List.drop_zero, Int.zero_add] at a
  exact Ev_bind h2 (Ev_pos rfl a)
theorem putwI {xs : List Bool} (h : Set1 xs) (p : Nat) (b : Bool) (hb : p = 0 → b = false) : Set1 (xs.set p b) := by
  rcases Nat.eq_zero_or_pos p with e | e
  · subst e
    refine ⟨by rw [List.length_set]; exact h.len, ?_⟩
    rw [getD_set_self _ _ _ (by rw [h.len]; omega)]
    exact hb rfl
  · exact h.put e b
theorem bothI_l0 (op : Bool → Bool → Bool) (h0 : op false false = false) (ys : List Bool) (hy : Set1 ys) : ∀ n p : Nat, p + n = 2001 → ∀ xs, Set1 xs →
    ∃ r : List RG, Ev (fun k => impl_combined.l0 op k xs ys (p : Int)) (few r) ∧ GoodF 1 r ∧ ∀ q : Nat, q ≤ 2000 → has r (q : Int) = if p ≤ q then op (xs.getD q false) (ys.getD q false) else xs.getD q false := by
  have hyl := hy.len
  intro n
  induction n with
  | zero =>
    intro p hp xs hx
    obtain rfl : p = 2001 := by omega
    obtain ⟨r, hg, hq, a, b⟩ := ranges_sem xs hx 1 (by omega)
    refine ⟨r, ?_, hg, fun q h => by rw [if_neg (by omega)]; exact hq q h⟩
    refine Ev_step (fun k => by rw [impl_combined.l0, if_neg (by omega)]) ?_
    exact Ev_bind a (Ev.now _)
  | succ n ih =>
    intro p hp xs hx
    have hxl := hx.len
    have hv : p = 0 → op (xs.getD p false) (ys.getD p false) = false := by
      intro e
      subst e
      rw [hx.none, hy.none, h0]
    obtain ⟨r, a, c, d⟩ := ih (p + 1) (by omega) (xs.set p (op (xs.getD p false) (ys.getD p false))) (putwI hx p _ hv)
    refine ⟨r, ?_, c, fun q hq => ?_⟩
    · refine Ev_step (fun k => ?_) a
      rw [impl_combined.l0, if_pos (by omega), if_pos (by omega), if_pos (by omega), if_pos (by omega), rdOf_nat, rdOf_nat]
      simp only [Option.bind_some]
      rw [nextI p (by omega), Int.toNat_natCast]
    · rw [d q hq]
      by_cases h : q = p
      · subst h
        rw [if_neg (by omega), if_pos (Nat.le_refl _), getD_set_self _ _ _ (by omega)]
      rw [getD_set_far _ _ _ _ (fun e => h e.symm)]
      by_cases h2 : p ≤ q; rotate_left
      · rw [if_neg (by omega), if_neg h2]
      rw [if_pos (by omega), if_pos h2]
theorem unionI_ev {l m : List RG} (hl : areB l = true) (hm : areB m = true) :
    ∃ r : List RG, GoodF 1 r ∧ (∀ p, has r p = (has l p || has m p)) ∧ Ev (fun k => impl_UnionRanges.f k l m) (few r) := by
  obtain ⟨gl, nl⟩ := areB_iff.1 hl
  obtain ⟨gm, nm⟩ := areB_iff.1 hm
  obtain ⟨h1, h2⟩ := areR_ev l (by omega)
  obtain ⟨h1', h2'⟩ := areR_ev m (by omega)
  rw [hl] at h2
  rw [hm] at h2'
  obtain ⟨xs, a, b, hx, mx⟩ := marks_sem l (by omega) (good_valid gl)
  obtain ⟨ys, a', b', hy, my⟩ := marks_sem m (by omega) (good_valid gm)
  obtain ⟨r, c, hg, e⟩ := bothI_l0 (fun a b => a || b) rfl ys hy 2001 0 (by omega) xs hx
  refine ⟨r, hg, fun p => ?_, ?_⟩
  · by_cases h : p < 1
    · rw [has_below hg h, has_below gl h, has_below gm h]; rfl
    · by_cases h' : 2000 < p
      · rw [has_above hg h', has_above gl h', has_above gm h']; rfl
      · obtain ⟨q, rfl⟩ := Int.eq_ofNat_of_zero_le (show 0 ≤ p by omega)
        rw [e q (by omega), if_pos (Nat.zero_le _), mx, my]
  · simp only [impl_UnionRanges.f, impl_combined.f]
    refine Ev_bind h2 (Ev_pos rfl (Ev_bind h2' ?_))
    refine Ev_step (fun k => by rw [impl_combined.j0]) ?_
    exact Ev_neg Bool.false_ne_true (Ev_bind a (Ev_bind a' c))

theorem isIx_eq (a : Int) : impl_isIndexed.f a = some (inB a 1 2000) := by
  rw [impl_isIndexed.f, within_eq]
  rfl
theorem has_sem (l : List RG) (h : areB l = true) (p : Int) (h1 : 1 ≤ p) (h2 : p ≤ 2000) : Ev (fun k => impl_HasIndexed.f k l p) (has l p, true) := by
  obtain ⟨hg, hl⟩ := areB_iff.1 h
  obtain ⟨_, a⟩ := areR_ev l (by omega)
  rw [h] at a
  obtain ⟨xs, b, _, hx, mx⟩ := marks_sem l (by omega) (good_valid hg)
  have hin : inB p 1 2000 = true := by unfold inB; exact decide_eq_true ⟨h1, h2⟩
  obtain ⟨q, rfl⟩ := Int.eq_ofNat_of_zero_le (show 0 ≤ p by omega)
  have hxl := hx.len
  simp only [impl_HasIndexed.f, isIx_eq, hin]
  refine Ev_bind a (Ev_pos rfl ?_)
  simp only [Option.bind_some]
  refine Ev_pos trivial (Ev_bind b ?_)
  refine Ev_pos (by omega) (Ev_pos (by omega) ?_)
  rw [rdOf_nat, mx]
  exact Ev.now _

theorem more1T (ys : List Bool) (hy : Set1 ys) : (ys ++ [false]).length = 2002 := by rw [List.length_append, hy.len]; rfl
theorem ixPageS_ev (l : List RG) (p : Int) (hn : l.length ≤ 1048576) : Ev (fun k => spec_ixPage.f k l p) (areB l && inB p 1 2000) := by
  simp only [spec_ixPage.f]
  refine Ev_bind (areR_ev l hn).1 ?_
  cases areB l with
  | false => exact Ev_neg (by decide) (Ev.now _)
  | true => exact Ev_pos rfl (Ev_some (l1In_eq _ _ _) (by rw [Bool.true_and]; exact Ev.now _))
theorem rdS_more (ys : List Bool) (hy : Set1 ys) (m : Nat) (p : Nat) (h : p < 2001) : rdOf false (ys ++ List.replicate m false) (p : Int) = ys.getD p false := by rw [rdOf_nat, getD_more _ _ _ (by rw [hy.len]; omega)]
theorem rdS_last (ys : List Bool) (hy : Set1 ys) : rdOf false (ys ++ [false]) ((2001 : Nat) : Int) = false := by
  rw [rdOf_nat, List.getD_eq_getElem?_getD, List.getElem?_append_right (by rw [hy.len]; omega), hy.len]
  rfl
theorem getD_out (xs : List Bool) (hx : Set1 xs) (q : Nat) (h : 2001 ≤ q) : xs.getD q false = false := by
  rw [List.getD_eq_getElem?_getD, List.getElem?_eq_none (by rw [hx.len]; omega)]
  rfl
theorem getD_put (xs : List Bool) (p q : Nat) (b : Bool) (h : p < xs.length) : (xs.set p b).getD q false = if p = q then b else xs.getD q false := by
  by_cases e : p = q; rotate_left
  · rw [if_neg e, getD_set_far _ _ _ _ e]
  subst e
  rw [if_pos rfl, getD_set_self _ _ _ h]
def TakenTo (x1 x2 : Nat) (ys xs : List Bool) (p : Nat) : Prop := ∀ q : Nat, xs.getD q false = if q < x1 then ys.getD q false && decide (q < p) else ys.getD (q + x2) false && decide (q + x2 < p)
theorem TakenTo.skip {x1 x2 : Nat} {ys xs : List Bool} {p : Nat} (h : TakenTo x1 x2 ys xs p) (hs : ys.getD p false = true → x1 ≤ p ∧ p < x1 + x2) : TakenTo x1 x2 ys xs (p + 1) := by
  intro q
  rw [h q]
  by_cases hq : q < x1; rotate_left
  · rw [if_neg hq, if_neg hq]
    by_cases e : q + x2 = p; rotate_left
    · rw [show decide (q + x2 < p) = decide (q + x2 < p + 1) from decide_eq_decide.2 (by omega)]
    subst e
    cases hb : ys.getD (q + x2) false with
    | false => rfl
    | true => have := hs hb; omega
  rw [if_pos hq, if_pos hq]
  by_cases e : q = p; rotate_left
  · rw [show decide (q < p) = decide (q < p + 1) from decide_eq_decide.2 (by omega)]
  subst e
  cases hb : ys.getD q false with
  | false => rfl
  | true => have := hs hb; omega
theorem TakenTo.put {x1 x2 : Nat} {ys xs : List Bool} {p t : Nat} (h : TakenTo x1 x2 ys xs p) (hb : ys.getD p false = true) (ht : t < xs.length) (hs : (p < x1 ∧ t = p) ∨ (x1 + x2 ≤ p ∧ t + x2 = p)) : TakenTo x1 x2 ys (xs.set t true) (p + 1) := by
  intro q
  rw [getD_put _ _ _ _ ht, h q]
  rcases hs with ⟨h1, rfl⟩ | ⟨h1, h2⟩
  · by_cases e : t = q
    · subst e
      rw [if_pos rfl, if_pos h1, hb, decide_eq_true (show t < t + 1 by omega), Bool.true_and]
    · rw [if_neg e]
      by_cases hq : q < x1; rotate_left
      · rw [if_neg hq, if_neg hq, show decide (q + x2 < t) = decide (q + x2 < t + 1) from decide_eq_decide.2 (by omega)]
      rw [if_pos hq, if_pos hq, show decide (q < t) = decide (q < t + 1) from decide_eq_decide.2 (by omega)]
  · by_cases e : t = q
    · subst e
      rw [if_pos rfl, if_neg (by omega), h2, hb, decide_eq_true (show p < p + 1 by omega), Bool.true_and]
    · rw [if_neg e]
      by_cases hq : q < x1; rotate_left
      · rw [if_neg hq, if_neg hq, show decide (q + x2 < p) = decide (q + x2 < p + 1) from decide_eq_decide.2 (by omega)]
      rw [if_pos hq, if_pos hq, show decide (q < p) = decide (q < p + 1) from decide_eq_decide.2 (by omega)]
theorem takeS_l0 (x1 x2 : Nat) (h1 : 1 ≤ x1) (h1' : x1 ≤ 2000) (h2' : x2 ≤ 2000) (ys : List Bool) (hy : Set1 ys) : ∀ n p : Nat, p + n = 2001 → ∀ xs, Set1 xs → TakenTo x1 x2 ys xs p →
    ∃ r : List RG, GoodF 1 r ∧ (∀ q : Nat, q ≤ 2000 → has r (q : Int) = if q < x1 then ys.getD q false else ys.getD (q + x2) false) ∧
    Ev (fun k => impl_TakePages.l0 k (x1 : Int) (x2 : Int) xs ys (p : Int)) (few r) ∧ Ev (fun k => spec_TakePages.l0 k (x1 : Int) (x2 : Int) (xs ++ [false]) (ys ++ [false]) 2002 (p : Int)) (few r) := by
  have hyl := hy.len
  have hym := more1T ys hy
  intro n
  induction n with
  | zero =>
    intro p hp xs hx ht
    obtain rfl : p = 2001 := by omega
    obtain ⟨r, hg, hs, a, b0⟩ := ranges_sem xs hx 1 (by omega)
    have b : Ev (fun k => spec_ixOf.f k (xs ++ [false])) (few r) := b0
    refine ⟨r, hg, fun q hq => ?_, ?_, ?_⟩
    · rw [hs q hq, ht q]
      by_cases h : q < x1
      · rw [if_pos h, if_pos h, decide_eq_true (show q < 2001 by omega), Bool.and_true]
      rw [if_neg h, if_neg h]
      by_cases h3 : q + x2 < 2001; rotate_left
      · rw [getD_out ys hy _ (by omega), Bool.false_and]
      rw [decide_eq_true h3, Bool.and_true]
    · refine Ev_step (fun k => by rw [impl_TakePages.l0, if_neg (by omega)]) ?_
      exact Ev_bind a (Ev.now _)
    · refine Ev_step (fun k => by rw [spec_TakePages.l0, if_pos (by omega), if_pos (by omega), if_pos (w161_), rdS_last ys hy, if_neg (by decide)]) ?_
      refine Ev_step (fun k => by rw [spec_TakePages.j2, if_neg (by decide), if_neg (by decide), nextI 2001 (by omega)]) ?_
      refine Ev_step (fun k => by rw [spec_TakePages.l0, if_neg (by omega)]) ?_
      exact Ev_bind b (Ev.now _)
  | succ n ih =>
    intro p hp xs hx ht
    have hxl := hx.len
    have hxm := more1T xs hx
    have hrd : rdOf false (ys ++ [false]) (p : Int) = ys.getD p false := rdS_more ys hy 1 p (by omega)
    have w1 : wrap64 ((x1 : Int) + x2) = x1 + x2 := w64 (by omega) (by omega)
    have w2 : wrap64 ((p : Int) - x2) = (p : Int) - x2 := w64 (by omega) (by omega)
    cases hb : ys.getD p false with
    | false =>
      obtain ⟨r, hg, hs, a, b⟩ := ih (p + 1) (by omega) xs hx (ht.skip (fun h => by rw [hb] at h; cases h))
      refine ⟨r, hg, hs, ?_, ?_⟩
      · exact Ev_step (fun k => by rw [impl_TakePages.l0, if_pos (by omega), if_pos (by omega), if_pos (by omega), rdOf_nat, hb, if_neg (by decide), nextI p (by omega)]) a
      · refine Ev_step (fun k => by rw [spec_TakePages.l0, if_pos (by omega), if_pos (by omega), if_pos (w161_), hrd, hb, if_neg (by decide)]) ?_
        exact Ev_step (fun k => by rw [spec_TakePages.j2, if_neg (by decide), if_neg (by decide), nextI p (by omega)]) b
    | true =>
      have hp1 : 1 ≤ p := by
        rcases Nat.eq_zero_or_pos p with h | h
        · subst h; rw [hy.none] at hb; cases hb
        · exact h
      by_cases h3 : (p : Int) < x1
      · obtain ⟨r, hg, hs, a, b⟩ := ih (p + 1) (by omega) (xs.set p true) (hx.put hp1 true) (ht.put hb (by omega) (Or.inl ⟨by omega, rfl⟩))
        refine ⟨r, hg, hs, ?_, ?_⟩
        · exact Ev_step (fun k => by rw [impl_TakePages.l0, if_pos (by omega), if_pos (by omega), if_pos (by omega), rdOf_nat, hb, if_pos rfl, if_pos h3, if_pos (by omega), nextI p (by omega), Int.toNat_natCast]) a
        · refine Ev_step (fun k => by rw [spec_TakePages.l0, if_pos (by omega), if_pos (by omega), if_pos (w161_), hrd, hb, if_pos rfl, decide_eq_true h3]) ?_
          exact Ev_step (fun k => by rw [spec_TakePages.j2, if_pos rfl, if_pos (by omega), if_pos (by rw [hxm]; omega), nextI p (by omega), Int.toNat_natCast, set_more _ _ _ _ (by omega)]) b
      by_cases h4 : (p : Int) ≥ x1 + x2; rotate_left
      · obtain ⟨r, hg, hs, a, b⟩ := ih (p + 1) (by omega) xs hx (ht.skip (fun _ => by omega))
        refine ⟨r, hg, hs, ?_, ?_⟩
        · exact Ev_step (fun k => by rw [impl_TakePages.l0, if_pos (by omega), if_pos (by omega), if_pos (by omega), rdOf_nat, hb, if_pos rfl, if_neg h3, w1, if_neg h4, nextI p (by omega)]) a
        · refine Ev_step (fun k => w88_) ?_
          exact Ev_step (fun k => by rw [spec_TakePages.j2, if_neg (by decide), if_pos rfl, w1, if_neg h4, nextI p (by omega)]) b
      obtain ⟨q, hq⟩ := Int.eq_ofNat_of_zero_le (show 0 ≤ (p : Int) - x2 by omega)
      obtain ⟨r, hg, hs, a, b⟩ := ih (p + 1) (by omega) (xs.set q true) (hx.put (by omega) true) (ht.put hb (by omega) (Or.inr ⟨by omega, by omega⟩))
      refine ⟨r, hg, hs, ?_, ?_⟩
      · exact Ev_step (fun k => by rw [impl_TakePages.l0, if_pos (by omega), if_pos (by omega), if_pos (by omega), rdOf_nat, hb, if_pos rfl, if_neg h3, w1, if_pos h4, w2, if_pos (by omega), if_pos (by omega), nextI p (by omega), hq, Int.toNat_natCast]) a
      · refine Ev_step (fun k => w88_) ?_
        exact Ev_step (fun k => by rw [spec_TakePages.j2, if_neg (by decide), if_pos rfl, w1, if_pos h4, w2, if_pos (by omega), if_pos (by rw [hxm]; omega), nextI p (by omega), hq, Int.toNat_natCast, set_more _ _ _ _ (by omega)]) b
def PutTo (x1 x2 : Nat) (ys xs : List Bool) (p : Nat) : Prop := ∀ q : Nat, xs.getD q false = if q < x1 then ys.getD q false && decide (q < p) else if q < x1 + x2 then false else ys.getD (q - x2) false && decide (q - x2 < p)
theorem PutTo.skip {x1 x2 : Nat} {ys xs : List Bool} {p : Nat} (h : PutTo x1 x2 ys xs p) (hs : ys.getD p false = false) : PutTo x1 x2 ys xs (p + 1) := by
  intro q
  rw [h q]
  by_cases hq : q < x1
  · rw [if_pos hq, if_pos hq]
    by_cases e : q = p; rotate_left
    · rw [show decide (q < p) = decide (q < p + 1) from decide_eq_decide.2 (by omega)]
    subst e
    rw [hs]
    rfl
  rw [if_neg hq, if_neg hq]
  by_cases hq2 : q < x1 + x2
  · rw [if_pos hq2, if_pos hq2]
  rw [if_neg hq2, if_neg hq2]
  by_cases e : q - x2 = p; rotate_left
  · rw [show decide (q - x2 < p) = decide (q - x2 < p + 1) from decide_eq_decide.2 (by omega)]
  subst e
  rw [hs]
  rfl
theorem PutTo.put {x1 x2 : Nat} {ys xs : List Bool} {p t : Nat} (h : PutTo x1 x2 ys xs p) (hb : ys.getD p false = true) (ht : t < xs.length) (hs : (p < x1 ∧ t = p) ∨ (x1 ≤ p ∧ t = p + x2)) : PutTo x1 x2 ys (xs.set t true) (p + 1) := by
  intro q
  rw [getD_put _ _ _ _ ht, h q]
  rcases hs with ⟨h1, rfl⟩ | ⟨h1, h2⟩
  · by_cases e : t = q
    · subst e
      rw [if_pos rfl, if_pos h1, hb, decide_eq_true (show t < t + 1 by omega), Bool.true_and]
    · rw [if_neg e]
      by_cases hq : q < x1
      · rw [if_pos hq, if_pos hq, show decide (q < t) = decide (q < t + 1) from decide_eq_decide.2 (by omega)]
      rw [if_neg hq, if_neg hq]
      by_cases hq2 : q < x1 + x2; rotate_left
      · rw [if_neg hq2, if_neg hq2, show decide (q - x2 < t) = decide (q - x2 < t + 1) from decide_eq_decide.2 (by omega)]
      rw [if_pos hq2, if_pos hq2]
  · by_cases e : t = q
    · subst e
      rw [if_pos rfl, if_neg (by omega), if_neg (by omega), show t - x2 = p by omega, hb, decide_eq_true (show p < p + 1 by omega), Bool.true_and]
    · rw [if_neg e]
      by_cases hq : q < x1
      · rw [if_pos hq, if_pos hq, show decide (q < p) = decide (q < p + 1) from decide_eq_decide.2 (by omega)]
      rw [if_neg hq, if_neg hq]
      by_cases hq2 : q < x1 + x2; rotate_left
      · rw [if_neg hq2, if_neg hq2, show decide (q - x2 < p) = decide (q - x2 < p + 1) from decide_eq_decide.2 (by omega)]
      rw [if_pos hq2, if_pos hq2]
theorem putS_l0 (x1 x2 : Nat) (h1 : 1 ≤ x1) (h1' : x1 ≤ 2000) (h2' : x2 ≤ 2000) (ys : List Bool) (hy : Set1 ys) : ∀ n p : Nat, p + n = 2001 → ∀ xs, Set1 xs → PutTo x1 x2 ys xs p → (∀ q : Nat, q < p → x1 ≤ q → ys.getD q false = true → q + x2 ≤ 2000) →
    ∃ r : List RG × Bool, (r = ([], false) ∨ (∀ q : Nat, x1 ≤ q → ys.getD q false = true → q + x2 ≤ 2000) ∧ ∃ m, GoodF 1 m ∧ (∀ q : Nat, q ≤ 2000 → has m (q : Int) = if q < x1 then ys.getD q false else if q < x1 + x2 then false else ys.getD (q - x2) false) ∧ r = few m) ∧
    Ev (fun k => impl_PutPages.l0 k (x1 : Int) (x2 : Int) xs ys (p : Int)) r ∧ Ev (fun k => spec_PutPages.l0 k (x1 : Int) (x2 : Int) (xs ++ List.replicate 2001 false) (ys ++ [false]) 2002 (p : Int)) r := by
  have hyl := hy.len
  have hym := more1T ys hy
  intro n
  induction n with
  | zero =>
    intro p hp xs hx ht hf
    obtain rfl : p = 2001 := by omega
    obtain ⟨r, hg, hs, a, b⟩ := ranges_sem xs hx 2001 (by omega)
    refine ⟨few r, Or.inr ⟨fun q h1 h2 => ?_, r, hg, fun q hq => ?_, rfl⟩, ?_, ?_⟩
    · by_cases h : q < 2001
      · exact hf q h h1 h2
      · rw [getD_out ys hy _ (by omega)] at h2
        cases h2
    · rw [hs q hq, ht q]
      by_cases h : q < x1; rotate_left
      · rw [if_neg h, if_neg h, decide_eq_true (show q - x2 < 2001 by omega), Bool.and_true]
      rw [if_pos h, if_pos h, decide_eq_true (show q < 2001 by omega), Bool.and_true]
    · refine Ev_step (fun k => by rw [impl_PutPages.l0, if_neg (by omega)]) ?_
      exact Ev_bind a (Ev.now _)
    · refine Ev_step (fun k => by rw [spec_PutPages.l0, if_pos (by omega), if_pos (by omega), if_pos (w161_), if_pos (by omega), rdS_last ys hy]) ?_
      refine Ev_step (fun k => by rw [spec_PutPages.j2, if_neg (by decide), nextI 2001 (by omega)]) ?_
      refine Ev_step (fun k => by rw [spec_PutPages.l0, if_neg (by omega)]) ?_
      exact Ev_bind b (Ev.now _)
  | succ n ih =>
    intro p hp xs hx ht hf
    have hxl := hx.len
    have hxm : (xs ++ List.replicate 2001 false).length = 4002 := by rw [List.length_append, hx.len, List.length_replicate]
    have hrd : rdOf false (ys ++ [false]) (p : Int) = ys.getD p false := rdS_more ys hy 1 p (by omega)
    have w2 : wrap64 ((p : Int) + x2) = (p : Int) + x2 := w64 (by omega) (by omega)
    cases hb : ys.getD p false with
    | false =>
      obtain ⟨r, hs, a, b⟩ := ih (p + 1) (by omega) xs hx (ht.skip hb) (fun q h4 h5 h6 => by
        by_cases e : q = p
        · subst e; rw [hb] at h6; cases h6
        · exact hf q (by omega) h5 h6)
      refine ⟨r, hs, ?_, ?_⟩
      · exact Ev_step (fun k => by rw [impl_PutPages.l0, if_pos (by omega), if_pos (by omega), if_pos (by omega), rdOf_nat, hb, if_neg (by decide), nextI p (by omega)]) a
      · by_cases h3 : (p : Int) ≥ x1
        · refine Ev_step (fun k => by rw [spec_PutPages.l0, if_pos (by omega), if_pos (by omega), if_pos (w161_), if_pos h3, hrd, hb]) ?_
          exact Ev_step (fun k => by rw [spec_PutPages.j2, if_neg (by decide), nextI p (by omega)]) b
        · refine Ev_step (fun k => by rw [spec_PutPages.l0, if_pos (by omega), if_pos (by omega), if_pos (w161_), if_neg h3, hrd, hb]) ?_
          exact Ev_step (fun k => by rw [spec_PutPages.j2, if_neg (by decide), nextI p (by omega)]) b
    | true =>
      have hp1 : 1 ≤ p := by
        rcases Nat.eq_zero_or_pos p with h | h
        · subst h; rw [hy.none] at hb; cases hb
        · exact h
      by_cases h3 : (p : Int) ≥ x1; rotate_left
      · obtain ⟨r, hs, a, b⟩ := ih (p + 1) (by omega) (xs.set p true) (hx.put hp1 true) (ht.put hb (by omega) (Or.inl ⟨by omega, rfl⟩)) (fun q' h5 h6 h7 => by
            by_cases e : q' = p
            · omega
            · exact hf q' (by omega) h6 h7)
        refine ⟨r, hs, ?_, ?_⟩
        · exact Ev_step (fun k => by rw [impl_PutPages.l0, if_pos (by omega), if_pos (by omega), if_pos (by omega), rdOf_nat, hb, if_pos rfl, if_neg h3, if_neg (by omega), if_pos (by omega), nextI p (by omega), Int.toNat_natCast]) a
        · refine Ev_step (fun k => by rw [spec_PutPages.l0, if_pos (by omega), if_pos (by omega), if_pos (w161_), if_neg h3, hrd, hb]) ?_
          exact Ev_step (fun k => by rw [spec_PutPages.j2, if_pos rfl, if_pos (by omega), if_pos (by rw [hxm]; omega), if_neg (by omega), nextI p (by omega), Int.toNat_natCast, set_more _ _ _ _ (by omega)]) b
      by_cases h4 : (p : Int) + x2 > 2000
      · refine ⟨([], false), Or.inl rfl, ?_, ?_⟩
        · exact Ev_step (fun k => by rw [impl_PutPages.l0, if_pos (by omega), if_pos (by omega), if_pos (by omega), rdOf_nat, hb, if_pos rfl, if_pos h3, w2, if_pos h4]) (Ev.now _)
        · refine Ev_step (fun k => by rw [spec_PutPages.l0, if_pos (by omega), if_pos (by omega), if_pos (w161_), if_pos h3, hrd, hb, w2]) ?_
          exact Ev_step (fun k => by rw [spec_PutPages.j2, if_pos rfl, if_pos (by omega), if_pos (by rw [hxm]; omega), if_pos h4]) (Ev.now _)
      obtain ⟨q, hq⟩ := Int.eq_ofNat_of_zero_le (show 0 ≤ (p : Int) + x2 by omega)
      obtain ⟨r, hs, a, b⟩ := ih (p + 1) (by omega) (xs.set q true) (hx.put (by omega) true) (ht.put hb (by omega) (Or.inr ⟨by omega, by omega⟩)) (fun q' h5 h6 h7 => by
        by_cases e : q' = p
        · omega
        · exact hf q' (by omega) h6 h7)
      refine ⟨r, hs, ?_, ?_⟩
      · exact Ev_step (fun k => by rw [impl_PutPages.l0, if_pos (by omega), if_pos (by omega), if_pos (by omega), rdOf_nat, hb, if_pos rfl, if_pos h3, w2, if_neg h4, if_pos (by omega), if_pos (by omega), nextI p (by omega), hq, Int.toNat_natCast]) a
      · refine Ev_step (fun k => by rw [spec_PutPages.l0, if_pos (by omega), if_pos (by omega), if_pos (w161_), if_pos h3, hrd, hb, w2]) ?_
        exact Ev_step (fun k => by rw [spec_PutPages.j2, if_pos rfl, if_pos (by omega), if_pos (by rw [hxm]; omega), if_neg h4, nextI p (by omega), hq, Int.toNat_natCast, set_more _ _ _ _ (by omega)]) b
theorem inB_of {p a b : Int} : inB p a b = true ↔ a ≤ p ∧ p ≤ b := by unfold inB; exact decide_eq_true_iff
def movB (l : List RG) (p m : Int) : Bool := areB l && inB p 1 2000 && inB m 0 2000
theorem move_no (l : List RG) (p m : Int) (hn : l.length ≤ 1048576) (h : movB l p m = false) :
    Ev (fun k => spec_TakePages.f k l p m) ([], false) ∧ Ev (fun k => impl_TakePages.f k l p m) ([], false) ∧ Ev (fun k => spec_PutPages.f k l p m) ([], false) ∧ Ev (fun k => impl_PutPages.f k l p m) ([], false) := by
  obtain ⟨h1, h2⟩ := areR_ev l hn
  have h4 := ixPageS_ev l p hn
  simp only [spec_TakePages.f, impl_TakePages.f, spec_PutPages.f, impl_PutPages.f]
  have n1 : Ev (fun k => spec_TakePages.j0 k l p m true) ([], false) := Ev_step (fun k => by rw [spec_TakePages.j0]) (Ev_pos rfl (Ev.now _))
  have n2 : Ev (fun k => impl_TakePages.j0 k l p m true) ([], false) := Ev_step (fun k => by rw [impl_TakePages.j0]) (Ev_pos rfl (Ev.now _))
  have n3 : Ev (fun k => spec_PutPages.j0 k l p m true) ([], false) := Ev_step (fun k => by rw [spec_PutPages.j0]) (Ev_pos rfl (Ev.now _))
  have n4 : Ev (fun k => impl_PutPages.j0 k l p m true) ([], false) := Ev_step (fun k => by rw [impl_PutPages.j0]) (Ev_pos rfl (Ev.now _))
  unfold movB at h
  cases hg : areB l with
  | false =>
    rw [hg] at h2 h4
    exact ⟨Ev_bind h4 (Ev_neg (by simp) n1), Ev_bind h2 (Ev_neg (by decide) n2), Ev_bind h4 (Ev_neg (by simp) n3), Ev_bind h2 (Ev_neg (by decide) n4)⟩
  | true =>
    rw [hg] at h2 h4 h
    rw [Bool.true_and] at h4 h
    cases hp : inB p 1 2000 with
    | false =>
      rw [hp] at h4
      exact ⟨Ev_bind h4 (Ev_neg (by decide) n1), Ev_bind h2 (Ev_pos rfl (Ev_some (isIx_eq _) (by rw [hp]; exact Ev_neg (by decide) n2))), Ev_bind h4 (Ev_neg (by decide) n3), Ev_bind h2 (Ev_pos rfl (Ev_some (isIx_eq _) (by rw [hp]; exact Ev_neg (by decide) n4)))⟩
    | true =>
      rw [hp] at h4 h
      rw [Bool.true_and] at h
      exact ⟨Ev_bind h4 (Ev_pos rfl (Ev_some (l1In_eq _ _ _) (by rw [h]; exact n1))), Ev_bind h2 (Ev_pos rfl (Ev_some (isIx_eq _) (by rw [hp]; exact Ev_pos rfl (Ev_some (within_eq _ _ _) (by rw [h]; exact n2))))),
        Ev_bind h4 (Ev_pos rfl (Ev_some (l1In_eq _ _ _) (by rw [h]; exact n3))), Ev_bind h2 (Ev_pos rfl (Ev_some (isIx_eq _) (by rw [hp]; exact Ev_pos rfl (Ev_some (within_eq _ _ _) (by rw [h]; exact n4)))))⟩
theorem take_sem (l : List RG) (p m : Int) (h : movB l p m = true) : ∃ r : List RG, GoodF 1 r ∧ (∀ q, has r q = if q < p then has l q else has l (q + m)) ∧ Ev (fun k => spec_TakePages.f k l p m) (few r) ∧ Ev (fun k => impl_TakePages.f k l p m) (few r) := by
  unfold movB at h
  rw [Bool.and_eq_true, Bool.and_eq_true] at h
  obtain ⟨⟨hl, hp⟩, hm⟩ := h
  obtain ⟨gl, nl⟩ := areB_iff.1 hl
  obtain ⟨h1, h2⟩ := areR_ev l (by omega)
  have h4 := ixPageS_ev l p (by omega)
  rw [hl] at h2 h4
  rw [hp, Bool.true_and] at h4
  obtain ⟨ys, a, b, hy, my⟩ := marks_sem l (by omega) (good_valid gl)
  have hp' := inB_of.1 hp
  have hm' := inB_of.1 hm
  obtain ⟨x1, rfl⟩ := Int.eq_ofNat_of_zero_le (show 0 ≤ p by omega)
  obtain ⟨x2, rfl⟩ := Int.eq_ofNat_of_zero_le hm'.1
  obtain ⟨r, hg, hs, c, d⟩ := takeS_l0 x1 x2 (by omega) (by omega) (by omega) ys hy 2001 0 (by omega) _ Set1.empty (fun q => by rw [rep_none]; split <;> simp)
  refine ⟨r, hg, fun q => ?_, ?_, ?_⟩
  · by_cases hq : q < 1
    · rw [has_below hg hq, if_pos (by omega), has_below gl hq]
    · by_cases hq2 : 2000 < q
      · rw [has_above hg hq2, has_above gl hq2, has_above gl (by omega)]
        split <;> rfl
      · obtain ⟨t, rfl⟩ := Int.eq_ofNat_of_zero_le (show 0 ≤ q by omega)
        rw [hs t (by omega), my, my]
        by_cases h : t < x1; rotate_left
        · rw [if_neg h, if_neg (by omega), Int.natCast_add]
        rw [if_pos h, if_pos (by omega)]
  · simp only [spec_TakePages.f]
    refine Ev_bind h4 (Ev_pos rfl (Ev_some (l1In_eq _ _ _) ?_))
    rw [hm]
    refine Ev_step (fun k => by rw [spec_TakePages.j0]) ?_
    refine Ev_neg (by decide) (Ev_pos (by omega) (Ev_bind b ?_))
    refine Ev.congr (fun k => ?_) d
    rw [more1T ys hy, show List.replicate 2002 false = List.replicate 2001 false ++ [false] from List.replicate_succ']
    rfl
  · simp only [impl_TakePages.f]
    refine Ev_bind h2 (Ev_pos rfl (Ev_some (isIx_eq _) ?_))
    rw [hp]
    refine Ev_pos rfl (Ev_some (within_eq _ _ _) ?_)
    rw [hm]
    refine Ev_step (fun k => by rw [impl_TakePages.j0]) ?_
    exact Ev_neg (by decide) (Ev_pos (by omega) (Ev_bind a c))
theorem put_sem (l : List RG) (p m : Int) (h : movB l p m = true) : ∃ r : List RG × Bool, (r = ([], false) ∨ (∀ q, p ≤ q → has l q = true → q + m ≤ 2000) ∧ ∃ w, GoodF 1 w ∧ (∀ q, has w q = if q < p then has l q else if q < p + m then false else has l (q - m)) ∧ r = few w) ∧
    Ev (fun k => spec_PutPages.f k l p m) r ∧ Ev (fun k => impl_PutPages.f k l p m) r := by
  unfold movB at h
  rw [Bool.and_eq_true, Bool.and_eq_true] at h
  obtain ⟨⟨hl, hp⟩, hm⟩ := h
  obtain ⟨gl, nl⟩ := areB_iff.1 hl
  obtain ⟨h1, h2⟩ := areR_ev l (by omega)
  have h4 := ixPageS_ev l p (by omega)
  rw [hl] at h2 h4
  rw [hp, Bool.true_and] at h4
  obtain ⟨ys, a, b, hy, my⟩ := marks_sem l (by omega) (good_valid gl)
  have hp' := inB_of.1 hp
  have hm' := inB_of.1 hm
  obtain ⟨x1, rfl⟩ := Int.eq_ofNat_of_zero_le (show 0 ≤ p by omega)
  obtain ⟨x2, rfl⟩ := Int.eq_ofNat_of_zero_le hm'.1
  obtain ⟨r, hs, c, d⟩ := putS_l0 x1 x2 (by omega) (by omega) (by omega) ys hy 2001 0 (by omega) _ Set1.empty (fun q => by rw [rep_none]; split <;> simp) (fun q hq => by omega)
  refine ⟨r, ?_, ?_, ?_⟩
  · rcases hs with h | ⟨hf, w, hg, hw, e⟩
    · exact Or.inl h
    · have hf2 : ∀ q : Int, (x1 : Int) ≤ q → has l q = true → q + x2 ≤ 2000 := fun q h5 h6 => by
        obtain ⟨t, rfl⟩ := Int.eq_ofNat_of_zero_le (show 0 ≤ q by omega)
        have := hf t (by omega) (by rw [my]; exact h6)
        omega
      refine Or.inr ⟨hf2, w, hg, fun q => ?_, e⟩
      by_cases hq : q < 1
      · rw [has_below hg hq, if_pos (by omega), has_below gl hq]
      by_cases hq2 : 2000 < q
      · rw [has_above hg hq2, has_above gl hq2, if_neg (by omega)]
        by_cases h7 : q < x1 + x2
        · rw [if_pos h7]
        rw [if_neg h7]
        cases hh : has l (q - x2) with
        | false => rfl
        | true => have := hf2 _ (by omega) hh; omega
      obtain ⟨t, rfl⟩ := Int.eq_ofNat_of_zero_le (show 0 ≤ q by omega)
      rw [hw t (by omega)]
      by_cases h : t < x1
      · rw [if_pos h, if_pos (by omega), my]
      rw [if_neg h, if_neg (show ¬ (t : Int) < x1 by omega)]
      by_cases h7 : t < x1 + x2; rotate_left
      · rw [if_neg h7, if_neg (by omega), my, Int.ofNat_sub (by omega)]
      rw [if_pos h7, if_pos (by omega)]
  · simp only [spec_PutPages.f]
    refine Ev_bind h4 (Ev_pos rfl (Ev_some (l1In_eq _ _ _) ?_))
    rw [hm]
    refine Ev_step (fun k => by rw [spec_PutPages.j0]) ?_
    refine Ev_neg (by decide) (Ev_pos (by omega) (Ev_bind b ?_))
    refine Ev.congr (fun k => ?_) d
    rw [more1T ys hy, show List.replicate 4002 false = List.replicate 2001 false ++ List.replicate 2001 false from by rw [List.replicate_append_replicate]]
    rfl
  · simp only [impl_PutPages.f]
    refine Ev_bind h2 (Ev_pos rfl (Ev_some (isIx_eq _) ?_))
    rw [hp]
    refine Ev_pos rfl (Ev_some (within_eq _ _ _) ?_)
    rw [hm]
    refine Ev_step (fun k => by rw [impl_PutPages.j0]) ?_
    exact Ev_neg (by decide) (Ev_pos (by omega) (Ev_bind a c))

theorem has_both (l : List RG) (hn : l.length ≤ 1048576) (p : Int) : Ev (fun k => impl_HasIndexed.f k l p) (if (areB l && inB p 1 2000) = true then (has l p, true) else (false, false)) ∧ Ev (fun k => spec_HasIndexed.f k l p) (if (areB l && inB p 1 2000) = true then (has l p, true) else (false, false)) := by
  have h4 := ixPageS_ev l p hn
  obtain ⟨h1, h2⟩ := areR_ev l hn
  cases hl : areB l with
  | false =>
    rw [hl] at h2 h4
    refine ⟨?_, ?_⟩
    · simp only [impl_HasIndexed.f]
      exact Ev_bind h2 (Ev_neg Bool.false_ne_true (Ev.now _))
    · simp only [spec_HasIndexed.f]
      exact Ev_bind h4 (Ev_neg (by simp) (Ev.now _))
  | true =>
    rw [hl] at h2 h4
    rw [Bool.true_and] at h4 ⊢
    cases hp : inB p 1 2000 with
    | false =>
      rw [hp] at h4
      refine ⟨?_, ?_⟩
      · simp only [impl_HasIndexed.f]
        exact Ev_bind h2 (Ev_pos rfl (Ev_some (isIx_eq _) (by rw [hp]; exact Ev_neg Bool.false_ne_true (Ev.now _))))
      · simp only [spec_HasIndexed.f]
        exact Ev_bind h4 (Ev_neg Bool.false_ne_true (Ev.now _))
    | true =>
      rw [hp] at h4
      rw [if_pos rfl]
      obtain ⟨hg, hle⟩ := areB_iff.1 hl
      have hp' := inB_of.1 hp
      refine ⟨has_sem l hl p hp'.1 hp'.2, ?_⟩
      obtain ⟨ys, a, b, hy, my⟩ := marks_sem l (by omega) (good_valid hg)
      obtain ⟨q, rfl⟩ := Int.eq_ofNat_of_zero_le (show 0 ≤ p by omega)
      have hym := more1T ys hy
      simp only [spec_HasIndexed.f]
      refine Ev_bind h4 (Ev_pos rfl (Ev_bind b (Ev_pos (by omega) (Ev_pos (w161_) ?_))))
      have hrd : rdOf false (ys ++ [false]) (q : Int) = ys.getD q false := rdS_more ys hy 1 q (by omega)
      rw [hrd, my]
      exact Ev.now _
theorem one_ev {l : List RG} (hg : GoodF 1 l) {s : List Bool} (hs : Set1 s) (ms : ∀ q : Nat, s.getD q false = has l (q : Int)) (near : Int) {next : Nat → Option (Int × Bool)} {r : Int × Bool} (h : Ev next r) :
    Ev (fun k => impl_NearestIndexed.one s near (next k)) (if has l near = true then (near, true) else r) := by
  simp only [impl_NearestIndexed.one]
  refine Ev_some (isIx_eq _) ?_
  cases hb : inB near 1 2000 with
  | false =>
    have : has l near = false := by
      rcases Int.lt_or_le near 1 with h1 | h1
      · exact has_below hg h1
      · rcases Int.lt_or_le 2000 near with h2 | h2
        · exact has_above hg h2
        · rw [inB_of.2 ⟨h1, h2⟩] at hb; cases hb
    rw [this, if_neg Bool.false_ne_true]
    exact Ev_neg Bool.false_ne_true h
  | true =>
    have hp := inB_of.1 hb
    have hl := hs.len
    obtain ⟨q, rfl⟩ := Int.eq_ofNat_of_zero_le (show 0 ≤ near by omega)
    refine Ev_pos rfl (Ev_pos (by omega) (Ev_pos (by omega) ?_))
    rw [rdOf_nat, ms]
    cases hh : has l (q : Int) with
    | false => exact Ev_neg Bool.false_ne_true h
    | true => exact Ev_pos rfl (Ev.now _)
theorem near_one {l : List RG} {p m n : Int} (h : Near l p m) (h' : Near l p n) : m = n := by
  have a := h.2 n h'.1
  have b := h'.2 m h.1
  have e : (m - p).natAbs = (n - p).natAbs := by omega
  have := a.2 e
  have := b.2 e.symm
  omega
theorem nearI_l0 {l : List RG} (hg : GoodF 1 l) {s : List Bool} (hs : Set1 s) (ms : ∀ q : Nat, s.getD q false = has l (q : Int)) (p : Int) (h1 : 1 ≤ p) (h2 : p ≤ 2000) : ∀ n d : Nat, d + n = 2000 → (∀ q, has l q = true → d ≤ (q - p).natAbs) →
    ∃ r, Ev (fun k => impl_NearestIndexed.l0 k p s (d : Int)) r ∧ (r = (0, false) ∧ (∀ q, has l q = false) ∨ ∃ m, r = (m, true) ∧ Near l p m) := by
  intro n
  induction n with
  | zero =>
    intro d hd hf
    refine ⟨(0, false), Ev_step (fun k => by rw [impl_NearestIndexed.l0, if_neg (by omega)]) (Ev.now _), Or.inl ⟨rfl, fun q => ?_⟩⟩
    cases hq : has l q with
    | false => rfl
    | true =>
      have := hf q hq
      have a : 1 ≤ q := by
        rcases Int.lt_or_le q 1 with h | h
        · rw [has_below hg h] at hq; cases hq
        · exact h
      have b : q ≤ 2000 := by
        rcases Int.lt_or_le 2000 q with h | h
        · rw [has_above hg h] at hq; cases hq
        · exact h
      omega
  | succ n ih =>
    intro d hd hf
    have w1 : wrap64 (p - d) = p - d := w64 (by omega) (by omega)
    have w2 : wrap64 (p + d) = p + d := w64 (by omega) (by omega)
    have go : ∀ {r}, Ev (fun k => impl_NearestIndexed.l0 k p s ((d + 1 : Nat) : Int)) r → Ev (fun k => impl_NearestIndexed.l0 k p s (d : Int)) (if has l (p - d) = true then (p - d, true) else if has l (p + d) = true then (p + d, true) else r) := fun h => by
      refine Ev_step (fun k => by rw [impl_NearestIndexed.l0, if_pos (by omega), w1, w2]) ?_
      refine Ev_step (fun k => by rw [impl_NearestIndexed.l1, if_pos (by decide), if_pos rfl]) ?_
      refine one_ev hg hs ms (p - d) ?_
      refine Ev_step (fun k => by rw [impl_NearestIndexed.l1, if_pos (by decide), if_neg (by decide)]) ?_
      refine one_ev hg hs ms (p + d) ?_
      exact Ev_step (fun k => by rw [impl_NearestIndexed.l1, if_neg (by decide), nextI d (by omega)]) h
    by_cases c1 : has l (p - d) = true
    · have e : Ev (fun k => impl_NearestIndexed.l0 k p s (d : Int)) (p - d, true) := by
        by_cases c3 : ∀ q, has l q = true → d + 1 ≤ (q - p).natAbs
        · have := c3 _ c1
          omega
        -- the rounds behind are not asked
        refine Ev_step (fun k => by rw [impl_NearestIndexed.l0, if_pos (by omega), w1, w2]) ?_
        have hp1 : 1 ≤ p - d := by
          rcases Int.lt_or_le (p - d) 1 with h | h
          · rw [has_below hg h] at c1; cases c1
          · exact h
        have hl := hs.len
        obtain ⟨q, hq⟩ := Int.eq_ofNat_of_zero_le (show 0 ≤ p - d by omega)
        exact Ev_step (fun k => by rw [impl_NearestIndexed.l1, if_pos (by decide), if_pos rfl, impl_NearestIndexed.one, isIx_eq, inB_of.2 ⟨hp1, by omega⟩, Option.bind_some, if_pos rfl, if_pos (by omega), if_pos (by omega), hq, rdOf_nat, ms, ← hq, if_pos c1]) (Ev.now _)
      refine ⟨_, e, Or.inr ⟨p - d, rfl, c1, fun q hq => ?_⟩⟩
      have := hf q hq
      omega
    by_cases c2 : has l (p + d) = true; rotate_left
    · obtain ⟨r, e, hr⟩ := ih (d + 1) (by omega) (fun q hq => by
        have := hf q hq
        by_cases e1 : q = p - d
        · rw [e1] at hq; exact absurd hq c1
        · by_cases e2 : q = p + d
          · rw [e2] at hq; exact absurd hq c2
          · omega)
      have := go e
      rw [if_neg c1, if_neg c2] at this
      exact ⟨r, this, hr⟩
    have e : Ev (fun k => impl_NearestIndexed.l0 k p s (d : Int)) (p + d, true) := by
      refine Ev_step (fun k => by rw [impl_NearestIndexed.l0, if_pos (by omega), w1, w2]) ?_
      refine Ev_step (fun k => by rw [impl_NearestIndexed.l1, if_pos (by decide), if_pos rfl]) ?_
      have b : Ev (fun k => impl_NearestIndexed.l1 k p s (d : Int) (p - d) (p + d) 1) (p + d, true) := by
        have hp1 : p + d ≤ 2000 := by
          rcases Int.lt_or_le 2000 (p + d) with h | h
          · rw [has_above hg h] at c2; cases c2
          · exact h
        have hl := hs.len
        obtain ⟨q, hq⟩ := Int.eq_ofNat_of_zero_le (show 0 ≤ p + d by omega)
        exact Ev_step (fun k => by rw [impl_NearestIndexed.l1, if_pos (by decide), if_neg (by decide), impl_NearestIndexed.one, isIx_eq, inB_of.2 ⟨by omega, hp1⟩, Option.bind_some, if_pos rfl, if_pos (by omega), if_pos (by omega), hq, rdOf_nat, ms, ← hq, if_pos c2]) (Ev.now _)
      have := one_ev hg hs ms (p - d) b
      rw [if_neg c1] at this
      exact this
    refine ⟨_, e, Or.inr ⟨p + d, rfl, c2, fun q hq => ?_⟩⟩
    have := hf q hq
    refine ⟨by omega, fun he => ?_⟩
    by_cases e2 : q = p - d; rotate_left
    · omega
    rw [e2] at hq; exact absurd hq c1
theorem l1Abs_eq (a : Int) (h : -4000000000000000000 ≤ a) (h' : a ≤ 4000000000000000000) : spec_l1Abs.f a = some (a.natAbs : Int) := by
  have w : wrap64 (-a) = -a := w64 (by omega) (by omega)
  simp only [spec_l1Abs.f, w, spec_l1Most.f]
  split <;> (simp only [Option.bind_some]; congr 1; omega)
theorem nearS_l0 {l : List RG} (hg : GoodF 1 l) {ys : List Bool} (hy : Set1 ys) (my : ∀ q : Nat, ys.getD q false = has l (q : Int)) (p : Int) (h1 : 1 ≤ p) (h2 : p ≤ 2000) : ∀ n i : Nat, i + n = 2002 → ∀ b, has l b = true →
    (∀ q, has l q = true → q < i → (b - p).natAbs ≤ (q - p).natAbs ∧ ((b - p).natAbs = (q - p).natAbs → b ≤ q)) → (∀ q, has l q = true → (i : Int) ≤ q → b ≤ q) →
    ∃ m, Ev (fun k => spec_NearestIndexed.l0 k p b (ys ++ [false]) 2002 (i : Int)) (m, true) ∧ Near l p m := by
  have hym := more1T ys hy
  have bd : ∀ q, has l q = true → 1 ≤ q ∧ q ≤ 2000 := fun q hq => by
    refine ⟨?_, ?_⟩
    · rcases Int.lt_or_le q 1 with h | h
      · rw [has_below hg h] at hq; cases hq
      · exact h
    · rcases Int.lt_or_le 2000 q with h | h
      · rw [has_above hg h] at hq; cases hq
      · exact h
  intro n
  induction n with
  | zero =>
    intro i hi b hb h3 h4
    exact ⟨b, Ev_step (fun k => by rw [spec_NearestIndexed.l0, if_neg (by omega)]) (Ev.now _), hb, fun q hq => h3 q hq (by have := bd q hq; omega)⟩
  | succ n ih =>
    intro i hi b hb h3 h4
    have hbb := bd b hb
    have hrd : rdOf false (ys ++ [false]) (i : Int) = has l (i : Int) := by
      by_cases h : i < 2001
      · exact (rdS_more ys hy 1 i h).trans (my i)
      obtain rfl : i = 2001 := by omega
      rw [rdS_last ys hy, has_above hg (by omega)]
    cases hh : has l (i : Int) with
    | false =>
      rw [hh] at hrd
      obtain ⟨m, e, hm⟩ := ih (i + 1) (by omega) b hb (fun q hq hl => by
        by_cases e : q = i
        · rw [e, hh] at hq; cases hq
        · exact h3 q hq (by omega)) (fun q hq hl => h4 q hq (by omega))
      exact ⟨m, Ev_step (fun k => by rw [spec_NearestIndexed.l0, if_pos (by omega), if_pos (by omega), if_pos (w161_), hrd, if_neg Bool.false_ne_true, nextI i (by omega)]) e, hm⟩
    | true =>
      rw [hh] at hrd
      have hib := bd _ hh
      have w1 : wrap64 ((i : Int) - p) = (i : Int) - p := w64 (by omega) (by omega)
      have w2 : wrap64 (b - p) = b - p := w64 (by omega) (by omega)
      have st : ∀ k, spec_NearestIndexed.l0 (k + 1) p b (ys ++ [false]) 2002 (i : Int) = if (((i : Int) - p).natAbs : Int) < ((b - p).natAbs : Int) then spec_NearestIndexed.l0 k p (i : Int) (ys ++ [false]) 2002 ((i + 1 : Nat) : Int) else spec_NearestIndexed.l0 k p b (ys ++ [false]) 2002 ((i + 1 : Nat) : Int) := fun k => by
        rw [spec_NearestIndexed.l0, if_pos (by omega), if_pos (by omega), if_pos (w161_), hrd, if_pos rfl, w1, w2, l1Abs_eq _ (by omega) (by omega), l1Abs_eq _ (by omega) (by omega), nextI i (by omega)]
        rfl
      have h5 := h4 _ hh (Int.le_refl _)
      by_cases c : (((i : Int) - p).natAbs : Int) < ((b - p).natAbs : Int); rotate_left
      · obtain ⟨m, e, hm⟩ := ih (i + 1) (by omega) b hb (fun q hq hl => by
          by_cases e : q = i
          · subst e; exact ⟨by omega, fun _ => h5⟩
          · exact h3 q hq (by omega)) (fun q hq hl => h4 q hq (by omega))
        exact ⟨m, Ev_step st (Ev_neg c e), hm⟩
      obtain ⟨m, e, hm⟩ := ih (i + 1) (by omega) (i : Int) hh (fun q hq hl => by
        by_cases e : q = i
        · subst e; exact ⟨Nat.le_refl _, fun _ => Int.le_refl _⟩
        · have := h3 q hq (by omega)
          omega) (fun q hq hl => by omega)
      exact ⟨m, Ev_step st (Ev_pos c e), hm⟩
theorem near_sem (l : List RG) (hn : l.length ≤ 1048576) (p : Int) : ∃ m b, Ev (fun k => impl_NearestIndexed.f k l p) (m, b) ∧ Ev (fun k => spec_NearestIndexed.f k l p) (m, b) ∧ b = (areB l && inB p 1 2000 && decide ((l.length : Int) > 0)) ∧ (b = true → Near l p m) := by
  have h4 := ixPageS_ev l p hn
  obtain ⟨h1, h2⟩ := areR_ev l hn
  have bad : Ev (fun k => spec_NearestIndexed.j0 k l p true) (0, false) := Ev_step (fun k => by rw [spec_NearestIndexed.j0, if_pos rfl]) (Ev.now _)
  cases hl : areB l with
  | false =>
    rw [hl] at h2 h4
    refine ⟨0, false, ?_, ?_, rfl, fun h => by cases h⟩
    · simp only [impl_NearestIndexed.f]
      exact Ev_bind h2 (Ev_neg Bool.false_ne_true (Ev.now _))
    · simp only [spec_NearestIndexed.f]
      exact Ev_bind h4 (Ev_neg (by simp) bad)
  | true =>
    rw [hl] at h2 h4
    rw [Bool.true_and] at h4
    cases hp : inB p 1 2000 with
    | false =>
      rw [hp] at h4
      refine ⟨0, false, ?_, ?_, rfl, fun h => by cases h⟩
      · simp only [impl_NearestIndexed.f]
        exact Ev_bind h2 (Ev_pos rfl (Ev_some (isIx_eq _) (by rw [hp]; exact Ev_neg Bool.false_ne_true (Ev.now _))))
      · simp only [spec_NearestIndexed.f]
        exact Ev_bind h4 (Ev_neg Bool.false_ne_true bad)
    | true =>
      rw [hp] at h4
      obtain ⟨hg, hle⟩ := areB_iff.1 hl
      have hp' := inB_of.1 hp
      obtain ⟨ys, a, b, hy, my⟩ := marks_sem l (by omega) (good_valid hg)
      obtain ⟨r, e1, hr⟩ := nearI_l0 hg hy my p hp'.1 hp'.2 2000 0 (by omega) (fun _ _ => Nat.zero_le _)
      have e2 : Ev (fun k => impl_NearestIndexed.f k l p) r := by
        simp only [impl_NearestIndexed.f]
        refine Ev_bind h2 (Ev_pos rfl (Ev_some (isIx_eq _) ?_))
        rw [hp]
        exact Ev_pos rfl (Ev_bind a e1)
      cases l with
      | nil =>
        rcases hr with ⟨rfl, _⟩ | ⟨m, rfl, hm⟩
        · refine ⟨0, false, e2, ?_, rfl, fun h => by cases h⟩
          simp only [spec_NearestIndexed.f]
          exact Ev_bind h4 (Ev_pos rfl bad)
        · have := hm.1
          cases this
      | cons x l =>
        have hx : has (x :: l) x.f0 = true := by
          rw [has_cons, decide_eq_true ⟨Int.le_refl _, hg.2.1⟩]
          rfl
        have hgx : GoodF x.f0 (x :: l) := ⟨Int.le_refl _, hg.2⟩
        obtain ⟨m, e3, hm⟩ := nearS_l0 hg hy my p hp'.1 hp'.2 2002 0 (by omega) x.f0 hx (fun q hq hlt => by
          rw [has_below hg (by omega)] at hq; cases hq) (fun q hq _ => by
          rcases Int.lt_or_le q x.f0 with h | h
          · rw [has_below hgx h] at hq; cases hq
          · exact h)
        rcases hr with ⟨_, hno⟩ | ⟨m', rfl, hm'⟩
        · rw [hno] at hx; cases hx
        · obtain rfl := near_one hm hm'
          refine ⟨m, true, e2, ?_, ?_, fun _ => hm⟩
          · simp only [spec_NearestIndexed.f]
            refine Ev_bind h4 (Ev_pos rfl ?_)
            have hlen : (((x :: l).length : Int) == 0) = false := by rw [List.length_cons]; exact beq_eq_false_iff_ne.2 (by omega)
            rw [hlen]
            refine Ev_step (fun k => by rw [spec_NearestIndexed.j0, if_neg Bool.false_ne_true, if_pos (w143_)]) (Ev_bind b ?_)
            rw [more1T ys hy]
            exact e3
          · rw [Bool.true_and, Bool.true_and]
            exact (decide_eq_true (w143_)).symm

theorem fRanges_l0 (a : List RG) (hn : a.length ≤ 1048576) : ∀ n i : Nat, i + n = a.length → Ev (fun k => laws_fRanges.l0 k a a (a.length : Int) (i : Int)) true := by
  intro n
  induction n with
  | zero =>
    intro i hi
    exact Ev_step (fun k => by rw [laws_fRanges.l0, if_neg (by omega)]) (Ev.now _)
  | succ n ih =>
    intro i hi
    refine Ev_step (fun k => ?_) (ih (i + 1) (by omega))
    rw [laws_fRanges.l0, if_pos (by omega), if_pos (by omega), if_pos (by omega), if_pos (by omega), if_neg (by simp), nextI i (by omega)]
theorem fRanges_ev (a : List RG) (hn : a.length ≤ 1048576) : Ev (fun k => laws_fRanges.f k a a) true := by
  simp only [laws_fRanges.f]
  exact Ev_pos trivial (fRanges_l0 a hn a.length 0 (Nat.zero_add _))

theorem bne_self (b : Bool) : ¬ (b != b) = true := by cases b <;> decide
theorem short_yes {p q : Nat} (h1 : 1 ≤ p) (h2 : p ≤ q) (h3 : q ≤ 2000) : Ev (fun k => impl_ShortRange.f k (p : Int) (q : Int)) (mkB (sh p q), true) := by
  have hr : rangeB (p : Int) (q : Int) = true := by
    unfold rangeB
    exact decide_eq_true (by omega)
  simp only [impl_ShortRange.f]
  exact Ev_some (isRange_eq _ _) (by rw [hr]; exact Ev_pos rfl (Ev_bind (short_ev p q (by omega) h3).2 (Ev.now _)))
theorem last17 (s : ByteArray) (u v : Int) (L : Bool) (hL : Lg s.data.toList (u, v, L)) : Ev (fun k => if L = true then ((impl_ShortRange.f k u v).bind fun bt567 => (if bt567.2 = true then (some (bt567.1.toList == s.toList)) else (some false))) else (some true)) true := by
  rcases hL with ⟨p, q, hi, h⟩ | ⟨_, h⟩
  · obtain ⟨h1, h⟩ := Prod.mk.inj h
    obtain ⟨h2, h3⟩ := Prod.mk.inj h
    subst h1 h2 h3
    refine Ev_pos rfl (Ev_bind (short_yes hi.1 hi.2.1 hi.2.2.1) (Ev_pos rfl ?_))
    rw [short_same s hi.2.2.2, beq_self_eq_true]
    exact Ev.now _
  · obtain ⟨h1, h⟩ := Prod.mk.inj h
    obtain ⟨h2, h3⟩ := Prod.mk.inj h
    subst h1 h2 h3
    exact Ev_neg Bool.false_ne_true (Ev.now _)
theorem long_yes {p q : Nat} (h1 : 1 ≤ p) (h2 : p ≤ q) (h3 : q ≤ 2000) : Ev (fun k => impl_LongRange.f k (mkB (sh p q))) ((p : Int), (q : Int), true) := by
  have hi : IsSh (mkB (sh p q)).data.toList p q := ⟨h1, h2, h3, rfl⟩
  obtain ⟨r, e, _, h⟩ := longR_ev (mkB (sh p q)) (by rw [mkB_size]; have := sh_size p q (by omega) h3; omega)
  rcases h with ⟨p', q', hi', rfl⟩ | ⟨hn, _⟩
  · obtain ⟨rfl, rfl⟩ := sh_inj hi hi'
    exact e
  · exact absurd hi (hn p q)
theorem j17_ev {a b : Int} {T : ByteArray} {B : Bool} (hS : Sh a b (T, B)) {s : ByteArray} {u v : Int} {L : Bool} (hL : Lg s.data.toList (u, v, L)) : Ev (fun k => laws_FnIndexesMoved.j17 k T B s L a b u v) true := by
  refine Ev_step (fun k => by rw [laws_FnIndexesMoved.j17]) ?_
  rcases hS with ⟨p, q, rfl, rfl, h1, h2, h3, h⟩ | h
  · obtain ⟨rfl, rfl⟩ := Prod.mk.inj h
    refine Ev_pos rfl (Ev_bind (long_yes h1 h2 h3) (Ev_pos rfl ?_))
    refine Ev_step (fun k => by rw [laws_FnIndexesMoved.j18]) ?_
    exact Ev_neg (by simp) (last17 s u v L hL)
  · obtain ⟨rfl, rfl⟩ := Prod.mk.inj h
    exact Ev_neg Bool.false_ne_true (last17 s u v L hL)
theorem l3_ev {a b : Int} {T : ByteArray} {B : Bool} (hS : Sh a b (T, B)) {s : ByteArray} {u v : Int} {L : Bool} (hL : Lg s.data.toList (u, v, L)) (g small : Int) (G left : List RG) (hv : Valid left) (hn : left.length ≤ 20) (hb : ∀ y ∈ left, g < y.f1 - y.f0 + 1) (hs : (left.length : Int) = wrap64 ((G.length : Int) - small)) :
    ∀ n i : Nat, i + n = left.length → Ev (fun k => laws_FnIndexesMoved.l3 k g G T B s L left small left (left.length : Int) (i : Int) a b u v) true := by
  intro n
  induction n with
  | zero =>
    intro i hi
    refine Ev_step (fun k => by rw [laws_FnIndexesMoved.l3, if_neg (by omega), if_pos hs]) (j17_ev hS hL)
  | succ n ih =>
    intro i hi
    have h : i < left.length := by omega
    have v1 := hv _ (List.getElem_mem h)
    have b1 := hb _ (List.getElem_mem h)
    have e1 := rdT_mem left i h
    have w1 : wrap64 (left[i].f1 - left[i].f0) = left[i].f1 - left[i].f0 := w64 (by omega) (by omega)
    have w2 : wrap64 (left[i].f1 - left[i].f0 + 1) = left[i].f1 - left[i].f0 + 1 := w64 (by omega) (by omega)
    exact Ev_step (fun k => by rw [laws_FnIndexesMoved.l3, if_pos (by omega), if_pos (by omega), if_pos (by omega), e1, w1, w2, if_neg (by omega), nextI i (by omega)]) (ih (i + 1) (by omega))
def smalls (g : Int) : List RG → Nat
  | [] => 0
  | y :: l => (if y.f1 - y.f0 + 1 ≤ g then 1 else 0) + smalls g l
theorem smalls_two (g : Int) : ∀ G : List RG, smalls g G + (G.filter (fun y => decide (g < y.f1 - y.f0 + 1))).length = G.length := by
  intro G
  induction G with
  | nil => rfl
  | cons y l ih =>
    rw [smalls, List.filter_cons]
    by_cases h : y.f1 - y.f0 + 1 ≤ g; rotate_left
    · rw [if_neg h, decide_eq_true (by omega), if_pos rfl, List.length_cons, List.length_cons]
      omega
    rw [if_pos h, decide_eq_false (by omega), if_neg Bool.false_ne_true, List.length_cons]
    omega
theorem l2_ev {a b : Int} {T : ByteArray} {B : Bool} (hS : Sh a b (T, B)) {s : ByteArray} {u v : Int} {L : Bool} (hL : Lg s.data.toList (u, v, L)) (g : Int) (G left : List RG) (hG : Valid G) (hGn : G.length ≤ 20) (hv : Valid left) (hn : left.length ≤ 20) (hb : ∀ y ∈ left, g < y.f1 - y.f0 + 1) (hs : smalls g G + left.length = G.length) :
    ∀ (n i : Nat) (small : Nat), i + n = G.length → small + smalls g (G.drop i) = smalls g G → Ev (fun k => laws_FnIndexesMoved.l2 k g G T B s L left (small : Int) G (G.length : Int) (i : Int) a b u v) true := by
  intro n
  induction n with
  | zero =>
    intro i small hi hsm
    rw [List.drop_of_length_le (by omega), smalls] at hsm
    refine Ev_step (fun k => by rw [laws_FnIndexesMoved.l2, if_neg (by omega)]) ?_
    exact l3_ev hS hL g small G left hv hn hb (by rw [w64 (by omega) (by omega)]; omega) left.length 0 (Nat.zero_add _)
  | succ n ih =>
    intro i small hi hsm
    have h : i < G.length := by omega
    have v1 := hG _ (List.getElem_mem h)
    have e1 := rdT_mem G i h
    have w1 : wrap64 (G[i].f1 - G[i].f0) = G[i].f1 - G[i].f0 := w64 (by omega) (by omega)
    have w2 : wrap64 (G[i].f1 - G[i].f0 + 1) = G[i].f1 - G[i].f0 + 1 := w64 (by omega) (by omega)
    rw [List.drop_eq_getElem_cons h, smalls] at hsm
    by_cases c : G[i].f1 - G[i].f0 + 1 ≤ g; rotate_left
    · rw [if_neg c] at hsm
      refine Ev_step (fun k => by rw [laws_FnIndexesMoved.l2, if_pos (by omega), if_pos (by omega), if_pos (by omega), e1, w1, w2, if_neg c, nextI i (by omega)]) (ih (i + 1) small (by omega) (by omega))
    rw [if_pos c] at hsm
    refine Ev_step (fun k => by rw [laws_FnIndexesMoved.l2, if_pos (by omega), if_pos (by omega), if_pos (by omega), e1, w1, w2, if_pos c, nextI i (by omega), nextI small (by omega)]) (ih (i + 1) (small + 1) (by omega) (by omega))
theorem are_ev {l : List RG} (h : areB l = true) : Ev (fun k => impl_AreRanges.f k l) true := by
  have := (areR_ev l (by have := (areB_iff.1 h).2; omega)).2
  rw [h] at this
  exact this
theorem j13_ev {a b : Int} {T : ByteArray} {B : Bool} (hS : Sh a b (T, B)) {s : ByteArray} {u v : Int} {L : Bool} (hL : Lg s.data.toList (u, v, L)) (g : Int) (X : List RG) (hX : X.length ≤ 20) :
    Ev (fun k => laws_FnIndexesMoved.j13 k X g (if (areB X && inB g 0 2000) = true then joinA g X else []) (areB X && inB g 0 2000) (if areB X = true then gapsA X else []) T B s L a b u v) true := by
  cases hc : (areB X && inB g 0 2000) with
  | false =>
    refine Ev_step (fun k => by rw [laws_FnIndexesMoved.j13]) ?_
    exact Ev_neg Bool.false_ne_true (j17_ev hS hL)
  | true =>
    rw [Bool.and_eq_true] at hc
    obtain ⟨ha, hg⟩ := hc
    rw [if_pos rfl, if_pos ha]
    obtain ⟨gX, nX⟩ := areB_iff.1 ha
    have gj : GoodF 1 (joinA g X) ∧ (joinA g X).length ≤ X.length := by
      cases X with
      | nil => exact ⟨trivial, Nat.le_refl _⟩
      | cons x l => exact ⟨joinF_good g gX, joinF_len g l x⟩
    have hJ : areB (joinA g X) = true := areB_iff.2 ⟨gj.1, by omega⟩
    have gG := gapsA_good gX
    have lG := gapsA_len X
    have gJ := gapsA_good gj.1
    have lJ := gapsA_len (joinA g X)
    have hfil : gapsA (joinA g X) = (gapsA X).filter (fun y => decide (g < y.f1 - y.f0 + 1)) := by
      cases X with
      | nil => rfl
      | cons x l => exact gapsA_join g l x
    obtain ⟨e1, _⟩ := gaps_sem (joinA g X) (by omega)
    rw [hJ, if_pos rfl] at e1
    refine Ev_step (fun k => by rw [laws_FnIndexesMoved.j13]) (Ev_pos rfl (Ev_bind (are_ev hJ) (Ev_pos rfl ?_)))
    rw [decide_eq_false (by omega)]
    refine Ev_step (fun k => by rw [laws_FnIndexesMoved.j14]) (Ev_neg Bool.false_ne_true (Ev_bind e1 (Ev_pos rfl ?_)))
    refine l2_ev hS hL g (gapsA X) (gapsA (joinA g X)) (good_valid gG) (by omega) (good_valid gJ) (by omega) (fun y hy => ?_) ?_ (gapsA X).length 0 0 (Nat.zero_add _) (Nat.zero_add _)
    · rw [hfil] at hy
      exact of_decide_eq_true (List.mem_filter.1 hy).2
    · rw [hfil]
      exact smalls_two g (gapsA X)
theorem l1_ev {X : List RG} (hX : X.length ≤ 20) {g : Int} {J : List RG} {jo : Bool} {G : List RG} {c : Bool} {T : ByteArray} {B : Bool} {s : ByteArray} {L : Bool} {x y a b u v : Int} (hc : c = true → Valid X ∧ 1 ≤ x ∧ x ≤ y ∧ y ≤ 2000 ∧ ∀ r ∈ X, r.f1 - r.f0 ≤ y - x)
    (nx : Ev (fun k => laws_FnIndexesMoved.j13 k X g J jo G T B s L a b u v) true) : ∀ n i : Nat, i + n = X.length → Ev (fun k => laws_FnIndexesMoved.l1 k X g J jo G c T B s L X (X.length : Int) (i : Int) x y a b u v) true := by
  intro n
  induction n with
  | zero =>
    intro i hi
    exact Ev_step (fun k => by rw [laws_FnIndexesMoved.l1, if_neg (by omega)]) nx
  | succ n ih =>
    intro i hi
    have h : i < X.length := by omega
    have e1 := rdT_mem X i h
    cases c with
    | false => exact Ev_step (fun k => by rw [laws_FnIndexesMoved.l1, if_pos (by omega), if_pos (by omega), if_pos (by omega), if_neg Bool.false_ne_true, nextI i (by omega)]) (ih (i + 1) (by omega))
    | true =>
      obtain ⟨hv, x1, x2, x3, hm⟩ := hc rfl
      have v1 := hv _ (List.getElem_mem h)
      have m1 := hm _ (List.getElem_mem h)
      have w1 : wrap64 (X[i].f1 - X[i].f0) = X[i].f1 - X[i].f0 := w64 (by omega) (by omega)
      have w2 : wrap64 (y - x) = y - x := w64 (by omega) (by omega)
      exact Ev_step (fun k => by rw [laws_FnIndexesMoved.l1, if_pos (by omega), if_pos (by omega), if_pos (by omega), if_pos rfl, e1, w1, w2, if_neg (by omega), nextI i (by omega)]) (ih (i + 1) (by omega))
theorem last_at : ∀ (l : List RG) (r : RG), (rd_T100 (r :: l) (l.length : Int)).f1 = lastF r.f1 l := by
  intro l
  induction l with
  | nil => intro r; rfl
  | cons q l ih =>
    intro r
    rw [lastF, ← ih q, rdT_mem _ _ (by simp), rdT_mem _ _ (by simp)]
    rfl
theorem j9_ev {X : List RG} (hX : X.length ≤ 20) {g : Int} {J : List RG} {jo : Bool} {c : Bool} {T : ByteArray} {B : Bool} {s : ByteArray} {L : Bool} {x y a b u v : Int} (hc : c = true → Valid X ∧ 1 ≤ x ∧ x ≤ y ∧ y ≤ 2000 ∧ ∀ r ∈ X, r.f1 - r.f0 ≤ y - x)
    (nx : Ev (fun k => laws_FnIndexesMoved.j13 k X g J jo (if areB X = true then gapsA X else []) T B s L a b u v) true) : Ev (fun k => laws_FnIndexesMoved.j9 k X g J jo (if areB X = true then gapsA X else []) (areB X) c T B s L false x y a b u v) true := by
  refine Ev_step (fun k => by rw [laws_FnIndexesMoved.j9]) (Ev_neg Bool.false_ne_true ?_)
  cases ha : areB X with
  | false =>
    rw [ha] at nx
    exact Ev_neg Bool.false_ne_true nx
  | true =>
    rw [ha] at nx
    rw [if_pos rfl] at nx ⊢
    obtain ⟨gX, nX⟩ := areB_iff.1 ha
    have gG := gapsA_good gX
    have lG := gapsA_len X
    have hG : areB (gapsA X) = true := areB_iff.2 ⟨gG, by omega⟩
    obtain ⟨r, gr, er, eu⟩ := unionI_ev ha hG
    have j11 : Ev (fun k => laws_FnIndexesMoved.j11 k X g J jo (gapsA X) c T B s L false x y a b u v) true := by
      refine Ev_step (fun k => by rw [laws_FnIndexesMoved.j11]) (Ev_neg Bool.false_ne_true ?_)
      exact l1_ev hX hc nx X.length 0 (Nat.zero_add _)
    have j10 : Ev (fun k => laws_FnIndexesMoved.j10 k X g J jo (gapsA X) c T B s L false x y a b u v) true := by
      refine Ev_step (fun k => by rw [laws_FnIndexesMoved.j10]) (Ev_neg Bool.false_ne_true ?_)
      cases X with
      | nil =>
        have hr : r = [] := good_one gr (show GoodF 1 [] from trivial) (fun p => by rw [er]; rfl)
        rw [hr, show few [] = ([], true) from rfl] at eu
        exact Ev_bind eu (Ev_pos rfl (Ev_neg (by decide) j11))
      | cons q l =>
        have hr := gapsA_all gX gr er
        rw [hr, show few [⟨q.f0, lastF q.f1 l⟩] = ([⟨q.f0, lastF q.f1 l⟩], true) from rfl] at eu
        have hlc : ((q :: l).length : Int) = l.length + 1 := by rw [List.length_cons]; omega
        have w : wrap64 (((q :: l).length : Int) - 1) = (l.length : Int) := by rw [hlc, w64 (by omega) (by omega)]; omega
        refine Ev_bind eu (Ev_pos rfl (Ev_pos (by omega) (Ev_pos rfl (Ev_pos (show (0 : Int) < ((1 : Nat) : Int) by decide) (Ev_pos (by omega) (Ev_pos rfl (Ev_pos (by rw [w]; omega) (Ev_pos (by rw [w]; omega) ?_))))))))
        refine Ev.congr (fun k => ?_) j11
        rw [w, last_at]
        show laws_FnIndexesMoved.j11 k (q :: l) g J jo (gapsA (q :: l)) c T B s L (lastF q.f1 l != lastF q.f1 l) x y a b u v = _
        rw [bne_self_eq_false]
    refine Ev_pos rfl (Ev_bind (are_ev hG) (Ev_pos rfl ?_))
    by_cases h0 : (X.length : Int) > 0; rotate_left
    · exact Ev_neg h0 j10
    refine Ev_pos h0 ?_
    have hf : (((gapsA X).length : Int) != (wrap64 ((X.length : Int) - 1))) = false := by
      rw [w64 (by omega) (by omega), bne_eq_false_iff_eq]
      omega
    rw [hf]
    exact j10
theorem j8_ev {c : List Int} (hc : Bytes c) : Ev (fun k => laws_FnIndexesMoved.j8 k c) true := by
  obtain ⟨X, g, d1, hX⟩ := drawJoin_ok hc
  obtain ⟨p1, p2⟩ := join_sem X (by omega) g
  obtain ⟨q1, q2⟩ := gaps_sem X (by omega)
  obtain ⟨x, y, o, r1, r2, ho, hr⟩ := long_sem X (by omega)
  obtain ⟨a, b, d2⟩ := drawShort_ok hc
  obtain ⟨⟨T, B⟩, s1, s2, hS⟩ := shortR_ev a b
  obtain ⟨s, d3, hs⟩ := drawLong_ok hc
  obtain ⟨⟨u, v, L⟩, t1, t2, hL⟩ := longR_ev s hs
  have lJ : (if (areB X && inB g 0 2000) = true then joinA g X else []).length ≤ 1048576 := by
    split
    · cases X with
      | nil => exact Nat.zero_le _
      | cons z l => have := joinF_len g l z; rw [List.length_cons] at hX; show (joinF g z l).length ≤ _; omega
    · exact Nat.zero_le _
  have lG : (if areB X = true then gapsA X else []).length ≤ 1048576 := by
    split
    · have := gapsA_len X; omega
    · exact Nat.zero_le _
  have nx := j9_ev (X := X) (by omega) (g := g) (J := if (areB X && inB g 0 2000) = true then joinA g X else []) (jo := areB X && inB g 0 2000) (c := o) (x := x) (y := y) hr (j13_ev hS hL g X (by omega))
  refine Ev_step (fun k => by rw [laws_FnIndexesMoved.j8]) ?_
  refine Ev_bind d1 (Ev_bind p1 (Ev_bind p2 (Ev_bind q1 (Ev_bind q2 (Ev_bind r1 (Ev_bind r2 (Ev_some d2 (Ev_bind s1 (Ev_bind s2 (Ev_bind d3 (Ev_bind t1 (Ev_bind t2 ?_))))))))))))
  refine Ev_neg (bne_self _) (Ev_bind (fRanges_ev _ lJ) (Ev_pos rfl (Ev_neg (bne_self _) (Ev_bind (fRanges_ev _ lG) (Ev_pos rfl (Ev_neg (bne_self _) (Ev_neg (by simp) (Ev_neg (bne_self _) (Ev_pos rfl (Ev_neg (bne_self _) (Ev_neg (by simp) ?_)))))))))))
  subst ho
  cases ha : areB X with
  | false =>
    rw [ha] at nx
    exact Ev_neg (by simp) (Ev_neg Bool.false_ne_true nx)
  | true =>
    rw [ha] at nx
    have fin : ((true && decide ((X.length : Int) > 0)) != decide ((X.length : Int) > 0)) = false := by cases decide ((X.length : Int) > 0) <;> rfl
    by_cases hi : (true && inB g 0 2000) = true; rotate_left
    · refine Ev_neg hi (Ev_pos rfl ?_)
      refine Ev.congr (fun k => ?_) nx
      show laws_FnIndexesMoved.j9 k X g _ _ _ _ _ T B s L ((true && decide ((X.length : Int) > 0)) != decide ((X.length : Int) > 0)) x y a b u v = _
      rw [fin]
    refine Ev_pos hi (Ev_pos rfl ?_)
    refine Ev.congr (fun k => ?_) nx
    show laws_FnIndexesMoved.j9 k X g _ _ _ _ _ T B s L ((true && decide ((X.length : Int) > 0)) != decide ((X.length : Int) > 0)) x y a b u v = _
    rw [fin]
end Go.Proofs.YtppbpefehpbejaaDoor.P
end

section
set_option linter.unusedVariables false
namespace Go.Proofs.YtppbpefehpbejaaDoor.Pure
open Go.RowKit Go.Proofs.YtppbpefehpbejaaDoorW.PrintWords Go.Proofs.YtppbpefehpbejaaDoorW.PrintLast Go.Proofs.YtppbpefehpbejaaDoorW.PrintMore Go.Proofs.YtppbpefehpbejaaDoor.P Go.Proofs.YtppbpefehpbejaaDoor.Base Go.Proofs.YtppbpefehpbejaaDoor.Runs

theorem few_in {r : List RG} (h : r.length ≤ 20) : few r = (r, true) := by unfold few; rw [if_neg (by omega)]
theorem few_true {r m : List RG} (h : few r = (m, true)) : m = r ∧ r.length ≤ 20 := by
  unfold few at h
  by_cases hl : (r.length : Int) > 20; rotate_left
  · rw [if_neg hl] at h
    exact ⟨(Prod.mk.inj h).1.symm, by omega⟩
  rw [if_pos hl] at h
  cases (Prod.mk.inj h).2
theorem l0_ev {c : List Int} (hc : Bytes c) {a : List RG} (ha : areB a = true) {p m : Int} (hp : 1 ≤ p ∧ p ≤ 2000) (hm : Near a p m) (F : Nat) (hF : (F : Int) = (m - p).natAbs) (h40 : F ≤ 40) :
    ∀ (n : Nat) (q : Int), q + n = p + F + 1 → p - F ≤ q → Ev (fun k => laws_FnIndexesMoved.l0 k c a p m (F : Int) q) true := by
  have w : wrap64 (p + (F : Int)) = p + F := w64 (by omega) (by omega)
  have no : ∀ q : Int, Ev (fun k => laws_FnIndexesMoved.j6 k c a p m (F : Int) q false) true := fun q => by
    refine Ev_step (fun k => by rw [laws_FnIndexesMoved.j6]) ?_
    exact Ev_neg Bool.false_ne_true (j8_ev hc)
  intro n
  induction n with
  | zero =>
    intro q hq h1
    refine Ev_step (fun k => by rw [laws_FnIndexesMoved.l0, w]) ?_
    exact Ev_neg (by omega) (no q)
  | succ n ih =>
    intro q hq h1
    have w1 : wrap64 (q + 1) = q + 1 := w64 (by omega) (by omega)
    have nx := ih (q + 1) (by omega) (by omega)
    rw [← w1] at nx
    refine Ev_step (fun k => by rw [laws_FnIndexesMoved.l0, w]) ?_
    refine Ev_pos (by omega) ?_
    rw [decide_eq_true (show (F : Int) ≤ 40 by omega)]
    refine Ev_step (fun k => by rw [laws_FnIndexesMoved.j6]) ?_
    refine Ev_pos rfl ?_
    have skip : Ev (fun k => laws_FnIndexesMoved.j7 k c a p m (F : Int) q true) true := by
      refine Ev_step (fun k => by rw [laws_FnIndexesMoved.j7]) ?_
      exact Ev_pos rfl nx
    by_cases c1 : q < 1
    · exact Ev_pos c1 skip
    refine Ev_neg c1 ?_
    by_cases c2 : q > 2000
    · rw [decide_eq_true c2]
      exact skip
    rw [decide_eq_false c2]
    refine Ev_step (fun k => by rw [laws_FnIndexesMoved.j7]) ?_
    refine Ev_neg Bool.false_ne_true (Ev_bind (has_sem a ha q (by omega) (by omega)) (Ev_pos rfl ?_))
    cases hq2 : has a q with
    | false => exact Ev_neg Bool.false_ne_true nx
    | true =>
      have hn := hm.2 q hq2
      refine Ev_pos rfl ?_
      by_cases c3 : q = m
      · exact Ev_pos c3 nx
      refine Ev_neg c3 ?_
      refine Ev_pos (by rw [w]; omega) (Ev_neg (by omega) nx)
theorem j2_ev {c : List Int} (hc : Bytes c) {a : List RG} {p m : Int} {t h : Bool} (ht : t = true → areB a = true ∧ (1 ≤ p ∧ p ≤ 2000) ∧ Near a p m ∧ h = has a p) : Ev (fun k => laws_FnIndexesMoved.j2 k c a p m t h) true := by
  refine Ev_step (fun k => by rw [laws_FnIndexesMoved.j2]) ?_
  cases t with
  | false => exact Ev_neg Bool.false_ne_true (j8_ev hc)
  | true =>
    obtain ⟨ha, hp, hm, rfl⟩ := ht rfl
    have gl := (areB_iff.1 ha).1
    have m1 : 1 ≤ m := by
      rcases Int.lt_or_le m 1 with h | h
      · have := hm.1; rw [has_below gl h] at this; cases this
      · exact h
    have m2 : m ≤ 2000 := by
      rcases Int.lt_or_le 2000 m with h | h
      · have := hm.1; rw [has_above gl h] at this; cases this
      · exact h
    obtain ⟨F, hF⟩ : ∃ F : Nat, F = (m - p).natAbs := ⟨_, rfl⟩
    have w1 : wrap64 (m - p) = m - p := w64 (by omega) (by omega)
    have w2 : wrap64 (-(m - p)) = -(m - p) := w64 (by omega) (by omega)
    have w3 : wrap64 (p - (F : Int)) = p - F := w64 (by omega) (by omega)
    have hin := has_sem a ha m m1 m2
    rw [hm.1] at hin
    have hfl : (has a p != ((F : Int) == 0)) = false := by
      cases hh : has a p with
      | true =>
        have := (hm.2 p hh).1
        rw [show ((F : Int) == 0) = true from beq_iff_eq.2 (by omega)]
        rfl
      | false =>
        have : F ≠ 0 := fun e => by
          have e2 : m = p := by omega
          have := hm.1
          rw [e2, hh] at this
          cases this
        rw [show ((F : Int) == 0) = false from beq_eq_false_iff_ne.2 (by omega)]
        rfl
    have nx : Ev (fun k => laws_FnIndexesMoved.j3 k c a p m (has a p) true true (F : Int)) true := by
      refine Ev_step (fun k => by rw [laws_FnIndexesMoved.j3]) ?_
      refine Ev_pos rfl (Ev_pos rfl ?_)
      rw [hfl]
      refine Ev_step (fun k => by rw [laws_FnIndexesMoved.j4]) ?_
      refine Ev_neg Bool.false_ne_true ?_
      rw [w3]
      by_cases h40 : F ≤ 40
      · exact l0_ev hc ha hp hm F (by omega) h40 (2 * F + 1) (p - F) (by omega) (Int.le_refl _)
      have w : wrap64 (p + (F : Int)) = p + F := w64 (by omega) (by omega)
      refine Ev_step (fun k => by rw [laws_FnIndexesMoved.l0, w]) ?_
      refine Ev_pos (by omega) ?_
      rw [decide_eq_false (show ¬ (F : Int) ≤ 40 by omega)]
      refine Ev_step (fun k => by rw [laws_FnIndexesMoved.j6]) ?_
      exact Ev_neg Bool.false_ne_true (j8_ev hc)
    refine Ev_pos rfl (Ev_bind hin ?_)
    by_cases hneg : m - p < 0; rotate_left
    · refine Ev_neg (by rw [w1]; exact hneg) ?_
      rw [w1, show m - p = (F : Int) by omega]
      exact nx
    refine Ev_pos (by rw [w1]; exact hneg) ?_
    rw [w1, w2, show -(m - p) = (F : Int) by omega]
    exact nx
theorem size_le {l : List RG} (h : GoodF 1 l) : 0 ≤ size l ∧ size l ≤ 2000 := by
  have e := size_cnt h (show (1 : Int) + (2000 : Nat) = 2001 by omega)
  have c := cnt_max (has l) 2000 1
  omega
theorem j1_ev {c : List Int} {a t : List RG} {p m near : Int} {one th h : Bool} (ho : one = true → areB a = true ∧ areB t = true ∧ (1 ≤ p ∧ p ≤ 2000) ∧ (0 ≤ m ∧ m ≤ 2000) ∧ ∀ q, has t q = if q < p then has a q else has a (q + m))
    (nx : Ev (fun k => laws_FnIndexesMoved.j2 k c a p near th h) true) : Ev (fun k => laws_FnIndexesMoved.j1 k c a p m t one near th h) true := by
  refine Ev_step (fun k => by rw [laws_FnIndexesMoved.j1]) ?_
  cases one with
  | false => exact Ev_neg Bool.false_ne_true nx
  | true =>
    obtain ⟨ha, ht, hp, hm, e⟩ := ho rfl
    have ga := (areB_iff.1 ha).1
    have gt := (areB_iff.1 ht).1
    obtain ⟨s1, s2⟩ := take_size ga gt hp.1 hp.2 hm.1 hm.2 e
    have l1 := size_le ga
    have l2 := size_le gt
    have w : wrap64 (size a - size t) = size a - size t := w64 (by omega) (by omega)
    refine Ev_pos rfl (Ev_bind (countI_ev ha) (Ev_bind (countI_ev ht) (Ev_pos rfl (Ev_pos rfl (Ev_neg (show ¬ size t > size a by omega) (Ev_neg (by rw [w]; omega) ?_))))))
    by_cases h0 : m = 0; rotate_left
    · exact Ev_neg h0 nx
    subst h0
    have : t = a := take_none ga gt e
    subst this
    exact Ev_pos rfl (Ev_bind (fRanges_ev t (by have := (areB_iff.1 ht).2; omega)) (Ev_pos rfl nx))
theorem j0_ev {c : List Int} {a put t : List RG} {p m near : Int} {ok one th h : Bool} (hk : ok = true → movB a p m = true ∧ areB put = true ∧ ∀ q, has put q = if q < p then has a q else if q < p + m then false else has a (q - m))
    (nx : Ev (fun k => laws_FnIndexesMoved.j1 k c a p m t one near th h) true) : Ev (fun k => laws_FnIndexesMoved.j0 k c a p m put ok t one near th h false) true := by
  refine Ev_step (fun k => by rw [laws_FnIndexesMoved.j0]) ?_
  refine Ev_neg Bool.false_ne_true ?_
  cases ok with
  | false => exact Ev_neg Bool.false_ne_true nx
  | true =>
    obtain ⟨hmv, hput, e⟩ := hk rfl
    have hmv2 := hmv
    unfold movB at hmv2
    rw [Bool.and_eq_true, Bool.and_eq_true] at hmv2
    obtain ⟨⟨ha, hp⟩, hm⟩ := hmv2
    have hp' := inB_of.1 hp
    have hm' := inB_of.1 hm
    have ga := (areB_iff.1 ha).1
    have gp := (areB_iff.1 hput).1
    obtain ⟨b, gb, eb, _, ib⟩ := take_sem put p m (by unfold movB; rw [hput, hp, hm]; rfl)
    have hba : b = a := put_take ga gb hm'.1 e eb
    subst hba
    rw [few_in (areB_iff.1 ha).2] at ib
    have sz := put_size ga gp hp'.1 hp'.2 hm'.1 hm'.2 e
    refine Ev_pos rfl (Ev_bind ib (Ev_bind (countI_ev ha) (Ev_bind (countI_ev hput) (Ev_pos rfl (Ev_bind (fRanges_ev b (by have := (areB_iff.1 ha).2; omega)) (Ev_pos rfl (Ev_pos rfl (Ev_pos rfl (Ev_pos sz.symm nx)))))))))
theorem f_ev {c d : List Int} (hB : laws_big.f c d = some false) {a put t : List RG} {p m near : Int} {ok one th hs five : Bool} (e0 : Ev (fun k => spec_DrawPutPages.f k c) (a, p, m))
    (u1 : Ev (fun k => impl_PutPages.f k a p m) (put, ok)) (u2 : Ev (fun k => spec_PutPages.f k a p m) (put, ok)) (t1 : Ev (fun k => impl_TakePages.f k a p m) (t, one)) (t2 : Ev (fun k => spec_TakePages.f k a p m) (t, one))
    (n1 : Ev (fun k => impl_NearestIndexed.f k a p) (near, th)) (n2 : Ev (fun k => spec_NearestIndexed.f k a p) (near, th)) (h1 : Ev (fun k => impl_HasIndexed.f k a p) (hs, five)) (h2 : Ev (fun k => spec_HasIndexed.f k a p) (hs, five))
    (hu : put.length ≤ 1048576) (ht : t.length ≤ 1048576) (hth : th = (five && decide ((a.length : Int) > 0))) (hoo : ok = true → one = true) (hof : one = true → five = true)
    (nx : Ev (fun k => laws_FnIndexesMoved.j0 k d a p m put ok t one near th hs false) true) : Ev (fun k => laws_FnIndexesMoved.f k c d) true := by
  simp only [laws_FnIndexesMoved.f]
  refine Ev_some hB (Ev_neg Bool.false_ne_true (Ev_bind e0 (Ev_bind u1 (Ev_bind u2 (Ev_bind t1 (Ev_bind t2 (Ev_bind n1 (Ev_bind n2 (Ev_bind h1 (Ev_bind h2 ?_))))))))))
  refine Ev_neg (bne_self _) (Ev_bind (fRanges_ev put hu) (Ev_pos rfl (Ev_neg (bne_self _) (Ev_bind (fRanges_ev t ht) (Ev_pos rfl (Ev_neg (bne_self _) (Ev_pos rfl (Ev_neg (bne_self _) (Ev_neg (bne_self _) ?_)))))))))
  subst hth
  cases five with
  | true =>
    refine Ev_pos rfl (Ev_neg (by rw [Bool.true_and]; exact bne_self _) ?_)
    cases ok with
    | true =>
      obtain rfl := hoo rfl
      exact Ev_pos rfl (Ev_pos rfl nx)
    | false =>
      cases one with
      | true => exact Ev_neg Bool.false_ne_true (Ev_pos rfl nx)
      | false => exact Ev_neg Bool.false_ne_true (Ev_neg Bool.false_ne_true nx)
  | false =>
    have ho : one = false := by
      cases one with
      | false => rfl
      | true => exact (hof rfl).symm
    subst ho
    have hk : ok = false := by
      cases ok with
      | false => rfl
      | true => exact (hoo rfl).symm
    subst hk
    exact Ev_neg Bool.false_ne_true (Ev_neg (by simp) (Ev_neg Bool.false_ne_true (Ev_neg Bool.false_ne_true nx)))
theorem FnIndexesMoved : laws_FnIndexesMoved.Pure := by
  intro l0 l1 ⟨hm0, hw0⟩ ⟨hm1, hw1⟩
  refine Ev.rounds (g := fun k => laws_FnIndexesMoved.f k l0 l1) ?_
  have hbg : ∃ B, laws_big.f l0 l1 = some B := by
    unfold laws_big.f
    split
    · exact ⟨_, rfl⟩
    · exact ⟨_, rfl⟩
  obtain ⟨B, hB⟩ := hbg
  cases B with
  | true =>
    simp only [laws_FnIndexesMoved.f]
    exact Ev_some hB (Ev_pos rfl (Ev.now _))
  | false =>
    obtain ⟨a, p, m, e0, hal⟩ := drawPut_ok (Bytes.of hw0)
    have hd := Bytes.of hw1
    obtain ⟨near, th, n1, n2, hth, hnear⟩ := near_sem a (by omega) p
    obtain ⟨h1, h2⟩ := has_both a (by omega) p
    have hh : (if (areB a && inB p 1 2000) = true then (has a p, true) else (false, false)) = ((if (areB a && inB p 1 2000) = true then has a p else false), (areB a && inB p 1 2000)) := by cases (areB a && inB p 1 2000) <;> rfl
    rw [hh] at h1 h2
    have ht2 : th = true → areB a = true ∧ (1 ≤ p ∧ p ≤ 2000) ∧ Near a p near ∧ (if (areB a && inB p 1 2000) = true then has a p else false) = has a p := fun e => by
      have e2 := hth
      rw [e] at e2
      have e3 := e2.symm
      rw [Bool.and_eq_true, Bool.and_eq_true] at e3
      refine ⟨e3.1.1, inB_of.1 e3.1.2, hnear e, ?_⟩
      rw [e3.1.1, e3.1.2]
      rfl
    have nx2 := j2_ev hd (a := a) (p := p) (m := near) ht2
    cases hmv : movB a p m with
    | false =>
      obtain ⟨t2, t1, u2, u1⟩ := move_no a p m (by omega) hmv
      refine f_ev hB e0 u1 u2 t1 t2 n1 n2 h1 h2 (Nat.zero_le _) (Nat.zero_le _) hth (fun h => h) (fun h => by cases h) ?_
      exact j0_ev (fun h => by cases h) (j1_ev (fun h => by cases h) nx2)
    | true =>
      have hmv2 := hmv
      unfold movB at hmv2
      rw [Bool.and_eq_true, Bool.and_eq_true] at hmv2
      obtain ⟨⟨ha, hp⟩, hm⟩ := hmv2
      have hp' := inB_of.1 hp
      have hm' := inB_of.1 hm
      have ga := (areB_iff.1 ha).1
      obtain ⟨t, gt, et, t2, t1⟩ := take_sem a p m hmv
      have lt := take_len ga gt hp'.1 hp'.2 hm'.1 hm'.2 et
      have hat : areB t = true := areB_iff.2 ⟨gt, by omega⟩
      rw [few_in (by omega)] at t1 t2
      have nx1 := j1_ev (c := l1) (m := m) (one := true) (fun _ => ⟨ha, hat, hp', hm', et⟩) nx2
      obtain ⟨⟨put, ok⟩, hr, u2, u1⟩ := put_sem a p m hmv
      have hk : put.length ≤ 20 ∧ (ok = true → movB a p m = true ∧ areB put = true ∧ ∀ q, has put q = if q < p then has a q else if q < p + m then false else has a (q - m)) := by
        rcases hr with h | ⟨_, w, gw, ew, h⟩
        · obtain ⟨rfl, rfl⟩ := Prod.mk.inj h
          exact ⟨Nat.zero_le _, fun h => by cases h⟩
        · cases ok with
          | true =>
            obtain ⟨rfl, hl⟩ := few_true h.symm
            exact ⟨hl, fun _ => ⟨hmv, areB_iff.2 ⟨gw, hl⟩, ew⟩⟩
          | false =>
            unfold few at h
            by_cases hl : (w.length : Int) > 20; rotate_left
            · rw [if_neg hl] at h
              cases (Prod.mk.inj h).2
            rw [if_pos hl] at h
            obtain ⟨rfl, _⟩ := Prod.mk.inj h
            exact ⟨Nat.zero_le _, fun h => by cases h⟩
      exact f_ev hB e0 u1 u2 t1 t2 n1 n2 h1 h2 (by omega) (by omega) hth (fun _ => rfl) (fun _ => by rw [ha, hp]; rfl) (j0_ev hk.2 nx1)
end Go.Proofs.YtppbpefehpbejaaDoor.Pure
end

section
namespace Go.Proofs.YtppbpefehpbejaaDoor.Open
open Go.ChangeShapes Go.WideShapes Go.ChangeAt Go.RowKit Go.Proofs.YtppbpefehpbejaaDoorW.PrintWords
set_option linter.unusedVariables false

structure Opens {α : Type} (P : Program) (t : TypeId) (d : Kd α) (fit : α → Prop) : Prop where
  out : ∀ {H : Type} (enc : TypeId × Value → H) (w : World) (fuel : Nat) (cs : List Value) (x : DataW H × List MemPlace), DataW.trod enc P w 0 (fun _ => true) true fuel t cs = some x → ∃ y, d.K w y cs ∧ fit y
theorem opens_int {P : Program} {t : TypeId} {k : IntKind} (ht : P.underlying t = some (.int k)) : Opens P t (Kd.int k) (fun x => (Lit.int k x).wf = true) := by
  refine ⟨fun {H} enc w fuel cs x h => ?_⟩
  obtain ⟨n, rfl, _, hw⟩ := DataW.trod_int ht h
  exact ⟨n, rfl, hw⟩
theorem cells_at {w : World} {base n : Nat} {a : Addr} {cs : List Value} (h : w.cells? base a n = some cs) : cs.length = n ∧ ∀ i u, cs[i]? = some u → w.cell? (a.add i) = some u := by
  unfold World.cells? at h
  split at h
  · have hl := mapM_some_length h
    rw [List.length_range] at hl
    refine ⟨hl, fun i u hu => ?_⟩
    have hi : i < n := by have := (List.getElem?_eq_some_iff.1 hu).1; omega
    have := mapM_some_get h i i (by simp [hi])
    rw [this, hu]
  · cases h

theorem list_of {α : Type} {n : Nat} {p : Nat → α → Prop} (h : ∀ i, i < n → ∃ x, p i x) : ∃ xs : List α, xs.length = n ∧ ∀ i x, xs[i]? = some x → p i x := by
  induction n with
  | zero => exact ⟨[], rfl, by simp⟩
  | succ n ih =>
    obtain ⟨xs, hl, hx⟩ := ih (fun i hi => h i (by omega))
    obtain ⟨y, hy⟩ := h n (by omega)
    refine ⟨xs ++ [y], by simp [hl], fun i x hi => ?_⟩
    rcases Nat.lt_trichotomy i n with hlt | rfl | hgt
    · rw [List.getElem?_append_left (by omega)] at hi
      exact hx i x hi
    · rw [List.getElem?_append_right (by omega), hl] at hi
      simp at hi
      exact hi ▸ hy
    · rw [List.getElem?_eq_none (by simp; omega)] at hi
      cases hi

theorem opens_slice {α : Type} {P : Program} {t e : TypeId} {d : Kd α} {fit : α → Prop} (ht : P.underlying t = some (.slice e)) (hc : P.cellsOf e = d.sz) (h : Opens P e d fit) :
    Opens P t (Kd.slice e d) (fun xs => xs.length ≤ maxLen ∧ ∀ x, x ∈ xs → fit x) := by
  refine ⟨fun {H} enc w fuel cs x hx => ?_⟩
  rcases Go.Deep.open_slice ht hx with ⟨rfl, _⟩ | ⟨a, len, cap, m, n, D, Pl, rfl, _, hl, hm, hmm, _, hel⟩
  · exact ⟨[], ⟨none, 0, rfl, Nat.le_refl _, rfl, by simp, fun h0 => absurd h0 (by simp)⟩, by simp, by simp⟩
  · have hm' : m = cap := by simpa using hmm
    subst hm'
    obtain ⟨xs, hlen, hxs⟩ := list_of (n := len) (p := fun i y => ∃ c, c.length = d.sz ∧ d.K w y c ∧ fit y ∧ ∀ j u, c[j]? = some u → w.cell? (a.add (i * d.sz + j)) = some u) (fun i hi => by
      obtain ⟨cs', hcs, htr⟩ := hel i (by omega)
      obtain ⟨y, hK, hf⟩ := h.out enc w n cs' _ htr
      obtain ⟨hlc, hcell⟩ := cells_at hcs
      refine ⟨y, cs', d.K_len hK, hK, hf, fun j u hu => ?_⟩
      have := hcell j u hu
      rw [Go.Deep.add_add, hc] at this
      exact this)
    subst hlen
    refine ⟨xs, ⟨some a, m, rfl, hl, rfl, by unfold maxLen at hm; omega, fun _ => ⟨a, rfl, fun j p hj => ?_⟩⟩, by omega, fun x hmem => ?_⟩
    · obtain ⟨c, h1, h2, _, h3⟩ := hxs j p hj
      exact ⟨c, h1, h2, h3⟩
    · obtain ⟨i, hi, rfl⟩ := List.mem_iff_getElem.1 hmem
      obtain ⟨_, _, _, hf, _⟩ := hxs i _ (List.getElem?_eq_getElem hi)
      exact hf

theorem arg_slice {α : Type} {P : Program} {t e : TypeId} {d : Kd α} {fit : List α → Prop} {H : Type} {enc : TypeId × Value → H} {w : World} {v : Value} {x : DataW H} {ps : List MemPlace} (ho : Opens P t (Kd.slice e d) fit) (h : DataW.Trod enc P w 0 (fun _ => true) true t v x ps) (hv : ∃ a n c, v = .slice a n c) :
    ∃ (A : Option Addr) (c : Nat) (l : List α), v = .slice A l.length c ∧ Kd.C d w A l.length l ∧ l.length ≤ c ∧ fit l := by
  obtain ⟨fuel, hf⟩ := h
  obtain ⟨a, n, c, rfl⟩ := hv
  obtain ⟨l, ⟨A, c', hcs, hlc, hC⟩, hfit⟩ := ho.out enc w fuel _ _ hf
  simp [Value.cells] at hcs
  obtain ⟨rfl, rfl, rfl⟩ := hcs
  exact ⟨a, c, l, rfl, hC, hlc, hfit⟩
end Go.Proofs.YtppbpefehpbejaaDoor.Open
end
