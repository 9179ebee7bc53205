/- The law of HarderPuzzle answers true at all clues; no condition. -/
import Derived.Test.YtmahnaobiaffpaaDoorPx17
import Derived.Test.YtmahnaobiaffpaaDoorPx10
import Derived.Test.YtmahnaobiaffpaaDoorPx6
import Derived.Test.YtmahnaobiaffpaaDoorExtWithout
import Derived.Test.YtmahnaobiaffpaaDoorWWords
import Derived.Test.YtmahnaobiaffpaaDoorPx5
import Derived.Test.YtmahnaobiaffpaaDoorExtSolutions
import Derived.Test.YtmahnaobiaffpaaDoorPx8
import Derived.Lib.ItoaNum
import Derived.Lib.Bytealg
import Derived.Test.YtmahnaobiaffpaaDoorPx1
import Derived.Test.YtmahnaobiaffpaaDoorPx9
import Derived.Test.YtmahnaobiaffpaaDoorPx12
import Derived.Test.YtmahnaobiaffpaaDoorPx7
import Derived.Test.YtmahnaobiaffpaaDoorPx2
import Derived.Test.YtmahnaobiaffpaaDoorExtIsPuzzle
import Derived.Test.YtmahnaobiaffpaaDoorPx16
import Derived.Test.YtmahnaobiaffpaaDoorPx13

/-! Small facts on wrapped numbers, lists and rounds; no condition. -/
section
namespace Go.Proofs.YtmahnaobiaffpaaDoor.Base
open Go.RowKit Go.Proofs.YtmahnaobiaffpaaDoorW.PrintWords
set_option linter.unusedVariables false

theorem w64 {x : Int} (h1 : -4611686018427387904 ≤ x) (h2 : x ≤ 4611686018427387904) : wrap64 x = x := by
  unfold wrap64
  omega
theorem getD_at {α : Type} (l : List α) (z : α) {i : Nat} (h : i < l.length) : l.getD i z = l[i] := by
  rw [List.getD_eq_getElem?_getD, List.getElem?_eq_getElem h]
  rfl
/-- One place more of a list that is being copied. -/
theorem set_copied {α β : Type} (f : α → β) (xs : List α) (z : β) {i : Nat} (h : i < xs.length) :
    ((xs.take i).map f ++ List.replicate (xs.length - i) z).set i (f xs[i]) = (xs.take (i + 1)).map f ++ List.replicate (xs.length - (i + 1)) z := by
  have hl : ((xs.take i).map f).length = i := by rw [List.length_map, List.length_take]; omega
  have e : xs.length - i = (xs.length - (i + 1)) + 1 := by omega
  have t : (xs.take (i + 1)).map f = (xs.take i).map f ++ [f xs[i]] := by
    rw [List.take_add_one, List.getElem?_eq_getElem h, List.map_append]
    rfl
  rw [List.set_append_right _ _ (by omega), hl, Nat.sub_self, e, List.replicate_succ, List.set_cons_zero, t, List.append_assoc]
  rfl
theorem all_drop {α : Type} (p : α → Bool) (l : List α) (z : α) {i : Nat} (h : i < l.length) : (l.drop i).all p = (p (l.getD i z) && (l.drop (i + 1)).all p) := by
  rw [getD_at l z h, List.drop_eq_getElem_cons h, List.all_cons]
theorem Ev_at {α : Type} {g : Nat → Option α} {r : α} (h : Ev g r) : ∃ K, ∀ k, K ≤ k → g k = some r := h
/-- Two that answer, answer together. -/
theorem Ev_bind {α β : Type} {g : Nat → Option α} {f : Nat → α → Option β} {a : α} {r : β} (h : Ev g a) (k : Ev (fun n => f n a) r) : Ev (fun n => (g n).bind (f n)) r := Ev.bind h k
theorem Ev_some {α β : Type} {x : Option α} {f : Nat → α → Option β} {a : α} {r : β} (h : x = some a) (k : Ev (fun n => f n a) r) : Ev (fun n => x.bind (f n)) r := by
  subst h
  exact k
theorem Ev_pos {α : Type} {c : Prop} [Decidable c] {f g : Nat → Option α} {r : α} (h : c) (k : Ev f r) : Ev (fun n => if c then f n else g n) r := by
  simp only [if_pos h]
  exact k
theorem Ev_neg {α : Type} {c : Prop} [Decidable c] {f g : Nat → Option α} {r : α} (h : ¬ c) (k : Ev g r) : Ev (fun n => if c then f n else g n) r := by
  simp only [if_neg h]
  exact k
theorem getD_set_self {α : Type} (l : List α) (z v : α) {i : Nat} (h : i < l.length) : (l.set i v).getD i z = v := by
  rw [List.getD_eq_getElem?_getD, List.getElem?_set_self h]
  rfl
theorem set_drop {α : Type} (m l : List α) (v : α) {i : Nat} (hm : m.length = i) (h : i < l.length) : (m ++ l.drop i).set i v = (m ++ [v]) ++ l.drop (i + 1) := by
  rw [List.set_append_right _ _ (by omega), hm, Nat.sub_self, List.drop_eq_getElem_cons h, List.set_cons_zero, List.append_assoc]
  rfl
/-- One round, by the function's own equation. -/
theorem Ev_step {α : Type} {g f : Nat → Option α} {r : α} (h : ∀ k, g (k + 1) = f k) (k : Ev f r) : Ev g r := Ev.step h k
theorem Ev_ite_eq {α : Type} {β : Type} {x : Option β} {a b : β} {f : Nat → Option α} {r : α} (h : a = b) (k : Ev f r) : Ev f r := k
def inB (n lo hi : Int) : Bool := decide (lo ≤ n ∧ n ≤ hi)
end Go.Proofs.YtmahnaobiaffpaaDoor.Base
end

/-! The clues without one: the program and the reference make the same; the clues are at most 1048576. -/
section
namespace Go.Proofs.YtmahnaobiaffpaaDoor.P
open Go.RowKit Go.Proofs.YtmahnaobiaffpaaDoorW.PrintWords Go.Proofs.YtmahnaobiaffpaaDoorW.PrintLast Go.Proofs.YtmahnaobiaffpaaDoorW.PrintMore Go.Proofs.YtmahnaobiaffpaaDoor.Base
set_option linter.unusedVariables false

def dropL (l : List S59) (a : Int) : List S59 := l.take a.toNat ++ l.drop (a.toNat + 1)
theorem pzWithout_eq (l : List S59) (a : Int) (hn : l.length ≤ 1048576) (h0 : 0 ≤ a) (h1 : a < l.length) : spec_pzWithout.f l a = some (dropL l a) := by
  have w : wrap64 (a + 1) = a + 1 := w64 (by omega) (by omega)
  have e : (a + 1).toNat = a.toNat + 1 := by omega
  simp only [spec_pzWithout.f, Option.bind_some, w, e, List.nil_append, List.length_nil, List.length_take, List.length_drop]
  rw [if_pos h0, if_pos (by omega), if_pos (by omega), if_pos (by omega), if_pos (by omega), if_pos (by omega)]
  rfl
theorem without_eq (l : List S59) (a : Int) (hn : l.length ≤ 1048576) (h0 : 0 ≤ a) (h1 : a < l.length) : impl_without.f l a = some (dropL l a) := by
  unfold impl_without.f
  rw [if_pos ⟨h0, h1, by omega⟩]
  rfl
end Go.Proofs.YtmahnaobiaffpaaDoor.P
end

/-! Loops over pages that leave out a leaf; the pages are at most 40. -/
section
namespace Go.Proofs.YtmahnaobiaffpaaDoor.Skip
open Go.RowKit Go.Proofs.YtmahnaobiaffpaaDoorW.PrintWords Go.Proofs.YtmahnaobiaffpaaDoor.Base
set_option linter.unusedVariables false

/-- What m pages from page n on add, those of leaf l left out. -/
def skipFrom (d : Nat → Nat) (l : Nat) : Nat → Nat → Nat
  | _, 0 => 0
  | n, m + 1 => (if (n + 1) / 2 = l then 0 else d n) + skipFrom d l (n + 1) m
theorem skip_loop (L : Nat → Int → Int → Option Int) (d : Nat → Nat) (l p : Nat) (hp : p ≤ 40) (hd : ∀ n, 1 ≤ n → n ≤ 40 → d n ≤ 100)
    (hskip : ∀ k (acc : Nat) (n : Nat), 1 ≤ n → n ≤ p → (n + 1) / 2 = l → L (k + 1) acc n = L k acc (n + 1 : Nat))
    (hstep : ∀ k (acc : Nat) (n : Nat), 9 ≤ k → acc ≤ 10000 → 1 ≤ n → n ≤ p → (n + 1) / 2 ≠ l → L (k + 1) acc n = L k (acc + d n : Nat) (n + 1 : Nat))
    (hend : ∀ k (acc : Nat), L (k + 1) acc (p + 1 : Nat) = some (acc : Int)) :
    ∀ m n acc : Nat, n + m = p + 1 → 1 ≤ n → acc ≤ 100 * n → ∀ k, m + 10 ≤ k → L k acc n = some ((acc + skipFrom d l n m : Nat) : Int) := by
  intro m
  induction m with
  | zero =>
    intro n acc hn h1 ha k hk
    obtain ⟨k, rfl⟩ : ∃ j, k = j + 1 := ⟨k - 1, by omega⟩
    obtain rfl : n = p + 1 := by omega
    rw [hend]
    rfl
  | succ m ih =>
    intro n acc hn h1 ha k hk
    obtain ⟨k, rfl⟩ : ∃ j, k = j + 1 := ⟨k - 1, by omega⟩
    by_cases hl : (n + 1) / 2 = l
    · rw [hskip k acc n h1 (by omega) hl, ih (n + 1) acc (by omega) (by omega) (by omega) k (by omega)]
      simp [skipFrom, hl]
    · have := hd n h1 (by omega)
      rw [hstep k acc n (by omega) (by omega) h1 (by omega) hl, ih (n + 1) (acc + d n) (by omega) (by omega) (by omega) k (by omega)]
      simp [skipFrom, hl, Nat.add_assoc]
theorem skip_all (d : Nat → Nat) (l : Nat) (h1 : 1 ≤ l) : ∀ m n, 1 ≤ n → skipFrom d 0 n m = skipFrom d l n m + (if n ≤ 2 * l - 1 ∧ 2 * l - 1 < n + m then d (2 * l - 1) else 0) + (if n ≤ 2 * l ∧ 2 * l < n + m then d (2 * l) else 0) := by
  intro m
  induction m with
  | zero =>
    intro n hn
    rw [if_neg (by omega), if_neg (by omega)]
    rfl
  | succ m ih =>
    intro n hn
    simp only [skipFrom]
    rw [if_neg (show ¬ (n + 1) / 2 = 0 by omega), ih (n + 1) (by omega)]
    by_cases a : n = 2 * l - 1
    · subst a
      rw [if_pos (show (2 * l - 1 + 1) / 2 = l by omega), if_neg (show ¬ (2 * l - 1 + 1 ≤ 2 * l - 1 ∧ 2 * l - 1 < 2 * l - 1 + 1 + m) by omega), if_pos (show 2 * l - 1 ≤ 2 * l - 1 ∧ 2 * l - 1 < 2 * l - 1 + (m + 1) by omega)]
      by_cases b : 2 * l < 2 * l - 1 + 1 + m
      · rw [if_pos (by omega), if_pos (by omega)]; omega
      · rw [if_neg (by omega), if_neg (by omega)]; omega
    · by_cases b : n = 2 * l
      · subst b
        rw [if_pos (show (2 * l + 1) / 2 = l by omega), if_neg (show ¬ (2 * l + 1 ≤ 2 * l - 1 ∧ 2 * l - 1 < 2 * l + 1 + m) by omega), if_neg (show ¬ (2 * l + 1 ≤ 2 * l ∧ 2 * l < 2 * l + 1 + m) by omega), if_neg (show ¬ (2 * l ≤ 2 * l - 1 ∧ 2 * l - 1 < 2 * l + (m + 1)) by omega), if_pos (show 2 * l ≤ 2 * l ∧ 2 * l < 2 * l + (m + 1) by omega)]
        omega
      · rw [if_neg (show ¬ (n + 1) / 2 = l by omega)]
        by_cases c : n ≤ 2 * l - 1 ∧ 2 * l - 1 < n + (m + 1)
        · rw [if_pos c, if_pos (by omega)]
          by_cases e : n ≤ 2 * l ∧ 2 * l < n + (m + 1)
          · rw [if_pos e, if_pos (by omega)]; omega
          · rw [if_neg e, if_neg (by omega)]; omega
        · rw [if_neg c, if_neg (by omega)]
          by_cases e : n ≤ 2 * l ∧ 2 * l < n + (m + 1)
          · rw [if_pos e, if_pos (by omega)]; omega
          · rw [if_neg e, if_neg (by omega)]; omega
theorem sum_id : ∀ p, p < 41 → skipFrom (fun n => n) 0 1 p = p * (p + 1) / 2 := by decide +kernel
/-- How often a digit is in a number below 100; how many digits it has. -/
def cnt (a n : Nat) : Nat := (if n % 10 = a then 1 else 0) + (if 10 ≤ n ∧ n / 10 = a then 1 else 0)
def dig (n : Nat) : Nat := if n < 10 then 1 else 2
def one (a n : Nat) : Nat := if cnt a n = 0 then 0 else 1
theorem decDigits_len (n : Nat) (h : n < 100) : (Lib.decDigits n).length = dig n := by
  unfold dig
  by_cases h1 : n < 10
  · rw [Lib.decDigits_one h1, if_pos h1]; rfl
  · rw [Lib.decDigits_two h1 h, if_neg h1]; rfl
theorem byte_eq : ∀ x, x < 10 → ∀ a, a < 10 → (UInt8.ofNat (48 + x) == UInt8.ofNat (48 + a)) = decide (x = a) := by decide +kernel
theorem count_dec (n a : Nat) (h : n < 100) (ha : a < 10) : Lib.countByte (Lib.decDigits n) (UInt8.ofNat (48 + a)) = cnt a n := by
  unfold Lib.countByte cnt
  by_cases h1 : n < 10
  · rw [Lib.decDigits_one h1, List.count_cons, List.count_nil, byte_eq n h1 a ha, if_neg (show ¬ (10 ≤ n ∧ n / 10 = a) by omega)]
    by_cases e : n = a
    · rw [if_pos (by simpa using e), if_pos (by omega)]
    · rw [if_neg (by simpa using e), if_neg (by omega)]
  · rw [Lib.decDigits_two h1 h, List.count_cons, List.count_cons, List.count_nil, byte_eq (n / 10) (by omega) a ha, byte_eq (n % 10) (by omega) a ha]
    have h10 : 10 ≤ n := by omega
    by_cases e : n % 10 = a <;> by_cases f : n / 10 = a <;> simp [e, f, h10]
end Go.Proofs.YtmahnaobiaffpaaDoor.Skip
end

/-! Tests of bounds; no condition. -/
section
namespace Go.Proofs.YtmahnaobiaffpaaDoor.P
open Go.RowKit Go.Proofs.YtmahnaobiaffpaaDoorW.PrintWords Go.Proofs.YtmahnaobiaffpaaDoorW.PrintLast Go.Proofs.YtmahnaobiaffpaaDoorW.PrintMore Go.Proofs.YtmahnaobiaffpaaDoor.Base

theorem l1In_eq (n lo hi : Int) : spec_l1In.f n lo hi = some (inB n lo hi) := by
  unfold spec_l1In.f inB
  by_cases h : lo ≤ n <;> simp [h]
theorem within_eq (n lo hi : Int) : impl_within.f n lo hi = some (inB n lo hi) := by
  unfold impl_within.f inB
  by_cases h : lo ≤ n <;> simp [h]
end Go.Proofs.YtmahnaobiaffpaaDoor.P
end

/-! A clue's test, as the program and as the reference compute it; no condition. -/
section
namespace Go.Proofs.YtmahnaobiaffpaaDoor.P
open Go.RowKit Go.Proofs.YtmahnaobiaffpaaDoorW.PrintWords Go.Proofs.YtmahnaobiaffpaaDoorW.PrintLast Go.Proofs.YtmahnaobiaffpaaDoorW.PrintMore Go.Proofs.YtmahnaobiaffpaaDoor.Base
set_option linter.unusedVariables false

def clueB (a b c : Int) : Bool :=
  inB c 0 1000 && (if a = 0 ∨ a = 1 ∨ a = 5 then b == 0 else if a = 2 then inB b 0 9 else if a = 3 then inB b 1 40 && decide (c ≤ 1) else if a = 4 then inB b 2 9 && decide (c ≤ 1) else false)
def clueOk (x : S59) : Bool := clueB x.f0 x.f1 x.f2
theorem lt2 (c : Int) : decide (c < 2) = decide (c ≤ 1) := by
  by_cases h : c ≤ 1
  · rw [decide_eq_true h, decide_eq_true (show c < 2 by omega)]
  · rw [decide_eq_false h, decide_eq_false (show ¬ c < 2 by omega)]
theorem spec_clue (k : Nat) (a b c : Int) : spec_pzClue.f (k + 1) a b c = some (clueB a b c) := by
  simp only [spec_pzClue.f, spec_pzClue.j0, l1In_eq, Option.bind_some, clueB, lt2]
  cases inB c 0 1000
  · simp
  by_cases h0 : a = 0
  · simp [h0]
  by_cases h1 : a = 1
  · simp [h1]
  by_cases h5 : a = 5
  · simp [h5]
  by_cases h2 : a = 2
  · simp [h2]
  by_cases h3 : a = 3
  · simp [h3]
    cases inB b 1 40 <;> simp
  by_cases h4 : a = 4
  · simp [h4]
    cases inB b 2 9 <;> simp
  simp [h0, h1, h5, h2, h3, h4]
theorem impl_clue (k : Nat) (a b c : Int) : impl_IsClue.f (k + 1) a b c = some (clueB a b c) := by
  simp only [impl_IsClue.f, impl_IsClue.j0, within_eq, Option.bind_some, clueB]
  cases inB c 0 1000
  · simp
  by_cases h0 : a = 0
  · simp [h0]
  by_cases h1 : a = 1
  · simp [h1]
  by_cases h5 : a = 5
  · simp [h5]
  by_cases h2 : a = 2
  · simp [h2]
  by_cases h3 : a = 3
  · simp [h3]
    cases inB b 1 40 <;> simp
  by_cases h4 : a = 4
  · simp [h4]
    cases inB b 2 9 <;> simp
  simp [h0, h1, h5, h2, h3, h4]
end Go.Proofs.YtmahnaobiaffpaaDoor.P
end

/-! What the program and the reference tell of a hidden book is the same; the book is one, the clue too. -/
section
namespace Go.Proofs.YtmahnaobiaffpaaDoor.P
open Go.RowKit Go.Proofs.YtmahnaobiaffpaaDoorW.PrintWords Go.Proofs.YtmahnaobiaffpaaDoorW.PrintLast Go.Proofs.YtmahnaobiaffpaaDoorW.PrintMore Go.Proofs.YtmahnaobiaffpaaDoor.Base Go.Proofs.YtmahnaobiaffpaaDoor.Skip
set_option linter.unusedVariables false

theorem itoa_eq (n : Nat) (h : n < 100) : itoa.f (n : Int) = some ⟨(Lib.decDigits n).toArray⟩ := by
  unfold itoa.f
  rw [if_pos ⟨by omega, by omega⟩, Int.toNat_natCast]
theorem used_eq (n a : Nat) (h : n < 100) (ha : a < 10) : impl_used.f (n : Int) (a : Int) = some (cnt a n : Int) := by
  simp only [impl_used.f, itoa_eq n h, itoa_eq a (by omega), Option.bind_some, Lib.decDigits_one ha]
  show Option.bind (some ((Lib.countByte (Lib.decDigits n) (UInt8.ofNat (48 + a)) : Nat) : Int)) _ = _
  rw [count_dec n a h ha]
  rfl
theorem half (n : Nat) (h : n ≤ 40) : wrap64 (Int.tdiv (wrap64 ((n : Int) + 1)) 2) = ((n + 1) / 2 : Nat) := by
  rw [w64 (x := (n : Int) + 1) (by omega) (by omega), Int.tdiv_eq_ediv_of_nonneg (by omega), w64 (by omega) (by omega)]
  omega
theorem next (n : Nat) (h : n ≤ 1000) : wrap64 ((n : Int) + 1) = ((n + 1 : Nat) : Int) := by
  rw [w64 (by omega) (by omega)]; omega
theorem cnt_le (a n : Nat) : cnt a n ≤ 2 := by unfold cnt; split <;> split <;> omega
theorem one_min (a n : Nat) : mn 1 (cnt a n : Int) = (one a n : Int) := by
  unfold one mn
  by_cases h : cnt a n = 0
  · rw [if_pos h]; omega
  · rw [if_neg h]; omega

/-- The program's loop at the kinds 0, 1, 2. -/
theorem tells_loop (kind a : Int) (d : Nat → Nat) (p l : Nat) (hp : p ≤ 40) (hl : 1 ≤ l) (hd : ∀ n, 1 ≤ n → n ≤ 40 → d n ≤ 100)
    (hk : (kind = 0 ∧ d = fun n => n) ∨ (kind = 1 ∧ d = dig) ∨ (kind = 2 ∧ ∃ b : Nat, b < 10 ∧ a = b ∧ d = one b)) (k : Nat) (h : p + 10 ≤ k) :
    impl_Hidden_tells.l0 k kind a 0 1 p l = some ((skipFrom d l 1 p : Nat) : Int) := by
  have := skip_loop (fun k acc n => impl_Hidden_tells.l0 k kind a acc n p l) d l p hp hd ?_ ?_ ?_ p 1 0 (by omega) (by omega) (by omega) k h
  · simpa using this
  · intro k acc n h1 h2 h3
    simp only [impl_Hidden_tells.l0]
    rw [if_pos (by omega), half n (by omega), if_pos (by rw [h3]), next n (by omega)]
  · intro k acc n _ ha h1 h2 h3
    simp only [impl_Hidden_tells.l0]
    rw [if_pos (by omega), half n (by omega), if_neg (by omega), next n (by omega)]
    have hb := hd n h1 (by omega)
    rcases hk with ⟨rfl, rfl⟩ | ⟨rfl, rfl⟩ | ⟨rfl, b, hb1, rfl, rfl⟩
    · rw [if_pos rfl, w64 (by omega) (by omega)]
      rfl
    · rw [if_neg (by decide), if_pos rfl, itoa_eq n (by omega)]
      have e : (⟨(Lib.decDigits n).toArray⟩ : ByteArray).size = dig n := by
        rw [← decDigits_len n (by omega)]
        rfl
      simp only [Option.bind_some, e]
      rw [w64 (by omega) (by omega)]
      rfl
    · rw [if_neg (by decide), if_neg (by decide), used_eq n b (by omega) hb1]
      simp only [Option.bind_some, one_min]
      rw [w64 (by omega) (by omega)]
      rfl
  · intro k acc
    simp only [impl_Hidden_tells.l0]
    rw [if_neg (by omega)]
theorem bpCount_eq (n a k : Nat) (h1 : 1 ≤ n) (h : n < 100) (ha : a < 10) : spec_bpCount.f (k + 4) (n : Int) (a : Int) = some (cnt a n : Int) := by
  have m1 : Int.tmod (n : Int) 10 = ((n % 10 : Nat) : Int) := by rw [Int.tmod_eq_emod_of_nonneg (by omega)]; omega
  have d1 : wrap64 (Int.tdiv (n : Int) 10) = ((n / 10 : Nat) : Int) := by rw [Int.tdiv_eq_ediv_of_nonneg (by omega), w64 (by omega) (by omega)]; omega
  have m2 : Int.tmod ((n / 10 : Nat) : Int) 10 = ((n / 10 : Nat) : Int) := by rw [Int.tmod_eq_emod_of_nonneg (by omega)]; omega
  have d2 : wrap64 (Int.tdiv ((n / 10 : Nat) : Int) 10) = 0 := by rw [Int.tdiv_eq_ediv_of_nonneg (by omega), w64 (by omega) (by omega)]; omega
  have w0 : wrap64 ((0 : Int) + 1) = 1 := by unfold wrap64; omega
  have w1 : wrap64 ((1 : Int) + 1) = 2 := by unfold wrap64; omega
  simp only [spec_bpCount.f, spec_bpCount.l0, m1, d1, m2, d2, w0, w1]
  rw [if_pos (by omega)]
  unfold cnt
  by_cases e : n % 10 = a
  · rw [if_pos (by rw [e]), if_pos e]
    by_cases f : n / 10 = 0
    · rw [if_neg (by omega), if_neg (by omega)]; rfl
    · rw [if_pos (by omega)]
      by_cases g : n / 10 = a
      · rw [if_pos (by rw [g]), if_neg (by omega), if_pos ⟨by omega, g⟩]; rfl
      · rw [if_neg (by omega), if_neg (by omega), if_neg (by omega)]; rfl
  · rw [if_neg (by omega), if_neg e]
    by_cases f : n / 10 = 0
    · rw [if_neg (by omega), if_neg (by omega)]; rfl
    · rw [if_pos (by omega)]
      by_cases g : n / 10 = a
      · rw [if_pos (by rw [g]), if_neg (by omega), if_pos ⟨by omega, g⟩]; rfl
      · rw [if_neg (by omega), if_neg (by omega), if_neg (by omega)]; rfl
/-- The reference's loop at the kind 2. -/
theorem value_loop (a p l : Nat) (hp : p ≤ 40) (hl : 1 ≤ l) (ha : a < 10) (k : Nat) (h : p + 10 ≤ k) :
    spec_pzValue.l0 k a 0 1 p l = some ((skipFrom (one a) l 1 p : Nat) : Int) := by
  have := skip_loop (fun k acc n => spec_pzValue.l0 k a acc n p l) (one a) l p hp (fun n _ _ => by unfold one; split <;> omega) ?_ ?_ ?_ p 1 0 (by omega) (by omega) (by omega) k h
  · simpa using this
  · intro k acc n h1 h2 h3
    simp only [spec_pzValue.l0]
    rw [if_pos (by omega), half n (by omega), if_pos (by rw [h3]), next n (by omega)]
  · intro k acc n hk ha' h1 h2 h3
    simp only [spec_pzValue.l0]
    obtain ⟨j, rfl⟩ : ∃ j, k = j + 4 := ⟨k - 4, by omega⟩
    rw [if_pos (by omega), half n (by omega), if_neg (by omega), next n (by omega), bpCount_eq n a j h1 (by omega) ha]
    simp only [Option.bind_some]
    unfold one
    by_cases e : cnt a n = 0
    · rw [if_neg (by omega), if_pos e]
      rfl
    · rw [if_pos (by omega), if_neg e, w64 (by omega) (by omega)]
      rfl
  · intro k acc
    simp only [spec_pzValue.l0]
    rw [if_neg (by omega)]
theorem num_size (n k : Nat) (h : n < 100) : ∃ s : ByteArray, spec_l1Num.f (k + 3) (n : Int) = some s ∧ s.size = dig n := by
  unfold dig
  by_cases h1 : n < 10
  · refine ⟨_, by simp only [spec_l1Num.f]; rw [if_pos (by omega)], ?_⟩
    rw [if_pos h1, strOfNums_size]
    rfl
  · have d1 : wrap64 (Int.tdiv (n : Int) 10) = ((n / 10 : Nat) : Int) := by rw [Int.tdiv_eq_ediv_of_nonneg (by omega), w64 (by omega) (by omega)]; omega
    have hs : ∀ x y : List Int, (strOfNums x ++ strOfNums y).size = x.length + y.length := fun x y => by
      rw [ByteArray.size_append, strOfNums_size, strOfNums_size]
    have e2 : spec_l1Num.f (k + 2) ((n / 10 : Nat) : Int) = some (strOfNums [wrap64 (48 + ((n / 10 : Nat) : Int)) % 256]) := by
      rw [spec_l1Num.f, if_pos (by omega)]
    refine ⟨strOfNums [wrap64 (48 + ((n / 10 : Nat) : Int)) % 256] ++ strOfNums [wrap64 (48 + Int.tmod (n : Int) 10) % 256], ?_, ?_⟩
    · rw [spec_l1Num.f, if_neg (by omega), d1, e2]
      simp only [Option.bind_some]
      rw [if_pos (by rw [strOfNums_size, strOfNums_size]; simp)]
    · rw [hs, if_neg h1]; rfl
theorem digits_loop (p : Nat) (hp : p ≤ 40) (k : Nat) (h : p + 10 ≤ k) : spec_bpDigits.f k p = some ((skipFrom dig 0 1 p : Nat) : Int) := by
  have := skip_loop (fun k acc n => spec_bpDigits.l0 k p acc n) dig 0 p hp (fun n _ _ => by unfold dig; split <;> omega) ?_ ?_ ?_ p 1 0 (by omega) (by omega) (by omega) k h
  · simpa [spec_bpDigits.f] using this
  · intro k acc n h1 h2 h3
    omega
  · intro k acc n hk ha' h1 h2 h3
    simp only [spec_bpDigits.l0]
    obtain ⟨j, rfl⟩ : ∃ j, k = j + 3 := ⟨k - 3, by omega⟩
    obtain ⟨s, hs, hz⟩ := num_size n j (by omega)
    have hb : dig n ≤ 2 := by unfold dig; split <;> omega
    rw [if_pos (by omega), hs, next n (by omega)]
    simp only [Option.bind_some, hz]
    rw [w64 (by omega) (by omega)]
    rfl
  · intro k acc
    simp only [spec_bpDigits.l0]
    rw [if_neg (by omega)]
theorem half2 (T s : Nat) (h : T ≤ 1640) (e : s = T / 2) : wrap64 (Int.tdiv (T : Int) 2) = (s : Int) := by
  rw [Int.tdiv_eq_ediv_of_nonneg (by omega), w64 (by omega) (by omega)]; omega
theorem minus (s0 s1 l : Nat) (h : s0 ≤ 2000) (e : s0 = s1 + (2 * l - 1) + 2 * l) (hl : 1 ≤ l) : wrap64 ((s0 : Int) - (4 * (l : Int) - 1)) = (s1 : Int) := by
  rw [w64 (by omega) (by omega)]; omega
theorem minus2 (s0 s1 x y : Nat) (h : s0 ≤ 2000) (e : s0 = s1 + x + y) : wrap64 (wrap64 ((s0 : Int) - (x : Int)) - (y : Int)) = (s1 : Int) := by
  rw [w64 (x := (s0 : Int) - (x : Int)) (by omega) (by omega), w64 (by omega) (by omega)]; omega
/-- What is told of a book, at each kind of a clue. -/
theorem tells_eq (kind a c : Int) (p l k : Nat) (h2 : 2 ≤ p) (hp : p ≤ 40) (hl : 1 ≤ l) (hlp : 2 * l ≤ p) (hc : clueB kind a c = true) (hk : 60 ≤ k) :
    ∃ v, spec_pzValue.f k kind a p l = some v ∧ impl_Hidden_tells.f k p l kind a = some v := by
  simp only [clueB, Bool.and_eq_true] at hc
  obtain ⟨hcc, hc⟩ := hc
  have w4 : wrap64 (wrap64 (4 * (l : Int)) - 1) = 4 * (l : Int) - 1 := by
    rw [w64 (x := 4 * (l : Int)) (by omega) (by omega), w64 (by omega) (by omega)]
  have tot0 := skip_all (fun n => n) l hl p 1 (by omega)
  have tot1 := skip_all dig l hl p 1 (by omega)
  rw [if_pos (by omega), if_pos (by omega)] at tot0 tot1
  by_cases k0 : kind = 0
  · subst k0
    refine ⟨((skipFrom (fun n => n) l 1 p : Nat) : Int), ?_, ?_⟩
    · have s0 := sum_id p (by omega)
      have hs : skipFrom (fun n => n) 0 1 p ≤ 820 := by
        rw [s0]
        have : p * (p + 1) ≤ 40 * 41 := Nat.mul_le_mul hp (by omega)
        omega
      have hpp : p * (p + 1) ≤ 1640 := by
        have : p * (p + 1) ≤ 40 * 41 := Nat.mul_le_mul hp (by omega)
        omega
      have e1 : wrap64 ((p : Int) + 1) = ((p + 1 : Nat) : Int) := next p (by omega)
      have e2 : wrap64 ((p : Int) * ((p + 1 : Nat) : Int)) = ((p * (p + 1) : Nat) : Int) := by
        rw [show (p : Int) * ((p + 1 : Nat) : Int) = ((p * (p + 1) : Nat) : Int) from (Int.natCast_mul p (p + 1)).symm, w64 (by omega) (by omega)]
      have e3 := half2 (p * (p + 1)) _ hpp s0
      have e4 := minus _ _ l (Nat.le_trans hs (by decide)) tot0 hl
      rw [spec_pzValue.f, if_pos rfl, spec_bpSum.f, e1, e2, e3, w4]
      simp only [Option.bind_some]
      rw [e4]
    · rw [impl_Hidden_tells.f, if_neg (by decide), if_neg (by decide), if_neg (by decide), tells_loop 0 a (fun n => n) p l hp hl (fun n _ h => by omega) (.inl ⟨rfl, rfl⟩) k (by omega)]
  by_cases k1 : kind = 1
  · subst k1
    refine ⟨((skipFrom dig l 1 p : Nat) : Int), ?_, ?_⟩
    · obtain ⟨j, rfl⟩ : ∃ j, k = j + 3 := ⟨k - 3, by omega⟩
      obtain ⟨s1, hs1, hz1⟩ := num_size (2 * l - 1) j (by omega)
      obtain ⟨s2, hs2, hz2⟩ := num_size (2 * l) j (by omega)
      have e1 : wrap64 (wrap64 (2 * (l : Int)) - 1) = ((2 * l - 1 : Nat) : Int) := by rw [w64 (x := 2 * (l : Int)) (by omega) (by omega), w64 (by omega) (by omega)]; omega
      have e2 : wrap64 (2 * (l : Int)) = ((2 * l : Nat) : Int) := by rw [w64 (by omega) (by omega)]; omega
      have hb : ∀ n, dig n ≤ 2 := fun n => by unfold dig; split <;> omega
      have hb1 := hb (2 * l - 1)
      have hb2 := hb (2 * l)
      have hbig : ∀ m n, skipFrom dig 0 n m ≤ 2 * m := by
        intro m
        induction m with
        | zero => intro n; exact Nat.le_refl _
        | succ m ih =>
          intro n
          have := ih (n + 1)
          have := hb n
          simp only [skipFrom]
          split <;> omega
      have hb3 := hbig p 1
      clear tot0
      rw [spec_pzValue.f, if_neg (by decide), if_pos rfl, digits_loop p hp _ (by omega), e1, e2, hs1, hs2]
      simp only [Option.bind_some, hz1, hz2]
      rw [minus2 _ _ _ _ (Nat.le_trans hb3 (by omega)) tot1]
    · rw [impl_Hidden_tells.f, if_neg (by decide), if_neg (by decide), if_neg (by decide), tells_loop 1 a dig p l hp hl (fun n _ h => by unfold dig; split <;> omega) (.inr (.inl ⟨rfl, rfl⟩)) k (by omega)]
  by_cases k5 : kind = 5
  · subst k5
    refine ⟨4 * (l : Int) - 1, ?_, ?_⟩
    · rw [spec_pzValue.f, if_neg (by decide), if_neg (by decide), if_neg (by decide), if_neg (by decide), if_neg (by decide), w4]
    · rw [impl_Hidden_tells.f, if_neg (by decide), if_neg (by decide), if_pos rfl, w4]
  rw [if_neg (by omega)] at hc
  by_cases k2 : kind = 2
  · subst k2
    rw [if_pos rfl] at hc
    simp only [inB, decide_eq_true_eq] at hc
    obtain ⟨b, rfl⟩ := Int.eq_ofNat_of_zero_le hc.1
    refine ⟨((skipFrom (one b) l 1 p : Nat) : Int), ?_, ?_⟩
    · rw [spec_pzValue.f, if_neg (by decide), if_neg (by decide), if_pos rfl, value_loop b p l hp hl (by omega) k (by omega)]
    · rw [impl_Hidden_tells.f, if_neg (by decide), if_neg (by decide), if_neg (by decide), tells_loop 2 b (one b) p l hp hl (fun n _ h => by unfold one; split <;> omega) (.inr (.inr ⟨rfl, b, by omega, rfl, rfl⟩)) k (by omega)]
  rw [if_neg k2] at hc
  by_cases k3 : kind = 3
  · subst k3
    refine ⟨if (l : Int) ≥ a then 1 else 0, ?_, ?_⟩
    · rw [spec_pzValue.f, if_neg (by decide), if_neg (by decide), if_neg (by decide), if_pos rfl]
      split <;> rfl
    · rw [impl_Hidden_tells.f, if_pos rfl]
      simp only [impl_flag.f]
      by_cases h : (l : Int) ≥ a <;> simp [h]
  rw [if_neg k3] at hc
  by_cases k4 : kind = 4
  · subst k4
    rw [if_pos rfl] at hc
    simp only [inB, Bool.and_eq_true, decide_eq_true_eq] at hc
    refine ⟨if Int.tmod (p : Int) a = 0 then 1 else 0, ?_, ?_⟩
    · rw [spec_pzValue.f, if_neg (by decide), if_neg (by decide), if_neg (by decide), if_neg (by decide), if_pos rfl, if_neg (by omega)]
      split <;> rfl
    · rw [impl_Hidden_tells.f, if_neg (by decide), if_pos rfl, if_neg (by omega)]
      simp only [impl_flag.f]
      by_cases h : Int.tmod (p : Int) a = 0 <;> simp [h]
  rw [if_neg k4] at hc
  cases hc
end Go.Proofs.YtmahnaobiaffpaaDoor.P
end

/-! The printed helpers on clues: copies, tests, marks; the lists are at most 1048576 long. -/
section
namespace Go.Proofs.YtmahnaobiaffpaaDoor.P
open Go.RowKit Go.Proofs.YtmahnaobiaffpaaDoorW.PrintWords Go.Proofs.YtmahnaobiaffpaaDoorW.PrintLast Go.Proofs.YtmahnaobiaffpaaDoorW.PrintMore Go.Proofs.YtmahnaobiaffpaaDoor.Base
set_option linter.unusedVariables false

/-- A law's clue as the program's. -/
def toC (x : S69) : S59 := ⟨x.f0, x.f1, x.f2⟩
theorem toClueS_l0 (xs : List S69) (hn : xs.length ≤ 1048576) : ∀ n i : Nat, i + n = xs.length → Ev (fun k => laws_toClueS.l0 k xs ((xs.take i).map toC ++ List.replicate (xs.length - i) z59) (i : Int)) (xs.map toC) := by
  intro n
  induction n with
  | zero =>
    intro i hi
    refine Ev.step (fun k => ?_) (Ev.now _)
    simp only [laws_toClueS.l0]
    rw [if_neg (by omega), List.take_of_length_le (by omega), show xs.length - i = 0 by omega, List.replicate_zero, List.append_nil]
  | succ n ih =>
    intro i hi
    have h : i < xs.length := by omega
    refine Ev.step (fun k => ?_) (ih (i + 1) (by omega))
    have hl : (List.map toC (xs.take i) ++ List.replicate (xs.length - i) z59).length = xs.length := by simp; omega
    simp only [laws_toClueS.l0, laws_toClue.f, Option.bind_some]
    rw [if_pos (by omega), if_pos (by omega), if_pos (by rw [hl]; omega), w64 (by omega) (by omega)]
    have e : (⟨(rd_T69 xs (i : Int)).f0, (rd_T69 xs (i : Int)).f1, (rd_T69 xs (i : Int)).f2⟩ : S59) = toC xs[i] := by
      unfold rd_T69 toC
      rw [Int.toNat_natCast, getD_at xs _ h]
    rw [e, Int.toNat_natCast, set_copied toC xs _ h]
    rfl
theorem toClueS_ev (xs : List S69) (hn : xs.length ≤ 1048576) : Ev (fun k => laws_toClueS.f k xs) (xs.map toC) := by
  have := toClueS_l0 xs hn xs.length 0 (by omega)
  simp only [List.take_zero, List.map_nil, List.nil_append, Nat.sub_zero] at this
  refine Ev.congr (fun k => ?_) this
  simp only [laws_toClueS.f]
  rw [if_pos (by omega), if_pos (by omega), Int.toNat_natCast]
  rfl
theorem toPuzzle_ev (xs : List S69) (hn : xs.length ≤ 1048576) : Ev (fun k => laws_toPuzzle.f k xs) (xs.map toC) := by
  refine Ev.congr (fun k => ?_) (toClueS_ev xs hn)
  simp only [laws_toPuzzle.f]
  cases laws_toClueS.f k xs <;> rfl
theorem szPuzzle_eq (xs : List S69) (hm : xs.length ≤ maxLen) : laws_szPuzzle.f xs 1048576 = some (if xs.length ≤ 1048576 then 1048576 - (xs.length : Int) else -1) := by
  have e : wrap64 (1048576 - (xs.length : Int)) = 1048576 - (xs.length : Int) := by unfold maxLen at hm; unfold wrap64; omega
  simp only [laws_szPuzzle.f, laws_szClueS.f, e]
  by_cases h : xs.length ≤ 1048576
  · rw [if_neg (by omega), if_pos h]
    simp only [Option.bind_some]
    rw [if_neg (by omega)]
  · rw [if_pos (by omega), if_neg h]
    rfl

def goodP (l : List S59) : Bool := decide (l.length ≤ 6) && l.all clueOk
theorem pzGood_l0 (l : List S59) (hn : l.length ≤ 1048576) : ∀ n i : Nat, i + n = l.length → Ev (fun k => spec_pzGood.l0 k l (l.length : Int) (i : Int)) ((l.drop i).all clueOk) := by
  intro n
  induction n with
  | zero =>
    intro i hi
    refine Ev.step (fun k => ?_) (Ev.now _)
    simp only [spec_pzGood.l0]
    rw [if_neg (by omega), List.drop_of_length_le (by omega)]
    rfl
  | succ n ih =>
    intro i hi
    have h : i < l.length := by omega
    obtain ⟨K, hK⟩ := ih (i + 1) (by omega)
    refine ⟨K + 2, fun k hk => ?_⟩
    obtain ⟨k, rfl⟩ : ∃ m, k = m + 2 := ⟨k - 2, by omega⟩
    simp only [spec_pzGood.l0, spec_clue, Option.bind_some]
    rw [if_pos (by omega), if_pos (by omega), if_pos (by omega), all_drop clueOk l z59 h]
    have e : clueB (rd_T59 l (i : Int)).f0 (rd_T59 l (i : Int)).f1 (rd_T59 l (i : Int)).f2 = clueOk (l.getD i z59) := by
      unfold rd_T59 clueOk
      rw [Int.toNat_natCast]
    rw [e]
    cases clueOk (l.getD i z59) with
    | false => simp
    | true =>
      rw [if_pos rfl, w64 (by omega) (by omega)]
      exact hK (k + 1) (by omega)
theorem pzGood_ev (l : List S59) (hn : l.length ≤ 1048576) : Ev (fun k => spec_pzGood.f k l) (goodP l) := by
  by_cases h : l.length ≤ 6
  · have := pzGood_l0 l hn l.length 0 (by omega)
    refine Ev.congr (f := fun k => spec_pzGood.l0 k l (l.length : Int) 0) (fun k => ?_) ?_
    · simp only [spec_pzGood.f]
      rw [if_neg (by omega)]
    · have e : goodP l = (l.drop 0).all clueOk := by simp [goodP, h]
      rw [e]
      exact this
  · refine Ev.congr (f := fun _ => some false) (fun k => ?_) ?_
    · simp only [spec_pzGood.f]
      rw [if_pos (by omega)]
    · have e : goodP l = false := by simp [goodP, h]
      rw [e]
      exact Ev.now _
theorem closure_eq (x : S59) : impl_IsPuzzle_1.f 1 x.f0 x.f1 x.f2 = some (!clueOk x) := by
  simp only [impl_IsPuzzle_1.f, impl_clue, Option.bind_some, clueOk]
theorem implIsPuzzle_eq (l : List S59) : impl_IsPuzzle.f l = some (goodP l) := by
  have h1 : (l.all fun x => (impl_IsPuzzle_1.f 1 x.f0 x.f1 x.f2).isSome) = true := by
    rw [List.all_eq_true]
    intro x _
    rw [closure_eq]
    rfl
  have h2 : l.any badClue = !l.all clueOk := by
    have : badClue = fun x => !clueOk x := by
      funext x
      simp only [badClue, closure_eq, Option.getD_some]
    rw [this, List.not_all_eq_any_not]
  unfold impl_IsPuzzle.f goodP
  rw [if_pos h1, h2, Bool.not_not]
  by_cases h : l.length ≤ 6
  · rw [if_neg (by omega), decide_eq_true h, Bool.true_and]
  · rw [if_pos (by omega), decide_eq_false h, Bool.false_and]
theorem eqClueS_l0 (l : List S59) (hn : l.length ≤ 1048576) : ∀ n i : Nat, i + n = l.length → Ev (fun k => laws_eqClueS.l0 k l l (i : Int)) true := by
  intro n
  induction n with
  | zero =>
    intro i hi
    refine Ev.step (fun k => ?_) (Ev.now _)
    simp only [laws_eqClueS.l0]
    rw [if_neg (by omega)]
  | succ n ih =>
    intro i hi
    refine Ev.step (fun k => ?_) (ih (i + 1) (by omega))
    simp only [laws_eqClueS.l0, laws_eqClue.f, if_true, Option.bind_some]
    rw [if_pos (by omega), if_pos (by omega), if_pos (by omega), w64 (by omega) (by omega)]
    rfl
theorem eqClueS_ev (l : List S59) (hn : l.length ≤ 1048576) : Ev (fun k => laws_eqClueS.f k l l) true := by
  refine Ev.congr (f := fun k => laws_eqClueS.l0 k l l (0 : Nat)) (fun k => ?_) (eqClueS_l0 l hn l.length 0 (by omega))
  simp only [laws_eqClueS.f, if_true]
  rfl
theorem eqPuzzle_ev (l : List S59) (hn : l.length ≤ 1048576) : Ev (fun k => laws_eqPuzzle.f k l l) true := by
  refine Ev.congr (fun k => ?_) (eqClueS_ev l hn)
  simp only [laws_eqPuzzle.f]
  cases laws_eqClueS.f k l l with
  | none => rfl
  | some b => cases b <;> rfl
end Go.Proofs.YtmahnaobiaffpaaDoor.P
end

/-! The books that fit good clues: the program and the reference find the same, in the same order. -/
section
namespace Go.Proofs.YtmahnaobiaffpaaDoor.P
open Go.RowKit Go.Proofs.YtmahnaobiaffpaaDoorW.PrintWords Go.Proofs.YtmahnaobiaffpaaDoorW.PrintLast Go.Proofs.YtmahnaobiaffpaaDoorW.PrintMore Go.Proofs.YtmahnaobiaffpaaDoor.Base Go.Proofs.YtmahnaobiaffpaaDoor.Skip
set_option linter.unusedVariables false

theorem fits_spec (a b c : Int) (p l k : Nat) (h2 : 2 ≤ p) (hp : p ≤ 40) (hl : 1 ≤ l) (hlp : 2 * l ≤ p) (hc : clueB a b c = true) (hk : 60 ≤ k) :
    told p l ⟨a, b, c⟩ = true ∧ spec_pzFits.f k a b c p l = some (hit p l ⟨a, b, c⟩) := by
  obtain ⟨v, hv, hi⟩ := tells_eq a b c p l 100 h2 hp hl hlp hc (by decide)
  obtain ⟨v', hv', _⟩ := tells_eq a b c p l k h2 hp hl hlp hc hk
  have m1 := at_rounds (fun k => spec_pzValue.mono a b p l k) (Nat.le_max_left k 100) hv'
  have m2 := at_rounds (fun k => spec_pzValue.mono a b p l k) (Nat.le_max_right k 100) hv
  obtain rfl : v' = v := Option.some.inj (m1.symm.trans m2)
  have e1 : impl_Hidden_fits.f 100 p l a b c = some (v' == c) := by rw [impl_Hidden_fits.f, hi]; rfl
  refine ⟨by simp only [told, e1]; rfl, ?_⟩
  simp only [hit, e1, Option.getD_some]
  rw [spec_pzFits.f, hv']
  rfl
theorem tdiv2 (p : Nat) (hp : p ≤ 1000) : wrap64 (Int.tdiv (p : Int) 2) = ((p / 2 : Nat) : Int) := by
  rw [Int.tdiv_eq_ediv_of_nonneg (by omega), w64 (by omega) (by omega)]; omega
/-- The books of p pages that fit, from leaf l on. -/
def row (cs : List S59) (p : Nat) : Nat → Nat → List S66
  | 0, _ => []
  | n + 1, l => (if cs.all (hit p l) = true then [⟨(p : Int), (l : Int)⟩] else []) ++ row cs p n (l + 1)
def rows (cs : List S59) : Nat → Nat → List S66
  | 0, _ => []
  | n + 1, p => row cs p (p / 2) 1 ++ rows cs n (p + 1)
theorem row_len (cs : List S59) (p : Nat) : ∀ n l, (row cs p n l).length ≤ n := by
  intro n
  induction n with
  | zero => intro l; exact Nat.le_refl _
  | succ n ih =>
    intro l
    have := ih (l + 1)
    simp only [row, List.length_append]
    split <;> simp <;> omega
theorem rows_len (cs : List S59) : ∀ n p, p + n ≤ 41 → (rows cs n p).length ≤ 20 * n := by
  intro n
  induction n with
  | zero => intro l _; exact Nat.le_refl _
  | succ n ih =>
    intro p hp
    have := ih (p + 1) (by omega)
    have := row_len cs p (p / 2) 1
    simp only [rows, List.length_append]
    omega
def sols (cs : List S59) : List S66 := rows cs 39 2
theorem sols_len (cs : List S59) : (sols cs).length ≤ 780 := rows_len cs 39 2 (by decide)

theorem pzAll_l2 (cs : List S59) (hn : cs.length ≤ 6) (hok : cs.all clueOk = true) (acc : List S66) (p l : Nat) (h2 : 2 ≤ p) (hp : p ≤ 40) (hl : 1 ≤ l) (hlp : 2 * l ≤ p) :
    ∀ (n i : Nat) (b : Bool) (k : Nat), i + n = cs.length → 60 ≤ k → spec_pzAll.l2 (k + n + 1) cs acc p l b cs (cs.length : Int) (i : Int) p l =
      (if (b && (cs.drop i).all (hit p l)) = true then (if acc.length < 8796093022208 then spec_pzAll.l1 k cs (acc ++ [⟨(p : Int), (l : Int)⟩]) p (wrap64 ((l : Int) + 1)) else none) else spec_pzAll.l1 k cs acc p (wrap64 ((l : Int) + 1))) := by
  intro n
  induction n with
  | zero =>
    intro i b k hi hk
    rw [spec_pzAll.l2, if_neg (by omega), List.drop_of_length_le (by omega), List.all_nil, Bool.and_true]
  | succ n ih =>
    intro i b k hi hk
    have h : i < cs.length := by omega
    have hc : clueOk (cs.getD i z59) = true := by
      rw [getD_at cs _ h]
      exact List.all_eq_true.1 hok _ (List.getElem_mem h)
    have hf := (fits_spec _ _ _ p l (k + (n + 1)) h2 hp hl hlp hc (by omega)).2
    have er : rd_T59 cs (i : Int) = cs.getD i z59 := by unfold rd_T59; rw [Int.toNat_natCast]
    rw [spec_pzAll.l2, if_pos (by omega), if_pos (by omega), if_pos (by omega), all_drop (hit p l) cs z59 h, er, next i (by omega)]
    cases b with
    | true =>
      rw [if_pos rfl, hf]
      simp only [Option.bind_some, Bool.true_and]
      exact ih (i + 1) _ k (by omega) hk
    | false =>
      rw [if_neg (by decide)]
      have := ih (i + 1) false k (by omega) hk
      simp only [Bool.false_and] at this ⊢
      exact this
theorem pzAll_l1 (cs : List S59) (hn : cs.length ≤ 6) (hok : cs.all clueOk = true) (p : Nat) (h2 : 2 ≤ p) (hp : p ≤ 40) (r : List S66) :
    ∀ (m l : Nat) (acc : List S66), l + m = p / 2 + 1 → 1 ≤ l → acc.length + m ≤ 5000 → Ev (fun k => spec_pzAll.l0 k cs (acc ++ row cs p m l) ((p + 1 : Nat) : Int)) r → Ev (fun k => spec_pzAll.l1 k cs acc p l) r := by
  intro m
  induction m with
  | zero =>
    intro l acc hl h1 ha h
    refine Ev_step (fun k => ?_) h
    rw [spec_pzAll.l1, tdiv2 p (by omega), if_neg (by omega), next p (by omega), row, List.append_nil]
  | succ m ih =>
    intro l acc hl h1 ha h
    have key : Ev (fun k => spec_pzAll.l1 k cs (acc ++ (if cs.all (hit p l) = true then [⟨(p : Int), (l : Int)⟩] else [])) p ((l + 1 : Nat) : Int)) r := by
      refine ih (l + 1) _ (by omega) (by omega) (by rw [List.length_append]; split <;> simp <;> omega) ?_
      rw [List.append_assoc]
      exact h
    obtain ⟨K, hK⟩ := key
    refine ⟨K + 60 + cs.length + 2, fun k hk => ?_⟩
    obtain ⟨j, rfl⟩ : ∃ j, k = (j + cs.length + 1) + 1 := ⟨k - cs.length - 2, by omega⟩
    have e := pzAll_l2 cs hn hok acc p l h2 hp h1 (by omega) cs.length 0 true j (by omega) (by omega)
    have hK' := hK j (by omega)
    show spec_pzAll.l1 ((j + cs.length + 1) + 1) cs acc p l = some r
    rw [spec_pzAll.l1, tdiv2 p (by omega), if_pos (by omega)]
    refine Eq.trans e ?_
    rw [List.drop_zero, Bool.true_and, next l (by omega)]
    by_cases q : cs.all (hit p l) = true
    · rw [if_pos q, if_pos (by omega)]
      simp only [if_pos q] at hK'
      exact hK'
    · rw [if_neg q]
      simp only [if_neg q, List.append_nil] at hK'
      exact hK'
theorem pzAll_l0 (cs : List S59) (hn : cs.length ≤ 6) (hok : cs.all clueOk = true) :
    ∀ (n p : Nat) (acc : List S66), p + n = 41 → 2 ≤ p → acc.length + 20 * n ≤ 4000 → Ev (fun k => spec_pzAll.l0 k cs acc (p : Int)) (acc ++ rows cs n p) := by
  intro n
  induction n with
  | zero =>
    intro p acc h1 h2 h3
    refine Ev_step (fun k => ?_) (Ev.now _)
    rw [spec_pzAll.l0, if_neg (by omega), rows, List.append_nil]
  | succ n ih =>
    intro p acc h1 h2 h3
    have hr := row_len cs p (p / 2) 1
    refine Ev_step (f := fun k => spec_pzAll.l1 k cs acc p ((1 : Nat) : Int)) (fun k => ?_) ?_
    · rw [spec_pzAll.l0, if_pos (by omega)]
      rfl
    · have := ih (p + 1) (acc ++ row cs p (p / 2) 1) (by omega) (by omega) (by rw [List.length_append]; omega)
      rw [rows, ← List.append_assoc]
      exact pzAll_l1 cs hn hok p h2 (by omega) _ (p / 2) 1 acc (by omega) (by omega) (by omega) this
theorem two_cast : ((2 : Nat) : Int) = 2 := rfl
theorem pzAll_ev (cs : List S59) (hn : cs.length ≤ 6) (hok : cs.all clueOk = true) : Ev (fun k => spec_pzAll.f k cs) (sols cs) := by
  have h := pzAll_l0 cs hn hok 39 2 [] (by decide) (by decide) (by simp)
  rw [List.nil_append, two_cast] at h
  unfold sols
  exact Ev.congr (fun k => by rw [spec_pzAll.f]) h

theorem impl_l1 (cs : List S59) (hok : cs.all clueOk = true) (p : Nat) (h2 : 2 ≤ p) (hp : p ≤ 40) :
    ∀ (m l : Nat) (acc : List S66) (j : Nat), l + m = p / 2 + 1 → 1 ≤ l → acc.length + m ≤ 5000 → impl_solutions.l1 (j + m + 1) cs acc p l = impl_solutions.l0 j cs (acc ++ row cs p m l) ((p + 1 : Nat) : Int) := by
  intro m
  induction m with
  | zero =>
    intro l acc j hl h1 ha
    show impl_solutions.l1 (j + 1) cs acc p l = _
    rw [impl_solutions.l1, tdiv2 p (by omega), if_neg (by omega), next p (by omega), row, List.append_nil]
  | succ m ih =>
    intro l acc j hl h1 ha
    have ht : cs.all (told p l) = true := List.all_eq_true.2 fun x hx => (fits_spec x.f0 x.f1 x.f2 p l 60 h2 hp h1 (by omega) (List.all_eq_true.1 hok x hx) (Nat.le_refl _)).1
    have hm : missed cs p l = !cs.all (hit p l) := by unfold missed; rw [List.not_all_eq_any_not]
    show impl_solutions.l1 ((j + m + 1) + 1) cs acc p l = _
    rw [impl_solutions.l1, tdiv2 p (by omega), if_pos (by omega), if_pos ht, hm, next l (by omega), row]
    by_cases q : cs.all (hit p l) = true
    · rw [if_neg (by rw [q]; decide), if_pos (by omega), if_pos q, ih (l + 1) _ j (by omega) (by omega) (by rw [List.length_append]; simp; omega), List.append_assoc]
    · rw [if_pos (by rw [Bool.not_eq_true] at q; rw [q]; rfl), if_neg q, ih (l + 1) _ j (by omega) (by omega) (by omega), List.nil_append]
theorem impl_l0 (cs : List S59) (hok : cs.all clueOk = true) :
    ∀ (n p : Nat) (acc : List S66) (k : Nat), p + n = 41 → 2 ≤ p → acc.length + 20 * n ≤ 4000 → 22 * n + 1 ≤ k → impl_solutions.l0 k cs acc (p : Int) = some (acc ++ rows cs n p) := by
  intro n
  induction n with
  | zero =>
    intro p acc k h1 h2 h3 hk
    obtain ⟨k, rfl⟩ : ∃ j, k = j + 1 := ⟨k - 1, by omega⟩
    rw [impl_solutions.l0, if_neg (by omega), rows, List.append_nil]
  | succ n ih =>
    intro p acc k h1 h2 h3 hk
    have hr := row_len cs p (p / 2) 1
    obtain ⟨j, rfl⟩ : ∃ j, k = (j + p / 2 + 1) + 1 := ⟨k - 2 - p / 2, by omega⟩
    rw [impl_solutions.l0, if_pos (by omega), rows, ← List.append_assoc]
    have e := impl_l1 cs hok p h2 (by omega) (p / 2) 1 acc j (by omega) (by omega) (by omega)
    refine Eq.trans e ?_
    exact ih (p + 1) _ j (by omega) (by omega) (by rw [List.length_append]; omega) (by omega)
theorem implAll_eq (cs : List S59) (hok : cs.all clueOk = true) : impl_solutions.f cs = some (sols cs) := by
  have h := impl_l0 cs hok 39 2 [] 1000 (by decide) (by decide) (by simp) (by decide)
  rw [List.nil_append, two_cast] at h
  unfold sols
  rw [impl_solutions.f]
  exact h
theorem good_split {cs : List S59} (h : goodP cs = true) : cs.length ≤ 6 ∧ cs.all clueOk = true := by
  unfold goodP at h
  rw [Bool.and_eq_true, decide_eq_true_eq] at h
  exact h
end Go.Proofs.YtmahnaobiaffpaaDoor.P
end

/-! Clues without one leave good clues; how the program tells whether a puzzle is solved. -/
section
namespace Go.Proofs.YtmahnaobiaffpaaDoor.P
open Go.RowKit Go.Proofs.YtmahnaobiaffpaaDoorW.PrintWords Go.Proofs.YtmahnaobiaffpaaDoorW.PrintLast Go.Proofs.YtmahnaobiaffpaaDoorW.PrintMore Go.Proofs.YtmahnaobiaffpaaDoor.Base
set_option linter.unusedVariables false

theorem dropL_ok (cs : List S59) (i : Int) (hok : cs.all clueOk = true) : (dropL cs i).all clueOk = true := by
  refine List.all_eq_true.2 fun x hx => List.all_eq_true.1 hok x ?_
  unfold dropL at hx
  rcases List.mem_append.1 hx with h | h
  · exact List.mem_of_mem_take h
  · exact List.mem_of_mem_drop h
theorem dropL_len (cs : List S59) (i : Nat) (h : i < cs.length) : (dropL cs (i : Int)).length = cs.length - 1 := by
  unfold dropL
  rw [List.length_append, List.length_take, List.length_drop, Int.toNat_natCast]
  omega
theorem implSolutions_eq (cs : List S59) : impl_Solutions.f cs = some (if goodP cs = true then (sols cs, true) else ([], false)) := by
  rw [impl_Solutions.f, implIsPuzzle_eq]
  simp only [Option.bind_some]
  by_cases h : goodP cs = true
  · simp only [if_pos h]
    rw [implAll_eq cs (good_split h).2]
    rfl
  · simp only [if_neg h]
end Go.Proofs.YtmahnaobiaffpaaDoor.P
end

/-! Marks are laid in clues; the lists are at most 1048576 long. -/
section
namespace Go.Proofs.YtmahnaobiaffpaaDoor.P
open Go.RowKit Go.Proofs.YtmahnaobiaffpaaDoorW.PrintWords Go.Proofs.YtmahnaobiaffpaaDoorW.PrintLast Go.Proofs.YtmahnaobiaffpaaDoorW.PrintMore Go.Proofs.YtmahnaobiaffpaaDoor.Base
set_option linter.unusedVariables false

/-- The first n marked clues. -/
def mkC (n : Nat) : List S59 := (List.range n).map fun (j : Nat) => ⟨1 + 3 * (j : Int), 2 + 3 * (j : Int), 3 + 3 * (j : Int)⟩
theorem mkC_len (n : Nat) : (mkC n).length = n := by simp [mkC]
theorem mkC_succ (n : Nat) : mkC (n + 1) = mkC n ++ [⟨1 + 3 * (n : Int), 2 + 3 * (n : Int), 3 + 3 * (n : Int)⟩] := by simp [mkC, List.range_succ]
theorem mkC_at (n i : Nat) (h : i < n) (z : S59) : (mkC n).getD i z = ⟨1 + 3 * (i : Int), 2 + 3 * (i : Int), 3 + 3 * (i : Int)⟩ := by
  rw [List.getD_eq_getElem?_getD]
  simp [mkC, h]
theorem markClueS_l0 (l : List S59) (hn : l.length ≤ 1048576) : ∀ n i : Nat, i + n = l.length → Ev (fun k => laws_markClueS.l0 k (mkC i ++ l.drop i) (1 + 3 * (i : Int)) (i : Int)) (1 + 3 * (l.length : Int), mkC l.length) := by
  intro n
  induction n with
  | zero =>
    intro i hi
    obtain rfl : i = l.length := by omega
    refine Ev.step (fun k => ?_) (Ev.now _)
    have hl : (mkC l.length ++ l.drop l.length).length = l.length := by simp [mkC_len]
    simp only [laws_markClueS.l0, hl]
    rw [if_neg (by omega), List.drop_length, List.append_nil]
  | succ n ih =>
    intro i hi
    have h : i < l.length := by omega
    refine Ev.step (fun k => ?_) (ih (i + 1) (by omega))
    have hl : (mkC i ++ l.drop i).length = l.length := by simp [mkC_len]; omega
    have w1 : wrap64 (1 + 3 * (i : Int) + 1) = 2 + 3 * (i : Int) := by rw [w64 (by omega) (by omega)]; omega
    have w2 : wrap64 (2 + 3 * (i : Int) + 1) = 3 + 3 * (i : Int) := by rw [w64 (by omega) (by omega)]; omega
    have w3 : wrap64 (3 + 3 * (i : Int) + 1) = 1 + 3 * ((i + 1 : Nat) : Int) := by rw [w64 (by omega) (by omega)]; omega
    have w4 : wrap64 ((i : Int) + 1) = ((i + 1 : Nat) : Int) := by rw [w64 (by omega) (by omega)]; omega
    simp only [laws_markClueS.l0, hl, Option.bind_some, rd_T59, Int.toNat_natCast, w1, w2, w3, w4]
    rw [if_pos (by omega), if_pos (by omega)]
    rw [getD_set_self _ _ _ (by rw [hl]; exact h), getD_set_self _ _ _ (by rw [List.length_set, hl]; exact h), List.set_set, List.set_set, set_drop _ _ _ (mkC_len i) h, ← mkC_succ]
theorem markPuzzle_ev (l : List S59) (hn : l.length ≤ 1048576) : Ev (fun k => laws_markPuzzle.f k l 1) (1 + 3 * (l.length : Int), mkC l.length) := by
  have := markClueS_l0 l hn l.length 0 (by omega)
  refine Ev.congr (fun k => ?_) this
  simp only [laws_markPuzzle.f, laws_markClueS.f]
  show Option.bind (laws_markClueS.l0 k l 1 0) _ = laws_markClueS.l0 k (mkC 0 ++ l.drop 0) (1 + 3 * ((0 : Nat) : Int)) ((0 : Nat) : Int)
  have e : mkC 0 ++ l.drop 0 = l := by simp [mkC]
  rw [e]
  show Option.bind (laws_markClueS.l0 k l 1 0) _ = laws_markClueS.l0 k l 1 0
  cases laws_markClueS.l0 k l 1 0 <;> rfl
end Go.Proofs.YtmahnaobiaffpaaDoor.P
end

/-! Marks laid in clues are held; the lists are at most 1048576 long. -/
section
namespace Go.Proofs.YtmahnaobiaffpaaDoor.P
open Go.RowKit Go.Proofs.YtmahnaobiaffpaaDoorW.PrintWords Go.Proofs.YtmahnaobiaffpaaDoorW.PrintLast Go.Proofs.YtmahnaobiaffpaaDoorW.PrintMore Go.Proofs.YtmahnaobiaffpaaDoor.Base
set_option linter.unusedVariables false

theorem heldClueS_l0 (m : Nat) (hn : m ≤ 1048576) : ∀ n i : Nat, i + n = m → Ev (fun k => laws_heldClueS.l0 k (mkC m) (1 + 3 * (i : Int)) (i : Int)) (1 + 3 * (m : Int)) := by
  intro n
  induction n with
  | zero =>
    intro i hi
    obtain rfl : i = m := by omega
    refine Ev.step (fun k => ?_) (Ev.now _)
    simp only [laws_heldClueS.l0, mkC_len]
    rw [if_neg (by omega)]
  | succ n ih =>
    intro i hi
    refine Ev.step (fun k => ?_) (ih (i + 1) (by omega))
    have w1 : wrap64 (1 + 3 * (i : Int) + 1) = 2 + 3 * (i : Int) := by rw [w64 (by omega) (by omega)]; omega
    have w2 : wrap64 (2 + 3 * (i : Int) + 1) = 3 + 3 * (i : Int) := by rw [w64 (by omega) (by omega)]; omega
    have w3 : wrap64 (3 + 3 * (i : Int) + 1) = 1 + 3 * ((i + 1 : Nat) : Int) := by rw [w64 (by omega) (by omega)]; omega
    have w4 : wrap64 ((i : Int) + 1) = ((i + 1 : Nat) : Int) := by rw [w64 (by omega) (by omega)]; omega
    simp only [laws_heldClueS.l0, mkC_len, rd_T59, Int.toNat_natCast, mkC_at m i (by omega), w1, w2, w3, w4, if_true]
    rw [if_pos (by omega), if_pos (by omega)]
theorem heldPuzzle_ev (m : Nat) (hn : m ≤ 1048576) : Ev (fun k => laws_heldPuzzle.f k (mkC m) 1) (1 + 3 * (m : Int)) := by
  have := heldClueS_l0 m hn m 0 (by omega)
  refine Ev.congr (fun k => ?_) this
  simp only [laws_heldPuzzle.f, laws_heldClueS.f]
  show Option.bind (laws_heldClueS.l0 k (mkC m) 1 0) _ = laws_heldClueS.l0 k (mkC m) 1 0
  obtain e | ⟨x, e⟩ : laws_heldClueS.l0 k (mkC m) 1 0 = none ∨ ∃ x, laws_heldClueS.l0 k (mkC m) 1 0 = some x := by
    cases laws_heldClueS.l0 k (mkC m) 1 0 with
    | none => exact .inl rfl
    | some x => exact .inr ⟨x, rfl⟩
  · rw [e]; rfl
  · rw [e]
    simp only [Option.bind_some]
    obtain ⟨K, hK⟩ := this
    have h1 := at_rounds (fun k => (laws_heldClueS.mono_l k) (mkC m) 1 0) (Nat.le_max_left k K) e
    have h2 := hK (max k K) (Nat.le_max_right k K)
    have h3 : some x = some (1 + 3 * (m : Int)) := h1.symm.trans h2
    injection h3 with h3
    rw [if_neg (by omega)]
end Go.Proofs.YtmahnaobiaffpaaDoor.P
end

/-! The law of HarderPuzzle answers true at all clues; no condition. -/
section
set_option linter.unusedVariables false
namespace Go.Proofs.YtmahnaobiaffpaaDoor.Pure
open Go.RowKit Go.Proofs.YtmahnaobiaffpaaDoorW.PrintWords Go.Proofs.YtmahnaobiaffpaaDoor.P Go.Proofs.YtmahnaobiaffpaaDoor.Base

theorem harder_l0 : ∀ (n : Nat) (cs : List S59) (i : Nat), i + n = cs.length → cs.length ≤ 6 → cs.all clueOk = true → ∃ r : List S59 × Bool, Ev (fun k => spec_HarderPuzzle.l0 k cs (i : Int)) r ∧ Ev (fun k => impl_HarderPuzzle.l0 k cs (i : Int)) r ∧ r.1.length ≤ 6 := by
  intro n
  induction n with
  | zero =>
    intro cs i hi hn hok
    refine ⟨(cs, true), Ev_step (fun k => ?_) (Ev.now _), Ev_step (fun k => ?_) (Ev.now _), hn⟩
    · rw [spec_HarderPuzzle.l0, if_neg (by omega)]
    · rw [impl_HarderPuzzle.l0, if_neg (by omega)]
  | succ n ih =>
    intro cs i hi hn hok
    have h : i < cs.length := by omega
    have hl := dropL_len cs i h
    have hk := dropL_ok cs i hok
    have hs : Ev (fun k => spec_pzSolved.f k (dropL cs (i : Int))) (((sols (dropL cs (i : Int))).length : Int) == 1) := by
      simp only [spec_pzSolved.f]
      exact Ev_bind (pzAll_ev _ (by omega) hk) (Ev.now _)
    by_cases e : ((sols (dropL cs (i : Int))).length : Int) = 1
    · obtain ⟨r, h1, h2, h3⟩ := ih (dropL cs (i : Int)) i (by omega) (by omega) hk
      refine ⟨r, Ev_step (fun k => by rw [spec_HarderPuzzle.l0, if_pos (by omega)]) ?_, Ev_step (fun k => by rw [impl_HarderPuzzle.l0, if_pos (by omega)]) ?_, h3⟩
      · exact Ev_some (pzWithout_eq cs i (by omega) (by omega) (by omega)) (Ev_bind hs (Ev_pos (by rw [e]; rfl) h1))
      · exact Ev_some (without_eq cs i (by omega) (by omega) (by omega)) (Ev_some (implAll_eq _ hk) (Ev_pos e h2))
    · obtain ⟨r, h1, h2, h3⟩ := ih cs (i + 1) (by omega) hn hok
      refine ⟨r, Ev_step (fun k => by rw [spec_HarderPuzzle.l0, if_pos (by omega), next i (by omega)]) ?_, Ev_step (fun k => by rw [impl_HarderPuzzle.l0, if_pos (by omega), next i (by omega)]) ?_, h3⟩
      · exact Ev_some (pzWithout_eq cs i (by omega) (by omega) (by omega)) (Ev_bind hs (Ev_neg (by simp only [beq_iff_eq]; exact e) h1))
      · exact Ev_some (without_eq cs i (by omega) (by omega) (by omega)) (Ev_some (implAll_eq _ hk) (Ev_neg e h2))
theorem implIsSolved_eq (cs : List S59) : impl_IsSolved.f cs = some (if goodP cs = true then (((sols cs).length : Int) == 1, true) else (false, false)) := by
  rw [impl_IsSolved.f, implSolutions_eq]
  simp only [Option.bind_some]
  by_cases h : goodP cs = true
  · simp only [if_pos h]
  · simp only [if_neg h]
    rfl
theorem harder_ev (cs : List S59) (hn : cs.length ≤ 1048576) : ∃ r : List S59 × Bool, Ev (fun k => spec_HarderPuzzle.f k cs) r ∧ Ev (fun k => impl_HarderPuzzle.f k cs) r ∧ r.1.length ≤ 1048576 := by
  by_cases h : goodP cs = true
  · obtain ⟨h1, h2⟩ := good_split h
    have hs : Ev (fun k => spec_pzSolved.f k cs) (((sols cs).length : Int) == 1) := by
      simp only [spec_pzSolved.f]
      exact Ev_bind (pzAll_ev _ h1 h2) (Ev.now _)
    cases e : ((sols cs).length : Int) == 1 with
    | true =>
      rw [e] at hs
      obtain ⟨r, h3, h4, h5⟩ := harder_l0 cs.length cs 0 (by omega) h1 h2
      refine ⟨r, ?_, ?_, by omega⟩
      · simp only [spec_HarderPuzzle.f]
        refine Ev_bind (pzGood_ev cs hn) (Ev_pos h (Ev_bind hs ?_))
        refine Ev_step (fun k => by rw [spec_HarderPuzzle.j0]) (Ev_neg (by decide) ?_)
        refine Ev_some (a := []) rfl (Ev_pos (by simp only [List.length_nil]; omega) ?_)
        exact h3
      · simp only [impl_HarderPuzzle.f]
        refine Ev_some (implIsSolved_eq cs) ?_
        simp only [if_pos h, e]
        refine Ev_pos (by trivial) (Ev_step (fun k => by rw [impl_HarderPuzzle.j0]) (Ev_neg (by decide) ?_))
        refine Ev_some (a := cs) (by rw [clone_Clue.f, if_pos (by omega)]) ?_
        exact h4
    | false =>
      rw [e] at hs
      refine ⟨([], false), ?_, ?_, Nat.zero_le _⟩
      · simp only [spec_HarderPuzzle.f]
        refine Ev_bind (pzGood_ev cs hn) (Ev_pos h (Ev_bind hs ?_))
        refine Ev_step (fun k => by rw [spec_HarderPuzzle.j0]) ?_
        exact Ev_pos rfl (Ev.now _)
      · simp only [impl_HarderPuzzle.f]
        refine Ev_some (implIsSolved_eq cs) ?_
        simp only [if_pos h, e]
        refine Ev_pos (by trivial) (Ev_step (fun k => by rw [impl_HarderPuzzle.j0]) ?_)
        exact Ev_pos rfl (Ev.now _)
  · refine ⟨([], false), ?_, ?_, Nat.zero_le _⟩
    · simp only [spec_HarderPuzzle.f]
      refine Ev_bind (pzGood_ev cs hn) (Ev_neg h ?_)
      refine Ev_step (fun k => by rw [spec_HarderPuzzle.j0]) ?_
      exact Ev_pos rfl (Ev.now _)
    · simp only [impl_HarderPuzzle.f]
      refine Ev_some (implIsSolved_eq cs) ?_
      simp only [if_neg h]
      exact Ev_neg (by decide) (Ev_step (fun k => by rw [impl_HarderPuzzle.j0]) (Ev_pos rfl (Ev.now _)))
theorem FnExactHarderPuzzle : laws_FnExactHarderPuzzle.Pure := by
  intro l ⟨hm, _⟩
  refine Ev.rounds (g := fun k => laws_FnExactHarderPuzzle.f k l) ?_
  by_cases hn : l.length ≤ 1048576
  · have hl : (l.map toC).length ≤ 1048576 := by rw [List.length_map]; exact hn
    have h1 := toPuzzle_ev l hn
    obtain ⟨⟨d1, d2⟩, h2, h4, hd⟩ := harder_ev (l.map toC) hl
    have h3 := eqPuzzle_ev (l.map toC) hl
    have h8 := markPuzzle_ev (l.map toC) hl
    have h5 := eqPuzzle_ev d1 hd
    have h6 := markPuzzle_ev d1 hd
    have h7 := heldPuzzle_ev d1.length hd
    simp only [laws_FnExactHarderPuzzle.f]
    refine Ev_some (szPuzzle_eq l hm) ?_
    simp only [if_pos hn]
    refine Ev_neg (by omega) ?_
    refine Ev_bind h1 (Ev_bind h2 (Ev_bind h1 (Ev_bind h4 (Ev_bind h5 (Ev_pos rfl ?_)))))
    refine Ev_step (fun k => by rw [laws_FnExactHarderPuzzle.j0]) ?_
    refine Ev_neg (by simp) (Ev_bind h1 (Ev_bind h3 (Ev_pos rfl (Ev_bind h8 (Ev_neg (by omega) (Ev_bind h5 (Ev_pos rfl ?_)))))))
    refine Ev_step (fun k => by rw [laws_FnExactHarderPuzzle.j1]) ?_
    refine Ev_neg (by simp) (Ev_bind h6 (Ev_bind h7 (Ev_neg (by omega) (Ev_pos rfl (Ev_bind h1 (Ev_bind h4 (Ev_bind h5 (Ev_pos rfl ?_))))))))
    refine Ev_step (fun k => by rw [laws_FnExactHarderPuzzle.j2]) ?_
    refine Ev_neg (by simp) (Ev_bind h7 (Ev_neg (by omega) (Ev_pos rfl (Ev.now _))))
  · refine ⟨0, fun k _ => ?_⟩
    simp only [laws_FnExactHarderPuzzle.f, szPuzzle_eq l hm, if_neg hn, Option.bind_some]
    rw [if_pos (by omega)]
end Go.Proofs.YtmahnaobiaffpaaDoor.Pure
end
