/- Loops over pages that leave out a leaf; the pages are at most 40. -/
import Derived.Test.YtmcingnpbececaaDoorBase
import Derived.Lib.ItoaNum
import Derived.Lib.Bytealg
namespace Go.Proofs.YtmcingnpbececaaDoor.Skip
open Go.RowKit Go.Proofs.YtmcingnpbececaaDoorW.PrintWords Go.Proofs.YtmcingnpbececaaDoor.Base
set_option linter.unusedVariables false

/-- What m pages from page n on add, those of leaf l left out. -/
def skipFrom (d : Nat → Nat) (l : Nat) : Nat → Nat → Nat
  | _, 0 => 0
  | n, m + 1 => (if (n + 1) / 2 = l then 0 else d n) + skipFrom d l (n + 1) m
theorem skip_loop (L : Nat → Int → Int → Option Int) (d : Nat → Nat) (l p : Nat) (hp : p ≤ 40) (hd : ∀ n, 1 ≤ n → n ≤ 40 → d n ≤ 100)
    (hskip : ∀ k (acc : Nat) (n : Nat), 1 ≤ n → n ≤ p → (n + 1) / 2 = l → L (k + 1) acc n = L k acc (n + 1 : Nat))
    (hstep : ∀ k (acc : Nat) (n : Nat), 9 ≤ k → acc ≤ 10000 → 1 ≤ n → n ≤ p → (n + 1) / 2 ≠ l → L (k + 1) acc n = L k (acc + d n : Nat) (n + 1 : Nat))
    (hend : ∀ k (acc : Nat), L (k + 1) acc (p + 1 : Nat) = some (acc : Int)) :
    ∀ m n acc : Nat, n + m = p + 1 → 1 ≤ n → acc ≤ 100 * n → ∀ k, m + 10 ≤ k → L k acc n = some ((acc + skipFrom d l n m : Nat) : Int) := by
  intro m
  induction m with
  | zero =>
    intro n acc hn h1 ha k hk
    obtain ⟨k, rfl⟩ : ∃ j, k = j + 1 := ⟨k - 1, by omega⟩
    obtain rfl : n = p + 1 := by omega
    rw [hend]
    rfl
  | succ m ih =>
    intro n acc hn h1 ha k hk
    obtain ⟨k, rfl⟩ : ∃ j, k = j + 1 := ⟨k - 1, by omega⟩
    by_cases hl : (n + 1) / 2 = l
    · rw [hskip k acc n h1 (by omega) hl, ih (n + 1) acc (by omega) (by omega) (by omega) k (by omega)]
      simp [skipFrom, hl]
    · have := hd n h1 (by omega)
      rw [hstep k acc n (by omega) (by omega) h1 (by omega) hl, ih (n + 1) (acc + d n) (by omega) (by omega) (by omega) k (by omega)]
      simp [skipFrom, hl, Nat.add_assoc]
theorem skip_all (d : Nat → Nat) (l : Nat) (h1 : 1 ≤ l) : ∀ m n, 1 ≤ n → skipFrom d 0 n m = skipFrom d l n m + (if n ≤ 2 * l - 1 ∧ 2 * l - 1 < n + m then d (2 * l - 1) else 0) + (if n ≤ 2 * l ∧ 2 * l < n + m then d (2 * l) else 0) := by
  intro m
  induction m with
  | zero =>
    intro n hn
    rw [if_neg (by omega), if_neg (by omega)]
    rfl
  | succ m ih =>
    intro n hn
    simp only [skipFrom]
    rw [if_neg (show ¬ (n + 1) / 2 = 0 by omega), ih (n + 1) (by omega)]
    by_cases a : n = 2 * l - 1
    · subst a
      rw [if_pos (show (2 * l - 1 + 1) / 2 = l by omega), if_neg (show ¬ (2 * l - 1 + 1 ≤ 2 * l - 1 ∧ 2 * l - 1 < 2 * l - 1 + 1 + m) by omega), if_pos (show 2 * l - 1 ≤ 2 * l - 1 ∧ 2 * l - 1 < 2 * l - 1 + (m + 1) by omega)]
      by_cases b : 2 * l < 2 * l - 1 + 1 + m
      · rw [if_pos (by omega), if_pos (by omega)]; omega
      · rw [if_neg (by omega), if_neg (by omega)]; omega
    · by_cases b : n = 2 * l
      · subst b
        rw [if_pos (show (2 * l + 1) / 2 = l by omega), if_neg (show ¬ (2 * l + 1 ≤ 2 * l - 1 ∧ 2 * l - 1 < 2 * l + 1 + m) by omega), if_neg (show ¬ (2 * l + 1 ≤ 2 * l ∧ 2 * l < 2 * l + 1 + m) by omega), if_neg (show ¬ (2 * l ≤ 2 * l - 1 ∧ 2 * l - 1 < 2 * l + (m + 1)) by omega), if_pos (show 2 * l ≤ 2 * l ∧ 2 * l < 2 * l + (m + 1) by omega)]
        omega
      · rw [if_neg (show ¬ (n + 1) / 2 = l by omega)]
        by_cases c : n ≤ 2 * l - 1 ∧ 2 * l - 1 < n + (m + 1)
        · rw [if_pos c, if_pos (by omega)]
          by_cases e : n ≤ 2 * l ∧ 2 * l < n + (m + 1)
          · rw [if_pos e, if_pos (by omega)]; omega
          · rw [if_neg e, if_neg (by omega)]; omega
        · rw [if_neg c, if_neg (by omega)]
          by_cases e : n ≤ 2 * l ∧ 2 * l < n + (m + 1)
          · rw [if_pos e, if_pos (by omega)]; omega
          · rw [if_neg e, if_neg (by omega)]; omega
theorem sum_id : ∀ p, p < 41 → skipFrom (fun n => n) 0 1 p = p * (p + 1) / 2 := by decide +kernel
/-- How often a digit is in a number below 100; how many digits it has. -/
def cnt (a n : Nat) : Nat := (if n % 10 = a then 1 else 0) + (if 10 ≤ n ∧ n / 10 = a then 1 else 0)
def dig (n : Nat) : Nat := if n < 10 then 1 else 2
def one (a n : Nat) : Nat := if cnt a n = 0 then 0 else 1
theorem decDigits_len (n : Nat) (h : n < 100) : (Lib.decDigits n).length = dig n := by
  unfold dig
  by_cases h1 : n < 10
  · rw [Lib.decDigits_one h1, if_pos h1]; rfl
  · rw [Lib.decDigits_two h1 h, if_neg h1]; rfl
theorem byte_eq : ∀ x, x < 10 → ∀ a, a < 10 → (UInt8.ofNat (48 + x) == UInt8.ofNat (48 + a)) = decide (x = a) := by decide +kernel
theorem count_dec (n a : Nat) (h : n < 100) (ha : a < 10) : Lib.countByte (Lib.decDigits n) (UInt8.ofNat (48 + a)) = cnt a n := by
  unfold Lib.countByte cnt
  by_cases h1 : n < 10
  · rw [Lib.decDigits_one h1, List.count_cons, List.count_nil, byte_eq n h1 a ha, if_neg (show ¬ (10 ≤ n ∧ n / 10 = a) by omega)]
    by_cases e : n = a
    · rw [if_pos (by simpa using e), if_pos (by omega)]
    · rw [if_neg (by simpa using e), if_neg (by omega)]
  · rw [Lib.decDigits_two h1 h, List.count_cons, List.count_cons, List.count_nil, byte_eq (n / 10) (by omega) a ha, byte_eq (n % 10) (by omega) a ha]
    have h10 : 10 ≤ n := by omega
    by_cases e : n % 10 = a <;> by_cases f : n / 10 = a <;> simp [e, f, h10]
end Go.Proofs.YtmcingnpbececaaDoor.Skip
