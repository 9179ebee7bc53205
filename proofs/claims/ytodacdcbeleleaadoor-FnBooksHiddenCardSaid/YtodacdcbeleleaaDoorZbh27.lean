/- Small facts on wrapped numbers, lists and rounds; no condition. -/
import Derived.Test.YtodacdcbeleleaaDoorZbh0
import Derived.Test.YtodacdcbeleleaaDoorZbh24
import Derived.Test.YtodacdcbeleleaaDoorZbh23
import Derived.Lib.ItoaNum
import Derived.Lib.Bytealg
import Derived.Test.YtodacdcbeleleaaDoorZbh21
import Derived.Test.YtodacdcbeleleaaDoorZbh22
import Derived.Test.YtodacdcbeleleaaDoorZbh25
import Derived.Laws.BitsLemmas
import Derived.OpenShut
import Derived.ProofKit
import Derived.Deep.Slices
import Derived.Lib.SmallJoins
import Derived.WalkKit
section
namespace Go.Proofs.YtodacdcbeleleaaDoor.Base
open Go.RowKit Go.Proofs.YtodacdcbeleleaaDoorW.PrintWords
set_option linter.unusedVariables false

theorem w64 {x : Int} (h1 : -4611686018427387904 ≤ x) (h2 : x ≤ 4611686018427387904) : wrap64 x = x := by
  unfold wrap64
  omega
theorem getD_at {α : Type} (l : List α) (z : α) {i : Nat} (h : i < l.length) : l.getD i z = l[i] := by
  rw [List.getD_eq_getElem?_getD, List.getElem?_eq_getElem h]
  rfl
theorem all_drop {α : Type} (p : α → Bool) (l : List α) (z : α) {i : Nat} (h : i < l.length) : (l.drop i).all p = (p (l.getD i z) && (l.drop (i + 1)).all p) := by
  rw [getD_at l z h, List.drop_eq_getElem_cons h, List.all_cons]
theorem Ev_bind {α β : Type} {g : Nat → Option α} {f : Nat → α → Option β} {a : α} {r : β} (h : Ev g a) (k : Ev (fun n => f n a) r) : Ev (fun n => (g n).bind (f n)) r := Ev.bind h k
theorem Ev_some {α β : Type} {x : Option α} {f : Nat → α → Option β} {a : α} {r : β} (h : x = some a) (k : Ev (fun n => f n a) r) : Ev (fun n => x.bind (f n)) r := by
  subst h
  exact k
theorem Ev_pos {α : Type} {c : Prop} [Decidable c] {f g : Nat → Option α} {r : α} (h : c) (k : Ev f r) : Ev (fun n => if c then f n else g n) r := by
  simp only [if_pos h]
  exact k
theorem Ev_neg {α : Type} {c : Prop} [Decidable c] {f g : Nat → Option α} {r : α} (h : ¬ c) (k : Ev g r) : Ev (fun n => if c then f n else g n) r := by
  simp only [if_neg h]
  exact k
theorem Ev_step {α : Type} {g f : Nat → Option α} {r : α} (h : ∀ k, g (k + 1) = f k) (k : Ev f r) : Ev g r := Ev.step h k
def inB (n lo hi : Int) : Bool := decide (lo ≤ n ∧ n ≤ hi)
end Go.Proofs.YtodacdcbeleleaaDoor.Base
end

section
namespace Go.Proofs.YtodacdcbeleleaaDoor.P
open Go.RowKit Go.Proofs.YtodacdcbeleleaaDoorW.PrintWords Go.Proofs.YtodacdcbeleleaaDoorW.PrintLast Go.Proofs.YtodacdcbeleleaaDoorW.PrintMore Go.Proofs.YtodacdcbeleleaaDoor.Base
set_option linter.unusedVariables false

def dropL (l : List S40) (a : Int) : List S40 := l.take a.toNat ++ l.drop (a.toNat + 1)
theorem pzWithout_eq (l : List S40) (a : Int) (hn : l.length ≤ 1048576) (h0 : 0 ≤ a) (h1 : a < l.length) : spec_pzWithout.f l a = some (dropL l a) := by
  have w : wrap64 (a + 1) = a + 1 := w64 (by omega) (by omega)
  have e : (a + 1).toNat = a.toNat + 1 := by omega
  simp only [spec_pzWithout.f, Option.bind_some, w, e, List.nil_append, List.length_nil, List.length_take, List.length_drop]
  rw [if_pos h0, if_pos (by omega), if_pos (by omega), if_pos (by omega), if_pos (by omega), if_pos (by omega)]
  rfl
theorem without_eq (l : List S40) (a : Int) (hn : l.length ≤ 1048576) (h0 : 0 ≤ a) (h1 : a < l.length) : impl_without.f l a = some (dropL l a) := by
  unfold impl_without.f
  rw [if_pos ⟨h0, h1, by omega⟩]
  rfl
end Go.Proofs.YtodacdcbeleleaaDoor.P
end

section
namespace Go.Proofs.YtodacdcbeleleaaDoor.Skip
open Go.RowKit Go.Proofs.YtodacdcbeleleaaDoorW.PrintWords Go.Proofs.YtodacdcbeleleaaDoor.Base
set_option linter.unusedVariables false

def skipFrom (d : Nat → Nat) (l : Nat) : Nat → Nat → Nat
  | _, 0 => 0
  | n, m + 1 => (if (n + 1) / 2 = l then 0 else d n) + skipFrom d l (n + 1) m
theorem skip_loop (L : Nat → Int → Int → Option Int) (d : Nat → Nat) (l p : Nat) (hp : p ≤ 40) (hd : ∀ n, 1 ≤ n → n ≤ 40 → d n ≤ 100)
    (hskip : ∀ k (acc : Nat) (n : Nat), 1 ≤ n → n ≤ p → (n + 1) / 2 = l → L (k + 1) acc n = L k acc (n + 1 : Nat))
    (hstep : ∀ k (acc : Nat) (n : Nat), 9 ≤ k → acc ≤ 10000 → 1 ≤ n → n ≤ p → (n + 1) / 2 ≠ l → L (k + 1) acc n = L k (acc + d n : Nat) (n + 1 : Nat))
    (hend : ∀ k (acc : Nat), L (k + 1) acc (p + 1 : Nat) = some (acc : Int)) :
    ∀ m n acc : Nat, n + m = p + 1 → 1 ≤ n → acc ≤ 100 * n → ∀ k, m + 10 ≤ k → L k acc n = some ((acc + skipFrom d l n m : Nat) : Int) := by
  intro m
  induction m with
  | zero =>
    intro n acc hn h1 ha k hk
    obtain ⟨k, rfl⟩ : ∃ j, k = j + 1 := ⟨k - 1, by omega⟩
    obtain rfl : n = p + 1 := by omega
    rw [hend]
    rfl
  | succ m ih =>
    intro n acc hn h1 ha k hk
    obtain ⟨k, rfl⟩ : ∃ j, k = j + 1 := ⟨k - 1, by omega⟩
    by_cases hl : (n + 1) / 2 = l
    · rw [hskip k acc n h1 (by omega) hl, ih (n + 1) acc (by omega) (by omega) (by omega) k (by omega)]
      simp [skipFrom, hl]
    have := hd n h1 (by omega)
    rw [hstep k acc n (by omega) (by omega) h1 (by omega) hl, ih (n + 1) (acc + d n) (by omega) (by omega) (by omega) k (by omega)]
    simp [skipFrom, hl, Nat.add_assoc]
theorem skip_all (d : Nat → Nat) (l : Nat) (h1 : 1 ≤ l) : ∀ m n, 1 ≤ n → skipFrom d 0 n m = skipFrom d l n m + (if n ≤ 2 * l - 1 ∧ 2 * l - 1 < n + m then d (2 * l - 1) else 0) + (if n ≤ 2 * l ∧ 2 * l < n + m then d (2 * l) else 0) := by
  intro m
  induction m with
  | zero =>
    intro n hn
    rw [if_neg (by omega), if_neg (by omega)]
    rfl
  | succ m ih =>
    intro n hn
    simp only [skipFrom]
    rw [if_neg (show ¬ (n + 1) / 2 = 0 by omega), ih (n + 1) (by omega)]
    by_cases a : n = 2 * l - 1
    · subst a
      rw [if_pos (show (2 * l - 1 + 1) / 2 = l by omega), if_neg (show ¬ (2 * l - 1 + 1 ≤ 2 * l - 1 ∧ 2 * l - 1 < 2 * l - 1 + 1 + m) by omega), if_pos (show 2 * l - 1 ≤ 2 * l - 1 ∧ 2 * l - 1 < 2 * l - 1 + (m + 1) by omega)]
      by_cases b : 2 * l < 2 * l - 1 + 1 + m; rotate_left
      · rw [if_neg (by omega), if_neg (by omega)]; omega
      rw [if_pos (by omega), if_pos (by omega)]; omega
    by_cases b : n = 2 * l
    · subst b
      rw [if_pos (show (2 * l + 1) / 2 = l by omega), if_neg (show ¬ (2 * l + 1 ≤ 2 * l - 1 ∧ 2 * l - 1 < 2 * l + 1 + m) by omega), if_neg (show ¬ (2 * l + 1 ≤ 2 * l ∧ 2 * l < 2 * l + 1 + m) by omega), if_neg (show ¬ (2 * l ≤ 2 * l - 1 ∧ 2 * l - 1 < 2 * l + (m + 1)) by omega), if_pos (show 2 * l ≤ 2 * l ∧ 2 * l < 2 * l + (m + 1) by omega)]
      omega
    rw [if_neg (show ¬ (n + 1) / 2 = l by omega)]
    by_cases c : n ≤ 2 * l - 1 ∧ 2 * l - 1 < n + (m + 1); rotate_left
    · rw [if_neg c, if_neg (by omega)]
      by_cases e : n ≤ 2 * l ∧ 2 * l < n + (m + 1); rotate_left
      · rw [if_neg e, if_neg (by omega)]; omega
      rw [if_pos e, if_pos (by omega)]; omega
    rw [if_pos c, if_pos (by omega)]
    by_cases e : n ≤ 2 * l ∧ 2 * l < n + (m + 1); rotate_left
    · rw [if_neg e, if_neg (by omega)]; omega
    rw [if_pos e, if_pos (by omega)]; omega
theorem sum_id : ∀ p, p < 41 → skipFrom (fun n => n) 0 1 p = p * (p + 1) / 2 := by decide +kernel
def cnt (a n : Nat) : Nat := (if n % 10 = a then 1 else 0) + (if 10 ≤ n ∧ n / 10 = a then 1 else 0)
def dig (n : Nat) : Nat := if n < 10 then 1 else 2
def one (a n : Nat) : Nat := if cnt a n = 0 then 0 else 1
theorem decDigits_len (n : Nat) (h : n < 100) : (Lib.decDigits n).length = dig n := by
  unfold dig
  by_cases h1 : n < 10; rotate_left
  · rw [Lib.decDigits_two h1 h, if_neg h1]; rfl
  rw [Lib.decDigits_one h1, if_pos h1]; rfl
theorem byte_eq : ∀ x, x < 10 → ∀ a, a < 10 → (UInt8.ofNat (48 + x) == UInt8.ofNat (48 + a)) = decide (x = a) := by decide +kernel
theorem count_dec (n a : Nat) (h : n < 100) (ha : a < 10) : Lib.countByte (Lib.decDigits n) (UInt8.ofNat (48 + a)) = cnt a n := by
  unfold Lib.countByte cnt
  by_cases h1 : n < 10; rotate_left
  · rw [Lib.decDigits_two h1 h, List.count_cons, List.count_cons, List.count_nil, byte_eq (n / 10) (by omega) a ha, byte_eq (n % 10) (by omega) a ha]
    have h10 : 10 ≤ n := by omega
    by_cases e : n % 10 = a <;> by_cases f : n / 10 = a <;> simp [e, f, h10]
  rw [Lib.decDigits_one h1, List.count_cons, List.count_nil, byte_eq n h1 a ha, if_neg (show ¬ (10 ≤ n ∧ n / 10 = a) by omega)]
  by_cases e : n = a; rotate_left
  · rw [if_neg (by simpa using e), if_neg (by omega)]
  rw [if_pos (by simpa using e), if_pos (by omega)]
end Go.Proofs.YtodacdcbeleleaaDoor.Skip
end

section
namespace Go.Proofs.YtodacdcbeleleaaDoor.P
open Go.RowKit Go.Proofs.YtodacdcbeleleaaDoorW.PrintWords Go.Proofs.YtodacdcbeleleaaDoorW.PrintLast Go.Proofs.YtodacdcbeleleaaDoorW.PrintMore Go.Proofs.YtodacdcbeleleaaDoor.Base

theorem l1In_eq (n lo hi : Int) : spec_l1In.f n lo hi = some (inB n lo hi) := by
  unfold spec_l1In.f inB
  by_cases h : lo ≤ n <;> simp [h]
theorem within_eq (n lo hi : Int) : impl_within.f n lo hi = some (inB n lo hi) := by
  unfold impl_within.f inB
  by_cases h : lo ≤ n <;> simp [h]
end Go.Proofs.YtodacdcbeleleaaDoor.P
end

section
namespace Go.Proofs.YtodacdcbeleleaaDoor.P
open Go.RowKit Go.Proofs.YtodacdcbeleleaaDoorW.PrintWords Go.Proofs.YtodacdcbeleleaaDoorW.PrintLast Go.Proofs.YtodacdcbeleleaaDoorW.PrintMore Go.Proofs.YtodacdcbeleleaaDoor.Base
set_option linter.unusedVariables false

def clueB (a b c : Int) : Bool :=
  inB c 0 1000 && (if a = 0 ∨ a = 1 ∨ a = 5 then b == 0 else if a = 2 then inB b 0 9 else if a = 3 then inB b 1 40 && decide (c ≤ 1) else if a = 4 then inB b 2 9 && decide (c ≤ 1) else false)
def clueOk (x : S40) : Bool := clueB x.f0 x.f1 x.f2
theorem lt2 (c : Int) : decide (c < 2) = decide (c ≤ 1) := by
  by_cases h : c ≤ 1; rotate_left
  · rw [decide_eq_false h, decide_eq_false (show ¬ c < 2 by omega)]
  rw [decide_eq_true h, decide_eq_true (show c < 2 by omega)]
end Go.Proofs.YtodacdcbeleleaaDoor.P
end

section
namespace Go.Proofs.YtodacdcbeleleaaDoor.P
open Go.RowKit Go.Proofs.YtodacdcbeleleaaDoorW.PrintWords Go.Proofs.YtodacdcbeleleaaDoorW.PrintLast Go.Proofs.YtodacdcbeleleaaDoorW.PrintMore Go.Proofs.YtodacdcbeleleaaDoor.Base Go.Proofs.YtodacdcbeleleaaDoor.Skip
set_option linter.unusedVariables false

theorem itoa_eq (n : Nat) (h : n < 100) : itoa.f (n : Int) = some ⟨(Lib.decDigits n).toArray⟩ := by
  unfold itoa.f
  rw [if_pos ⟨by omega, by omega⟩, Int.toNat_natCast]
theorem used_eq (n a : Nat) (h : n < 100) (ha : a < 10) : impl_used.f (n : Int) (a : Int) = some (cnt a n : Int) := by
  simp only [impl_used.f, itoa_eq n h, itoa_eq a (by omega), Option.bind_some, Lib.decDigits_one ha]
  show Option.bind (some ((Lib.countByte (Lib.decDigits n) (UInt8.ofNat (48 + a)) : Nat) : Int)) _ = _
  rw [count_dec n a h ha]
  rfl
theorem half (n : Nat) (h : n ≤ 40) : wrap64 (Int.tdiv (wrap64 ((n : Int) + 1)) 2) = ((n + 1) / 2 : Nat) := by
  rw [w64 (x := (n : Int) + 1) (by omega) (by omega), Int.tdiv_eq_ediv_of_nonneg (by omega), w64 (by omega) (by omega)]
  omega
theorem next (n : Nat) (h : n ≤ 1000) : wrap64 ((n : Int) + 1) = ((n + 1 : Nat) : Int) := by
  rw [w64 (by omega) (by omega)]; omega
theorem one_min (a n : Nat) : mn 1 (cnt a n : Int) = (one a n : Int) := by
  unfold one mn
  by_cases h : cnt a n = 0
  · rw [if_pos h]; omega
  · rw [if_neg h]; omega

theorem tells_loop (kind a : Int) (d : Nat → Nat) (p l : Nat) (hp : p ≤ 40) (hl : 1 ≤ l) (hd : ∀ n, 1 ≤ n → n ≤ 40 → d n ≤ 100)
    (hk : (kind = 0 ∧ d = fun n => n) ∨ (kind = 1 ∧ d = dig) ∨ (kind = 2 ∧ ∃ b : Nat, b < 10 ∧ a = b ∧ d = one b)) (k : Nat) (h : p + 10 ≤ k) :
    impl_Hidden_tells.l0 k kind a 0 1 p l = some ((skipFrom d l 1 p : Nat) : Int) := by
  have := skip_loop (fun k acc n => impl_Hidden_tells.l0 k kind a acc n p l) d l p hp hd ?_ ?_ ?_ p 1 0 (by omega) (by omega) (by omega) k h
  · simpa using this
  · intro k acc n h1 h2 h3
    simp only [impl_Hidden_tells.l0]
    rw [if_pos (by omega), half n (by omega), if_pos (by rw [h3]), next n (by omega)]
  · intro k acc n _ ha h1 h2 h3
    simp only [impl_Hidden_tells.l0]
    rw [if_pos (by omega), half n (by omega), if_neg (by omega), next n (by omega)]
    have hb := hd n h1 (by omega)
    rcases hk with ⟨rfl, rfl⟩ | ⟨rfl, rfl⟩ | ⟨rfl, b, hb1, rfl, rfl⟩
    · rw [if_pos rfl, w64 (by omega) (by omega)]
      rfl
    · rw [if_neg (by decide), if_pos rfl, itoa_eq n (by omega)]
      have e : (⟨(Lib.decDigits n).toArray⟩ : ByteArray).size = dig n := by
        rw [← decDigits_len n (by omega)]
        rfl
      simp only [Option.bind_some, e]
      rw [w64 (by omega) (by omega)]
      rfl
    · rw [if_neg (by decide), if_neg (by decide), used_eq n b (by omega) hb1]
      simp only [Option.bind_some, one_min]
      rw [w64 (by omega) (by omega)]
      rfl
  · intro k acc
    simp only [impl_Hidden_tells.l0]
    rw [if_neg (by omega)]
theorem bpCount_eq (n a k : Nat) (h1 : 1 ≤ n) (h : n < 100) (ha : a < 10) : spec_bpCount.f (k + 4) (n : Int) (a : Int) = some (cnt a n : Int) := by
  have m1 : Int.tmod (n : Int) 10 = ((n % 10 : Nat) : Int) := by rw [Int.tmod_eq_emod_of_nonneg (by omega)]; omega
  have d1 : wrap64 (Int.tdiv (n : Int) 10) = ((n / 10 : Nat) : Int) := by rw [Int.tdiv_eq_ediv_of_nonneg (by omega), w64 (by omega) (by omega)]; omega
  have m2 : Int.tmod ((n / 10 : Nat) : Int) 10 = ((n / 10 : Nat) : Int) := by rw [Int.tmod_eq_emod_of_nonneg (by omega)]; omega
  have d2 : wrap64 (Int.tdiv ((n / 10 : Nat) : Int) 10) = 0 := by rw [Int.tdiv_eq_ediv_of_nonneg (by omega), w64 (by omega) (by omega)]; omega
  have w0 : wrap64 ((0 : Int) + 1) = 1 := by unfold wrap64; omega
  have w1 : wrap64 ((1 : Int) + 1) = 2 := by unfold wrap64; omega
  simp only [spec_bpCount.f, spec_bpCount.l0, m1, d1, m2, d2, w0, w1]
  rw [if_pos (by omega)]
  unfold cnt
  by_cases e : n % 10 = a; rotate_left
  · rw [if_neg (by omega), if_neg e]
    by_cases f : n / 10 = 0
    · rw [if_neg (by omega), if_neg (by omega)]; rfl
    rw [if_pos (by omega)]
    by_cases g : n / 10 = a; rotate_left
    · rw [if_neg (by omega), if_neg (by omega), if_neg (by omega)]; rfl
    rw [if_pos (by rw [g]), if_neg (by omega), if_pos ⟨by omega, g⟩]; rfl
  rw [if_pos (by rw [e]), if_pos e]
  by_cases f : n / 10 = 0
  · rw [if_neg (by omega), if_neg (by omega)]; rfl
  rw [if_pos (by omega)]
  by_cases g : n / 10 = a; rotate_left
  · rw [if_neg (by omega), if_neg (by omega), if_neg (by omega)]; rfl
  rw [if_pos (by rw [g]), if_neg (by omega), if_pos ⟨by omega, g⟩]; rfl
theorem value_loop (a p l : Nat) (hp : p ≤ 40) (hl : 1 ≤ l) (ha : a < 10) (k : Nat) (h : p + 10 ≤ k) :
    spec_pzValue.l0 k a 0 1 p l = some ((skipFrom (one a) l 1 p : Nat) : Int) := by
  have := skip_loop (fun k acc n => spec_pzValue.l0 k a acc n p l) (one a) l p hp (fun n _ _ => by unfold one; split <;> omega) ?_ ?_ ?_ p 1 0 (by omega) (by omega) (by omega) k h
  · simpa using this
  · intro k acc n h1 h2 h3
    simp only [spec_pzValue.l0]
    rw [if_pos (by omega), half n (by omega), if_pos (by rw [h3]), next n (by omega)]
  · intro k acc n hk ha' h1 h2 h3
    simp only [spec_pzValue.l0]
    obtain ⟨j, rfl⟩ : ∃ j, k = j + 4 := ⟨k - 4, by omega⟩
    rw [if_pos (by omega), half n (by omega), if_neg (by omega), next n (by omega), bpCount_eq n a j h1 (by omega) ha]
    simp only [Option.bind_some]
    unfold one
    by_cases e : cnt a n = 0; rotate_left
    · rw [if_pos (by omega), if_neg e, w64 (by omega) (by omega)]
      rfl
    rw [if_neg (by omega), if_pos e]
    rfl
  · intro k acc
    simp only [spec_pzValue.l0]
    rw [if_neg (by omega)]
theorem num_size (n k : Nat) (h : n < 100) : ∃ s : ByteArray, spec_l1Num.f (k + 3) (n : Int) = some s ∧ s.size = dig n := by
  unfold dig
  by_cases h1 : n < 10
  · refine ⟨_, by simp only [spec_l1Num.f]; rw [if_pos (by omega)], ?_⟩
    rw [if_pos h1, strOfNums_size]
    rfl
  have d1 : wrap64 (Int.tdiv (n : Int) 10) = ((n / 10 : Nat) : Int) := by rw [Int.tdiv_eq_ediv_of_nonneg (by omega), w64 (by omega) (by omega)]; omega
  have hs : ∀ x y : List Int, (strOfNums x ++ strOfNums y).size = x.length + y.length := fun x y => by
    rw [ByteArray.size_append, strOfNums_size, strOfNums_size]
  have e2 : spec_l1Num.f (k + 2) ((n / 10 : Nat) : Int) = some (strOfNums [wrap64 (48 + ((n / 10 : Nat) : Int)) % 256]) := by
    rw [spec_l1Num.f, if_pos (by omega)]
  refine ⟨strOfNums [wrap64 (48 + ((n / 10 : Nat) : Int)) % 256] ++ strOfNums [wrap64 (48 + Int.tmod (n : Int) 10) % 256], ?_, ?_⟩
  · rw [spec_l1Num.f, if_neg (by omega), d1, e2]
    simp only [Option.bind_some]
    rw [if_pos (by rw [strOfNums_size, strOfNums_size]; simp)]
  · rw [hs, if_neg h1]; rfl
theorem digits_loop (p : Nat) (hp : p ≤ 40) (k : Nat) (h : p + 10 ≤ k) : spec_bpDigits.f k p = some ((skipFrom dig 0 1 p : Nat) : Int) := by
  have := skip_loop (fun k acc n => spec_bpDigits.l0 k p acc n) dig 0 p hp (fun n _ _ => by unfold dig; split <;> omega) ?_ ?_ ?_ p 1 0 (by omega) (by omega) (by omega) k h
  · simpa [spec_bpDigits.f] using this
  · intro k acc n h1 h2 h3
    omega
  · intro k acc n hk ha' h1 h2 h3
    simp only [spec_bpDigits.l0]
    obtain ⟨j, rfl⟩ : ∃ j, k = j + 3 := ⟨k - 3, by omega⟩
    obtain ⟨s, hs, hz⟩ := num_size n j (by omega)
    have hb : dig n ≤ 2 := by unfold dig; split <;> omega
    rw [if_pos (by omega), hs, next n (by omega)]
    simp only [Option.bind_some, hz]
    rw [w64 (by omega) (by omega)]
    rfl
  · intro k acc
    simp only [spec_bpDigits.l0]
    rw [if_neg (by omega)]
theorem half2 (T s : Nat) (h : T ≤ 1640) (e : s = T / 2) : wrap64 (Int.tdiv (T : Int) 2) = (s : Int) := by
  rw [Int.tdiv_eq_ediv_of_nonneg (by omega), w64 (by omega) (by omega)]; omega
theorem minus (s0 s1 l : Nat) (h : s0 ≤ 2000) (e : s0 = s1 + (2 * l - 1) + 2 * l) (hl : 1 ≤ l) : wrap64 ((s0 : Int) - (4 * (l : Int) - 1)) = (s1 : Int) := by
  rw [w64 (by omega) (by omega)]; omega
theorem minus2 (s0 s1 x y : Nat) (h : s0 ≤ 2000) (e : s0 = s1 + x + y) : wrap64 (wrap64 ((s0 : Int) - (x : Int)) - (y : Int)) = (s1 : Int) := by
  rw [w64 (x := (s0 : Int) - (x : Int)) (by omega) (by omega), w64 (by omega) (by omega)]; omega
theorem tells_eq (kind a c : Int) (p l k : Nat) (h2 : 2 ≤ p) (hp : p ≤ 40) (hl : 1 ≤ l) (hlp : 2 * l ≤ p) (hc : clueB kind a c = true) (hk : 60 ≤ k) :
    ∃ v, spec_pzValue.f k kind a p l = some v ∧ impl_Hidden_tells.f k p l kind a = some v := by
  simp only [clueB, Bool.and_eq_true] at hc
  obtain ⟨hcc, hc⟩ := hc
  have w4 : wrap64 (wrap64 (4 * (l : Int)) - 1) = 4 * (l : Int) - 1 := by
    rw [w64 (x := 4 * (l : Int)) (by omega) (by omega), w64 (by omega) (by omega)]
  have tot0 := skip_all (fun n => n) l hl p 1 (by omega)
  have tot1 := skip_all dig l hl p 1 (by omega)
  rw [if_pos (by omega), if_pos (by omega)] at tot0 tot1
  by_cases k0 : kind = 0
  · subst k0
    refine ⟨((skipFrom (fun n => n) l 1 p : Nat) : Int), ?_, ?_⟩
    · have s0 := sum_id p (by omega)
      have hs : skipFrom (fun n => n) 0 1 p ≤ 820 := by
        rw [s0]
        have : p * (p + 1) ≤ 40 * 41 := Nat.mul_le_mul hp (by omega)
        omega
      have hpp : p * (p + 1) ≤ 1640 := by
        have : p * (p + 1) ≤ 40 * 41 := Nat.mul_le_mul hp (by omega)
        omega
      have e1 : wrap64 ((p : Int) + 1) = ((p + 1 : Nat) : Int) := next p (by omega)
      have e2 : wrap64 ((p : Int) * ((p + 1 : Nat) : Int)) = ((p * (p + 1) : Nat) : Int) := by
        rw [show (p : Int) * ((p + 1 : Nat) : Int) = ((p * (p + 1) : Nat) : Int) from (Int.natCast_mul p (p + 1)).symm, w64 (by omega) (by omega)]
      have e3 := half2 (p * (p + 1)) _ hpp s0
      have e4 := minus _ _ l (Nat.le_trans hs (by decide)) tot0 hl
      rw [spec_pzValue.f, if_pos rfl, spec_bpSum.f, e1, e2, e3, w4]
      simp only [Option.bind_some]
      rw [e4]
    · rw [impl_Hidden_tells.f, if_neg (by decide), if_neg (by decide), if_neg (by decide), tells_loop 0 a (fun n => n) p l hp hl (fun n _ h => by omega) (.inl ⟨rfl, rfl⟩) k (by omega)]
  by_cases k1 : kind = 1
  · subst k1
    refine ⟨((skipFrom dig l 1 p : Nat) : Int), ?_, ?_⟩
    · obtain ⟨j, rfl⟩ : ∃ j, k = j + 3 := ⟨k - 3, by omega⟩
      obtain ⟨s1, hs1, hz1⟩ := num_size (2 * l - 1) j (by omega)
      obtain ⟨s2, hs2, hz2⟩ := num_size (2 * l) j (by omega)
      have e1 : wrap64 (wrap64 (2 * (l : Int)) - 1) = ((2 * l - 1 : Nat) : Int) := by rw [w64 (x := 2 * (l : Int)) (by omega) (by omega), w64 (by omega) (by omega)]; omega
      have e2 : wrap64 (2 * (l : Int)) = ((2 * l : Nat) : Int) := by rw [w64 (by omega) (by omega)]; omega
      have hb : ∀ n, dig n ≤ 2 := fun n => by unfold dig; split <;> omega
      have hb1 := hb (2 * l - 1)
      have hb2 := hb (2 * l)
      have hbig : ∀ m n, skipFrom dig 0 n m ≤ 2 * m := by
        intro m
        induction m with
        | zero => intro n; exact Nat.le_refl _
        | succ m ih =>
          intro n
          have := ih (n + 1)
          have := hb n
          simp only [skipFrom]
          split <;> omega
      have hb3 := hbig p 1
      clear tot0
      rw [spec_pzValue.f, if_neg (by decide), if_pos rfl, digits_loop p hp _ (by omega), e1, e2, hs1, hs2]
      simp only [Option.bind_some, hz1, hz2]
      rw [minus2 _ _ _ _ (Nat.le_trans hb3 (by omega)) tot1]
    · rw [impl_Hidden_tells.f, if_neg (by decide), if_neg (by decide), if_neg (by decide), tells_loop 1 a dig p l hp hl (fun n _ h => by unfold dig; split <;> omega) (.inr (.inl ⟨rfl, rfl⟩)) k (by omega)]
  by_cases k5 : kind = 5
  · subst k5
    refine ⟨4 * (l : Int) - 1, ?_, ?_⟩
    · rw [spec_pzValue.f, if_neg (by decide), if_neg (by decide), if_neg (by decide), if_neg (by decide), if_neg (by decide), w4]
    · rw [impl_Hidden_tells.f, if_neg (by decide), if_neg (by decide), if_pos rfl, w4]
  rw [if_neg (by omega)] at hc
  by_cases k2 : kind = 2
  · subst k2
    rw [if_pos rfl] at hc
    simp only [inB, decide_eq_true_eq] at hc
    obtain ⟨b, rfl⟩ := Int.eq_ofNat_of_zero_le hc.1
    refine ⟨((skipFrom (one b) l 1 p : Nat) : Int), ?_, ?_⟩
    · rw [spec_pzValue.f, if_neg (by decide), if_neg (by decide), if_pos rfl, value_loop b p l hp hl (by omega) k (by omega)]
    · rw [impl_Hidden_tells.f, if_neg (by decide), if_neg (by decide), if_neg (by decide), tells_loop 2 b (one b) p l hp hl (fun n _ h => by unfold one; split <;> omega) (.inr (.inr ⟨rfl, b, by omega, rfl, rfl⟩)) k (by omega)]
  rw [if_neg k2] at hc
  by_cases k3 : kind = 3
  · subst k3
    refine ⟨if (l : Int) ≥ a then 1 else 0, ?_, ?_⟩
    · rw [spec_pzValue.f, if_neg (by decide), if_neg (by decide), if_neg (by decide), if_pos rfl]
      split <;> rfl
    · rw [impl_Hidden_tells.f, if_pos rfl]
      simp only [impl_flag.f]
      by_cases h : (l : Int) ≥ a <;> simp [h]
  rw [if_neg k3] at hc
  by_cases k4 : kind = 4
  · subst k4
    rw [if_pos rfl] at hc
    simp only [inB, Bool.and_eq_true, decide_eq_true_eq] at hc
    refine ⟨if Int.tmod (p : Int) a = 0 then 1 else 0, ?_, ?_⟩
    · rw [spec_pzValue.f, if_neg (by decide), if_neg (by decide), if_neg (by decide), if_neg (by decide), if_pos rfl, if_neg (by omega)]
      split <;> rfl
    · rw [impl_Hidden_tells.f, if_neg (by decide), if_pos rfl, if_neg (by omega)]
      simp only [impl_flag.f]
      by_cases h : Int.tmod (p : Int) a = 0 <;> simp [h]
  rw [if_neg k4] at hc
  cases hc
end Go.Proofs.YtodacdcbeleleaaDoor.P
end

section
namespace Go.Proofs.YtodacdcbeleleaaDoor.P
open Go.RowKit Go.Proofs.YtodacdcbeleleaaDoorW.PrintWords Go.Proofs.YtodacdcbeleleaaDoorW.PrintLast Go.Proofs.YtodacdcbeleleaaDoorW.PrintMore Go.Proofs.YtodacdcbeleleaaDoor.Base
set_option linter.unusedVariables false

theorem spec_clue (k : Nat) (a b c : Int) : spec_pzClue.f (k + 1) a b c = some (clueB a b c) := by
  simp only [spec_pzClue.f, spec_pzClue.j0, l1In_eq, Option.bind_some, clueB, lt2]
  cases inB c 0 1000
  · simp
  by_cases h0 : a = 0
  · simp [h0]
  by_cases h1 : a = 1
  · simp [h1]
  by_cases h5 : a = 5
  · simp [h5]
  by_cases h2 : a = 2
  · simp [h2]
  by_cases h3 : a = 3
  · simp [h3]
    cases inB b 1 40 <;> simp
  by_cases h4 : a = 4
  · simp [h4]
    cases inB b 2 9 <;> simp
  simp [h0, h1, h5, h2, h3, h4]
theorem impl_clue (k : Nat) (a b c : Int) : impl_IsClue.f (k + 1) a b c = some (clueB a b c) := by
  simp only [impl_IsClue.f, impl_IsClue.j0, within_eq, Option.bind_some, clueB]
  cases inB c 0 1000
  · simp
  by_cases h0 : a = 0
  · simp [h0]
  by_cases h1 : a = 1
  · simp [h1]
  by_cases h5 : a = 5
  · simp [h5]
  by_cases h2 : a = 2
  · simp [h2]
  by_cases h3 : a = 3
  · simp [h3]
    cases inB b 1 40 <;> simp
  by_cases h4 : a = 4
  · simp [h4]
    cases inB b 2 9 <;> simp
  simp [h0, h1, h5, h2, h3, h4]

def goodP (l : List S40) : Bool := decide (l.length ≤ 6) && l.all clueOk
theorem pzGood_l0 (l : List S40) (hn : l.length ≤ 1048576) : ∀ n i : Nat, i + n = l.length → Ev (fun k => spec_pzGood.l0 k l (l.length : Int) (i : Int)) ((l.drop i).all clueOk) := by
  intro n
  induction n with
  | zero =>
    intro i hi
    refine Ev.step (fun k => ?_) (Ev.now _)
    simp only [spec_pzGood.l0]
    rw [if_neg (by omega), List.drop_of_length_le (by omega)]
    rfl
  | succ n ih =>
    intro i hi
    have h : i < l.length := by omega
    obtain ⟨K, hK⟩ := ih (i + 1) (by omega)
    refine ⟨K + 2, fun k hk => ?_⟩
    obtain ⟨k, rfl⟩ : ∃ m, k = m + 2 := ⟨k - 2, by omega⟩
    simp only [spec_pzGood.l0, spec_clue, Option.bind_some]
    rw [if_pos (by omega), if_pos (by omega), if_pos (by omega), all_drop clueOk l z40 h]
    have e : clueB (rd_T40 l (i : Int)).f0 (rd_T40 l (i : Int)).f1 (rd_T40 l (i : Int)).f2 = clueOk (l.getD i z40) := by
      unfold rd_T40 clueOk
      rw [Int.toNat_natCast]
    rw [e]
    cases clueOk (l.getD i z40) with
    | false => simp
    | true =>
      rw [if_pos rfl, w64 (by omega) (by omega)]
      exact hK (k + 1) (by omega)
theorem pzGood_ev (l : List S40) (hn : l.length ≤ 1048576) : Ev (fun k => spec_pzGood.f k l) (goodP l) := by
  by_cases h : l.length ≤ 6; rotate_left
  · refine Ev.congr (f := fun _ => some false) (fun k => ?_) ?_
    · simp only [spec_pzGood.f]
      rw [if_pos (by omega)]
    · have e : goodP l = false := by simp [goodP, h]
      rw [e]
      exact Ev.now _
  have := pzGood_l0 l hn l.length 0 (by omega)
  refine Ev.congr (f := fun k => spec_pzGood.l0 k l (l.length : Int) 0) (fun k => ?_) ?_
  · simp only [spec_pzGood.f]
    rw [if_neg (by omega)]
  · have e : goodP l = (l.drop 0).all clueOk := by simp [goodP, h]
    rw [e]
    exact this
theorem closure_eq (x : S40) : impl_IsPuzzle_1.f 1 x.f0 x.f1 x.f2 = some (!clueOk x) := by
  simp only [impl_IsPuzzle_1.f, impl_clue, Option.bind_some, clueOk]
theorem implIsPuzzle_eq (l : List S40) : impl_IsPuzzle.f l = some (goodP l) := by
  have h1 : (l.all fun x => (impl_IsPuzzle_1.f 1 x.f0 x.f1 x.f2).isSome) = true := by
    rw [List.all_eq_true]
    intro x _
    rw [closure_eq]
    rfl
  have h2 : l.any badClue = !l.all clueOk := by
    have : badClue = fun x => !clueOk x := by
      funext x
      simp only [badClue, closure_eq, Option.getD_some]
    rw [this, List.not_all_eq_any_not]
  unfold impl_IsPuzzle.f goodP
  rw [if_pos h1, h2, Bool.not_not]
  by_cases h : l.length ≤ 6; rotate_left
  · rw [if_pos (by omega), decide_eq_false h, Bool.false_and]
  rw [if_neg (by omega), decide_eq_true h, Bool.true_and]
end Go.Proofs.YtodacdcbeleleaaDoor.P
end

section
namespace Go.Proofs.YtodacdcbeleleaaDoor.P
open Go.RowKit Go.Proofs.YtodacdcbeleleaaDoorW.PrintWords Go.Proofs.YtodacdcbeleleaaDoorW.PrintLast Go.Proofs.YtodacdcbeleleaaDoorW.PrintMore Go.Proofs.YtodacdcbeleleaaDoor.Base Go.Proofs.YtodacdcbeleleaaDoor.Skip
set_option linter.unusedVariables false

theorem fits_spec (a b c : Int) (p l k : Nat) (h2 : 2 ≤ p) (hp : p ≤ 40) (hl : 1 ≤ l) (hlp : 2 * l ≤ p) (hc : clueB a b c = true) (hk : 60 ≤ k) :
    told p l ⟨a, b, c⟩ = true ∧ spec_pzFits.f k a b c p l = some (hit p l ⟨a, b, c⟩) := by
  obtain ⟨v, hv, hi⟩ := tells_eq a b c p l 100 h2 hp hl hlp hc (by decide)
  obtain ⟨v', hv', _⟩ := tells_eq a b c p l k h2 hp hl hlp hc hk
  have m1 := at_rounds (fun k => spec_pzValue.mono a b p l k) (Nat.le_max_left k 100) hv'
  have m2 := at_rounds (fun k => spec_pzValue.mono a b p l k) (Nat.le_max_right k 100) hv
  obtain rfl : v' = v := Option.some.inj (m1.symm.trans m2)
  have e1 : impl_Hidden_fits.f 100 p l a b c = some (v' == c) := by rw [impl_Hidden_fits.f, hi]; rfl
  refine ⟨by simp only [told, e1]; rfl, ?_⟩
  simp only [hit, e1, Option.getD_some]
  rw [spec_pzFits.f, hv']
  rfl
theorem tdiv2 (p : Nat) (hp : p ≤ 1000) : wrap64 (Int.tdiv (p : Int) 2) = ((p / 2 : Nat) : Int) := by
  rw [Int.tdiv_eq_ediv_of_nonneg (by omega), w64 (by omega) (by omega)]; omega
def row (cs : List S40) (p : Nat) : Nat → Nat → List S25
  | 0, _ => []
  | n + 1, l => (if cs.all (hit p l) = true then [⟨(p : Int), (l : Int)⟩] else []) ++ row cs p n (l + 1)
def rows (cs : List S40) : Nat → Nat → List S25
  | 0, _ => []
  | n + 1, p => row cs p (p / 2) 1 ++ rows cs n (p + 1)
theorem row_len (cs : List S40) (p : Nat) : ∀ n l, (row cs p n l).length ≤ n := by
  intro n
  induction n with
  | zero => intro l; exact Nat.le_refl _
  | succ n ih =>
    intro l
    have := ih (l + 1)
    simp only [row, List.length_append]
    split <;> simp <;> omega
theorem rows_len (cs : List S40) : ∀ n p, p + n ≤ 41 → (rows cs n p).length ≤ 20 * n := by
  intro n
  induction n with
  | zero => intro l _; exact Nat.le_refl _
  | succ n ih =>
    intro p hp
    have := ih (p + 1) (by omega)
    have := row_len cs p (p / 2) 1
    simp only [rows, List.length_append]
    omega
def sols (cs : List S40) : List S25 := rows cs 39 2
theorem sols_len (cs : List S40) : (sols cs).length ≤ 780 := rows_len cs 39 2 (by decide)

theorem pzAll_l2 (cs : List S40) (hn : cs.length ≤ 6) (hok : cs.all clueOk = true) (acc : List S25) (p l : Nat) (h2 : 2 ≤ p) (hp : p ≤ 40) (hl : 1 ≤ l) (hlp : 2 * l ≤ p) :
    ∀ (n i : Nat) (b : Bool) (k : Nat), i + n = cs.length → 60 ≤ k → spec_pzAll.l2 (k + n + 1) cs acc p l b cs (cs.length : Int) (i : Int) p l =
      (if (b && (cs.drop i).all (hit p l)) = true then (if acc.length < 8796093022208 then spec_pzAll.l1 k cs (acc ++ [⟨(p : Int), (l : Int)⟩]) p (wrap64 ((l : Int) + 1)) else none) else spec_pzAll.l1 k cs acc p (wrap64 ((l : Int) + 1))) := by
  intro n
  induction n with
  | zero =>
    intro i b k hi hk
    rw [spec_pzAll.l2, if_neg (by omega), List.drop_of_length_le (by omega), List.all_nil, Bool.and_true]
  | succ n ih =>
    intro i b k hi hk
    have h : i < cs.length := by omega
    have hc : clueOk (cs.getD i z40) = true := by
      rw [getD_at cs _ h]
      exact List.all_eq_true.1 hok _ (List.getElem_mem h)
    have hf := (fits_spec _ _ _ p l (k + (n + 1)) h2 hp hl hlp hc (by omega)).2
    have er : rd_T40 cs (i : Int) = cs.getD i z40 := by unfold rd_T40; rw [Int.toNat_natCast]
    rw [spec_pzAll.l2, if_pos (by omega), if_pos (by omega), if_pos (by omega), all_drop (hit p l) cs z40 h, er, next i (by omega)]
    cases b with
    | true =>
      rw [if_pos rfl, hf]
      simp only [Option.bind_some, Bool.true_and]
      exact ih (i + 1) _ k (by omega) hk
    | false =>
      rw [if_neg (by decide)]
      have := ih (i + 1) false k (by omega) hk
      simp only [Bool.false_and] at this ⊢
      exact this
theorem pzAll_l1 (cs : List S40) (hn : cs.length ≤ 6) (hok : cs.all clueOk = true) (p : Nat) (h2 : 2 ≤ p) (hp : p ≤ 40) (r : List S25) :
    ∀ (m l : Nat) (acc : List S25), l + m = p / 2 + 1 → 1 ≤ l → acc.length + m ≤ 5000 → Ev (fun k => spec_pzAll.l0 k cs (acc ++ row cs p m l) ((p + 1 : Nat) : Int)) r → Ev (fun k => spec_pzAll.l1 k cs acc p l) r := by
  intro m
  induction m with
  | zero =>
    intro l acc hl h1 ha h
    refine Ev_step (fun k => ?_) h
    rw [spec_pzAll.l1, tdiv2 p (by omega), if_neg (by omega), next p (by omega), row, List.append_nil]
  | succ m ih =>
    intro l acc hl h1 ha h
    have key : Ev (fun k => spec_pzAll.l1 k cs (acc ++ (if cs.all (hit p l) = true then [⟨(p : Int), (l : Int)⟩] else [])) p ((l + 1 : Nat) : Int)) r := by
      refine ih (l + 1) _ (by omega) (by omega) (by rw [List.length_append]; split <;> simp <;> omega) ?_
      rw [List.append_assoc]
      exact h
    obtain ⟨K, hK⟩ := key
    refine ⟨K + 60 + cs.length + 2, fun k hk => ?_⟩
    obtain ⟨j, rfl⟩ : ∃ j, k = (j + cs.length + 1) + 1 := ⟨k - cs.length - 2, by omega⟩
    have e := pzAll_l2 cs hn hok acc p l h2 hp h1 (by omega) cs.length 0 true j (by omega) (by omega)
    have hK' := hK j (by omega)
    show spec_pzAll.l1 ((j + cs.length + 1) + 1) cs acc p l = some r
    rw [spec_pzAll.l1, tdiv2 p (by omega), if_pos (by omega)]
    refine Eq.trans e ?_
    rw [List.drop_zero, Bool.true_and, next l (by omega)]
    by_cases q : cs.all (hit p l) = true; rotate_left
    · rw [if_neg q]
      simp only [if_neg q, List.append_nil] at hK'
      exact hK'
    rw [if_pos q, if_pos (by omega)]
    simp only [if_pos q] at hK'
    exact hK'
theorem pzAll_l0 (cs : List S40) (hn : cs.length ≤ 6) (hok : cs.all clueOk = true) :
    ∀ (n p : Nat) (acc : List S25), p + n = 41 → 2 ≤ p → acc.length + 20 * n ≤ 4000 → Ev (fun k => spec_pzAll.l0 k cs acc (p : Int)) (acc ++ rows cs n p) := by
  intro n
  induction n with
  | zero =>
    intro p acc h1 h2 h3
    refine Ev_step (fun k => ?_) (Ev.now _)
    rw [spec_pzAll.l0, if_neg (by omega), rows, List.append_nil]
  | succ n ih =>
    intro p acc h1 h2 h3
    have hr := row_len cs p (p / 2) 1
    refine Ev_step (f := fun k => spec_pzAll.l1 k cs acc p ((1 : Nat) : Int)) (fun k => ?_) ?_
    · rw [spec_pzAll.l0, if_pos (by omega)]
      rfl
    · have := ih (p + 1) (acc ++ row cs p (p / 2) 1) (by omega) (by omega) (by rw [List.length_append]; omega)
      rw [rows, ← List.append_assoc]
      exact pzAll_l1 cs hn hok p h2 (by omega) _ (p / 2) 1 acc (by omega) (by omega) (by omega) this
theorem two_cast : ((2 : Nat) : Int) = 2 := rfl
theorem pzAll_ev (cs : List S40) (hn : cs.length ≤ 6) (hok : cs.all clueOk = true) : Ev (fun k => spec_pzAll.f k cs) (sols cs) := by
  have h := pzAll_l0 cs hn hok 39 2 [] (by decide) (by decide) (by simp)
  rw [List.nil_append, two_cast] at h
  unfold sols
  exact Ev.congr (fun k => by rw [spec_pzAll.f]) h

theorem impl_l1 (cs : List S40) (hok : cs.all clueOk = true) (p : Nat) (h2 : 2 ≤ p) (hp : p ≤ 40) :
    ∀ (m l : Nat) (acc : List S25) (j : Nat), l + m = p / 2 + 1 → 1 ≤ l → acc.length + m ≤ 5000 → impl_solutions.l1 (j + m + 1) cs acc p l = impl_solutions.l0 j cs (acc ++ row cs p m l) ((p + 1 : Nat) : Int) := by
  intro m
  induction m with
  | zero =>
    intro l acc j hl h1 ha
    show impl_solutions.l1 (j + 1) cs acc p l = _
    rw [impl_solutions.l1, tdiv2 p (by omega), if_neg (by omega), next p (by omega), row, List.append_nil]
  | succ m ih =>
    intro l acc j hl h1 ha
    have ht : cs.all (told p l) = true := List.all_eq_true.2 fun x hx => (fits_spec x.f0 x.f1 x.f2 p l 60 h2 hp h1 (by omega) (List.all_eq_true.1 hok x hx) (Nat.le_refl _)).1
    have hm : missed cs p l = !cs.all (hit p l) := by unfold missed; rw [List.not_all_eq_any_not]
    show impl_solutions.l1 ((j + m + 1) + 1) cs acc p l = _
    rw [impl_solutions.l1, tdiv2 p (by omega), if_pos (by omega), if_pos ht, hm, next l (by omega), row]
    by_cases q : cs.all (hit p l) = true; rotate_left
    · rw [if_pos (by rw [Bool.not_eq_true] at q; rw [q]; rfl), if_neg q, ih (l + 1) _ j (by omega) (by omega) (by omega), List.nil_append]
    rw [if_neg (by rw [q]; decide), if_pos (by omega), if_pos q, ih (l + 1) _ j (by omega) (by omega) (by rw [List.length_append]; simp; omega), List.append_assoc]
theorem impl_l0 (cs : List S40) (hok : cs.all clueOk = true) :
    ∀ (n p : Nat) (acc : List S25) (k : Nat), p + n = 41 → 2 ≤ p → acc.length + 20 * n ≤ 4000 → 22 * n + 1 ≤ k → impl_solutions.l0 k cs acc (p : Int) = some (acc ++ rows cs n p) := by
  intro n
  induction n with
  | zero =>
    intro p acc k h1 h2 h3 hk
    obtain ⟨k, rfl⟩ : ∃ j, k = j + 1 := ⟨k - 1, by omega⟩
    rw [impl_solutions.l0, if_neg (by omega), rows, List.append_nil]
  | succ n ih =>
    intro p acc k h1 h2 h3 hk
    have hr := row_len cs p (p / 2) 1
    obtain ⟨j, rfl⟩ : ∃ j, k = (j + p / 2 + 1) + 1 := ⟨k - 2 - p / 2, by omega⟩
    rw [impl_solutions.l0, if_pos (by omega), rows, ← List.append_assoc]
    have e := impl_l1 cs hok p h2 (by omega) (p / 2) 1 acc j (by omega) (by omega) (by omega)
    refine Eq.trans e ?_
    exact ih (p + 1) _ j (by omega) (by omega) (by rw [List.length_append]; omega) (by omega)
theorem implAll_eq (cs : List S40) (hok : cs.all clueOk = true) : impl_solutions.f cs = some (sols cs) := by
  have h := impl_l0 cs hok 39 2 [] 1000 (by decide) (by decide) (by simp) (by decide)
  rw [List.nil_append, two_cast] at h
  unfold sols
  rw [impl_solutions.f]
  exact h
theorem good_split {cs : List S40} (h : goodP cs = true) : cs.length ≤ 6 ∧ cs.all clueOk = true := by
  unfold goodP at h
  rw [Bool.and_eq_true, decide_eq_true_eq] at h
  exact h
end Go.Proofs.YtodacdcbeleleaaDoor.P
end

section
namespace Go.Proofs.YtodacdcbeleleaaDoor.P
open Go.RowKit Go.Proofs.YtodacdcbeleleaaDoorW.PrintWords Go.Proofs.YtodacdcbeleleaaDoorW.PrintLast Go.Proofs.YtodacdcbeleleaaDoorW.PrintMore Go.Proofs.YtodacdcbeleleaaDoor.Base
set_option linter.unusedVariables false

theorem dropL_ok (cs : List S40) (i : Int) (hok : cs.all clueOk = true) : (dropL cs i).all clueOk = true := by
  refine List.all_eq_true.2 fun x hx => List.all_eq_true.1 hok x ?_
  unfold dropL at hx
  rcases List.mem_append.1 hx with h | h
  · exact List.mem_of_mem_take h
  · exact List.mem_of_mem_drop h
theorem dropL_len (cs : List S40) (i : Nat) (h : i < cs.length) : (dropL cs (i : Int)).length = cs.length - 1 := by
  unfold dropL
  rw [List.length_append, List.length_take, List.length_drop, Int.toNat_natCast]
  omega
theorem implSolutions_eq (cs : List S40) : impl_Solutions.f cs = some (if goodP cs = true then (sols cs, true) else ([], false)) := by
  rw [impl_Solutions.f, implIsPuzzle_eq]
  simp only [Option.bind_some]
  by_cases h : goodP cs = true; rotate_left
  · simp only [if_neg h]
  simp only [if_pos h]
  rw [implAll_eq cs (good_split h).2]
  rfl

abbrev CL := S40
theorem row_sub {cs ds : List CL} (h : ∀ p l, cs.all (hit p l) = true → ds.all (hit p l) = true) (p : Nat) : ∀ n l, (row cs p n l).Sublist (row ds p n l) := by
  intro n
  induction n with
  | zero => intro l; exact List.Sublist.refl _
  | succ n ih =>
    intro l
    rw [row, row]
    refine List.Sublist.append ?_ (ih (l + 1))
    by_cases c : cs.all (hit p l) = true; rotate_left
    · rw [if_neg c]
      exact List.nil_sublist _
    rw [if_pos c, if_pos (h p l c)]
    exact List.Sublist.refl _
theorem rows_sub {cs ds : List CL} (h : ∀ p l, cs.all (hit p l) = true → ds.all (hit p l) = true) : ∀ n p, (rows cs n p).Sublist (rows ds n p) := by
  intro n
  induction n with
  | zero => intro p; exact List.Sublist.refl _
  | succ n ih =>
    intro p
    rw [rows, rows]
    exact List.Sublist.append (row_sub h p _ _) (ih (p + 1))
theorem sols_sub {cs ds : List CL} (h : ∀ x ∈ ds, x ∈ cs) : (sols cs).Sublist (sols ds) :=
  rows_sub (fun p l hc => List.all_eq_true.2 fun x hx => List.all_eq_true.1 hc x (h x hx)) 39 2
theorem dropL_erase (cs : List CL) (i : Nat) : dropL cs (i : Int) = cs.eraseIdx i := by
  unfold dropL
  rw [List.eraseIdx_eq_take_drop_succ]
  simp only [Int.toNat_natCast]
theorem dropL_mem {cs : List CL} {i : Nat} {x : CL} (h : x ∈ dropL cs (i : Int)) : x ∈ cs := by
  rw [dropL_erase] at h
  exact List.mem_of_mem_eraseIdx h
theorem dropL_two {cs : List CL} {i j : Nat} (hj : j < i) {x : CL} (h : x ∈ dropL (dropL cs (i : Int)) (j : Int)) : x ∈ dropL cs (j : Int) := by
  rw [dropL_erase, dropL_erase] at h
  rw [dropL_erase]
  obtain ⟨m, h1, h2⟩ := List.mem_eraseIdx_iff_getElem?.1 h
  rw [List.getElem?_eraseIdx] at h2
  refine List.mem_eraseIdx_iff_getElem?.2 ?_
  by_cases hm : m < i; rotate_left
  · rw [if_neg hm] at h2
    exact ⟨m + 1, by omega, h2⟩
  rw [if_pos hm] at h2
  exact ⟨m, h1, h2⟩
theorem harder_sem : ∀ (n : Nat) (cs : List CL) (i : Nat), i + n = cs.length → cs.length ≤ 6 → cs.all clueOk = true → (sols cs).length = 1 → (∀ j : Nat, j < i → (sols (dropL cs (j : Int))).length ≠ 1) →
    ∃ r : List CL, Ev (fun k => spec_HarderPuzzle.l0 k cs (i : Int)) (r, true) ∧ Ev (fun k => impl_HarderPuzzle.l0 k cs (i : Int)) (r, true) ∧ r.length ≤ cs.length ∧ r.all clueOk = true ∧ sols r = sols cs ∧ ∀ j : Nat, j < r.length → (sols (dropL r (j : Int))).length ≠ 1 := by
  intro n
  induction n with
  | zero =>
    intro cs i hi hn hok h1 hj
    refine ⟨cs, Ev_step (fun k => ?_) (Ev.now _), Ev_step (fun k => ?_) (Ev.now _), Nat.le_refl _, hok, rfl, fun j h => hj j (by omega)⟩
    · rw [spec_HarderPuzzle.l0, if_neg (by omega)]
    · rw [impl_HarderPuzzle.l0, if_neg (by omega)]
  | succ n ih =>
    intro cs i hi hn hok h1 hj
    have h : i < cs.length := by omega
    have hl := dropL_len cs i h
    have hk := dropL_ok cs i hok
    have hs : Ev (fun k => spec_pzSolved.f k (dropL cs (i : Int))) (((sols (dropL cs (i : Int))).length : Int) == 1) := by
      simp only [spec_pzSolved.f]
      exact Ev_bind (pzAll_ev _ (by omega) hk) (Ev.now _)
    by_cases e : ((sols (dropL cs (i : Int))).length : Int) = 1; rotate_left
    · obtain ⟨r, a, b, r1, r2, r3, r4⟩ := ih cs (i + 1) (by omega) hn hok h1 (fun j hji => by
        by_cases e2 : j = i
        · subst e2; omega
        · exact hj j (by omega))
      refine ⟨r, Ev_step (fun k => by rw [spec_HarderPuzzle.l0, if_pos (by omega), next i (by omega)]) ?_, Ev_step (fun k => by rw [impl_HarderPuzzle.l0, if_pos (by omega), next i (by omega)]) ?_, r1, r2, r3, r4⟩
      · exact Ev_some (pzWithout_eq cs i (by omega) (by omega) (by omega)) (Ev_bind hs (Ev_neg (by simp only [beq_iff_eq]; exact e) a))
      · exact Ev_some (without_eq cs i (by omega) (by omega) (by omega)) (Ev_some (implAll_eq _ hk) (Ev_neg e b))
    have sub := sols_sub (cs := cs) (ds := dropL cs (i : Int)) (fun x hx => dropL_mem hx)
    have same : sols cs = sols (dropL cs (i : Int)) := sub.eq_of_length (by omega)
    obtain ⟨r, a, b, r1, r2, r3, r4⟩ := ih (dropL cs (i : Int)) i (by omega) (by omega) hk (by omega) (fun j hji e2 => by
      have s1 := (sols_sub (cs := dropL cs (j : Int)) (ds := dropL (dropL cs (i : Int)) (j : Int)) (fun x hx => dropL_two hji hx)).length_le
      have s2 := (sols_sub (cs := cs) (ds := dropL cs (j : Int)) (fun x hx => dropL_mem hx)).length_le
      exact hj j hji (by omega))
    refine ⟨r, Ev_step (fun k => by rw [spec_HarderPuzzle.l0, if_pos (by omega)]) ?_, Ev_step (fun k => by rw [impl_HarderPuzzle.l0, if_pos (by omega)]) ?_, by omega, r2, by rw [r3, same], r4⟩
    · exact Ev_some (pzWithout_eq cs i (by omega) (by omega) (by omega)) (Ev_bind hs (Ev_pos (by rw [e]; rfl) a))
    · exact Ev_some (without_eq cs i (by omega) (by omega) (by omega)) (Ev_some (implAll_eq _ hk) (Ev_pos e b))
theorem isSolvedI_eq (cs : List CL) : impl_IsSolved.f cs = some (if goodP cs = true then (((sols cs).length : Int) == 1, true) else (false, false)) := by
  rw [impl_IsSolved.f, implSolutions_eq]
  simp only [Option.bind_some]
  by_cases h : goodP cs = true
  · simp only [if_pos h]
  simp only [if_neg h]
  rfl
theorem harderS_ev (cs : List CL) (hn : cs.length ≤ 1048576) : ∃ r : List CL × Bool, Ev (fun k => spec_HarderPuzzle.f k cs) r ∧ Ev (fun k => impl_HarderPuzzle.f k cs) r ∧
    (r = ([], false) ∧ (goodP cs && ((sols cs).length : Int) == 1) = false ∨ goodP cs = true ∧ (sols cs).length = 1 ∧ r.2 = true ∧ r.1.length ≤ cs.length ∧ r.1.all clueOk = true ∧ sols r.1 = sols cs ∧ ∀ j : Nat, j < r.1.length → (sols (dropL r.1 (j : Int))).length ≠ 1) := by
  by_cases h : goodP cs = true; rotate_left
  · refine ⟨([], false), ?_, ?_, Or.inl ⟨rfl, by rw [Bool.eq_false_iff.2 h]; rfl⟩⟩
    · simp only [spec_HarderPuzzle.f]
      refine Ev_bind (pzGood_ev cs hn) (Ev_neg h ?_)
      refine Ev_step (fun k => by rw [spec_HarderPuzzle.j0]) ?_
      exact Ev_pos rfl (Ev.now _)
    · simp only [impl_HarderPuzzle.f]
      refine Ev_some (isSolvedI_eq cs) ?_
      simp only [if_neg h]
      exact Ev_neg (by decide) (Ev_step (fun k => by rw [impl_HarderPuzzle.j0]) (Ev_pos rfl (Ev.now _)))
  obtain ⟨h1, h2⟩ := good_split h
  have hs : Ev (fun k => spec_pzSolved.f k cs) (((sols cs).length : Int) == 1) := by
    simp only [spec_pzSolved.f]
    exact Ev_bind (pzAll_ev _ h1 h2) (Ev.now _)
  cases e : ((sols cs).length : Int) == 1 with
  | true =>
    rw [e] at hs
    have e1 : (sols cs).length = 1 := by have := beq_iff_eq.1 e; omega
    obtain ⟨r, h3, h4, r1, r2, r3, r4⟩ := harder_sem cs.length cs 0 (by omega) h1 h2 e1 (fun j hj => by omega)
    refine ⟨(r, true), ?_, ?_, Or.inr ⟨h, e1, rfl, r1, r2, r3, r4⟩⟩
    · simp only [spec_HarderPuzzle.f]
      refine Ev_bind (pzGood_ev cs hn) (Ev_pos h (Ev_bind hs ?_))
      refine Ev_step (fun k => by rw [spec_HarderPuzzle.j0]) (Ev_neg (by decide) ?_)
      refine Ev_some (a := []) rfl (Ev_pos (by simp only [List.length_nil]; omega) ?_)
      exact h3
    · simp only [impl_HarderPuzzle.f]
      refine Ev_some (isSolvedI_eq cs) ?_
      simp only [if_pos h, e]
      refine Ev_pos (by trivial) (Ev_step (fun k => by rw [impl_HarderPuzzle.j0]) (Ev_neg (by decide) ?_))
      refine Ev_some (a := cs) (by rw [clone_Clue.f, if_pos (by omega)]) ?_
      exact h4
  | false =>
    rw [e] at hs
    refine ⟨([], false), ?_, ?_, Or.inl ⟨rfl, by rw [h]; rfl⟩⟩
    · simp only [spec_HarderPuzzle.f]
      refine Ev_bind (pzGood_ev cs hn) (Ev_pos h (Ev_bind hs ?_))
      refine Ev_step (fun k => by rw [spec_HarderPuzzle.j0]) ?_
      exact Ev_pos rfl (Ev.now _)
    · simp only [impl_HarderPuzzle.f]
      refine Ev_some (isSolvedI_eq cs) ?_
      simp only [if_pos h, e]
      refine Ev_pos (by trivial) (Ev_step (fun k => by rw [impl_HarderPuzzle.j0]) ?_)
      exact Ev_pos rfl (Ev.now _)
theorem needI_l0 (cs : List CL) (hok : cs.all clueOk = true) (hn : cs.length ≤ 6) (s : List S25) (hno : ∀ j : Nat, j < cs.length → (sols (dropL cs (j : Int))).length ≠ s.length) : ∀ (n i : Nat), i + n = cs.length → Ev (fun k => impl_NeedlessClues.l0 k s [] (cs.length : Int) (i : Int) cs) ([], true) := by
  intro n
  induction n with
  | zero =>
    intro i hi
    refine Ev_step (fun k => ?_) (Ev.now _)
    rw [impl_NeedlessClues.l0, if_neg (by omega)]
  | succ n ih =>
    intro i hi
    have h : i < cs.length := by omega
    refine Ev_step (fun k => by rw [impl_NeedlessClues.l0, if_pos (by omega), next i (by omega)]) ?_
    refine Ev_some (without_eq cs i (by omega) (by omega) (by omega)) (Ev_some (implAll_eq _ (dropL_ok cs i hok)) ?_)
    have := hno i h
    exact Ev_neg (by omega) (ih (i + 1) (by omega))
theorem noNeed_ev {cs : List CL} (hg : goodP cs = true) (hno : ∀ j : Nat, j < cs.length → (sols (dropL cs (j : Int))).length ≠ (sols cs).length) : Ev (fun k => impl_NeedlessClues.f k cs) ([], true) := by
  obtain ⟨h1, h2⟩ := good_split hg
  simp only [impl_NeedlessClues.f]
  refine Ev_some (implSolutions_eq cs) ?_
  simp only [if_pos hg]
  exact needI_l0 cs h2 h1 _ hno cs.length 0 (by omega)

def dropB (l : List S40) (a : Int) : Bool := goodP l && inB a 0 ((l.length : Int) - 1)
def dropR (l : List S40) (a : Int) : List S40 × Bool := if dropB l a then (dropL l a, true) else ([], false)
theorem specDrop_ev (l : List S40) (a : Int) (hn : l.length ≤ 1048576) : Ev (fun k => spec_DropClue.f k l a) (dropR l a) := by
  obtain ⟨K, hK⟩ := pzGood_ev l hn
  refine ⟨K, fun k hk => ?_⟩
  have w : wrap64 ((l.length : Int) - 1) = (l.length : Int) - 1 := w64 (by omega) (by omega)
  simp only [spec_DropClue.f, hK k hk, Option.bind_some, w, l1In_eq, dropR, dropB]
  rcases Bool.eq_false_or_eq_true (goodP l) with g | g
  · rcases Bool.eq_false_or_eq_true (inB a 0 ((l.length : Int) - 1)) with h | h
    · have h' := h
      simp only [inB, decide_eq_true_eq] at h'
      simp [g, h, pzWithout_eq l a hn h'.1 (by omega)]
    · simp [g, h]
  · simp [g]
theorem implDrop_eq (l : List S40) (a : Int) (hn : l.length ≤ 1048576) : impl_DropClue.f l a = some (dropR l a) := by
  have w : wrap64 ((l.length : Int) - 1) = (l.length : Int) - 1 := w64 (by omega) (by omega)
  simp only [impl_DropClue.f, implIsPuzzle_eq, Option.bind_some, w, within_eq, dropR, dropB]
  rcases Bool.eq_false_or_eq_true (goodP l) with g | g
  · rcases Bool.eq_false_or_eq_true (inB a 0 ((l.length : Int) - 1)) with h | h
    · have h' := h
      simp only [inB, decide_eq_true_eq] at h'
      simp [g, h, without_eq l a hn h'.1 (by omega)]
    · simp [g, h]
  · simp [g]
theorem dropR_len (l : List S40) (a : Int) (hn : l.length ≤ 1048576) : (dropR l a).1.length ≤ 1048576 := by
  unfold dropR dropL
  split
  · simp only [List.length_append, List.length_take, List.length_drop]; omega
  · simp

def hiddenB (a b : Int) : Bool := inB a 2 40 && inB b 1 (wrap64 (Int.tdiv a 2))
theorem spec_hidden (a b : Int) : spec_pzBook.f a b = some (hiddenB a b) := by
  simp only [spec_pzBook.f, l1In_eq, Option.bind_some, hiddenB]
  cases inB a 2 40 <;> simp
theorem impl_hidden (a b : Int) : impl_IsHidden.f a b = some (hiddenB a b) := by
  simp only [impl_IsHidden.f, within_eq, Option.bind_some, hiddenB]
  cases inB a 2 40 <;> simp
theorem hidden_in {a b : Int} (h : hiddenB a b = true) : ∃ p l : Nat, a = p ∧ b = l ∧ 2 ≤ p ∧ p ≤ 40 ∧ 1 ≤ l ∧ 2 * l ≤ p := by
  simp only [hiddenB, inB, Bool.and_eq_true, decide_eq_true_eq] at h
  obtain ⟨⟨h1, h2⟩, h3, h4⟩ := h
  have e : wrap64 (Int.tdiv a 2) = a / 2 := by
    rw [Int.tdiv_eq_ediv_of_nonneg (by omega), w64 (by omega) (by omega)]
  rw [e] at h4
  exact ⟨a.toNat, b.toNat, by omega, by omega, by omega, by omega, by omega, by omega⟩

end Go.Proofs.YtodacdcbeleleaaDoor.P
end

section
set_option linter.unusedVariables false
namespace Go.Proofs.YtodacdcbeleleaaDoor.P
open Go.RowKit Go.Proofs.YtodacdcbeleleaaDoorW.PrintWords Go.Proofs.YtodacdcbeleleaaDoorW.PrintLast Go.Proofs.YtodacdcbeleleaaDoorW.PrintMore Go.Proofs.YtodacdcbeleleaaDoor.Base Go.Proofs.YtodacdcbeleleaaDoor.Skip

def nextZ (z : Nat) : Nat := (311 * z + 503) % 10007
theorem spec_next (z : Nat) (h : z ≤ 10007) : spec_pzNext.f (z : Int) = some (nextZ z : Int) := by
  have w1 : wrap64 (311 * (z : Int)) = 311 * (z : Int) := w64 (by omega) (by omega)
  have w2 : wrap64 (311 * (z : Int) + 503) = ((311 * z + 503 : Nat) : Int) := by rw [w64 (by omega) (by omega)]; omega
  rw [spec_pzNext.f, w1, w2]
  rfl
theorem impl_next (z : Nat) (h : z ≤ 10007) : impl_MakePuzzle_1.f (z : Int) = some ((nextZ z : Int), (nextZ z : Int)) := by
  have w1 : wrap64 ((z : Int) * 311) = 311 * (z : Int) := by rw [w64 (by omega) (by omega)]; omega
  have w2 : wrap64 (311 * (z : Int) + 503) = ((311 * z + 503 : Nat) : Int) := by rw [w64 (by omega) (by omega)]; omega
  rw [impl_MakePuzzle_1.f, w1, w2]
  rfl
theorem next_lt (z : Nat) : nextZ z ≤ 10007 := by unfold nextZ; omega
def ownA (kind y : Nat) : Nat := if kind = 2 then y % 10 else if kind = 3 then y % 20 + 1 else if kind = 4 then y % 8 + 2 else 0
theorem own_clue (kind y : Nat) (h : kind < 6) : clueB (kind : Int) (ownA kind y : Int) 0 = true := by
  unfold clueB ownA inB
  rcases (by omega : kind = 0 ∨ kind = 1 ∨ kind = 2 ∨ kind = 3 ∨ kind = 4 ∨ kind = 5) with rfl | rfl | rfl | rfl | rfl | rfl
  · simp
  · simp
  · simp; omega
  · simp; omega
  · simp; omega
  · simp
def tellN (kind a p l : Nat) : Int := (impl_Hidden_tells.f 100 p l kind a).getD 0
theorem tell_both (kind y p l k : Nat) (hk : kind < 6) (h2 : 2 ≤ p) (hp : p ≤ 40) (hl : 1 ≤ l) (hlp : 2 * l ≤ p) (hk60 : 60 ≤ k) :
    spec_pzValue.f k kind (ownA kind y) p l = some (tellN kind (ownA kind y) p l) ∧ impl_Hidden_tells.f k p l kind (ownA kind y) = some (tellN kind (ownA kind y) p l) := by
  obtain ⟨v, h1, h3⟩ := tells_eq (kind : Int) (ownA kind y : Int) 0 p l k h2 hp hl hlp (own_clue kind y hk) hk60
  obtain ⟨u, h4, h5⟩ := tells_eq (kind : Int) (ownA kind y : Int) 0 p l 100 h2 hp hl hlp (own_clue kind y hk) (by decide)
  have m1 := at_rounds (fun k => impl_Hidden_tells.mono p l kind (ownA kind y) k) (Nat.le_max_left k 100) h3
  have m2 := at_rounds (fun k => impl_Hidden_tells.mono p l kind (ownA kind y) k) (Nat.le_max_right k 100) h5
  obtain rfl : u = v := Option.some.inj (m2.symm.trans m1)
  have e : tellN kind (ownA kind y) p l = u := by unfold tellN; rw [h5]; rfl
  rw [e]
  exact ⟨h1, h3⟩
theorem spec_of (kind y p l k : Nat) (hk : kind < 6) (hy : y ≤ 10007) (h2 : 2 ≤ p) (hp : p ≤ 40) (hl : 1 ≤ l) (hlp : 2 * l ≤ p) (hk60 : 60 ≤ k) :
    spec_pzOf.f k (kind : Int) (y : Int) p l = some ((kind : Int), (ownA kind y : Int), tellN kind (ownA kind y) p l) := by
  have ht := (tell_both kind y p l k hk h2 hp hl hlp hk60).1
  have w3 : wrap64 (Int.tmod (y : Int) 20 + 1) = ((y % 20 + 1 : Nat) : Int) := by rw [Int.tmod_eq_emod_of_nonneg (by omega), w64 (by omega) (by omega)]; omega
  have w4 : wrap64 (Int.tmod (y : Int) 8 + 2) = ((y % 8 + 2 : Nat) : Int) := by rw [Int.tmod_eq_emod_of_nonneg (by omega), w64 (by omega) (by omega)]; omega
  have w2 : Int.tmod (y : Int) 10 = ((y % 10 : Nat) : Int) := rfl
  unfold ownA at ht ⊢
  rw [spec_pzOf.f]
  by_cases c2 : kind = 2
  · subst c2
    rw [if_pos rfl] at ht ⊢
    rw [if_pos (by decide), w2, ht]
    rfl
  rw [if_neg c2] at ht ⊢
  rw [if_neg (by omega)]
  by_cases c3 : kind = 3
  · subst c3
    rw [if_pos rfl] at ht ⊢
    rw [if_pos (by decide), w3, ht]
    rfl
  rw [if_neg c3] at ht ⊢
  rw [if_neg (by omega)]
  by_cases c4 : kind = 4
  · subst c4
    rw [if_pos rfl] at ht ⊢
    rw [if_pos (by decide), w4, ht]
    rfl
  rw [if_neg c4] at ht ⊢
  rw [if_neg (by omega)]
  have : spec_pzValue.f k (kind : Int) 0 p l = _ := ht
  rw [this]
  rfl
def clueOf (p l a b : Nat) : S40 := ⟨((a % 6 : Nat) : Int), (ownA (a % 6) b : Int), tellN (a % 6) (ownA (a % 6) b) p l⟩
def madeL (p l : Nat) : Nat → Nat → List S40
  | 0, _ => []
  | n + 1, z => clueOf p l (nextZ z) (nextZ (nextZ z)) :: madeL p l n (nextZ (nextZ z))
theorem made_len (p l : Nat) : ∀ n z, (madeL p l n z).length = n
  | 0, _ => rfl
  | n + 1, z => by rw [madeL, List.length_cons, made_len p l n]
theorem made_app (p l n z : Nat) (acc : List S40) : (acc ++ [clueOf p l (nextZ z) (nextZ (nextZ z))]) ++ madeL p l n (nextZ (nextZ z)) = acc ++ madeL p l (n + 1) z := by
  rw [madeL, List.append_assoc, List.singleton_append]
theorem tmod6 (a : Nat) : Int.tmod (a : Int) 6 = ((a % 6 : Nat) : Int) := rfl
theorem tmod10 (a : Nat) : Int.tmod (a : Int) 10 = ((a % 10 : Nat) : Int) := rfl
theorem own3 (y : Nat) (h : y ≤ 10007) : wrap64 (Int.tmod (y : Int) 20 + 1) = ((y % 20 + 1 : Nat) : Int) := by rw [Int.tmod_eq_emod_of_nonneg (by omega), w64 (by omega) (by omega)]; omega
theorem own4 (y : Nat) (h : y ≤ 10007) : wrap64 (Int.tmod (y : Int) 8 + 2) = ((y % 8 + 2 : Nat) : Int) := by rw [Int.tmod_eq_emod_of_nonneg (by omega), w64 (by omega) (by omega)]; omega
theorem spec_made (p l : Nat) (h2 : 2 ≤ p) (hp : p ≤ 40) (hl : 1 ≤ l) (hlp : 2 * l ≤ p) : ∀ (n z : Nat) (acc : List S40), z ≤ 10007 → acc.length + n ≤ 100 →
    Ev (fun k => spec_MakePuzzle.l0 k (n : Int) (z : Int) p l acc) (acc ++ madeL p l n z, true) := by
  intro n
  induction n with
  | zero =>
    intro z acc hz ha
    refine Ev_step (fun k => ?_) (Ev.now _)
    rw [spec_MakePuzzle.l0, if_neg (by omega), madeL, List.append_nil]
  | succ n ih =>
    intro z acc hz ha
    have wn : wrap64 (((n + 1 : Nat) : Int) - 1) = (n : Int) := by rw [w64 (by omega) (by omega)]; omega
    rw [← made_app]
    have na := spec_next z hz
    have nb := spec_next (nextZ z) (next_lt z)
    have ba := next_lt z
    have bb := next_lt (nextZ z)
    generalize nextZ (nextZ z) = b at nb bb ⊢
    generalize nextZ z = a at na nb ba ⊢
    have hk : a % 6 < 6 := Nat.mod_lt _ (by decide)
    refine Ev_step (fun k => by rw [spec_MakePuzzle.l0, if_pos (by omega), na, Option.bind_some, nb, Option.bind_some, tmod6, wn]) ?_
    refine Ev_bind ⟨60, fun k hk60 => spec_of (a % 6) b p l k hk bb h2 hp hl hlp hk60⟩ (Ev_pos (show acc.length < 5864062014805 by omega) ?_)
    exact ih b (acc ++ [clueOf p l a b]) bb (w170_)
theorem impl_made (p l : Nat) (h2 : 2 ≤ p) (hp : p ≤ 40) (hl : 1 ≤ l) (hlp : 2 * l ≤ p) (m : Nat) (hm : m ≤ 100) : ∀ (n i z : Nat) (acc : List S40), i + n = m → z ≤ 10007 → acc.length + n ≤ 100 →
    Ev (fun k => impl_MakePuzzle.l0 k (m : Int) (i : Int) p l (z : Int) acc) (acc ++ madeL p l n z, true) := by
  intro n
  induction n with
  | zero =>
    intro i z acc hi hz ha
    refine Ev_step (fun k => ?_) (Ev.now _)
    rw [impl_MakePuzzle.l0, if_neg (by omega), madeL, List.append_nil]
  | succ n ih =>
    intro i z acc hi hz ha
    have wi : wrap64 ((i : Int) + 1) = ((i + 1 : Nat) : Int) := by rw [w64 (by omega) (by omega)]; omega
    rw [← made_app]
    have na := impl_next z hz
    have nb := impl_next (nextZ z) (next_lt z)
    have bb := next_lt (nextZ z)
    generalize nextZ (nextZ z) = b at nb bb ⊢
    generalize nextZ z = a at na nb ⊢
    have hk : a % 6 < 6 := Nat.mod_lt _ (by decide)
    have hs : acc.length < 5864062014805 := by omega
    have hx := ih (i + 1) b (acc ++ [clueOf p l a b]) (by omega) bb (w170_)
    have ht : Ev (fun k => impl_Hidden_tells.f k p l ((a % 6 : Nat) : Int) (ownA (a % 6) b : Int)) (tellN (a % 6) (ownA (a % 6) b) p l) := ⟨60, fun k hk60 => (tell_both (a % 6) b p l k hk h2 hp hl hlp hk60).2⟩
    refine Ev_step (fun k => by rw [impl_MakePuzzle.l0, if_pos (by omega), na, Option.bind_some, nb, Option.bind_some, tmod6, wi, tmod10, own3 b bb, own4 b bb]) ?_
    unfold clueOf at hx ⊢
    generalize a % 6 = kind at ht hx hk ⊢
    unfold ownA at ht hx ⊢
    by_cases c2 : kind = 2
    · subst c2
      rw [if_pos rfl] at ht hx ⊢
      exact Ev_pos rfl (Ev_bind ht (Ev_pos hs hx))
    rw [if_neg c2] at ht hx ⊢
    refine Ev_neg (by omega) ?_
    by_cases c3 : kind = 3
    · subst c3
      rw [if_pos rfl] at ht hx ⊢
      exact Ev_pos rfl (Ev_bind ht (Ev_pos hs hx))
    rw [if_neg c3] at ht hx ⊢
    refine Ev_neg (by omega) ?_
    by_cases c4 : kind = 4; rotate_left
    · rw [if_neg c4] at ht hx ⊢
      exact Ev_neg (by omega) (Ev_bind ht (Ev_pos hs hx))
    subst c4
    rw [if_pos rfl] at ht hx ⊢
    exact Ev_pos rfl (Ev_bind ht (Ev_pos hs hx))
def madeR (a b n s : Int) : List S40 × Bool := if (hiddenB a b && (inB n 0 6 && inB s 0 9999)) = true then (madeL a.toNat b.toNat n.toNat s.toNat, true) else ([], false)
theorem makeBoth_ev (a b n s : Int) : Ev (fun k => spec_MakePuzzle.f k a b n s) (madeR a b n s) ∧ Ev (fun k => impl_MakePuzzle.f k a b n s) (madeR a b n s) := by
  have no1 : Ev (fun k => spec_MakePuzzle.j0 k n s true a b) (([] : List S40), false) := Ev_step (fun k => by rw [spec_MakePuzzle.j0]) (Ev_pos rfl (Ev.now _))
  have no2 : Ev (fun k => impl_MakePuzzle.j0 k n s true a b) (([] : List S40), false) := Ev_step (fun k => by rw [impl_MakePuzzle.j0]) (Ev_pos rfl (Ev.now _))
  simp only [spec_MakePuzzle.f, impl_MakePuzzle.f, spec_hidden, impl_hidden, l1In_eq, within_eq, Option.bind_some, madeR]
  cases hh : hiddenB a b with
  | false => exact ⟨Ev_neg (by decide) no1, Ev_neg (by decide) no2⟩
  | true =>
    cases hn : inB n 0 6 with
    | false => exact ⟨Ev_pos rfl (Ev_neg (by decide) no1), Ev_pos rfl (Ev_neg (by decide) no2)⟩
    | true =>
      cases hs : inB s 0 9999 with
      | false => exact ⟨Ev_pos rfl (Ev_pos rfl no1), Ev_pos rfl (Ev_pos rfl no2)⟩
      | true =>
        obtain ⟨p, l, rfl, rfl, h2, hp, hl, hlp⟩ := hidden_in hh
        have hn' := of_decide_eq_true (show decide (0 ≤ n ∧ n ≤ 6) = true from hn)
        have hs' := of_decide_eq_true (show decide (0 ≤ s ∧ s ≤ 9999) = true from hs)
        obtain ⟨n, rfl⟩ := Int.eq_ofNat_of_zero_le hn'.1
        obtain ⟨s, rfl⟩ := Int.eq_ofNat_of_zero_le hs'.1
        have e1 := spec_made p l h2 hp hl hlp n s [] (by omega) (by simp only [List.length_nil]; omega)
        have e2 := impl_made p l h2 hp hl hlp n (by omega) n 0 s [] (by omega) (by omega) (by simp only [List.length_nil]; omega)
        have j1 : Ev (fun k => spec_MakePuzzle.j0 k (n : Int) (s : Int) false p l) (madeL p l n s, true) := Ev_step (f := fun k => spec_MakePuzzle.l0 k (n : Int) (s : Int) p l []) (fun k => by rw [spec_MakePuzzle.j0, if_neg (by decide)]) e1
        have j2 : Ev (fun k => impl_MakePuzzle.j0 k (n : Int) (s : Int) false p l) (madeL p l n s, true) := Ev_step (f := fun k => impl_MakePuzzle.l0 k (n : Int) ((0 : Nat) : Int) p l (s : Int) []) (fun k => by rw [impl_MakePuzzle.j0, if_neg (by decide)]; rfl) e2
        exact ⟨Ev_pos rfl (Ev_pos rfl j1), Ev_pos rfl (Ev_pos rfl j2)⟩
theorem madeR_len (a b n s : Int) : (madeR a b n s).1.length ≤ 6 := by
  unfold madeR
  split
  · rename_i h
    rw [Bool.and_eq_true, Bool.and_eq_true] at h
    have hn' := of_decide_eq_true (show decide (0 ≤ n ∧ n ≤ 6) = true from h.2.1)
    show (madeL a.toNat b.toNat n.toNat s.toNat).length ≤ 6
    rw [made_len]
    omega
  · exact Nat.zero_le _
end Go.Proofs.YtodacdcbeleleaaDoor.P
end

section
namespace Go.Proofs.YtodacdcbeleleaaDoor.P
open Go.RowKit Go.Proofs.YtodacdcbeleleaaDoorW.PrintWords Go.Proofs.YtodacdcbeleleaaDoorW.PrintLast Go.Proofs.YtodacdcbeleleaaDoorW.PrintMore Go.Proofs.YtodacdcbeleleaaDoor.Base Go.Proofs.YtodacdcbeleleaaDoor.Skip
set_option linter.unusedVariables false

theorem nextC (i : Nat) (h : i ≤ 1048576) : wrap64 ((i : Int) + 1) = ((i + 1 : Nat) : Int) := by rw [w64 (by omega) (by omega)]; omega
theorem xPuzzle_l0 (l : List CL) (hn : l.length ≤ 1048576) : ∀ n i : Nat, i + n = l.length → Ev (fun k => laws_xPuzzle.l0 k (l.length : Int) (i : Int) l l) true := by
  intro n
  induction n with
  | zero =>
    intro i hi
    exact Ev_step (fun k => by rw [laws_xPuzzle.l0, if_neg (by omega)]) (Ev.now _)
  | succ n ih =>
    intro i hi
    refine Ev_step (fun k => ?_) (ih (i + 1) (by omega))
    rw [laws_xPuzzle.l0, if_pos (by omega), if_pos (by omega), if_pos (by omega), if_pos (by omega), if_neg (by simp), nextC i (by omega)]
theorem xPuzzle_ev (l : List CL) (hn : l.length ≤ 1048576) : Ev (fun k => laws_xPuzzle.f k l l) true := by
  simp only [laws_xPuzzle.f]
  exact Ev_pos trivial (xPuzzle_l0 l hn l.length 0 (Nat.zero_add _))
theorem xBooks_l0 (l : List S25) (hn : l.length ≤ 1000) : ∀ n i : Nat, i + n = l.length → Ev (fun k => laws_xBooks.l0 k l l (l.length : Int) (i : Int)) true := by
  intro n
  induction n with
  | zero =>
    intro i hi
    exact Ev_step (fun k => by rw [laws_xBooks.l0, if_neg (by omega)]) (Ev.now _)
  | succ n ih =>
    intro i hi
    refine Ev_step (fun k => ?_) (ih (i + 1) (by omega))
    rw [laws_xBooks.l0, if_pos (by omega), if_pos (by omega), if_pos (by omega), if_pos (by omega), if_neg (by simp), nextC i (by omega)]
theorem xBooks_ev (l : List S25) (hn : l.length ≤ 1000) : Ev (fun k => laws_xBooks.f k l l) true := by
  simp only [laws_xBooks.f]
  exact Ev_pos trivial (xBooks_l0 l hn l.length 0 (Nat.zero_add _))
theorem specC_ev (a b c : Int) : Ev (fun k => spec_pzClue.f k a b c) (clueB a b c) := ⟨1, fun k hk => by
  obtain ⟨j, rfl⟩ : ∃ j, k = j + 1 := ⟨k - 1, by omega⟩
  exact spec_clue j a b c⟩
theorem implC_ev (a b c : Int) : Ev (fun k => impl_IsClue.f k a b c) (clueB a b c) := ⟨1, fun k hk => by
  obtain ⟨j, rfl⟩ : ∃ j, k = j + 1 := ⟨k - 1, by omega⟩
  exact impl_clue j a b c⟩
theorem fit_both (x y z a b : Int) : ∃ r : Bool × Bool, Ev (fun k => impl_DoesFit.f k x y z a b) r ∧ Ev (fun k => spec_DoesFit.f k x y z a b) r ∧ (r.2 = true → clueB x y z = true) := by
  simp only [impl_DoesFit.f, spec_DoesFit.f]
  cases hc : clueB x y z with
  | false =>
    refine ⟨(false, false), Ev_bind (implC_ev x y z) (by rw [hc]; exact Ev_neg Bool.false_ne_true (Ev.now _)), ?_, fun h => by cases h⟩
    refine Ev_some (spec_hidden a b) ?_
    cases hiddenB a b with
    | false => exact Ev_neg Bool.false_ne_true (Ev.now _)
    | true => exact Ev_pos rfl (Ev_bind (specC_ev x y z) (by rw [hc]; exact Ev_neg Bool.false_ne_true (Ev.now _)))
  | true =>
    cases hh : hiddenB a b with
    | false =>
      refine ⟨(false, false), Ev_bind (implC_ev x y z) (by rw [hc]; exact Ev_pos rfl (Ev_some (impl_hidden a b) (by rw [hh]; exact Ev_neg Bool.false_ne_true (Ev.now _)))), ?_, fun h => by cases h⟩
      exact Ev_some (spec_hidden a b) (by rw [hh]; exact Ev_neg Bool.false_ne_true (Ev.now _))
    | true =>
      obtain ⟨p, l, rfl, rfl, h2, hp, hl, hlp⟩ := hidden_in hh
      have e1 : Ev (fun k => spec_pzFits.f k x y z p l) (hit p l ⟨x, y, z⟩) := ⟨60, fun k hk => (fits_spec x y z p l k h2 hp hl hlp hc hk).2⟩
      have e2 : Ev (fun k => impl_Hidden_fits.f k p l x y z) (hit p l ⟨x, y, z⟩) := ⟨60, fun k hk => by
        obtain ⟨v, hv, hi⟩ := tells_eq x y z p l k h2 hp hl hlp hc hk
        have e := (fits_spec x y z p l k h2 hp hl hlp hc hk).2
        rw [spec_pzFits.f, hv] at e
        show impl_Hidden_fits.f k p l x y z = _
        rw [impl_Hidden_fits.f, hi]
        exact e⟩
      refine ⟨(hit p l ⟨x, y, z⟩, true), Ev_bind (implC_ev x y z) (by rw [hc]; exact Ev_pos rfl (Ev_some (impl_hidden _ _) (by rw [hh]; exact Ev_pos rfl (Ev_bind e2 (Ev.now _))))), ?_, fun _ => rfl⟩
      exact Ev_some (spec_hidden _ _) (by rw [hh]; exact Ev_pos rfl (Ev_bind (specC_ev x y z) (by rw [hc]; exact Ev_pos rfl (Ev_bind e1 (Ev.now _)))))
def addB (l : List CL) (a b c : Int) : Bool := goodP l && (clueB a b c && !((l.length : Int) == 6))
def addR (l : List CL) (a b c : Int) : List CL × Bool := if addB l a b c = true then (l ++ [⟨a, b, c⟩], true) else ([], false)
theorem add_both (l : List CL) (a b c : Int) (hn : l.length ≤ 1048576) : Ev (fun k => spec_AddClue.f k l a b c) (addR l a b c) ∧ Ev (fun k => impl_AddClue.f k l a b c) (addR l a b c) := by
  by_cases hg : goodP l = true; rotate_left
  · have e : addR l a b c = ([], false) := by
      unfold addR addB
      rw [Bool.eq_false_iff.2 hg, Bool.false_and]
      rfl
    rw [e]
    simp only [spec_AddClue.f, impl_AddClue.f]
    exact ⟨Ev_bind (pzGood_ev l hn) (Ev_neg hg (Ev.now _)), Ev_some (implIsPuzzle_eq l) (Ev_neg hg (Ev.now _))⟩
  by_cases hc : clueB a b c = true; rotate_left
  · have e : addR l a b c = ([], false) := by
      unfold addR addB
      rw [Bool.eq_false_iff.2 hc, Bool.false_and, Bool.and_false]
      rfl
    rw [e]
    simp only [spec_AddClue.f, impl_AddClue.f]
    exact ⟨Ev_bind (pzGood_ev l hn) (Ev_pos hg (Ev_bind (specC_ev a b c) (Ev_neg hc (Ev.now _)))), Ev_some (implIsPuzzle_eq l) (Ev_pos hg (Ev_bind (implC_ev a b c) (Ev_neg hc (Ev.now _))))⟩
  by_cases h6 : (l.length : Int) = 6
  · have e : addR l a b c = ([], false) := by
      unfold addR addB
      rw [hg, hc, show ((l.length : Int) == 6) = true from beq_iff_eq.2 h6]
      rfl
    rw [e]
    simp only [spec_AddClue.f, impl_AddClue.f]
    exact ⟨Ev_bind (pzGood_ev l hn) (Ev_pos hg (Ev_bind (specC_ev a b c) (Ev_pos hc (Ev_pos h6 (Ev.now _))))), Ev_some (implIsPuzzle_eq l) (Ev_pos hg (Ev_bind (implC_ev a b c) (Ev_pos hc (Ev_pos h6 (Ev.now _)))))⟩
  have hl := (good_split hg).1
  have e : addR l a b c = (l ++ [⟨a, b, c⟩], true) := by
    unfold addR addB
    rw [hg, hc, show ((l.length : Int) == 6) = false from beq_eq_false_iff_ne.2 h6]
    rfl
  rw [e]
  simp only [spec_AddClue.f, impl_AddClue.f]
  refine ⟨Ev_bind (pzGood_ev l hn) (Ev_pos hg (Ev_bind (specC_ev a b c) (Ev_pos hc (Ev_neg h6 ?_)))), Ev_some (implIsPuzzle_eq l) (Ev_pos hg (Ev_bind (implC_ev a b c) (Ev_pos hc (Ev_neg h6 ?_))))⟩
  · refine Ev_some (a := []) rfl (Ev_pos (by simp only [List.length_nil]; omega) ?_)
    refine Ev_some (a := l) rfl (Ev_some (a := [⟨a, b, c⟩]) rfl (Ev_pos (by simp only [List.length_cons, List.length_nil]; omega) (Ev.now _)))
  · refine Ev_some (a := l) (by rw [clone_Clue.f, if_pos (by omega)]) ?_
    refine Ev_some (a := [⟨a, b, c⟩]) rfl (Ev_pos (by simp only [List.length_cons, List.length_nil]; omega) (Ev.now _))
theorem addR_len (l : List CL) (a b c : Int) (hn : l.length ≤ 1000) : (addR l a b c).1.length ≤ 1001 := by
  unfold addR
  split
  · rw [List.length_append, List.length_singleton]; omega
  · exact Nat.zero_le _

theorem skip_small (d : Nat → Nat) (l B : Nat) (hd : ∀ n, d n ≤ B) : ∀ m n, skipFrom d l n m ≤ B * m := by
  intro m
  induction m with
  | zero => intro n; exact Nat.le_refl _
  | succ m ih =>
    intro n
    have h1 := ih (n + 1)
    have h2 := hd n
    simp only [skipFrom]
    rw [Nat.mul_succ]
    split <;> omega
theorem tellN_bound (kind y p l : Nat) (hk : kind < 6) (h2 : 2 ≤ p) (hp : p ≤ 40) (hl : 1 ≤ l) (hlp : 2 * l ≤ p) :
    0 ≤ tellN kind (ownA kind y) p l ∧ tellN kind (ownA kind y) p l ≤ 1000 ∧ (kind = 3 ∨ kind = 4 → tellN kind (ownA kind y) p l ≤ 1) := by
  have w4 : wrap64 (wrap64 (4 * (l : Int)) - 1) = 4 * (l : Int) - 1 := by
    rw [w64 (x := 4 * (l : Int)) (by omega) (by omega), w64 (by omega) (by omega)]
  rcases (by omega : kind = 0 ∨ kind = 1 ∨ kind = 2 ∨ kind = 3 ∨ kind = 4 ∨ kind = 5) with rfl | rfl | rfl | rfl | rfl | rfl
  · have e : tellN 0 (ownA 0 y) p l = ((skipFrom (fun n => n) l 1 p : Nat) : Int) := by
      have : impl_Hidden_tells.f 100 p l ((0 : Nat) : Int) (ownA 0 y : Int) = some ((skipFrom (fun n => n) l 1 p : Nat) : Int) := by
        rw [impl_Hidden_tells.f, if_neg (by decide), if_neg (by decide), if_neg (by decide)]
        exact tells_loop 0 _ (fun n => n) p l hp hl (fun n _ h => by omega) (.inl ⟨rfl, rfl⟩) 100 (by omega)
      unfold tellN
      rw [this]
      rfl
    have tot := skip_all (fun n => n) l hl p 1 (by omega)
    have s0 := sum_id p (by omega)
    have hpp : p * (p + 1) ≤ 40 * 41 := Nat.mul_le_mul hp (by omega)
    rw [e]
    exact ⟨by omega, by omega, fun h => by omega⟩
  · have e : tellN 1 (ownA 1 y) p l = ((skipFrom dig l 1 p : Nat) : Int) := by
      have : impl_Hidden_tells.f 100 p l ((1 : Nat) : Int) (ownA 1 y : Int) = some ((skipFrom dig l 1 p : Nat) : Int) := by
        rw [impl_Hidden_tells.f, if_neg (by decide), if_neg (by decide), if_neg (by decide)]
        exact tells_loop 1 _ dig p l hp hl (fun n _ h => by unfold dig; split <;> omega) (.inr (.inl ⟨rfl, rfl⟩)) 100 (by omega)
      unfold tellN
      rw [this]
      rfl
    have := skip_small dig l 2 (fun n => by unfold dig; split <;> omega) p 1
    rw [e]
    exact ⟨by omega, by omega, fun h => by omega⟩
  · have hb : ownA 2 y < 10 := by unfold ownA; rw [if_pos rfl]; omega
    have e : tellN 2 (ownA 2 y) p l = ((skipFrom (one (ownA 2 y)) l 1 p : Nat) : Int) := by
      have : impl_Hidden_tells.f 100 p l ((2 : Nat) : Int) (ownA 2 y : Int) = some ((skipFrom (one (ownA 2 y)) l 1 p : Nat) : Int) := by
        rw [impl_Hidden_tells.f, if_neg (by decide), if_neg (by decide), if_neg (by decide)]
        exact tells_loop 2 _ (one (ownA 2 y)) p l hp hl (fun n _ h => by unfold one; split <;> omega) (.inr (.inr ⟨rfl, ownA 2 y, hb, rfl, rfl⟩)) 100 (by omega)
      unfold tellN
      rw [this]
      rfl
    have := skip_small (one (ownA 2 y)) l 1 (fun n => by unfold one; split <;> omega) p 1
    rw [e]
    exact ⟨by omega, by omega, fun h => by omega⟩
  · have e : tellN 3 (ownA 3 y) p l = if (l : Int) ≥ (ownA 3 y : Int) then 1 else 0 := by
      have : impl_Hidden_tells.f 100 p l ((3 : Nat) : Int) (ownA 3 y : Int) = some (if (l : Int) ≥ (ownA 3 y : Int) then 1 else 0) := by
        rw [impl_Hidden_tells.f, if_pos (by decide)]
        simp only [impl_flag.f]
        by_cases h : (l : Int) ≥ (ownA 3 y : Int) <;> simp [h]
      unfold tellN
      rw [this]
      rfl
    rw [e]
    split
    · exact ⟨by omega, by omega, fun _ => by omega⟩
    · exact ⟨by omega, by omega, fun _ => by omega⟩
  · have e : tellN 4 (ownA 4 y) p l = if Int.tmod (p : Int) (ownA 4 y : Int) = 0 then 1 else 0 := by
      have hb : (ownA 4 y : Int) ≠ 0 := by unfold ownA; rw [if_neg (by decide), if_neg (by decide), if_pos rfl]; omega
      have : impl_Hidden_tells.f 100 p l ((4 : Nat) : Int) (ownA 4 y : Int) = some (if Int.tmod (p : Int) (ownA 4 y : Int) = 0 then 1 else 0) := by
        rw [impl_Hidden_tells.f, if_neg (by decide), if_pos (by decide), if_neg hb]
        simp only [impl_flag.f]
        by_cases h : Int.tmod (p : Int) (ownA 4 y : Int) = 0 <;> simp [h]
      unfold tellN
      rw [this]
      rfl
    rw [e]
    split
    · exact ⟨by omega, by omega, fun _ => by omega⟩
    · exact ⟨by omega, by omega, fun _ => by omega⟩
  · have e : tellN 5 (ownA 5 y) p l = 4 * (l : Int) - 1 := by
      have : impl_Hidden_tells.f 100 p l ((5 : Nat) : Int) (ownA 5 y : Int) = some (4 * (l : Int) - 1) := by
        rw [impl_Hidden_tells.f, if_neg (by decide), if_neg (by decide), if_pos (by decide), w4]
      unfold tellN
      rw [this]
      rfl
    rw [e]
    exact ⟨by omega, by omega, fun h => by omega⟩
theorem made_clue (kind y p l : Nat) (hk : kind < 6) (h2 : 2 ≤ p) (hp : p ≤ 40) (hl : 1 ≤ l) (hlp : 2 * l ≤ p) : clueB (kind : Int) (ownA kind y : Int) (tellN kind (ownA kind y) p l) = true := by
  obtain ⟨b0, b1, b2⟩ := tellN_bound kind y p l hk h2 hp hl hlp
  have h := own_clue kind y hk
  generalize tellN kind (ownA kind y) p l = T at b0 b1 b2 ⊢
  generalize (ownA kind y : Int) = A at h ⊢
  unfold clueB at h ⊢
  rw [Bool.and_eq_true] at h ⊢
  refine ⟨decide_eq_true (by omega), ?_⟩
  have h' := h.2
  clear h
  rcases (by omega : kind = 0 ∨ kind = 1 ∨ kind = 2 ∨ kind = 3 ∨ kind = 4 ∨ kind = 5) with rfl | rfl | rfl | rfl | rfl | rfl
  · simpa using h'
  · simpa using h'
  · simpa using h'
  · have := b2 (Or.inl rfl)
    simp at h' ⊢
    exact ⟨h', this⟩
  · have := b2 (Or.inr rfl)
    simp at h' ⊢
    exact ⟨h', this⟩
  · simpa using h'
theorem fit_yes {x y z : Int} {p l : Nat} (h2 : 2 ≤ p) (hp : p ≤ 40) (hl : 1 ≤ l) (hlp : 2 * l ≤ p) (hc : clueB x y z = true) (ht : ∀ k, 60 ≤ k → impl_Hidden_tells.f k p l x y = some z) : Ev (fun k => impl_DoesFit.f k x y z (p : Int) (l : Int)) (true, true) := by
  have hh : hiddenB (p : Int) (l : Int) = true := by
    unfold hiddenB inB
    rw [show wrap64 (Int.tdiv (p : Int) 2) = ((p / 2 : Nat) : Int) from tdiv2 p (by omega), decide_eq_true (show (2 : Int) ≤ p ∧ (p : Int) ≤ 40 by omega), decide_eq_true (by omega)]
    rfl
  simp only [impl_DoesFit.f]
  refine Ev_bind (implC_ev x y z) ?_
  rw [hc]
  refine Ev_pos rfl (Ev_some (impl_hidden _ _) ?_)
  rw [hh]
  refine Ev_pos rfl (Ev_bind (a := true) ⟨60, fun k hk => ?_⟩ (Ev.now _))
  show impl_Hidden_fits.f k p l x y z = _
  rw [impl_Hidden_fits.f, ht k hk]
  simp
theorem made_fit (p l : Nat) (h2 : 2 ≤ p) (hp : p ≤ 40) (hl : 1 ≤ l) (hlp : 2 * l ≤ p) : ∀ n z, ∀ x ∈ madeL p l n z, clueOk x = true ∧ Ev (fun k => impl_DoesFit.f k x.f0 x.f1 x.f2 (p : Int) (l : Int)) (true, true) := by
  intro n
  induction n with
  | zero => intro z x hx; cases hx
  | succ n ih =>
    intro z x hx
    rw [madeL] at hx
    rcases List.mem_cons.1 hx with rfl | hx
    · have hk : nextZ z % 6 < 6 := by omega
      have hc := made_clue (nextZ z % 6) (nextZ (nextZ z)) p l hk h2 hp hl hlp
      have ht := fun k hk60 => (tell_both (nextZ z % 6) (nextZ (nextZ z)) p l k hk h2 hp hl hlp hk60).2
      have hf := fit_yes h2 hp hl hlp hc ht
      simp only [clueOf, clueOk]
      exact ⟨hc, hf⟩
    · exact ih _ x hx
def sumsB (p l : Nat) : Bool := match impl_SumOfPages.f p, impl_SumOfLeaf.f l with
  | some (a, true), some (b, true) => (impl_DoesFit.f 100 0 0 (wrap64 (a - b)) p l == some (true, true)) && ((impl_DoesFit.f 100 5 0 b p l == some (true, true)) && ((impl_TornLeaf.f p (wrap64 (a - b)) == some ((l : Int), true)) && (impl_DoesFit.f 100 3 l 1 p l == some (true, true))))
  | _, _ => false
set_option maxRecDepth 100000 in
theorem sums_all : ∀ p, p < 41 → ∀ l, l < 21 → 2 ≤ p → 1 ≤ l → 2 * l ≤ p → sumsB p l = true := by decide +kernel
theorem sums_of {p l : Nat} (h2 : 2 ≤ p) (hp : p ≤ 40) (hl : 1 ≤ l) (hlp : 2 * l ≤ p) : ∃ a b : Int, impl_SumOfPages.f p = some (a, true) ∧ impl_SumOfLeaf.f l = some (b, true) ∧ Ev (fun k => impl_DoesFit.f k 0 0 (wrap64 (a - b)) p l) (true, true) ∧
    Ev (fun k => impl_DoesFit.f k 5 0 b p l) (true, true) ∧ impl_TornLeaf.f p (wrap64 (a - b)) = some ((l : Int), true) ∧ Ev (fun k => impl_DoesFit.f k 3 l 1 p l) (true, true) := by
  have h := sums_all p (by omega) l (by omega) h2 hl hlp
  unfold sumsB at h
  split at h
  · rename_i a b e1 e2
    rw [Bool.and_eq_true, Bool.and_eq_true, Bool.and_eq_true] at h
    obtain ⟨h1, h3, h4, h5⟩ := h
    exact ⟨a, b, e1, e2, Ev.of (fun k => impl_DoesFit.mono _ _ _ _ _ k) (beq_iff_eq.1 h1), Ev.of (fun k => impl_DoesFit.mono _ _ _ _ _ k) (beq_iff_eq.1 h3), beq_iff_eq.1 h4, Ev.of (fun k => impl_DoesFit.mono _ _ _ _ _ k) (beq_iff_eq.1 h5)⟩
  · cases h
end Go.Proofs.YtodacdcbeleleaaDoor.P
end

section
namespace Go.Proofs.YtodacdcbeleleaaDoor.P
open Go.RowKit Go.Proofs.YtodacdcbeleleaaDoorW.PrintWords Go.Proofs.YtodacdcbeleleaaDoorW.PrintLast Go.Proofs.YtodacdcbeleleaaDoorW.PrintMore Go.Proofs.YtodacdcbeleleaaDoor.Base
set_option linter.unusedVariables false

def Bytes (c : List Int) : Prop := ∀ x ∈ c, 0 ≤ x ∧ x ≤ 255
theorem Bytes.of {c : List Int} (h : ∀ x ∈ c, (Lit.int .u8 x).wf = true) : Bytes c := fun x hx => bounds_u8 (h x hx)
theorem Bytes.at {c : List Int} (h : Bytes c) (i : Int) : 0 ≤ rd c i ∧ rd c i ≤ 255 := by
  unfold rd
  rw [List.getD_eq_getElem?_getD]
  cases e : c[i.toNat]? with
  | none => exact ⟨by decide, by decide⟩
  | some x => exact h x (List.mem_of_getElem? e)
theorem wrap_u64 (n : Int) : IntKind.u64.wrap n = n % 18446744073709551616 := by simp [IntKind.wrap, IntKind.bits, IntKind.signed]
theorem low8 (n : Int) : 0 ≤ wrap64 (Go.bits .and .u64 (IntKind.u64.wrap n / 1099511627776) 255) ∧ wrap64 (Go.bits .and .u64 (IntKind.u64.wrap n / 1099511627776) 255) ≤ 255 := by
  have hn := wrap_u64 n
  have e : Go.bits .and .u64 (IntKind.u64.wrap n / 1099511627776) 255 = (IntKind.u64.wrap n / 1099511627776) % 256 :=
    Go.bits_mask .u64 24 (by decide) (fun m h0 h1 => by rw [wrap_u64]; omega) 8 (by decide) _ (by omega) (by rw [hn]; omega)
  rw [e, w64 (by omega) (by omega)]
  omega
theorem next_ok {c : List Int} (hc : Bytes c) {a : Int} (s : Int) (h0 : 0 ≤ a) (h1 : a ≤ 1000000) :
    ∃ x s', spec_l1Cur_next.f c a s = some (x, a + 1, s') ∧ 0 ≤ x ∧ x ≤ 255 := by
  have hr := hc.at a
  have w1 : wrap64 (a + 1) = a + 1 := w64 (by omega) (by omega)
  have w2 : wrap64 (rd c a) = rd c a := w64 (by omega) (by omega)
  rw [spec_l1Cur_next.f, w1, w2]
  by_cases h : a < (c.length : Int); rotate_left
  · rw [if_neg h]
    by_cases h2 : a + 1 ≤ (c.length : Int); rotate_left
    · rw [if_neg h2]
      exact ⟨_, _, rfl, (low8 _).1, (low8 _).2⟩
    rw [if_pos h2]
    exact ⟨_, _, rfl, by decide, by decide⟩
  rw [if_pos h, if_pos h0]
  by_cases h2 : a + 1 ≤ (c.length : Int); rotate_left
  · rw [if_neg h2]
    exact ⟨_, _, rfl, (low8 _).1, (low8 _).2⟩
  rw [if_pos h2]
  exact ⟨_, _, rfl, hr.1, hr.2⟩
theorem pick_ok {c : List Int} (hc : Bytes c) {a : Int} (s n : Int) (h0 : 0 ≤ a) (h1 : a ≤ 999990) (hn : n ≤ 1000000) :
    ∃ x a' s', spec_l1Cur_pick.f c a s n = some (x, a', s') ∧ 0 ≤ x ∧ (x < n ∨ x = 0) ∧ a ≤ a' ∧ a' ≤ a + 2 := by
  rw [spec_l1Cur_pick.f]
  by_cases hs : n ≤ 1
  · rw [if_pos hs]
    exact ⟨0, a, s, rfl, by decide, .inr rfl, by omega, by omega⟩
  rw [if_neg hs]
  obtain ⟨x, s1, e1, hx0, hx1⟩ := next_ok hc s h0 (by omega)
  simp only [e1, Option.bind_some]
  by_cases hb : n > 200; rotate_left
  · rw [if_neg hb, if_neg (by omega), Int.tmod_eq_emod_of_nonneg (by omega)]
    exact ⟨_, _, _, rfl, Int.emod_nonneg _ (by omega), .inl (Int.emod_lt_of_pos _ (by omega)), by omega, by omega⟩
  rw [if_pos hb]
  obtain ⟨y, s2, e2, hy0, hy1⟩ := next_ok hc (a := a + 1) s1 (by omega) (by omega)
  simp only [e2, Option.bind_some]
  rw [if_neg (by omega), w64 (x := x * 256) (by omega) (by omega), w64 (x := x * 256 + y) (by omega) (by omega), Int.tmod_eq_emod_of_nonneg (by omega)]
  exact ⟨_, _, _, rfl, Int.emod_nonneg _ (by omega), .inl (Int.emod_lt_of_pos _ (by omega)), by omega, by omega⟩
theorem one_ok {c : List Int} (hc : Bytes c) {a : Int} (s n : Int) (h0 : 0 ≤ a) (h1 : a ≤ 999990) (hn : n ≤ 1000000) :
    ∃ b a' s', spec_l1Cur_one.f c a s n = some (b, a', s') ∧ a ≤ a' ∧ a' ≤ a + 2 := by
  obtain ⟨x, a', s', e, _, _, h2, h3⟩ := pick_ok hc s n h0 h1 hn
  refine ⟨x == 0, a', s', ?_, h2, h3⟩
  rw [spec_l1Cur_one.f, e]
  rfl

theorem among_ok {c : List Int} (hc : Bytes c) {a : Int} (s : Int) (l : List Int) (h0 : 0 ≤ a) (h1 : a ≤ 999990) (hl : 1 ≤ l.length ∧ l.length ≤ 1000) :
    ∃ x a' s', spec_l1Cur_among.f c a s l = some (x, a', s') ∧ x ∈ l ∧ a ≤ a' ∧ a' ≤ a + 2 := by
  obtain ⟨x, a', s', e, g0, g1, g2, g3⟩ := pick_ok hc s (l.length : Int) h0 h1 (by omega)
  have hx : x < (l.length : Int) := by omega
  refine ⟨rd l x, a', s', ?_, ?_, g2, g3⟩
  · rw [spec_l1Cur_among.f, e]
    simp only [Option.bind_some]
    rw [if_pos g0, if_pos hx]
  · unfold rd
    rw [List.getD_eq_getElem?_getD, List.getElem?_eq_getElem (by omega)]
    exact List.getElem_mem _

theorem hidden_ok {c : List Int} (hc : Bytes c) {a : Int} (s : Int) (h0 : 0 ≤ a) (h1 : a ≤ 999900) :
    ∃ (p l : Nat) (a' s' : Int), spec_l1Cur_hidden.f c a s = some ((p : Int), (l : Int), a', s') ∧ 2 ≤ p ∧ p ≤ 40 ∧ 1 ≤ l ∧ 2 * l ≤ p ∧ a ≤ a' ∧ a' ≤ a + 4 := by
  obtain ⟨x, a1, s1, e1, x0, x1, g1, g2⟩ := pick_ok hc s 39 (a := a) h0 (by omega) (by omega)
  obtain ⟨n, rfl⟩ := Int.eq_ofNat_of_zero_le x0
  have w1 : wrap64 (2 + (n : Int)) = ((2 + n : Nat) : Int) := by rw [w64 (by omega) (by omega)]; omega
  have w2 : wrap64 (Int.tdiv ((2 + n : Nat) : Int) 2) = (((2 + n) / 2 : Nat) : Int) := tdiv2 (2 + n) (by omega)
  obtain ⟨y, a2, s2, e2, y0, y1, g3, g4⟩ := pick_ok hc s1 (((2 + n) / 2 : Nat) : Int) (a := a1) (by omega) (by omega) (by omega)
  obtain ⟨m, rfl⟩ := Int.eq_ofNat_of_zero_le y0
  have w3 : wrap64 (1 + (m : Int)) = ((1 + m : Nat) : Int) := by rw [w64 (by omega) (by omega)]; omega
  refine ⟨2 + n, 1 + m, a2, s2, ?_, by omega, by omega, by omega, by omega, by omega, by omega⟩
  rw [spec_l1Cur_hidden.f, e1, Option.bind_some, w1, w2, e2, Option.bind_some, w3]
theorem sureP_ok {c : List Int} (hc : Bytes c) {a : Int} (s m : Int) (h0 : 0 ≤ a) (h1 : a ≤ 999800) (hm : 0 ≤ m ∧ m ≤ 100) :
    ∃ (l : List S40) (a' s' : Int), Ev (fun k => spec_l1Cur_surePuzzle.f k c a s m) (l, a', s') ∧ l.length ≤ 6 ∧ a ≤ a' ∧ a' ≤ a + 10 := by
  obtain ⟨p, l, a1, s1, e1, _, _, _, _, g1, g2⟩ := hidden_ok hc s (a := a) h0 (by omega)
  obtain ⟨x, a2, s2, e2, _, _, g3, g4⟩ := pick_ok hc s1 (wrap64 (m + 1)) (a := a1) (by omega) (by omega) (by rw [w64 (by omega) (by omega)]; omega)
  obtain ⟨y, a3, s3, e3, _, _, g5, g6⟩ := pick_ok hc s2 10000 (a := a2) (by omega) (by omega) (by omega)
  refine ⟨(madeR p l x y).1, a3, s3, ?_, madeR_len _ _ _ _, by omega, by omega⟩
  simp only [spec_l1Cur_surePuzzle.f, e1, e2, e3, Option.bind_some]
  exact Ev_bind (makeBoth_ev p l x y).1 (Ev.now _)
theorem clue_j0 {c : List Int} (hc : Bytes c) {a : Int} (s : Int) (h0 : 0 ≤ a) (h1 : a ≤ 999900) (x y z : Int) :
    ∃ x' y' z' a' s', Ev (fun k => spec_l1Cur_clue.j0 k c a s x y z) (x', y', z', a', s') ∧ a ≤ a' ∧ a' ≤ a + 4 := by
  obtain ⟨b, a1, s1, e1, g1, g2⟩ := one_ok hc s 14 (a := a) h0 (by omega) (by omega)
  obtain ⟨v, a2, s2, e2, _, _, g3, g4⟩ := pick_ok hc s1 3 (a := a1) (by omega) (by omega) (by omega)
  cases b with
  | true =>
    refine ⟨x, wrap64 (v - 1), z, a2, s2, Ev_step (fun k => by rw [spec_l1Cur_clue.j0, e1, Option.bind_some]) ?_, by omega, by omega⟩
    refine Ev_pos rfl ?_
    simp only [e2, Option.bind_some]
    exact Ev.now _
  | false =>
    refine ⟨x, y, z, a1, s1, Ev_step (fun k => by rw [spec_l1Cur_clue.j0, e1, Option.bind_some]) ?_, by omega, by omega⟩
    exact Ev_neg Bool.false_ne_true (Ev.now _)
theorem clue_ok {c : List Int} (hc : Bytes c) {a : Int} (s : Int) (h0 : 0 ≤ a) (h1 : a ≤ 999800) :
    ∃ x y z a' s', Ev (fun k => spec_l1Cur_clue.f k c a s) (x, y, z, a', s') ∧ a ≤ a' ∧ a' ≤ a + 20 := by
  obtain ⟨v1, a1, s1, e1, _, _, g1, g2⟩ := pick_ok hc s 6 (a := a) h0 (by omega) (by omega)
  obtain ⟨v2, a2, s2, e2, _, _, g3, g4⟩ := pick_ok hc s1 9 (a := a1) (by omega) (by omega) (by omega)
  obtain ⟨v3, a3, s3, e3, _, _, g5, g6⟩ := pick_ok hc s2 250 (a := a2) (by omega) (by omega) (by omega)
  obtain ⟨v4, a4, s4, e4, _, _, g7, g8⟩ := pick_ok hc s3 9 (a := a3) (by omega) (by omega) (by omega)
  have two : ∀ n m : Int, n ≤ 1000 → m ≤ 1000 → ∃ x y a' s' a'' s'', spec_l1Cur_pick.f c a4 s4 n = some (x, a', s') ∧ spec_l1Cur_pick.f c a' s' m = some (y, a'', s'') ∧ a ≤ a'' ∧ a'' ≤ a + 12 := fun n m hn hm => by
    obtain ⟨x, b1, t1, f1, _, _, i1, i2⟩ := pick_ok hc s4 n (a := a4) (by omega) (by omega) (by omega)
    obtain ⟨y, b2, t2, f2, _, _, i3, i4⟩ := pick_ok hc t1 m (a := b1) (by omega) (by omega) (by omega)
    exact ⟨x, y, b1, t1, b2, t2, f1, f2, by omega, by omega⟩
  simp only [spec_l1Cur_clue.f, e1, e2, e3, e4, Option.bind_some]
  by_cases c2 : wrap64 (v1 + wrap64 (Int.tdiv v2 8)) = 2
  · obtain ⟨x, y, b1, t1, b2, t2, f1, f2, i1, i2⟩ := two 11 16 (by omega) (by omega)
    obtain ⟨p, q, r, b3, t3, e, i3, i4⟩ := clue_j0 hc t2 (a := b2) (by omega) (by omega) (wrap64 (v1 + wrap64 (Int.tdiv v2 8))) x y
    refine ⟨p, q, r, b3, t3, Ev_pos c2 ?_, by omega, by omega⟩
    simp only [f1, f2, Option.bind_some]
    exact e
  by_cases c3 : wrap64 (v1 + wrap64 (Int.tdiv v2 8)) = 3
  · obtain ⟨x, y, b1, t1, b2, t2, f1, f2, i1, i2⟩ := two 22 3 (by omega) (by omega)
    obtain ⟨p, q, r, b3, t3, e, i3, i4⟩ := clue_j0 hc t2 (a := b2) (by omega) (by omega) (wrap64 (v1 + wrap64 (Int.tdiv v2 8))) x y
    refine ⟨p, q, r, b3, t3, Ev_neg c2 (Ev_pos c3 ?_), by omega, by omega⟩
    simp only [f1, f2, Option.bind_some]
    exact e
  by_cases c4 : wrap64 (v1 + wrap64 (Int.tdiv v2 8)) = 4
  · obtain ⟨x, y, b1, t1, b2, t2, f1, f2, i1, i2⟩ := two 10 3 (by omega) (by omega)
    obtain ⟨p, q, r, b3, t3, e, i3, i4⟩ := clue_j0 hc t2 (a := b2) (by omega) (by omega) (wrap64 (v1 + wrap64 (Int.tdiv v2 8))) (wrap64 (1 + x)) y
    refine ⟨p, q, r, b3, t3, Ev_neg c2 (Ev_neg c3 (Ev_pos c4 ?_)), by omega, by omega⟩
    simp only [f1, f2, Option.bind_some]
    exact e
  by_cases c5 : wrap64 (v1 + wrap64 (Int.tdiv v2 8)) = 5; rotate_left
  · obtain ⟨p, q, r, b3, t3, e, i3, i4⟩ := clue_j0 hc s4 (a := a4) (by omega) (by omega) (wrap64 (v1 + wrap64 (Int.tdiv v2 8))) 0 (wrap64 (v3 - wrap64 (Int.tdiv v4 8)))
    exact ⟨p, q, r, b3, t3, Ev_neg c2 (Ev_neg c3 (Ev_neg c4 (Ev_neg c5 e))), by omega, by omega⟩
  obtain ⟨x, b1, t1, f1, _, _, i1, i2⟩ := pick_ok hc s4 21 (a := a4) (by omega) (by omega) (by omega)
  obtain ⟨p, q, r, b3, t3, e, i3, i4⟩ := clue_j0 hc t1 (a := b1) (by omega) (by omega) (wrap64 (v1 + wrap64 (Int.tdiv v2 8))) 0 (wrap64 (wrap64 (4 * x) - 1))
  refine ⟨p, q, r, b3, t3, Ev_neg c2 (Ev_neg c3 (Ev_neg c4 (Ev_pos c5 ?_))), by omega, by omega⟩
  simp only [f1, Option.bind_some]
  exact e
theorem puzzle_l0 {c : List Int} (hc : Bytes c) : ∀ (n : Nat) (l : List S40) (a s : Int), l.length + n = 7 → 0 ≤ a → a + 2 * n ≤ 999900 →
    ∃ (r : List S40) (a' s' : Int), Ev (fun k => spec_l1Cur_puzzle.l0 k c a s l) (r, a', s') ∧ r.length ≤ 8 ∧ a ≤ a' ∧ a' ≤ a + 2 * n + 2 := by
  intro n
  induction n with
  | zero =>
    intro l a s hl h0 h1
    obtain ⟨x, a1, s1, e1, x0, x1, g1, g2⟩ := pick_ok hc s 2 (a := a) h0 (by omega) (by omega)
    have w : wrap64 (6 + x) = 6 + x := w64 (by omega) (by omega)
    refine ⟨l, a1, s1, Ev_step (fun k => by rw [spec_l1Cur_puzzle.l0, e1, Option.bind_some, w]) ?_, by omega, by omega, by omega⟩
    exact Ev_neg (by omega) (Ev.now _)
  | succ n ih =>
    intro l a s hl h0 h1
    obtain ⟨x, a1, s1, e1, x0, x1, g1, g2⟩ := pick_ok hc s 2 (a := a) h0 (by omega) (by omega)
    have w : wrap64 (6 + x) = 6 + x := w64 (by omega) (by omega)
    by_cases hlt : (l.length : Int) < 6 + x; rotate_left
    · refine ⟨l, a1, s1, Ev_step (fun k => by rw [spec_l1Cur_puzzle.l0, e1, Option.bind_some, w]) ?_, by omega, by omega, by omega⟩
      exact Ev_neg hlt (Ev.now _)
    obtain ⟨r, a2, s2, e2, hr, i1, i2⟩ := ih (l ++ [⟨3, 2, 1⟩]) a1 s1 (w170_) (by omega) (by omega)
    refine ⟨r, a2, s2, Ev_step (fun k => by rw [spec_l1Cur_puzzle.l0, e1, Option.bind_some, w]) ?_, hr, by omega, by omega⟩
    exact Ev_pos hlt (Ev_pos (by omega) e2)
theorem puzzle_ok {c : List Int} (hc : Bytes c) {a : Int} (s : Int) (h0 : 0 ≤ a) (h1 : a ≤ 999000) :
    ∃ (l : List S40) (a' s' : Int), Ev (fun k => spec_l1Cur_puzzle.f k c a s) (l, a', s') ∧ l.length ≤ 8 ∧ a ≤ a' ∧ a' ≤ a + 60 := by
  obtain ⟨l, a1, s1, e1, hl, g1, g2⟩ := sureP_ok hc s 5 (a := a) h0 (by omega) (by omega)
  obtain ⟨x, a2, s2, e2, x0, x1, g3, g4⟩ := pick_ok hc s1 12 (a := a1) (by omega) (by omega) (by omega)
  have go : ∀ b : Bool, ∃ (r : List S40) (a' s' : Int), Ev (fun k => spec_l1Cur_puzzle.j0 k x b c a2 s2 l) (r, a', s') ∧ r.length ≤ 8 ∧ a ≤ a' ∧ a' ≤ a + 60 := fun b => by
    cases b with
    | true =>
      obtain ⟨p, q, r, a3, s3, e3, i1, i2⟩ := clue_ok hc s2 (a := a2) (by omega) (by omega)
      refine ⟨l ++ [⟨p, q, r⟩], a3, s3, Ev_step (fun k => by rw [spec_l1Cur_puzzle.j0]) ?_, w170_, by omega, by omega⟩
      exact Ev_pos rfl (Ev_bind e3 (Ev_pos (by omega) (Ev.now _)))
    | false =>
      by_cases c2 : x = 2; rotate_left
      · refine ⟨l, a2, s2, Ev_step (fun k => by rw [spec_l1Cur_puzzle.j0]) ?_, by omega, by omega, by omega⟩
        exact Ev_neg Bool.false_ne_true (Ev_neg c2 (Ev.now _))
      obtain ⟨r, a3, s3, e3, hr, i1, i2⟩ := puzzle_l0 hc (7 - l.length) l a2 s2 (by omega) (by omega) (by omega)
      refine ⟨r, a3, s3, Ev_step (fun k => by rw [spec_l1Cur_puzzle.j0]) ?_, hr, by omega, by omega⟩
      exact Ev_neg Bool.false_ne_true (Ev_pos c2 e3)
  by_cases c0 : x = 0; rotate_left
  · obtain ⟨r, a3, s3, e3, hr, i1, i2⟩ := go (x == 1)
    refine ⟨r, a3, s3, ?_, hr, i1, i2⟩
    simp only [spec_l1Cur_puzzle.f]
    refine Ev_bind e1 ?_
    simp only [e2, Option.bind_some]
    exact Ev_neg c0 e3
  obtain ⟨r, a3, s3, e3, hr, i1, i2⟩ := go (x == 0)
  refine ⟨r, a3, s3, ?_, hr, i1, i2⟩
  simp only [spec_l1Cur_puzzle.f]
  refine Ev_bind e1 ?_
  simp only [e2, Option.bind_some]
  exact Ev_pos c0 e3
theorem drawMake_ok {c : List Int} (hc : Bytes c) : ∃ a b n s, spec_DrawMakePuzzle.f c = some (a, b, n, s) := by
  obtain ⟨b, a1, s1, e1, g1, g2⟩ := one_ok hc 0 12 (a := 0) (by omega) (by omega) (by omega)
  cases b with
  | true =>
    obtain ⟨x1, a2, s2, e2, _, g3, g4⟩ := among_ok hc s1 [1, 2, 40, 41] (a := a1) (by omega) (by omega) (by decide)
    obtain ⟨x2, a3, s3, e3, _, g5, g6⟩ := among_ok hc s2 [0, 1, 20, 21] (a := a2) (by omega) (by omega) (by decide)
    obtain ⟨x3, a4, s4, e4, _, g7, g8⟩ := among_ok hc s3 [(-1), 6, 7] (a := a3) (by omega) (by omega) (by decide)
    obtain ⟨x4, a5, s5, e5, _, g9, g10⟩ := among_ok hc s4 [(-1), 9999, 10000] (a := a4) (by omega) (by omega) (by decide)
    exact ⟨x1, x2, x3, x4, by rw [spec_DrawMakePuzzle.f, e1, Option.bind_some, if_pos rfl, e2, Option.bind_some, e3, Option.bind_some, e4, Option.bind_some, e5, Option.bind_some]⟩
  | false =>
    obtain ⟨p, l, a2, s2, e2, _, _, _, _, g3, g4⟩ := hidden_ok hc s1 (a := a1) (by omega) (by omega)
    obtain ⟨x3, a3, s3, e3, _, _, g5, g6⟩ := pick_ok hc s2 7 (a := a2) (by omega) (by omega) (by omega)
    obtain ⟨x4, a4, s4, e4, _, _, g7, g8⟩ := pick_ok hc s3 10000 (a := a3) (by omega) (by omega) (by omega)
    exact ⟨p, l, x3, x4, by rw [spec_DrawMakePuzzle.f, e1, Option.bind_some, if_neg Bool.false_ne_true, e2, Option.bind_some, e3, Option.bind_some, e4, Option.bind_some]⟩
theorem drawHarder_ok {c : List Int} (hc : Bytes c) : ∃ q : List S40, Ev (fun k => spec_DrawHarderPuzzle.f k c) q ∧ q.length ≤ 8 := by
  obtain ⟨b, a1, s1, e1, g1, g2⟩ := one_ok hc 0 4 (a := 0) (by omega) (by omega) (by omega)
  cases b with
  | true =>
    obtain ⟨l, a2, s2, e2, hl, _, _⟩ := puzzle_ok hc s1 (a := a1) (by omega) (by omega)
    refine ⟨l, ?_, hl⟩
    simp only [spec_DrawHarderPuzzle.f, e1, Option.bind_some]
    exact Ev_pos trivial (Ev_bind e2 (Ev.now _))
  | false =>
    obtain ⟨p, l, a2, s2, e2, h2, hp, hl, hlp, g3, g4⟩ := hidden_ok hc s1 (a := a1) (by omega) (by omega)
    obtain ⟨x3, a3, s3, e3, _, _, g5, g6⟩ := pick_ok hc s2 3 (a := a2) (by omega) (by omega) (by omega)
    obtain ⟨x4, a4, s4, e4, _, _, g7, g8⟩ := pick_ok hc s3 10000 (a := a3) (by omega) (by omega) (by omega)
    have o1 : Ev (fun k => spec_pzOf.f k 0 0 (p : Int) (l : Int)) (0, 0, tellN 0 0 p l) := ⟨60, fun k hk => spec_of 0 0 p l k (by omega) (by omega) h2 hp hl hlp hk⟩
    have o2 : Ev (fun k => spec_pzOf.f k 5 0 (p : Int) (l : Int)) (5, 0, tellN 5 0 p l) := ⟨60, fun k hk => spec_of 5 0 p l k (by omega) (by omega) h2 hp hl hlp hk⟩
    have ml := madeR_len p l x3 x4
    refine ⟨(madeR p l x3 x4).1 ++ [⟨0, 0, tellN 0 0 p l⟩, ⟨5, 0, tellN 5 0 p l⟩], ?_, by rw [List.length_append]; simp only [List.length_cons, List.length_nil]; omega⟩
    simp only [spec_DrawHarderPuzzle.f, e1, e2, e3, e4, Option.bind_some]
    refine Ev_neg Bool.false_ne_true (Ev_bind (makeBoth_ev p l x3 x4).1 (Ev_bind o1 (Ev_bind o2 ?_)))
    exact Ev_pos (by simp only [List.length_cons, List.length_nil]; omega) (Ev.now _)
theorem drawAdd_ok {c : List Int} (hc : Bytes c) : ∃ (l : List S40) (x y z : Int), Ev (fun k => spec_DrawAddClue.f k c) (l, x, y, z) ∧ l.length ≤ 8 := by
  obtain ⟨l, a1, s1, e1, hl, g1, g2⟩ := puzzle_ok hc 0 (a := 0) (by omega) (by omega)
  obtain ⟨x, y, z, a2, s2, e2, _, _⟩ := clue_ok hc s1 (a := a1) (by omega) (by omega)
  refine ⟨l, x, y, z, ?_, hl⟩
  simp only [spec_DrawAddClue.f]
  exact Ev_bind e1 (Ev_bind e2 (Ev.now _))
theorem drawDrop_ok {c : List Int} (hc : Bytes c) : ∃ (l : List S40) (x : Int), Ev (fun k => spec_DrawDropClue.f k c) (l, x) ∧ l.length ≤ 8 := by
  obtain ⟨l, a1, s1, e1, hl, g1, g2⟩ := puzzle_ok hc 0 (a := 0) (by omega) (by omega)
  obtain ⟨x, a2, s2, e2, _, _, g3, g4⟩ := pick_ok hc s1 6 (a := a1) (by omega) (by omega) (by omega)
  obtain ⟨y, a3, s3, e3, _, _, g5, g6⟩ := pick_ok hc s2 9 (a := a2) (by omega) (by omega) (by omega)
  refine ⟨l, wrap64 (x - wrap64 (Int.tdiv y 8)), ?_, hl⟩
  simp only [spec_DrawDropClue.f]
  refine Ev_bind e1 ?_
  simp only [e2, e3, Option.bind_some]
  exact Ev.now _
theorem drawFit_ok {c : List Int} (hc : Bytes c) : ∃ x y z a b, Ev (fun k => spec_DrawDoesFit.f k c) (x, y, z, a, b) := by
  obtain ⟨p, l, a1, s1, e1, h2, hp, hl, hlp, g1, g2⟩ := hidden_ok hc 0 (a := 0) (by omega) (by omega)
  obtain ⟨v, a2, s2, e2, v0, v1, g3, g4⟩ := pick_ok hc s1 10000 (a := a1) (by omega) (by omega) (by omega)
  have no : ∀ (m : List S40) (a s : Int), 0 ≤ a → a ≤ 1000 → ∃ x y z u w, Ev (fun k => spec_DrawDoesFit.j0 k false c a s (p : Int) (l : Int) m) (x, y, z, u, w) := fun m a s h0 h1 => by
    obtain ⟨b, a3, s3, e3, i1, i2⟩ := one_ok hc s 10 (a := a) h0 (by omega) (by omega)
    cases b with
    | true =>
      obtain ⟨t, a4, s4, e4, _, i3, i4⟩ := among_ok hc s3 [(-1), 0, 21, 4611686018427387904] (a := a3) (by omega) (by omega) (by decide)
      obtain ⟨x, y, z, a5, s5, e5, _, _⟩ := clue_ok hc s4 (a := a4) (by omega) (by omega)
      refine ⟨x, y, z, p, t, Ev_step (fun k => by rw [spec_DrawDoesFit.j0]) ?_⟩
      refine Ev_neg Bool.false_ne_true ?_
      simp only [e3, Option.bind_some]
      refine Ev_pos trivial ?_
      simp only [e4, Option.bind_some]
      exact Ev_bind e5 (Ev.now _)
    | false =>
      obtain ⟨x, y, z, a5, s5, e5, _, _⟩ := clue_ok hc s3 (a := a3) (by omega) (by omega)
      refine ⟨x, y, z, p, l, Ev_step (fun k => by rw [spec_DrawDoesFit.j0]) ?_⟩
      refine Ev_neg Bool.false_ne_true ?_
      simp only [e3, Option.bind_some]
      exact Ev_neg Bool.false_ne_true (Ev_bind e5 (Ev.now _))
  obtain ⟨b, a3, s3, e3, i1, i2⟩ := one_ok hc s2 3 (a := a2) (by omega) (by omega) (by omega)
  obtain ⟨M, hM⟩ : ∃ M, madeR (p : Int) (l : Int) 1 v = M := ⟨_, rfl⟩
  have em := (makeBoth_ev (p : Int) (l : Int) 1 v).1
  by_cases hok : M.2 = true; rotate_left
  · obtain ⟨x, y, z, u, w, e⟩ := no M.1 a2 s2 (by omega) (by omega)
    refine ⟨x, y, z, u, w, ?_⟩
    simp only [spec_DrawDoesFit.f, e1, e2, Option.bind_some]
    refine Ev_bind em ?_
    rw [hM]
    exact Ev_neg hok e
  cases b with
  | false =>
    obtain ⟨x, y, z, u, w, e⟩ := no M.1 a3 s3 (by omega) (by omega)
    refine ⟨x, y, z, u, w, ?_⟩
    simp only [spec_DrawDoesFit.f, e1, e2, Option.bind_some]
    refine Ev_bind em ?_
    rw [hM]
    refine Ev_pos hok ?_
    simp only [e3, Option.bind_some]
    exact e
  | true =>
    have hlen : 0 < M.1.length := by
      rw [← hM] at hok ⊢
      unfold madeR at hok ⊢
      by_cases hc2 : (hiddenB (p : Int) (l : Int) && (inB 1 0 6 && inB v 0 9999)) = true; rotate_left
      · rw [if_neg hc2] at hok
        cases hok
      rw [if_pos hc2]
      show 0 < (madeL _ _ _ _).length
      rw [made_len]
      decide
    refine ⟨(rd_T40 M.1 0).f0, (rd_T40 M.1 0).f1, (rd_T40 M.1 0).f2, p, l, ?_⟩
    simp only [spec_DrawDoesFit.f, e1, e2, Option.bind_some]
    refine Ev_bind em ?_
    rw [hM]
    refine Ev_pos hok ?_
    simp only [e3, Option.bind_some]
    refine Ev_step (fun k => by rw [spec_DrawDoesFit.j0]) ?_
    exact Ev_pos rfl (Ev_pos (by omega) (Ev.now _))
theorem drawClue_ok {c : List Int} (hc : Bytes c) : ∃ x y z, Ev (fun k => spec_DrawIsClue.f k c) (x, y, z) := by
  obtain ⟨b, a1, s1, e1, g1, g2⟩ := one_ok hc 0 3 (a := 0) (by omega) (by omega) (by omega)
  cases b with
  | true =>
    obtain ⟨v1, a2, s2, e2, _, _, g3, g4⟩ := pick_ok hc s1 7 (a := a1) (by omega) (by omega) (by omega)
    obtain ⟨v2, a3, s3, e3, _, _, g5, g6⟩ := pick_ok hc s2 9 (a := a2) (by omega) (by omega) (by omega)
    obtain ⟨x3, a4, s4, e4, _, g7, g8⟩ := among_ok hc s3 [(-1), 0, 0, 1, 2, 9, 10, 40, 41, 4611686018427387904] (a := a3) (by omega) (by omega) (by decide)
    obtain ⟨x4, a5, s5, e5, _, g9, g10⟩ := among_ok hc s4 [(-1), 0, 1, 2, 1000, 1001] (a := a4) (by omega) (by omega) (by decide)
    refine ⟨wrap64 (v1 - wrap64 (Int.tdiv v2 8)), x3, x4, ?_⟩
    simp only [spec_DrawIsClue.f, e1, Option.bind_some]
    refine Ev_pos trivial ?_
    simp only [e2, e3, e4, e5, Option.bind_some]
    exact Ev.now _
  | false =>
    obtain ⟨x, y, z, a2, s2, e2, _, _⟩ := clue_ok hc s1 (a := a1) (by omega) (by omega)
    refine ⟨x, y, z, ?_⟩
    simp only [spec_DrawIsClue.f, e1, Option.bind_some]
    exact Ev_neg Bool.false_ne_true (Ev_bind e2 (Ev.now _))
theorem drawHid_ok {c : List Int} (hc : Bytes c) : ∃ x y, spec_DrawIsHidden.f c = some (x, y) := by
  obtain ⟨b, a1, s1, e1, g1, g2⟩ := one_ok hc 0 3 (a := 0) (by omega) (by omega) (by omega)
  cases b with
  | true =>
    obtain ⟨x3, a4, s4, e4, _, g7, g8⟩ := among_ok hc s1 [(-1), 0, 1, 2, 3, 40, 41, 4611686018427387904] (a := a1) (by omega) (by omega) (by decide)
    obtain ⟨x4, a5, s5, e5, _, g9, g10⟩ := among_ok hc s4 [(-1), 0, 1, 2, 20, 21, 4611686018427387904] (a := a4) (by omega) (by omega) (by decide)
    exact ⟨x3, x4, by rw [spec_DrawIsHidden.f, e1, Option.bind_some, if_pos rfl, e4, Option.bind_some, e5, Option.bind_some]⟩
  | false =>
    obtain ⟨p, l, a2, s2, e2, _, _, _, _, _, _⟩ := hidden_ok hc s1 (a := a1) (by omega) (by omega)
    exact ⟨p, l, by rw [spec_DrawIsHidden.f, e1, Option.bind_some, if_neg Bool.false_ne_true, e2, Option.bind_some]⟩
end Go.Proofs.YtodacdcbeleleaaDoor.P
end

section
set_option linter.unusedVariables false
namespace Go.Proofs.YtodacdcbeleleaaDoor.Pure
open Go.RowKit Go.Proofs.YtodacdcbeleleaaDoorW.PrintWords Go.Proofs.YtodacdcbeleleaaDoorW.PrintLast Go.Proofs.YtodacdcbeleleaaDoorW.PrintMore Go.Proofs.YtodacdcbeleleaaDoor.P Go.Proofs.YtodacdcbeleleaaDoor.Base

theorem bneS (b : Bool) : ¬ (b != b) = true := by cases b <;> decide
theorem specIC_ev (a b c : Int) : Ev (fun k => spec_IsClue.f k a b c) (clueB a b c) := by
  simp only [spec_IsClue.f]
  exact Ev_bind (specC_ev a b c) (Ev.now _)
theorem specIH_eq (a b : Int) : spec_IsHidden.f a b = some (hiddenB a b) := by
  simp only [spec_IsHidden.f, spec_hidden, Option.bind_some]
theorem rdC_mem (l : List CL) (i : Nat) (h : i < l.length) : rd_T40 l (i : Int) = l[i] := by unfold rd_T40; rw [Int.toNat_natCast, getD_at l _ h]
theorem drop_last (s : List CL) (k : Nat) (h : k + 1 = s.length) : dropL s (k : Int) ++ [s[k]] = s := by
  unfold dropL
  simp only [Int.toNat_natCast]
  rw [List.drop_of_length_le (by omega), List.append_nil]
  have := List.take_append_getElem (l := s) (i := k) (by omega)
  rw [this, List.take_of_length_le (by omega)]
theorem j8_ev (s d : List CL) (hs : s.length ≤ 8) (k : Int) (b : Bool) (h : b = true → ∃ i : Nat, k = i ∧ ∃ hi : i < s.length, addR d (s[i]).f0 (s[i]).f1 (s[i]).f2 = (s, true)) (hd : d.length ≤ 8) : Ev (fun K => laws_FnBooksHidden.j8 K k b s d) true := by
  refine Ev_step (fun K => by rw [laws_FnBooksHidden.j8]) ?_
  cases b with
  | false => exact Ev_neg Bool.false_ne_true (Ev.now _)
  | true =>
    obtain ⟨i, rfl, hi, e⟩ := h rfl
    have a := (add_both d (s[i]).f0 (s[i]).f1 (s[i]).f2 (by omega)).2
    rw [e] at a
    refine Ev_pos rfl (Ev_pos (by omega) (Ev_pos (by omega) ?_))
    rw [rdC_mem s i hi]
    exact Ev_bind a (Ev_pos rfl (Ev_bind (xPuzzle_ev s (by omega)) (Ev.now _)))
theorem j7_ev (s : List CL) (hs : s.length ≤ 8) (k : Int) : Ev (fun K => laws_FnBooksHidden.j7 K k (dropR s k).2 s (dropR s k).1) true := by
  have hd : (dropR s k).1.length ≤ 8 := by
    unfold dropR dropL
    split
    · simp only [List.length_append, List.length_take, List.length_drop]; omega
    · exact Nat.zero_le _
  refine Ev_step (fun K => by rw [laws_FnBooksHidden.j7]) ?_
  by_cases hb : dropB s k = true; rotate_left
  · have e : dropR s k = ([], false) := if_neg hb
    rw [e]
    exact Ev_neg Bool.false_ne_true (j8_ev s [] hs k false (fun h => by cases h) (Nat.zero_le _))
  have e : dropR s k = (dropL s k, true) := if_pos hb
  rw [e] at hd ⊢
  refine Ev_pos rfl (j8_ev s (dropL s k) hs k _ (fun hk => ?_) hd)
  have hb2 := hb
  unfold dropB inB at hb2
  rw [Bool.and_eq_true, decide_eq_true_eq] at hb2
  obtain ⟨hg, h0, h1⟩ := hb2
  have hk2 := beq_iff_eq.1 hk
  rw [w64 (by omega) (by omega)] at hk2
  obtain ⟨i, rfl⟩ := Int.eq_ofNat_of_zero_le h0
  have hi : i < s.length := by omega
  have ok := List.all_eq_true.1 (good_split hg).2 s[i] (List.getElem_mem hi)
  have hl := dropL_len s i hi
  have hgd : goodP (dropL s (i : Int)) = true := by
    unfold goodP
    rw [dropL_ok s i (good_split hg).2, decide_eq_true (by have := (good_split hg).1; omega)]
    rfl
  refine ⟨i, rfl, hi, ?_⟩
  unfold addR addB
  rw [hgd, show clueB (s[i]).f0 (s[i]).f1 (s[i]).f2 = true from ok, show (((dropL s (i : Int)).length : Int) == 6) = false from beq_eq_false_iff_ne.2 (by have := (good_split hg).1; omega), if_pos (by decide)]
  rw [show (⟨(s[i]).f0, (s[i]).f1, (s[i]).f2⟩ : CL) = s[i] from rfl, drop_last s i (by omega)]
theorem j6_ev (r : List CL) (hr : r.length ≤ 8) (a b c : Int) (s : List CL) (hs : s.length ≤ 8) (k : Int) : Ev (fun K => laws_FnBooksHidden.j6 K (addR r a b c).2 k (dropR s k).2 false r a b c (addR r a b c).1 s (dropR s k).1) true := by
  refine Ev_step (fun K => by rw [laws_FnBooksHidden.j6]) (Ev_neg Bool.false_ne_true ?_)
  by_cases hb : addB r a b c = true; rotate_left
  · have e : addR r a b c = ([], false) := if_neg hb
    rw [e]
    exact Ev_neg Bool.false_ne_true (j7_ev s hs k)
  have e : addR r a b c = (r ++ [⟨a, b, c⟩], true) := if_pos hb
  rw [e]
  have hb2 := hb
  unfold addB at hb2
  rw [Bool.and_eq_true, Bool.and_eq_true] at hb2
  obtain ⟨hg, hc, h6⟩ := hb2
  have h6' : (r.length : Int) ≠ 6 := by
    intro h
    rw [h] at h6
    cases h6
  have hlen : (r ++ [(⟨a, b, c⟩ : CL)]).length = r.length + 1 := by rw [List.length_append, List.length_singleton]
  have hg2 : goodP (r ++ [⟨a, b, c⟩]) = true := by
    unfold goodP
    rw [hlen, decide_eq_true (by have := (good_split hg).1; omega), List.all_append, (good_split hg).2]
    show (true && (true && (clueB a b c && true))) = true
    rw [hc]
    rfl
  have hd : dropR (r ++ [⟨a, b, c⟩]) (r.length : Int) = (r, true) := by
    unfold dropR dropB
    rw [hg2, show inB (r.length : Int) 0 (((r ++ [(⟨a, b, c⟩ : CL)]).length : Int) - 1) = true from decide_eq_true (by rw [hlen]; omega), if_pos (by decide)]
    unfold dropL
    simp only [Int.toNat_natCast]
    rw [List.take_append_of_le_length (Nat.le_refl _), List.take_of_length_le (Nat.le_refl _), List.drop_of_length_le (by rw [hlen]; omega), List.append_nil]
  have ed := implDrop_eq (r ++ [⟨a, b, c⟩]) (r.length : Int) (by rw [hlen]; omega)
  rw [hd] at ed
  refine Ev_pos rfl (Ev_some ed (Ev_pos rfl (Ev_bind (xPuzzle_ev r (by omega)) (Ev_pos rfl (Ev_pos (by omega) (Ev_pos (show (r.length : Int) < ((r ++ [(⟨a, b, c⟩ : CL)]).length : Int) by rw [hlen]; omega) (Ev_neg ?_ (j7_ev s hs k))))))))
  rw [rdC_mem _ r.length (by rw [hlen]; omega), List.getElem_append_right (Nat.le_refl _)]
  simp
theorem j5_ev {c : List Int} (hc : Bytes c) : Ev (fun K => laws_FnBooksHidden.j5 K c) true := by
  obtain ⟨r, a, b, z, d1, hr⟩ := drawAdd_ok hc
  obtain ⟨a2, a1⟩ := add_both r a b z (by omega)
  obtain ⟨s, k, d2, hs⟩ := drawDrop_ok hc
  have k1 := implDrop_eq s k (by omega)
  have k2 := specDrop_ev s k (by omega)
  obtain ⟨x, y, w, u, v, d3⟩ := drawFit_ok hc
  obtain ⟨⟨f1, f2⟩, e1, e2, hf⟩ := fit_both x y w u v
  obtain ⟨p, q, t, d4⟩ := drawClue_ok hc
  obtain ⟨m, n, d5⟩ := drawHid_ok hc
  have la := addR_len r a b z (by omega)
  have ld := dropR_len s k (by omega)
  have nx := j6_ev r hr a b z s hs k
  refine Ev_step (fun K => by rw [laws_FnBooksHidden.j5]) ?_
  refine Ev_bind d1 (Ev_bind a1 (Ev_bind a2 (Ev_bind d2 (Ev_some k1 (Ev_bind k2 (Ev_bind d3 (Ev_bind e1 (Ev_bind e2 (Ev_bind d4 (Ev_some d5 ?_))))))))))
  refine Ev_neg (bneS _) (Ev_bind (xPuzzle_ev _ (by omega)) (Ev_pos rfl (Ev_neg (bneS _) (Ev_bind (xPuzzle_ev _ ld) (Ev_pos rfl (Ev_neg (bneS _) (Ev_neg (bneS _) (Ev_bind (implC_ev _ _ _) (Ev_bind (specIC_ev _ _ _) (Ev_neg (bneS _) ?_))))))))))
  cases f2 with
  | true =>
    refine Ev_pos rfl (Ev_bind (implC_ev x y w) ?_)
    rw [hf rfl]
    refine Ev_pos rfl (Ev_some (impl_hidden _ _) (Ev_some (specIH_eq _ _) ?_))
    refine Ev.congr (fun K => ?_) nx
    rw [show (hiddenB m n != hiddenB m n) = false by simp]
  | false =>
    refine Ev_neg Bool.false_ne_true (Ev_some (impl_hidden _ _) (Ev_some (specIH_eq _ _) ?_))
    refine Ev.congr (fun K => ?_) nx
    rw [show (hiddenB m n != hiddenB m n) = false by simp]
theorem j3_ev {c : List Int} (hc : Bytes c) : Ev (fun K => laws_FnBooksHidden.j3 K c) true := by
  obtain ⟨q, d1, hq⟩ := drawHarder_ok hc
  obtain ⟨⟨h, ok⟩, a2, a1, hh⟩ := harderS_ev q (by omega)
  have hl : h.length ≤ 8 := by
    rcases hh with ⟨e, _⟩ | ⟨_, _, _, e, _⟩
    · rw [(Prod.mk.inj e).1]; exact Nat.zero_le _
    · show h.length ≤ 8
      have : h.length ≤ q.length := e
      omega
  have no : Ev (fun K => laws_FnBooksHidden.j4 K c false false q h) true := by
    refine Ev_step (fun K => by rw [laws_FnBooksHidden.j4]) ?_
    exact Ev_neg Bool.false_ne_true (Ev_neg Bool.false_ne_true (j5_ev hc))
  refine Ev_step (fun K => by rw [laws_FnBooksHidden.j3]) ?_
  refine Ev_bind d1 (Ev_bind a1 (Ev_bind a2 (Ev_some (isSolvedI_eq q) ?_)))
  refine Ev_neg (bneS _) (Ev_bind (xPuzzle_ev h (by omega)) (Ev_pos rfl ?_))
  rcases hh with ⟨e, hn⟩ | ⟨hg, h1, hok, r1, r2, r3, r4⟩
  · obtain ⟨rfl, rfl⟩ := Prod.mk.inj e
    by_cases hg : goodP q = true; rotate_left
    · simp only [if_neg hg]
      exact Ev_neg Bool.false_ne_true no
    rw [hg, Bool.true_and] at hn
    simp only [if_pos hg]
    refine Ev_pos trivial ?_
    rw [hn]
    exact no
  · have hok' : ok = true := hok
    subst hok'
    have hg2 : goodP h = true := by
      unfold goodP
      have : h.length ≤ q.length := r1
      rw [show h.all clueOk = true from r2, decide_eq_true (by have := (good_split hg).1; omega)]
      rfl
    have sl := sols_len q
    have r3' : sols h = sols q := r3
    have n1 : Ev (fun K => impl_NeedlessClues.f K h) ([], true) := noNeed_ev hg2 (fun j hj => by
      rw [r3', h1]
      exact r4 j hj)
    simp only [if_pos hg]
    refine Ev_pos trivial ?_
    rw [show (((sols q).length : Int) == 1) = true from beq_iff_eq.2 (by omega)]
    refine Ev_step (fun K => by rw [laws_FnBooksHidden.j4]) ?_
    refine Ev_neg Bool.false_ne_true (Ev_pos rfl ?_)
    refine Ev_some (implSolutions_eq q) (Ev_some (implSolutions_eq h) (Ev_bind n1 ?_))
    simp only [if_pos hg, if_pos hg2, r3']
    have : h.length ≤ q.length := r1
    exact Ev_pos trivial (Ev_pos trivial (Ev_bind (xBooks_ev (sols q) (by omega)) (Ev_pos rfl (Ev_pos trivial (Ev_pos (by rfl) (Ev_neg (by omega) (j5_ev hc)))))))
theorem l0_ev {c : List Int} (hc : Bytes c) (p l : Nat) (m : List CL) (hm : m.length ≤ 8) (hf : ∀ x ∈ m, Ev (fun k => impl_DoesFit.f k x.f0 x.f1 x.f2 (p : Int) (l : Int)) (true, true)) : ∀ n i : Nat, i + n = m.length → Ev (fun K => laws_FnBooksHidden.l0 K c m (m.length : Int) (i : Int) (p : Int) (l : Int)) true := by
  intro n
  induction n with
  | zero =>
    intro i hi
    exact Ev_step (fun K => by rw [laws_FnBooksHidden.l0, if_neg (by omega)]) (j3_ev hc)
  | succ n ih =>
    intro i hi
    have h : i < m.length := by omega
    refine Ev_step (fun K => by rw [laws_FnBooksHidden.l0, if_pos (by omega), if_pos (by omega), if_pos (by omega), rdC_mem m i h, next i (by omega)]) ?_
    exact Ev_bind (hf _ (List.getElem_mem h)) (Ev_pos rfl (Ev_pos rfl (ih (i + 1) (by omega))))
theorem j0_ev {c : List Int} (hc : Bytes c) (a b n s : Int) : Ev (fun K => laws_FnBooksHidden.j0 K c n (madeR a b n s).2 false a b (madeR a b n s).1) true := by
  refine Ev_step (fun K => by rw [laws_FnBooksHidden.j0]) (Ev_neg Bool.false_ne_true ?_)
  by_cases hb : (hiddenB a b && (inB n 0 6 && inB s 0 9999)) = true; rotate_left
  · have e : madeR a b n s = ([], false) := if_neg hb
    rw [e]
    exact Ev_neg Bool.false_ne_true (j3_ev hc)
  have e : madeR a b n s = (madeL a.toNat b.toNat n.toNat s.toNat, true) := if_pos hb
  rw [e]
  rw [Bool.and_eq_true, Bool.and_eq_true] at hb
  obtain ⟨hh, hn, hs⟩ := hb
  obtain ⟨p, l, rfl, rfl, h2, hp, hl, hlp⟩ := hidden_in hh
  have hn' := of_decide_eq_true (show decide (0 ≤ n ∧ n ≤ 6) = true from hn)
  obtain ⟨n, rfl⟩ := Int.eq_ofNat_of_zero_le hn'.1
  simp only [Int.toNat_natCast]
  have ml := made_len p l n s.toNat
  have mf := made_fit p l h2 hp hl hlp n s.toNat
  have hg : goodP (madeL p l n s.toNat) = true := by
    unfold goodP
    rw [ml, decide_eq_true (by omega), List.all_eq_true.2 (fun x hx => (mf x hx).1)]
    rfl
  obtain ⟨A, B, e1, e2, e3, e4, e5, e6⟩ := sums_of h2 hp hl hlp
  refine Ev_pos trivial (Ev_some e1 (Ev_some e2 (Ev_bind e3 (Ev_bind e4 (Ev_some e5 (Ev_bind e6 (Ev_some (implIsPuzzle_eq _) ?_)))))))
  rw [hg]
  refine Ev_pos rfl (Ev_pos (by rw [ml]) (Ev_pos rfl (Ev_pos rfl (Ev_pos rfl (Ev_pos rfl (Ev_pos rfl (Ev_pos rfl (Ev_pos rfl (Ev_pos rfl (Ev_pos rfl ?_))))))))))
  refine Ev_step (fun K => by rw [laws_FnBooksHidden.j1]) ?_
  refine Ev_neg Bool.false_ne_true ?_
  exact l0_ev hc p l _ (by omega) (fun x hx => (mf x hx).2) n 0 (by omega)
theorem FnBooksHidden : laws_FnBooksHidden.Pure := by
  intro l0 l1 ⟨hm0, hw0⟩ ⟨hm1, hw1⟩
  refine Ev.rounds (g := fun k => laws_FnBooksHidden.f k l0 l1) ?_
  have hbg : ∃ B, laws_big.f l0 l1 = some B := by
    unfold laws_big.f
    split
    · exact ⟨_, rfl⟩
    · exact ⟨_, rfl⟩
  obtain ⟨B, hB⟩ := hbg
  cases B with
  | true =>
    simp only [laws_FnBooksHidden.f]
    exact Ev_some hB (Ev_pos rfl (Ev.now _))
  | false =>
    have hd := Bytes.of hw1
    obtain ⟨a, b, n, s, e0⟩ := drawMake_ok (Bytes.of hw0)
    obtain ⟨m2, m1⟩ := makeBoth_ev a b n s
    have ml := madeR_len a b n s
    have nx := j0_ev hd a b n s
    simp only [laws_FnBooksHidden.f]
    refine Ev_some hB (Ev_neg Bool.false_ne_true (Ev_some e0 (Ev_bind m1 (Ev_bind m2 (Ev_neg (bneS _) (Ev_bind (xPuzzle_ev _ (by omega)) (Ev_pos rfl ?_)))))))
    have fl : (hiddenB a b != hiddenB a b) = false := by simp
    by_cases hb : (hiddenB a b && (inB n 0 6 && inB s 0 9999)) = true; rotate_left
    · have e : madeR a b n s = ([], false) := if_neg hb
      rw [e] at nx ⊢
      refine Ev_neg Bool.false_ne_true (Ev_some (impl_hidden a b) (Ev_some (specIH_eq a b) ?_))
      rw [fl]
      exact nx
    have e : madeR a b n s = (madeL a.toNat b.toNat n.toNat s.toNat, true) := if_pos hb
    have hh : hiddenB a b = true := (Bool.and_eq_true _ _ ▸ hb).1
    rw [e] at nx ⊢
    refine Ev_pos rfl (Ev_some (impl_hidden a b) ?_)
    refine Ev_pos hh (Ev_some (impl_hidden a b) (Ev_some (specIH_eq a b) ?_))
    rw [fl]
    exact nx
end Go.Proofs.YtodacdcbeleleaaDoor.Pure
end

section
namespace Go.Proofs.YtodacdcbeleleaaDoor.Open
open Go.ChangeShapes Go.WideShapes Go.ChangeAt Go.RowKit Go.Proofs.YtodacdcbeleleaaDoorW.PrintWords
set_option linter.unusedVariables false

structure Opens {α : Type} (P : Program) (t : TypeId) (d : Kd α) (fit : α → Prop) : Prop where
  out : ∀ {H : Type} (enc : TypeId × Value → H) (w : World) (fuel : Nat) (cs : List Value) (x : DataW H × List MemPlace), DataW.trod enc P w 0 (fun _ => true) true fuel t cs = some x → ∃ y, d.K w y cs ∧ fit y
theorem opens_int {P : Program} {t : TypeId} {k : IntKind} (ht : P.underlying t = some (.int k)) : Opens P t (Kd.int k) (fun x => (Lit.int k x).wf = true) := by
  refine ⟨fun {H} enc w fuel cs x h => ?_⟩
  obtain ⟨n, rfl, _, hw⟩ := DataW.trod_int ht h
  exact ⟨n, rfl, hw⟩
theorem cells_at {w : World} {base n : Nat} {a : Addr} {cs : List Value} (h : w.cells? base a n = some cs) : cs.length = n ∧ ∀ i u, cs[i]? = some u → w.cell? (a.add i) = some u := by
  unfold World.cells? at h
  split at h
  · have hl := mapM_some_length h
    rw [List.length_range] at hl
    refine ⟨hl, fun i u hu => ?_⟩
    have hi : i < n := by have := (List.getElem?_eq_some_iff.1 hu).1; omega
    have := mapM_some_get h i i (by simp [hi])
    rw [this, hu]
  · cases h

theorem list_of {α : Type} {n : Nat} {p : Nat → α → Prop} (h : ∀ i, i < n → ∃ x, p i x) : ∃ xs : List α, xs.length = n ∧ ∀ i x, xs[i]? = some x → p i x := by
  induction n with
  | zero => exact ⟨[], rfl, by simp⟩
  | succ n ih =>
    obtain ⟨xs, hl, hx⟩ := ih (fun i hi => h i (by omega))
    obtain ⟨y, hy⟩ := h n (by omega)
    refine ⟨xs ++ [y], by simp [hl], fun i x hi => ?_⟩
    rcases Nat.lt_trichotomy i n with hlt | rfl | hgt
    · rw [List.getElem?_append_left (by omega)] at hi
      exact hx i x hi
    · rw [List.getElem?_append_right (by omega), hl] at hi
      simp at hi
      exact hi ▸ hy
    · rw [List.getElem?_eq_none (by simp; omega)] at hi
      cases hi

theorem opens_slice {α : Type} {P : Program} {t e : TypeId} {d : Kd α} {fit : α → Prop} (ht : P.underlying t = some (.slice e)) (hc : P.cellsOf e = d.sz) (h : Opens P e d fit) :
    Opens P t (Kd.slice e d) (fun xs => xs.length ≤ maxLen ∧ ∀ x, x ∈ xs → fit x) := by
  refine ⟨fun {H} enc w fuel cs x hx => ?_⟩
  rcases Go.Deep.open_slice ht hx with ⟨rfl, _⟩ | ⟨a, len, cap, m, n, D, Pl, rfl, _, hl, hm, hmm, _, hel⟩
  · exact ⟨[], ⟨none, 0, rfl, Nat.le_refl _, rfl, by simp, fun h0 => absurd h0 (by simp)⟩, by simp, by simp⟩
  · have hm' : m = cap := by simpa using hmm
    subst hm'
    obtain ⟨xs, hlen, hxs⟩ := list_of (n := len) (p := fun i y => ∃ c, c.length = d.sz ∧ d.K w y c ∧ fit y ∧ ∀ j u, c[j]? = some u → w.cell? (a.add (i * d.sz + j)) = some u) (fun i hi => by
      obtain ⟨cs', hcs, htr⟩ := hel i (by omega)
      obtain ⟨y, hK, hf⟩ := h.out enc w n cs' _ htr
      obtain ⟨hlc, hcell⟩ := cells_at hcs
      refine ⟨y, cs', d.K_len hK, hK, hf, fun j u hu => ?_⟩
      have := hcell j u hu
      rw [Go.Deep.add_add, hc] at this
      exact this)
    subst hlen
    refine ⟨xs, ⟨some a, m, rfl, hl, rfl, by unfold maxLen at hm; omega, fun _ => ⟨a, rfl, fun j p hj => ?_⟩⟩, by omega, fun x hmem => ?_⟩
    · obtain ⟨c, h1, h2, _, h3⟩ := hxs j p hj
      exact ⟨c, h1, h2, h3⟩
    · obtain ⟨i, hi, rfl⟩ := List.mem_iff_getElem.1 hmem
      obtain ⟨_, _, _, hf, _⟩ := hxs i _ (List.getElem?_eq_getElem hi)
      exact hf

theorem arg_slice {α : Type} {P : Program} {t e : TypeId} {d : Kd α} {fit : List α → Prop} {H : Type} {enc : TypeId × Value → H} {w : World} {v : Value} {x : DataW H} {ps : List MemPlace} (ho : Opens P t (Kd.slice e d) fit) (h : DataW.Trod enc P w 0 (fun _ => true) true t v x ps) (hv : ∃ a n c, v = .slice a n c) :
    ∃ (A : Option Addr) (c : Nat) (l : List α), v = .slice A l.length c ∧ Kd.C d w A l.length l ∧ l.length ≤ c ∧ fit l := by
  obtain ⟨fuel, hf⟩ := h
  obtain ⟨a, n, c, rfl⟩ := hv
  obtain ⟨l, ⟨A, c', hcs, hlc, hC⟩, hfit⟩ := ho.out enc w fuel _ _ hf
  simp [Value.cells] at hcs
  obtain ⟨rfl, rfl, rfl⟩ := hcs
  exact ⟨a, c, l, rfl, hC, hlc, hfit⟩
end Go.Proofs.YtodacdcbeleleaaDoor.Open
end
