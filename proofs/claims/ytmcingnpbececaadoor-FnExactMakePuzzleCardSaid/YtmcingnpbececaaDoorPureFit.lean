/- What the program and the reference tell of a hidden book is the same; the book is one, the clue too. -/
import Derived.Test.YtmcingnpbececaaDoorPx3
import Derived.Test.YtmcingnpbececaaDoorPx7
import Derived.Test.YtmcingnpbececaaDoorPureSkip
import Derived.Test.YtmcingnpbececaaDoorPureClueC
namespace Go.Proofs.YtmcingnpbececaaDoor.P
open Go.RowKit Go.Proofs.YtmcingnpbececaaDoorW.PrintWords Go.Proofs.YtmcingnpbececaaDoorW.PrintLast Go.Proofs.YtmcingnpbececaaDoorW.PrintMore Go.Proofs.YtmcingnpbececaaDoor.Base Go.Proofs.YtmcingnpbececaaDoor.Skip
set_option linter.unusedVariables false

theorem itoa_eq (n : Nat) (h : n < 100) : itoa.f (n : Int) = some ⟨(Lib.decDigits n).toArray⟩ := by
  unfold itoa.f
  rw [if_pos ⟨by omega, by omega⟩, Int.toNat_natCast]
theorem used_eq (n a : Nat) (h : n < 100) (ha : a < 10) : impl_used.f (n : Int) (a : Int) = some (cnt a n : Int) := by
  simp only [impl_used.f, itoa_eq n h, itoa_eq a (by omega), Option.bind_some, Lib.decDigits_one ha]
  show Option.bind (some ((Lib.countByte (Lib.decDigits n) (UInt8.ofNat (48 + a)) : Nat) : Int)) _ = _
  rw [count_dec n a h ha]
  rfl
theorem half (n : Nat) (h : n ≤ 40) : wrap64 (Int.tdiv (wrap64 ((n : Int) + 1)) 2) = ((n + 1) / 2 : Nat) := by
  rw [w64 (x := (n : Int) + 1) (by omega) (by omega), Int.tdiv_eq_ediv_of_nonneg (by omega), w64 (by omega) (by omega)]
  omega
theorem next (n : Nat) (h : n ≤ 1000) : wrap64 ((n : Int) + 1) = ((n + 1 : Nat) : Int) := by
  rw [w64 (by omega) (by omega)]; omega
theorem cnt_le (a n : Nat) : cnt a n ≤ 2 := by unfold cnt; split <;> split <;> omega
theorem one_min (a n : Nat) : mn 1 (cnt a n : Int) = (one a n : Int) := by
  unfold one mn
  by_cases h : cnt a n = 0
  · rw [if_pos h]; omega
  · rw [if_neg h]; omega

/-- The program's loop at the kinds 0, 1, 2. -/
theorem tells_loop (kind a : Int) (d : Nat → Nat) (p l : Nat) (hp : p ≤ 40) (hl : 1 ≤ l) (hd : ∀ n, 1 ≤ n → n ≤ 40 → d n ≤ 100)
    (hk : (kind = 0 ∧ d = fun n => n) ∨ (kind = 1 ∧ d = dig) ∨ (kind = 2 ∧ ∃ b : Nat, b < 10 ∧ a = b ∧ d = one b)) (k : Nat) (h : p + 10 ≤ k) :
    impl_Hidden_tells.l0 k kind a 0 1 p l = some ((skipFrom d l 1 p : Nat) : Int) := by
  have := skip_loop (fun k acc n => impl_Hidden_tells.l0 k kind a acc n p l) d l p hp hd ?_ ?_ ?_ p 1 0 (by omega) (by omega) (by omega) k h
  · simpa using this
  · intro k acc n h1 h2 h3
    simp only [impl_Hidden_tells.l0]
    rw [if_pos (by omega), half n (by omega), if_pos (by rw [h3]), next n (by omega)]
  · intro k acc n _ ha h1 h2 h3
    simp only [impl_Hidden_tells.l0]
    rw [if_pos (by omega), half n (by omega), if_neg (by omega), next n (by omega)]
    have hb := hd n h1 (by omega)
    rcases hk with ⟨rfl, rfl⟩ | ⟨rfl, rfl⟩ | ⟨rfl, b, hb1, rfl, rfl⟩
    · rw [if_pos rfl, w64 (by omega) (by omega)]
      rfl
    · rw [if_neg (by decide), if_pos rfl, itoa_eq n (by omega)]
      have e : (⟨(Lib.decDigits n).toArray⟩ : ByteArray).size = dig n := by
        rw [← decDigits_len n (by omega)]
        rfl
      simp only [Option.bind_some, e]
      rw [w64 (by omega) (by omega)]
      rfl
    · rw [if_neg (by decide), if_neg (by decide), used_eq n b (by omega) hb1]
      simp only [Option.bind_some, one_min]
      rw [w64 (by omega) (by omega)]
      rfl
  · intro k acc
    simp only [impl_Hidden_tells.l0]
    rw [if_neg (by omega)]
theorem bpCount_eq (n a k : Nat) (h1 : 1 ≤ n) (h : n < 100) (ha : a < 10) : spec_bpCount.f (k + 4) (n : Int) (a : Int) = some (cnt a n : Int) := by
  have m1 : Int.tmod (n : Int) 10 = ((n % 10 : Nat) : Int) := by rw [Int.tmod_eq_emod_of_nonneg (by omega)]; omega
  have d1 : wrap64 (Int.tdiv (n : Int) 10) = ((n / 10 : Nat) : Int) := by rw [Int.tdiv_eq_ediv_of_nonneg (by omega), w64 (by omega) (by omega)]; omega
  have m2 : Int.tmod ((n / 10 : Nat) : Int) 10 = ((n / 10 : Nat) : Int) := by rw [Int.tmod_eq_emod_of_nonneg (by omega)]; omega
  have d2 : wrap64 (Int.tdiv ((n / 10 : Nat) : Int) 10) = 0 := by rw [Int.tdiv_eq_ediv_of_nonneg (by omega), w64 (by omega) (by omega)]; omega
  have w0 : wrap64 ((0 : Int) + 1) = 1 := by unfold wrap64; omega
  have w1 : wrap64 ((1 : Int) + 1) = 2 := by unfold wrap64; omega
  simp only [spec_bpCount.f, spec_bpCount.l0, m1, d1, m2, d2, w0, w1]
  rw [if_pos (by omega)]
  unfold cnt
  by_cases e : n % 10 = a
  · rw [if_pos (by rw [e]), if_pos e]
    by_cases f : n / 10 = 0
    · rw [if_neg (by omega), if_neg (by omega)]; rfl
    · rw [if_pos (by omega)]
      by_cases g : n / 10 = a
      · rw [if_pos (by rw [g]), if_neg (by omega), if_pos ⟨by omega, g⟩]; rfl
      · rw [if_neg (by omega), if_neg (by omega), if_neg (by omega)]; rfl
  · rw [if_neg (by omega), if_neg e]
    by_cases f : n / 10 = 0
    · rw [if_neg (by omega), if_neg (by omega)]; rfl
    · rw [if_pos (by omega)]
      by_cases g : n / 10 = a
      · rw [if_pos (by rw [g]), if_neg (by omega), if_pos ⟨by omega, g⟩]; rfl
      · rw [if_neg (by omega), if_neg (by omega), if_neg (by omega)]; rfl
/-- The reference's loop at the kind 2. -/
theorem value_loop (a p l : Nat) (hp : p ≤ 40) (hl : 1 ≤ l) (ha : a < 10) (k : Nat) (h : p + 10 ≤ k) :
    spec_pzValue.l0 k a 0 1 p l = some ((skipFrom (one a) l 1 p : Nat) : Int) := by
  have := skip_loop (fun k acc n => spec_pzValue.l0 k a acc n p l) (one a) l p hp (fun n _ _ => by unfold one; split <;> omega) ?_ ?_ ?_ p 1 0 (by omega) (by omega) (by omega) k h
  · simpa using this
  · intro k acc n h1 h2 h3
    simp only [spec_pzValue.l0]
    rw [if_pos (by omega), half n (by omega), if_pos (by rw [h3]), next n (by omega)]
  · intro k acc n hk ha' h1 h2 h3
    simp only [spec_pzValue.l0]
    obtain ⟨j, rfl⟩ : ∃ j, k = j + 4 := ⟨k - 4, by omega⟩
    rw [if_pos (by omega), half n (by omega), if_neg (by omega), next n (by omega), bpCount_eq n a j h1 (by omega) ha]
    simp only [Option.bind_some]
    unfold one
    by_cases e : cnt a n = 0
    · rw [if_neg (by omega), if_pos e]
      rfl
    · rw [if_pos (by omega), if_neg e, w64 (by omega) (by omega)]
      rfl
  · intro k acc
    simp only [spec_pzValue.l0]
    rw [if_neg (by omega)]
theorem num_size (n k : Nat) (h : n < 100) : ∃ s : ByteArray, spec_l1Num.f (k + 3) (n : Int) = some s ∧ s.size = dig n := by
  unfold dig
  by_cases h1 : n < 10
  · refine ⟨_, by simp only [spec_l1Num.f]; rw [if_pos (by omega)], ?_⟩
    rw [if_pos h1, strOfNums_size]
    rfl
  · have d1 : wrap64 (Int.tdiv (n : Int) 10) = ((n / 10 : Nat) : Int) := by rw [Int.tdiv_eq_ediv_of_nonneg (by omega), w64 (by omega) (by omega)]; omega
    have hs : ∀ x y : List Int, (strOfNums x ++ strOfNums y).size = x.length + y.length := fun x y => by
      rw [ByteArray.size_append, strOfNums_size, strOfNums_size]
    have e2 : spec_l1Num.f (k + 2) ((n / 10 : Nat) : Int) = some (strOfNums [wrap64 (48 + ((n / 10 : Nat) : Int)) % 256]) := by
      rw [spec_l1Num.f, if_pos (by omega)]
    refine ⟨strOfNums [wrap64 (48 + ((n / 10 : Nat) : Int)) % 256] ++ strOfNums [wrap64 (48 + Int.tmod (n : Int) 10) % 256], ?_, ?_⟩
    · rw [spec_l1Num.f, if_neg (by omega), d1, e2]
      simp only [Option.bind_some]
      rw [if_pos (by rw [strOfNums_size, strOfNums_size]; simp)]
    · rw [hs, if_neg h1]; rfl
theorem digits_loop (p : Nat) (hp : p ≤ 40) (k : Nat) (h : p + 10 ≤ k) : spec_bpDigits.f k p = some ((skipFrom dig 0 1 p : Nat) : Int) := by
  have := skip_loop (fun k acc n => spec_bpDigits.l0 k p acc n) dig 0 p hp (fun n _ _ => by unfold dig; split <;> omega) ?_ ?_ ?_ p 1 0 (by omega) (by omega) (by omega) k h
  · simpa [spec_bpDigits.f] using this
  · intro k acc n h1 h2 h3
    omega
  · intro k acc n hk ha' h1 h2 h3
    simp only [spec_bpDigits.l0]
    obtain ⟨j, rfl⟩ : ∃ j, k = j + 3 := ⟨k - 3, by omega⟩
    obtain ⟨s, hs, hz⟩ := num_size n j (by omega)
    have hb : dig n ≤ 2 := by unfold dig; split <;> omega
    rw [if_pos (by omega), hs, next n (by omega)]
    simp only [Option.bind_some, hz]
    rw [w64 (by omega) (by omega)]
    rfl
  · intro k acc
    simp only [spec_bpDigits.l0]
    rw [if_neg (by omega)]
theorem half2 (T s : Nat) (h : T ≤ 1640) (e : s = T / 2) : wrap64 (Int.tdiv (T : Int) 2) = (s : Int) := by
  rw [Int.tdiv_eq_ediv_of_nonneg (by omega), w64 (by omega) (by omega)]; omega
theorem minus (s0 s1 l : Nat) (h : s0 ≤ 2000) (e : s0 = s1 + (2 * l - 1) + 2 * l) (hl : 1 ≤ l) : wrap64 ((s0 : Int) - (4 * (l : Int) - 1)) = (s1 : Int) := by
  rw [w64 (by omega) (by omega)]; omega
theorem minus2 (s0 s1 x y : Nat) (h : s0 ≤ 2000) (e : s0 = s1 + x + y) : wrap64 (wrap64 ((s0 : Int) - (x : Int)) - (y : Int)) = (s1 : Int) := by
  rw [w64 (x := (s0 : Int) - (x : Int)) (by omega) (by omega), w64 (by omega) (by omega)]; omega
/-- What is told of a book, at each kind of a clue. -/
theorem tells_eq (kind a c : Int) (p l k : Nat) (h2 : 2 ≤ p) (hp : p ≤ 40) (hl : 1 ≤ l) (hlp : 2 * l ≤ p) (hc : clueB kind a c = true) (hk : 60 ≤ k) :
    ∃ v, spec_pzValue.f k kind a p l = some v ∧ impl_Hidden_tells.f k p l kind a = some v := by
  simp only [clueB, Bool.and_eq_true] at hc
  obtain ⟨hcc, hc⟩ := hc
  have w4 : wrap64 (wrap64 (4 * (l : Int)) - 1) = 4 * (l : Int) - 1 := by
    rw [w64 (x := 4 * (l : Int)) (by omega) (by omega), w64 (by omega) (by omega)]
  have tot0 := skip_all (fun n => n) l hl p 1 (by omega)
  have tot1 := skip_all dig l hl p 1 (by omega)
  rw [if_pos (by omega), if_pos (by omega)] at tot0 tot1
  by_cases k0 : kind = 0
  · subst k0
    refine ⟨((skipFrom (fun n => n) l 1 p : Nat) : Int), ?_, ?_⟩
    · have s0 := sum_id p (by omega)
      have hs : skipFrom (fun n => n) 0 1 p ≤ 820 := by
        rw [s0]
        have : p * (p + 1) ≤ 40 * 41 := Nat.mul_le_mul hp (by omega)
        omega
      have hpp : p * (p + 1) ≤ 1640 := by
        have : p * (p + 1) ≤ 40 * 41 := Nat.mul_le_mul hp (by omega)
        omega
      have e1 : wrap64 ((p : Int) + 1) = ((p + 1 : Nat) : Int) := next p (by omega)
      have e2 : wrap64 ((p : Int) * ((p + 1 : Nat) : Int)) = ((p * (p + 1) : Nat) : Int) := by
        rw [show (p : Int) * ((p + 1 : Nat) : Int) = ((p * (p + 1) : Nat) : Int) from (Int.natCast_mul p (p + 1)).symm, w64 (by omega) (by omega)]
      have e3 := half2 (p * (p + 1)) _ hpp s0
      have e4 := minus _ _ l (Nat.le_trans hs (by decide)) tot0 hl
      rw [spec_pzValue.f, if_pos rfl, spec_bpSum.f, e1, e2, e3, w4]
      simp only [Option.bind_some]
      rw [e4]
    · rw [impl_Hidden_tells.f, if_neg (by decide), if_neg (by decide), if_neg (by decide), tells_loop 0 a (fun n => n) p l hp hl (fun n _ h => by omega) (.inl ⟨rfl, rfl⟩) k (by omega)]
  by_cases k1 : kind = 1
  · subst k1
    refine ⟨((skipFrom dig l 1 p : Nat) : Int), ?_, ?_⟩
    · obtain ⟨j, rfl⟩ : ∃ j, k = j + 3 := ⟨k - 3, by omega⟩
      obtain ⟨s1, hs1, hz1⟩ := num_size (2 * l - 1) j (by omega)
      obtain ⟨s2, hs2, hz2⟩ := num_size (2 * l) j (by omega)
      have e1 : wrap64 (wrap64 (2 * (l : Int)) - 1) = ((2 * l - 1 : Nat) : Int) := by rw [w64 (x := 2 * (l : Int)) (by omega) (by omega), w64 (by omega) (by omega)]; omega
      have e2 : wrap64 (2 * (l : Int)) = ((2 * l : Nat) : Int) := by rw [w64 (by omega) (by omega)]; omega
      have hb : ∀ n, dig n ≤ 2 := fun n => by unfold dig; split <;> omega
      have hb1 := hb (2 * l - 1)
      have hb2 := hb (2 * l)
      have hbig : ∀ m n, skipFrom dig 0 n m ≤ 2 * m := by
        intro m
        induction m with
        | zero => intro n; exact Nat.le_refl _
        | succ m ih =>
          intro n
          have := ih (n + 1)
          have := hb n
          simp only [skipFrom]
          split <;> omega
      have hb3 := hbig p 1
      clear tot0
      rw [spec_pzValue.f, if_neg (by decide), if_pos rfl, digits_loop p hp _ (by omega), e1, e2, hs1, hs2]
      simp only [Option.bind_some, hz1, hz2]
      rw [minus2 _ _ _ _ (Nat.le_trans hb3 (by omega)) tot1]
    · rw [impl_Hidden_tells.f, if_neg (by decide), if_neg (by decide), if_neg (by decide), tells_loop 1 a dig p l hp hl (fun n _ h => by unfold dig; split <;> omega) (.inr (.inl ⟨rfl, rfl⟩)) k (by omega)]
  by_cases k5 : kind = 5
  · subst k5
    refine ⟨4 * (l : Int) - 1, ?_, ?_⟩
    · rw [spec_pzValue.f, if_neg (by decide), if_neg (by decide), if_neg (by decide), if_neg (by decide), if_neg (by decide), w4]
    · rw [impl_Hidden_tells.f, if_neg (by decide), if_neg (by decide), if_pos rfl, w4]
  rw [if_neg (by omega)] at hc
  by_cases k2 : kind = 2
  · subst k2
    rw [if_pos rfl] at hc
    simp only [inB, decide_eq_true_eq] at hc
    obtain ⟨b, rfl⟩ := Int.eq_ofNat_of_zero_le hc.1
    refine ⟨((skipFrom (one b) l 1 p : Nat) : Int), ?_, ?_⟩
    · rw [spec_pzValue.f, if_neg (by decide), if_neg (by decide), if_pos rfl, value_loop b p l hp hl (by omega) k (by omega)]
    · rw [impl_Hidden_tells.f, if_neg (by decide), if_neg (by decide), if_neg (by decide), tells_loop 2 b (one b) p l hp hl (fun n _ h => by unfold one; split <;> omega) (.inr (.inr ⟨rfl, b, by omega, rfl, rfl⟩)) k (by omega)]
  rw [if_neg k2] at hc
  by_cases k3 : kind = 3
  · subst k3
    refine ⟨if (l : Int) ≥ a then 1 else 0, ?_, ?_⟩
    · rw [spec_pzValue.f, if_neg (by decide), if_neg (by decide), if_neg (by decide), if_pos rfl]
      split <;> rfl
    · rw [impl_Hidden_tells.f, if_pos rfl]
      simp only [impl_flag.f]
      by_cases h : (l : Int) ≥ a <;> simp [h]
  rw [if_neg k3] at hc
  by_cases k4 : kind = 4
  · subst k4
    rw [if_pos rfl] at hc
    simp only [inB, Bool.and_eq_true, decide_eq_true_eq] at hc
    refine ⟨if Int.tmod (p : Int) a = 0 then 1 else 0, ?_, ?_⟩
    · rw [spec_pzValue.f, if_neg (by decide), if_neg (by decide), if_neg (by decide), if_neg (by decide), if_pos rfl, if_neg (by omega)]
      split <;> rfl
    · rw [impl_Hidden_tells.f, if_neg (by decide), if_pos rfl, if_neg (by omega)]
      simp only [impl_flag.f]
      by_cases h : Int.tmod (p : Int) a = 0 <;> simp [h]
  rw [if_neg k4] at hc
  cases hc
end Go.Proofs.YtmcingnpbececaaDoor.P
