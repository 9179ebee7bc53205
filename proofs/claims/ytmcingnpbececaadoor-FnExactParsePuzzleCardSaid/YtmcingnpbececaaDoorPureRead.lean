/- A number's numeral read: by the reference and by the library. -/
import Derived.Test.YtmcingnpbececaaDoorPx10
import Derived.Test.YtmcingnpbececaaDoorPureSplit
namespace Go.Proofs.YtmcingnpbececaaDoor.P
open Go.RowKit Go.Proofs.YtmcingnpbececaaDoorW.PrintWords Go.Proofs.YtmcingnpbececaaDoorW.PrintLast Go.Proofs.YtmcingnpbececaaDoorW.PrintMore Go.Proofs.YtmcingnpbececaaDoor.Base
set_option linter.unusedVariables false

def rdL : Int → List UInt8 → Int
  | x, [] => x
  | x, c :: r => if c.toNat < 48 then -1 else if c.toNat > 57 then -1 else rdL (10 * x + ((c.toNat : Int) - 48)) r
theorem pow6 (i : Nat) (h : i ≤ 5) : (10 : Int) ^ i ≤ 100000 := by
  have : i = 0 ∨ i = 1 ∨ i = 2 ∨ i = 3 ∨ i = 4 ∨ i = 5 := by omega
  rcases this with rfl | rfl | rfl | rfl | rfl | rfl <;> decide
theorem read_l0 (s : ByteArray) (hs : s.size ≤ 6) : ∀ (n i : Nat) (x : Int), i + n = s.size → 0 ≤ x → x < (10 : Int) ^ i → Ev (fun k => spec_l1Read.l0 k s x (i : Int)) (rdL x (s.data.toList.drop i)) := by
  have hz : s.size = s.data.toList.length := Lib.size_eq s
  intro n
  induction n with
  | zero =>
    intro i x hi h0 hx
    rw [List.drop_of_length_le (by omega), rdL]
    exact Ev_step (fun k => by rw [spec_l1Read.l0, if_neg (by omega)]) (Ev.now _)
  | succ n ih =>
    intro i x hi h0 hx
    have h : i < s.data.toList.length := by omega
    have hp := pow6 i (by omega)
    have w : wrap64 ((i : Int) + 1) = ((i + 1 : Nat) : Int) := by rw [w64 (by omega) (by omega)]; omega
    have hb : bt s (i : Int) = ((s.data.toList[i].toNat : Nat) : Int) := by rw [bt_list, List.getElem?_eq_getElem h]; rfl
    rw [List.drop_eq_getElem_cons h, rdL]
    refine Ev_step (fun k => by rw [spec_l1Read.l0, if_pos (by omega), if_pos (by omega), hb, w]) ?_
    generalize s.data.toList[i].toNat = c
    by_cases h1 : c < 48
    · rw [if_pos h1]
      exact Ev_pos (by omega) (Ev.now _)
    · rw [if_neg h1]
      by_cases h2 : c > 57
      · rw [if_pos h2]
        exact Ev_neg (by omega) (Ev_pos (by omega) (Ev.now _))
      · rw [if_neg h2]
        refine Ev_neg (by omega) (Ev_neg (by omega) ?_)
        have e : wrap64 (wrap64 (10 * x) + ((c : Int) - 48) % 256) = 10 * x + ((c : Int) - 48) := by
          rw [w64 (x := 10 * x) (by omega) (by omega), w64 (by omega) (by omega)]
          omega
        rw [e]
        exact ih (i + 1) _ (by omega) (by omega) (by rw [Int.pow_succ]; omega)
theorem read_any (s : ByteArray) : ∃ v, Ev (fun k => spec_l1Read.f k s) v := by
  simp only [spec_l1Read.f, l1In_eq, Option.bind_some]
  have jt : Ev (fun k => spec_l1Read.j0 k s true) (-1) := Ev_step (fun k => by rw [spec_l1Read.j0, if_pos rfl]) (Ev.now _)
  by_cases h : inB (s.size : Int) 1 6 = true
  · have h2 := of_decide_eq_true h
    have jf : Ev (fun k => spec_l1Read.j0 k s false) (rdL 0 s.data.toList) := by
      refine Ev_step (fun k => by rw [spec_l1Read.j0, if_neg (by decide)]) ?_
      exact read_l0 s (by omega) s.size 0 0 (by omega) (by omega) (by decide)
    by_cases h0 : bt s 0 = 48
    · by_cases h3 : (s.size : Int) > 1
      · exact ⟨_, Ev_pos h (Ev_pos (by omega) (Ev_pos h0 (by rw [decide_eq_true h3]; exact jt)))⟩
      · exact ⟨_, Ev_pos h (Ev_pos (by omega) (Ev_pos h0 (by rw [decide_eq_false h3]; exact jf)))⟩
    · exact ⟨_, Ev_pos h (Ev_pos (by omega) (Ev_neg h0 jf))⟩
  · exact ⟨_, Ev_neg h jt⟩
theorem rdL_app : ∀ (l r : List UInt8) (x : Int), (∀ c ∈ l, 48 ≤ c.toNat ∧ c.toNat ≤ 57) → rdL x (l ++ r) = rdL (rdL x l) r := by
  intro l
  induction l with
  | nil => intro r x _; rfl
  | cons c l ih =>
    intro r x h
    have hc := h c (by simp)
    rw [List.cons_append, rdL, rdL, if_neg (by omega), if_neg (by omega), if_neg (by omega), if_neg (by omega)]
    exact ih r _ (fun d hd => h d (by simp [hd]))
theorem rdL_dig : ∀ (n : Nat), rdL 0 (Lib.decDigits n) = (n : Int) := by
  intro n
  induction n using Nat.strongRecOn with
  | ind n ih =>
    have one : ∀ d, d < 10 → ∀ x, rdL x [UInt8.ofNat (48 + d)] = 10 * x + (d : Int) := by
      intro d hd x
      have e : (UInt8.ofNat (48 + d)).toNat = 48 + d := by rw [UInt8.toNat_ofNat']; omega
      rw [rdL, rdL, e, if_neg (by omega), if_neg (by omega)]
      omega
    by_cases h : n < 10
    · rw [Lib.decDigits_one h, one n h]
      omega
    · rw [Lib.decDigits, dif_neg h, rdL_app _ _ _ (dig_in _), ih (n / 10) (by omega), one _ (by omega)]
      omega
theorem dig_head : ∀ (n : Nat), 0 < n → (Lib.decDigits n)[0]? ≠ some 48 := by
  intro n
  induction n using Nat.strongRecOn with
  | ind n ih =>
    intro hn
    by_cases h : n < 10
    · rw [Lib.decDigits_one h]
      rcases ten n h with rfl | rfl | rfl | rfl | rfl | rfl | rfl | rfl | rfl | rfl
      · omega
      all_goals decide
    · rw [Lib.decDigits, dif_neg h]
      have h2 := ih (n / 10) (by omega) (by omega)
      rcases hc : Lib.decDigits (n / 10) with _ | ⟨c, r⟩
      · have hd := decFrom_dig (n / 10)
        rw [hc] at hd
        simp only [Lib.decFrom, Option.some.injEq] at hd
        omega
      · rw [hc] at h2
        exact h2
theorem read_num (a : Nat) (h : a ≤ 1000) : Ev (fun k => spec_l1Read.f k (num a)) (a : Int) := by
  have hs := num_size 3 a (by omega)
  have hp : 1 ≤ (num a).size := by
    by_cases h1 : a < 10
    · rw [num_size1 a h1]; omega
    · rw [num_big a h1, ByteArray.size_append]
      have e : (⟨[UInt8.ofNat (48 + a % 10)].toArray⟩ : ByteArray).size = 1 := rfl
      omega
  simp only [spec_l1Read.f, l1In_eq, Option.bind_some]
  have hi : inB ((num a).size : Int) 1 6 = true := decide_eq_true ⟨by omega, by omega⟩
  have jf : Ev (fun k => spec_l1Read.j0 k (num a) false) (a : Int) := by
    refine Ev_step (fun k => by rw [spec_l1Read.j0, if_neg (by decide)]) ?_
    have := read_l0 (num a) (by omega) (num a).size 0 0 (by omega) (by omega) (by decide)
    rw [List.drop_zero, num_data, rdL_dig] at this
    exact this
  by_cases h0 : bt (num a) 0 = 48
  · have ha : a = 0 := by
      rcases Nat.eq_zero_or_pos a with h1 | h1
      · exact h1
      · exfalso
        have hb := bt_list (num a) 0
        rw [num_data] at hb
        have h2 := dig_head a h1
        have h3 : (((Lib.decDigits a)[0]?).getD 0).toNat = 48 := by have : ((0 : Nat) : Int) = 0 := rfl; rw [this] at hb; omega
        rcases hc : (Lib.decDigits a)[0]? with _ | c
        · rw [hc] at h3; exact absurd h3 (by decide)
        · rw [hc] at h3 h2
          exact h2 (congrArg some (UInt8.toNat_inj.1 h3))
    have h3 : ¬ ((num a).size : Int) > 1 := by rw [ha, num_size1 0 (by omega)]; omega
    exact Ev_pos hi (Ev_pos (by omega) (Ev_pos h0 (by rw [decide_eq_false h3]; exact jf)))
  · exact Ev_pos hi (Ev_pos (by omega) (Ev_neg h0 jf))
theorem atoi_num (a : Nat) (h : a ≤ 1000) : atoi.f (num a) = some ((a : Int), none) := by
  have hs := num_size 3 a (by omega)
  unfold atoi.f
  rw [if_pos (by omega), num_data, atoiAll_dig a (by omega)]
theorem atoi_any (s : ByteArray) (h : s.size ≤ 281474976710656) : ∃ v e, atoi.f s = some (v, e) := by
  unfold atoi.f
  rw [if_pos h]
  cases Lib.atoiAll s.data.toList <;> exact ⟨_, _, rfl⟩
end Go.Proofs.YtmcingnpbececaaDoor.P
