/- Texts cut at a sign: as the reference and the library cut them. -/
import Derived.Test.YtppbpefehpbejaaGreatDoorZix24
import Derived.Test.YtppbpefehpbejaaGreatDoorZix26
import Derived.Lib.Split
import Derived.Lib.AtoiTie
import Derived.Test.YtppbpefehpbejaaGreatDoorZix23
import Derived.Test.YtppbpefehpbejaaGreatDoorZix25
import Derived.Test.YtppbpefehpbejaaGreatDoorZix21
import Derived.Test.YtppbpefehpbejaaGreatDoorZix22
import Derived.Laws.BitsLemmas
import Derived.OpenShut
import Derived.Test.YtppbpefehpbejaaGreatDoorZix0
import Derived.ProofKit
import Derived.Deep.Slices
import Derived.Lib.SmallJoins
import Derived.WalkKit
section
namespace Go.Proofs.YtppbpefehpbejaaGreatDoor.P
open Go.RowKit Go.Proofs.YtppbpefehpbejaaGreatDoorW.PrintWords Go.Proofs.YtppbpefehpbejaaGreatDoorW.PrintLast Go.Proofs.YtppbpefehpbejaaGreatDoorW.PrintMore Go.Proofs.YtppbpefehpbejaaGreatDoor.Base
set_option linter.unusedVariables false

def mkB (l : List UInt8) : ByteArray := ⟨l.toArray⟩
def cut (b : UInt8) : List UInt8 → List UInt8 → List (List UInt8)
  | acc, [] => [acc]
  | acc, c :: r => if c = b then acc :: cut b [] r else cut b (acc ++ [c]) r
theorem cut_free (b : UInt8) : ∀ (l acc : List UInt8), b ∉ l → cut b acc l = [acc ++ l] := by
  intro l
  induction l with
  | nil => intro acc _; rw [cut, List.append_nil]
  | cons c r ih =>
    intro acc h
    rw [List.mem_cons, not_or] at h
    rw [cut, if_neg (fun e => h.1 e.symm), ih _ h.2, List.append_assoc, List.singleton_append]
theorem cut_sep (b : UInt8) (r : List UInt8) : ∀ (l acc : List UInt8), b ∉ l → cut b acc (l ++ b :: r) = (acc ++ l) :: cut b [] r := by
  intro l
  induction l with
  | nil => intro acc _; rw [List.nil_append, cut, if_pos rfl, List.append_nil]
  | cons c l ih =>
    intro acc h
    rw [List.mem_cons, not_or] at h
    rw [List.cons_append, cut, if_neg (fun e => h.1 e.symm), ih _ h.2, List.append_assoc, List.singleton_append]
theorem cut_pos (b : UInt8) : ∀ (l acc : List UInt8), 0 < (cut b acc l).length := by
  intro l
  induction l with
  | nil => intro acc; rw [cut]; exact Nat.one_pos
  | cons c r ih =>
    intro acc
    rw [cut]
    split
    · exact Nat.succ_pos _
    · exact ih _
theorem mkB_data (s : ByteArray) : mkB s.data.toList = s := mk_data s
theorem bt_list (s : ByteArray) (i : Nat) : bt s (i : Int) = (((s.data.toList[i]?).getD 0).toNat : Int) := by
  unfold bt
  rw [Int.toNat_natCast]
  by_cases h : i < s.size
  · rw [dif_pos h, List.getElem?_eq_getElem (by simpa using h)]
    rfl
  · rw [dif_neg h, List.getElem?_eq_none (by simpa using h)]
    rfl
theorem split_l0 (s : ByteArray) (b : UInt8) (hs : s.size ≤ 1000) : ∀ (n i f : Nat) (out : List ByteArray), i + n = s.size → f ≤ i → out.length ≤ i →
    Ev (fun k => spec_l1Split.l0 k s ((b.toNat : Nat) : Int) out (f : Int) (i : Int)) (out ++ (cut b ((s.data.toList.take i).drop f) (s.data.toList.drop i)).map mkB) := by
  have hz : s.size = s.data.toList.length := Lib.size_eq s
  intro n
  induction n with
  | zero =>
    intro i f out hi hf ho
    refine Ev_step (fun k => by rw [spec_l1Split.l0, if_neg (by omega), if_pos (by omega), if_pos (by omega), if_pos (by omega), Int.toNat_natCast]) ?_
    have e : (cut b ((s.data.toList.take i).drop f) (s.data.toList.drop i)).map mkB = [s.extract f s.size] := by
      have ed : s.data.toList.drop i = [] := List.drop_of_length_le (by omega)
      rw [ed, cut, List.map_cons, List.map_nil]
      congr 1
      rw [← mkB_data (s.extract f s.size), Lib.extract_data, List.drop_take, show i = s.size by omega]
    rw [e]
    exact Ev.now _
  | succ n ih =>
    intro i f out hi hf ho
    have h : i < s.data.toList.length := by omega
    have w : wrap64 ((i : Int) + 1) = ((i + 1 : Nat) : Int) := by rw [w64 (by omega) (by omega)]; omega
    have hd : s.data.toList.drop i = s.data.toList[i] :: s.data.toList.drop (i + 1) := List.drop_eq_getElem_cons h
    have hb : bt s (i : Int) = ((s.data.toList[i].toNat : Nat) : Int) := by rw [bt_list, List.getElem?_eq_getElem h]; rfl
    refine Ev_step (fun k => by rw [spec_l1Split.l0, if_pos (by omega), if_pos (by omega), hb, w, Int.toNat_natCast, Int.toNat_natCast]) ?_
    rw [hd, cut]
    by_cases hc : s.data.toList[i] = b
    · rw [if_pos hc]
      refine Ev_pos (by rw [hc]) (Ev_pos (by omega) (Ev_pos (by omega) (Ev_pos (by omega) (Ev_pos (by omega) ?_))))
      have hi2 := ih (i + 1) (i + 1) (out ++ [s.extract f i]) (by omega) (by omega) (by rw [List.length_append]; simp only [List.length_cons, List.length_nil]; omega)
      rw [List.drop_of_length_le (by rw [List.length_take]; omega), List.append_assoc, List.singleton_append] at hi2
      rw [List.map_cons]
      have e : mkB ((s.data.toList.take i).drop f) = s.extract f i := by rw [← mkB_data (s.extract f i), Lib.extract_data, List.drop_take]
      rw [e]
      exact hi2
    · rw [if_neg hc]
      refine Ev_neg (fun e => hc (UInt8.toNat_inj.1 (by omega))) ?_
      have hi2 := ih (i + 1) f out (by omega) (by omega) (by omega)
      have e : (s.data.toList.take (i + 1)).drop f = (s.data.toList.take i).drop f ++ [s.data.toList[i]] := by
        rw [List.take_succ_eq_append_getElem h, List.drop_append_of_le_length (by rw [List.length_take]; omega)]
      rw [e] at hi2
      exact hi2
theorem split_ev (s : ByteArray) (b : UInt8) (hs : s.size ≤ 1000) : Ev (fun k => spec_l1Split.f k s ((b.toNat : Nat) : Int)) ((cut b [] s.data.toList).map mkB) := by
  have := split_l0 s b hs s.size 0 0 [] (by omega) (by omega) (by simp)
  exact Ev.congr (fun k => by rw [spec_l1Split.f]; rfl) this
theorem split_or (b : UInt8) : ∀ l : List UInt8, b ∉ l ∨ ∃ a r, l = a ++ b :: r ∧ b ∉ a := by
  intro l
  induction l with
  | nil => exact .inl (by simp)
  | cons c l ih =>
    by_cases h : c = b
    · exact .inr ⟨[], l, by rw [h]; rfl, by simp⟩
    · rcases ih with h1 | ⟨a, r, h1, h2⟩
      · exact .inl (by rw [List.mem_cons, not_or]; exact ⟨fun e => h e.symm, h1⟩)
      · exact .inr ⟨c :: a, r, by rw [h1]; rfl, by rw [List.mem_cons, not_or]; exact ⟨fun e => h e.symm, h2⟩⟩
theorem index_free (b : UInt8) : ∀ l : List UInt8, b ∉ l → Lib.index l [b] = -1 := by
  intro l
  induction l with
  | nil => intro _; rfl
  | cons c l ih =>
    intro h
    rw [List.mem_cons, not_or] at h
    have h1 : (b == c) = false := beq_eq_false_iff_ne.2 h.1
    rw [Lib.index, ih h.2]
    simp [List.isPrefixOf, h1]
theorem index_sep (b : UInt8) (r : List UInt8) : ∀ a : List UInt8, b ∉ a → Lib.index (a ++ b :: r) [b] = (a.length : Int) := by
  intro a
  induction a with
  | nil => intro _; rw [List.nil_append, Lib.index]; simp [List.isPrefixOf]
  | cons c a ih =>
    intro h
    rw [List.mem_cons, not_or] at h
    have h1 : (b == c) = false := beq_eq_false_iff_ne.2 h.1
    rw [List.cons_append, Lib.index, ih h.2]
    have h2 : ((a.length : Int) == -1) = false := beq_eq_false_iff_ne.2 (by omega)
    simp [List.isPrefixOf, h1, h2]
theorem splitK_cut (b : UInt8) : ∀ (k : Nat) (l : List UInt8), (cut b [] l).length ≤ k + 1 → Lib.splitK [b] 0 k l = cut b [] l := by
  intro k
  induction k with
  | zero =>
    intro l h
    rcases split_or b l with h1 | ⟨a, r, rfl, h2⟩
    · rw [cut_free b l [] h1]; rfl
    · rw [cut_sep b r a [] h2, List.length_cons] at h
      have := cut_pos b r []
      omega
  | succ k ih =>
    intro l h
    rcases split_or b l with h1 | ⟨a, r, rfl, h2⟩
    · rw [cut_free b l [] h1, Lib.splitK, index_free b l h1]
      rfl
    · rw [cut_sep b r a [] h2, List.length_cons] at h
      have hm : ((a.length : Int) == -1) = false := beq_eq_false_iff_ne.2 (by omega)
      rw [cut_sep b r a [] h2, Lib.splitK, index_sep b r a h2, if_neg (by rw [hm]; exact Bool.false_ne_true), Int.toNat_natCast, List.nil_append, Nat.add_zero, List.take_left' rfl]
      congr 1
      have e : (a ++ b :: r).drop (a.length + [b].length) = r := by
        rw [show a ++ b :: r = (a ++ [b]) ++ r by simp, List.drop_left' (by simp)]
      rw [e]
      exact ih r (by omega)
theorem splitB_cut (b : UInt8) (k : Nat) (s : ByteArray) (h : (cut b [] s.data.toList).length ≤ k + 1) : Lib.splitB (mkB [b]) 0 k s = (cut b [] s.data.toList).map mkB := by
  have e := Lib.splitB_data (mkB [b]) 0 k s
  have e2 : (mkB [b]).data.toList = [b] := rfl
  rw [e2, splitK_cut b k _ h] at e
  rw [← e, List.map_map]
  have : (mkB ∘ fun x : ByteArray => x.data.toList) = id := funext fun x => mkB_data x
  rw [this, List.map_id]
theorem cut_join (b : UInt8) : ∀ (r : List (List UInt8)) (x : List UInt8), b ∉ x → (∀ y ∈ r, b ∉ y) → cut b [] (Lib.join (x :: r) [b]) = x :: r := by
  intro r
  induction r with
  | nil => intro x hx _; rw [Lib.join_one, cut_free b x [] hx]; rfl
  | cons y r ih =>
    intro x hx hr
    have e : Lib.join (x :: y :: r) [b] = x ++ b :: Lib.join (y :: r) [b] := by
      rw [Lib.join_cons, Lib.join_cons, Lib.joinTail, List.map_cons, List.flatten_cons, Lib.joinTail]
      simp
    rw [e, cut_sep b _ x [] hx, List.nil_append, ih y (hr y (by simp)) (fun z hz => hr z (by simp [hz]))]
theorem dig_in : ∀ (n : Nat), ∀ c ∈ Lib.decDigits n, 48 ≤ c.toNat ∧ c.toNat ≤ 57 := by
  intro n
  induction n using Nat.strongRecOn with
  | ind n ih =>
    intro c hc
    have one : ∀ d, d < 10 → c = UInt8.ofNat (48 + d) → 48 ≤ c.toNat ∧ c.toNat ≤ 57 := by
      intro d hd e
      rw [e, UInt8.toNat_ofNat']
      omega
    by_cases h : n < 10
    · rw [Lib.decDigits_one h, List.mem_singleton] at hc
      exact one n h hc
    · rw [Lib.decDigits, dif_neg h, List.mem_append, List.mem_singleton] at hc
      rcases hc with hc | hc
      · exact ih (n / 10) (by omega) c hc
      · exact one _ (by omega) hc
theorem dig_free (n : Nat) (b : UInt8) (hb : b.toNat < 48) : b ∉ Lib.decDigits n := fun h => by have := dig_in n b h; omega
theorem digitVal_of (d : Nat) (h : d < 10) : Lib.digitVal (UInt8.ofNat (48 + d)) = some d := by
  rcases ten d h with rfl | rfl | rfl | rfl | rfl | rfl | rfl | rfl | rfl | rfl <;> rfl
theorem decFrom_app : ∀ (l r : List UInt8) (a : Nat), Lib.decFrom a (l ++ r) = (Lib.decFrom a l).bind (Lib.decFrom · r) := by
  intro l
  induction l with
  | nil => intro r a; rfl
  | cons c l ih =>
    intro r a
    rw [List.cons_append, Lib.decFrom, Lib.decFrom]
    cases Lib.digitVal c with
    | none => rfl
    | some d => exact ih r _
theorem decFrom_dig : ∀ (n : Nat), Lib.decFrom 0 (Lib.decDigits n) = some n := by
  intro n
  induction n using Nat.strongRecOn with
  | ind n ih =>
    by_cases h : n < 10
    · rw [Lib.decDigits_one h, Lib.decFrom, digitVal_of n h]
      simp [Lib.decFrom]
    · rw [Lib.decDigits, dif_neg h, decFrom_app, ih (n / 10) (by omega), Option.bind_some, Lib.decFrom, digitVal_of _ (by omega)]
      simp only [Lib.decFrom]
      congr 1
      omega
theorem dig_len (n : Nat) (h : n ≤ 1000000) : (Lib.decDigits n).length ≤ 7 := by
  have := num_size 6 n (by omega)
  rw [← size_list, num_data] at this
  exact this
theorem atoiAll_dig (n : Nat) (h : n ≤ 1000000) : Lib.atoiAll (Lib.decDigits n) = .ok (n : Int) := by
  rw [Lib.atoiAll_short _ (by have := dig_len n h; omega)]
  have hp : Lib.decDigits n ≠ [] := by
    by_cases h1 : n < 10
    · rw [Lib.decDigits_one h1]; simp
    · rw [Lib.decDigits, dif_neg h1]; simp
  have hd := decFrom_dig n
  have hi := dig_in n
  rcases hc : Lib.decDigits n with _ | ⟨c, r⟩
  · exact absurd hc hp
  · rw [hc] at hd hi
    have h0 := hi c (by simp)
    have h1 : (c == 45) = false := beq_eq_false_iff_ne.2 (fun e => by rw [e] at h0; have : (45 : UInt8).toNat = 45 := rfl; omega)
    have h2 : (c == 43) = false := beq_eq_false_iff_ne.2 (fun e => by rw [e] at h0; have : (43 : UInt8).toNat = 43 := rfl; omega)
    have e : Lib.atoi (c :: r) = some (n : Int) := by
      simp [Lib.atoi, Lib.decNat, hd, h1, h2]
    rw [e]
    rfl
end Go.Proofs.YtppbpefehpbejaaGreatDoor.P
end

section
namespace Go.Proofs.YtppbpefehpbejaaGreatDoor.P
open Go.RowKit Go.Proofs.YtppbpefehpbejaaGreatDoorW.PrintWords Go.Proofs.YtppbpefehpbejaaGreatDoorW.PrintLast Go.Proofs.YtppbpefehpbejaaGreatDoorW.PrintMore Go.Proofs.YtppbpefehpbejaaGreatDoor.Base
set_option linter.unusedVariables false

def rdL : Int → List UInt8 → Int
  | x, [] => x
  | x, c :: r => if c.toNat < 48 then -1 else if c.toNat > 57 then -1 else rdL (10 * x + ((c.toNat : Int) - 48)) r
theorem pow6 (i : Nat) (h : i ≤ 5) : (10 : Int) ^ i ≤ 100000 := by
  have : i = 0 ∨ i = 1 ∨ i = 2 ∨ i = 3 ∨ i = 4 ∨ i = 5 := by omega
  rcases this with rfl | rfl | rfl | rfl | rfl | rfl <;> decide
theorem read_l0 (s : ByteArray) (hs : s.size ≤ 6) : ∀ (n i : Nat) (x : Int), i + n = s.size → 0 ≤ x → x < (10 : Int) ^ i → Ev (fun k => spec_l1Read.l0 k s x (i : Int)) (rdL x (s.data.toList.drop i)) := by
  have hz : s.size = s.data.toList.length := Lib.size_eq s
  intro n
  induction n with
  | zero =>
    intro i x hi h0 hx
    rw [List.drop_of_length_le (by omega), rdL]
    exact Ev_step (fun k => by rw [spec_l1Read.l0, if_neg (by omega)]) (Ev.now _)
  | succ n ih =>
    intro i x hi h0 hx
    have h : i < s.data.toList.length := by omega
    have hp := pow6 i (by omega)
    have w : wrap64 ((i : Int) + 1) = ((i + 1 : Nat) : Int) := by rw [w64 (by omega) (by omega)]; omega
    have hb : bt s (i : Int) = ((s.data.toList[i].toNat : Nat) : Int) := by rw [bt_list, List.getElem?_eq_getElem h]; rfl
    rw [List.drop_eq_getElem_cons h, rdL]
    refine Ev_step (fun k => by rw [spec_l1Read.l0, if_pos (by omega), if_pos (by omega), hb, w]) ?_
    generalize s.data.toList[i].toNat = c
    by_cases h1 : c < 48
    · rw [if_pos h1]
      exact Ev_pos (by omega) (Ev.now _)
    · rw [if_neg h1]
      by_cases h2 : c > 57
      · rw [if_pos h2]
        exact Ev_neg (by omega) (Ev_pos (by omega) (Ev.now _))
      · rw [if_neg h2]
        refine Ev_neg (by omega) (Ev_neg (by omega) ?_)
        have e : wrap64 (wrap64 (10 * x) + ((c : Int) - 48) % 256) = 10 * x + ((c : Int) - 48) := by
          rw [w64 (x := 10 * x) (by omega) (by omega), w64 (by omega) (by omega)]
          omega
        rw [e]
        exact ih (i + 1) _ (by omega) (by omega) (by rw [Int.pow_succ]; omega)
theorem read_any (s : ByteArray) : ∃ v, Ev (fun k => spec_l1Read.f k s) v := by
  simp only [spec_l1Read.f, l1In_eq, Option.bind_some]
  have jt : Ev (fun k => spec_l1Read.j0 k s true) (-1) := Ev_step (fun k => by rw [spec_l1Read.j0, if_pos rfl]) (Ev.now _)
  by_cases h : inB (s.size : Int) 1 6 = true
  · have h2 := of_decide_eq_true h
    have jf : Ev (fun k => spec_l1Read.j0 k s false) (rdL 0 s.data.toList) := by
      refine Ev_step (fun k => by rw [spec_l1Read.j0, if_neg (by decide)]) ?_
      exact read_l0 s (by omega) s.size 0 0 (by omega) (by omega) (by decide)
    by_cases h0 : bt s 0 = 48
    · by_cases h3 : (s.size : Int) > 1
      · exact ⟨_, Ev_pos h (Ev_pos (by omega) (Ev_pos h0 (by rw [decide_eq_true h3]; exact jt)))⟩
      · exact ⟨_, Ev_pos h (Ev_pos (by omega) (Ev_pos h0 (by rw [decide_eq_false h3]; exact jf)))⟩
    · exact ⟨_, Ev_pos h (Ev_pos (by omega) (Ev_neg h0 jf))⟩
  · exact ⟨_, Ev_neg h jt⟩
theorem rdL_app : ∀ (l r : List UInt8) (x : Int), (∀ c ∈ l, 48 ≤ c.toNat ∧ c.toNat ≤ 57) → rdL x (l ++ r) = rdL (rdL x l) r := by
  intro l
  induction l with
  | nil => intro r x _; rfl
  | cons c l ih =>
    intro r x h
    have hc := h c (by simp)
    rw [List.cons_append, rdL, rdL, if_neg (by omega), if_neg (by omega), if_neg (by omega), if_neg (by omega)]
    exact ih r _ (fun d hd => h d (by simp [hd]))
theorem rdL_dig : ∀ (n : Nat), rdL 0 (Lib.decDigits n) = (n : Int) := by
  intro n
  induction n using Nat.strongRecOn with
  | ind n ih =>
    have one : ∀ d, d < 10 → ∀ x, rdL x [UInt8.ofNat (48 + d)] = 10 * x + (d : Int) := by
      intro d hd x
      have e : (UInt8.ofNat (48 + d)).toNat = 48 + d := by rw [UInt8.toNat_ofNat']; omega
      rw [rdL, rdL, e, if_neg (by omega), if_neg (by omega)]
      omega
    by_cases h : n < 10
    · rw [Lib.decDigits_one h, one n h]
      omega
    · rw [Lib.decDigits, dif_neg h, rdL_app _ _ _ (dig_in _), ih (n / 10) (by omega), one _ (by omega)]
      omega
theorem dig_head : ∀ (n : Nat), 0 < n → (Lib.decDigits n)[0]? ≠ some 48 := by
  intro n
  induction n using Nat.strongRecOn with
  | ind n ih =>
    intro hn
    by_cases h : n < 10
    · rw [Lib.decDigits_one h]
      rcases ten n h with rfl | rfl | rfl | rfl | rfl | rfl | rfl | rfl | rfl | rfl
      · omega
      all_goals decide
    · rw [Lib.decDigits, dif_neg h]
      have h2 := ih (n / 10) (by omega) (by omega)
      rcases hc : Lib.decDigits (n / 10) with _ | ⟨c, r⟩
      · have hd := decFrom_dig (n / 10)
        rw [hc] at hd
        simp only [Lib.decFrom, Option.some.injEq] at hd
        omega
      · rw [hc] at h2
        exact h2
theorem read_num (a : Nat) (h : a ≤ 2000) : Ev (fun k => spec_l1Read.f k (num a)) (a : Int) := by
  have hs := num_size 3 a (by omega)
  have hp : 1 ≤ (num a).size := by
    by_cases h1 : a < 10
    · rw [num_size1 a h1]; omega
    · rw [num_big a h1, ByteArray.size_append]
      have e : (⟨[UInt8.ofNat (48 + a % 10)].toArray⟩ : ByteArray).size = 1 := rfl
      omega
  simp only [spec_l1Read.f, l1In_eq, Option.bind_some]
  have hi : inB ((num a).size : Int) 1 6 = true := decide_eq_true ⟨by omega, by omega⟩
  have jf : Ev (fun k => spec_l1Read.j0 k (num a) false) (a : Int) := by
    refine Ev_step (fun k => by rw [spec_l1Read.j0, if_neg (by decide)]) ?_
    have := read_l0 (num a) (by omega) (num a).size 0 0 (by omega) (by omega) (by decide)
    rw [List.drop_zero, num_data, rdL_dig] at this
    exact this
  by_cases h0 : bt (num a) 0 = 48
  · have ha : a = 0 := by
      rcases Nat.eq_zero_or_pos a with h1 | h1
      · exact h1
      · exfalso
        have hb := bt_list (num a) 0
        rw [num_data] at hb
        have h2 := dig_head a h1
        have h3 : (((Lib.decDigits a)[0]?).getD 0).toNat = 48 := by have : ((0 : Nat) : Int) = 0 := rfl; rw [this] at hb; omega
        rcases hc : (Lib.decDigits a)[0]? with _ | c
        · rw [hc] at h3; exact absurd h3 (by decide)
        · rw [hc] at h3 h2
          exact h2 (congrArg some (UInt8.toNat_inj.1 h3))
    have h3 : ¬ ((num a).size : Int) > 1 := by rw [ha, num_size1 0 (by omega)]; omega
    exact Ev_pos hi (Ev_pos (by omega) (Ev_pos h0 (by rw [decide_eq_false h3]; exact jf)))
  · exact Ev_pos hi (Ev_pos (by omega) (Ev_neg h0 jf))
theorem atoi_num (a : Nat) (h : a ≤ 2000) : atoi.f (num a) = some ((a : Int), none) := by
  have hs := num_size 3 a (by omega)
  unfold atoi.f
  rw [if_pos (by omega), num_data, atoiAll_dig a (by omega)]
theorem atoi_any (s : ByteArray) (h : s.size ≤ 281474976710656) : ∃ v e, atoi.f s = some (v, e) := by
  unfold atoi.f
  rw [if_pos h]
  cases Lib.atoiAll s.data.toList <;> exact ⟨_, _, rfl⟩
end Go.Proofs.YtppbpefehpbejaaGreatDoor.P
end

section
namespace Go.Proofs.YtppbpefehpbejaaGreatDoor.P
open Go.RowKit Go.Proofs.YtppbpefehpbejaaGreatDoorW.PrintWords Go.Proofs.YtppbpefehpbejaaGreatDoorW.PrintLast Go.Proofs.YtppbpefehpbejaaGreatDoorW.PrintMore Go.Proofs.YtppbpefehpbejaaGreatDoor.Base
set_option linter.unusedVariables false

def lead : List UInt8 → List UInt8 → Nat
  | [], _ => 0
  | _ :: _, [] => 0
  | a :: l, b :: m => if a = b then lead l m + 1 else 0
theorem lead_same : ∀ (l m : List UInt8) (i : Nat), i < lead l m → l[i]? = m[i]? := by
  intro l
  induction l with
  | nil => intro m i h; rw [lead] at h; omega
  | cons a l ih =>
    intro m i h
    cases m with
    | nil => rw [lead] at h; omega
    | cons b m =>
      rw [lead] at h
      by_cases e : a = b
      · rw [if_pos e] at h
        cases i with
        | zero => rw [e]; rfl
        | succ i => exact ih m i (by omega)
      · rw [if_neg e] at h
        omega
theorem lead_diff : ∀ (l m : List UInt8), l.length = m.length → l ≠ m → lead l m < l.length ∧ l[lead l m]? ≠ m[lead l m]? := by
  intro l
  induction l with
  | nil =>
    intro m h hn
    cases m with
    | nil => exact absurd rfl hn
    | cons b m => simp at h
  | cons a l ih =>
    intro m h hn
    cases m with
    | nil => simp at h
    | cons b m =>
      rw [lead]
      by_cases e : a = b
      · subst e
        rw [if_pos rfl]
        obtain ⟨h1, h2⟩ := ih m (by simpa using h) (fun q => hn (by rw [q]))
        exact ⟨by rw [List.length_cons]; omega, h2⟩
      · rw [if_neg e]
        exact ⟨by rw [List.length_cons]; omega, by simpa using e⟩
theorem lead_take : ∀ (l m : List UInt8), l.take (lead l m) = m.take (lead l m) := by
  intro l
  induction l with
  | nil => intro m; rw [lead]; rfl
  | cons a l ih =>
    intro m
    cases m with
    | nil => rw [lead]; rfl
    | cons b m =>
      rw [lead]
      by_cases e : a = b
      · rw [if_pos e, List.take_succ_cons, List.take_succ_cons, ih m, e]
      · rw [if_neg e, List.take_zero, List.take_zero]
theorem dig_mono : ∀ (b a : Nat), a ≤ b → (Lib.decDigits a).length ≤ (Lib.decDigits b).length := by
  intro b
  induction b using Nat.strongRecOn with
  | ind b ih =>
    intro a h
    by_cases ha : a < 10
    · rw [Lib.decDigits_one ha]
      by_cases hb : b < 10
      · rw [Lib.decDigits_one hb]; exact Nat.le_refl _
      · rw [Lib.decDigits, dif_neg hb, List.length_append]
        simp
    · rw [Lib.decDigits, dif_neg ha]
      have e : Lib.decDigits b = Lib.decDigits (b / 10) ++ [UInt8.ofNat (48 + b % 10)] := by rw [Lib.decDigits, dif_neg (by omega)]
      rw [e, List.length_append, List.length_append]
      have := ih (b / 10) (by omega) (a / 10) (by omega)
      simp only [List.length_singleton]
      omega
theorem dig_inj {a b : Nat} (h : Lib.decDigits a = Lib.decDigits b) : a = b := by
  have h1 := decFrom_dig a
  rw [h, decFrom_dig b] at h1
  exact (Option.some.inj h1).symm
def tail2 (a b : Nat) : List UInt8 := if (Lib.decDigits a).length = (Lib.decDigits b).length then (Lib.decDigits b).drop (lead (Lib.decDigits a) (Lib.decDigits b)) else Lib.decDigits b
def sh (a b : Nat) : List UInt8 := if a = b then Lib.decDigits a else Lib.decDigits a ++ 45 :: tail2 a b
theorem sh_size (a b : Nat) (ha : a ≤ 2000) (hb : b ≤ 2000) : (sh a b).length ≤ 9 := by
  have h1 := num_size 3 a (by omega)
  have h2 := num_size 3 b (by omega)
  rw [← size_list, num_data] at h1 h2
  unfold sh tail2
  split
  · omega
  · rw [List.length_append, List.length_cons]
    split
    · rw [List.length_drop]; omega
    · omega
theorem joinP (a b : Nat) (t : ByteArray) (ht : t.data.toList = tail2 a b) (h : a ≠ b) : (num a ++ (⟨#[45]⟩ : ByteArray)) ++ t = mkB (sh a b) := by
  apply ByteArray.ext
  apply Array.toList_inj.1
  rw [app_data, app_data, num_data, ht]
  show _ = sh a b
  unfold sh
  rw [if_neg h]
  simp
theorem shS_l0 (a b : Nat) (ha : a ≤ 2000) (hb : b ≤ 2000) (hab : a ≠ b) (hl : (Lib.decDigits a).length = (Lib.decDigits b).length) : ∀ n i : Nat, i + n = lead (Lib.decDigits a) (Lib.decDigits b) →
    Ev (fun k => spec_ixShort.l0 k (num a) (num b) (i : Int)) (mkB (sh a b)) ∧ Ev (fun k => impl_shortRange.l0 k (num a) (num b) (i : Int)) (mkB (sh a b)) := by
  obtain ⟨d1, d2⟩ := lead_diff _ _ hl (fun e => hab (dig_inj e))
  have s1 : (num a).size = (Lib.decDigits a).length := by rw [← size_list, num_data]
  have s2 : (num b).size = (Lib.decDigits b).length := by rw [← size_list, num_data]
  have z1 := num_size 3 a (by omega)
  have z2 := num_size 3 b (by omega)
  have s3 : (⟨#[45]⟩ : ByteArray).size = 1 := rfl
  intro n
  induction n with
  | zero =>
    intro i hi
    obtain rfl : i = lead (Lib.decDigits a) (Lib.decDigits b) := by omega
    generalize hq : lead (Lib.decDigits a) (Lib.decDigits b) = q at d1 d2 hi
    have hd : ¬ bt (num a) (q : Int) = bt (num b) (q : Int) := by
      rw [bt_list, bt_list, num_data, num_data, List.getElem?_eq_getElem d1, List.getElem?_eq_getElem (by omega)]
      rw [List.getElem?_eq_getElem d1, List.getElem?_eq_getElem (by omega)] at d2
      intro e
      apply d2
      congr 1
      exact UInt8.toNat_inj.1 (Int.ofNat.inj e)
    have hx : ((num b).extract q (num b).size).data.toList = tail2 a b := by
      rw [Lib.extract_data, num_data]
      unfold tail2
      rw [if_pos hl, hq, List.take_of_length_le (by rw [List.length_drop]; omega)]
    have hz : ((num b).extract q (num b).size).size ≤ 1000 := by
      rw [← size_list, hx]
      unfold tail2
      rw [if_pos hl, List.length_drop]
      omega
    have hj := joinP a b _ hx hab
    refine ⟨Ev_step (fun k => ?_) (Ev.now _), Ev_step (fun k => ?_) (Ev.now _)⟩
    · rw [spec_ixShort.l0, if_pos (by omega), if_pos (by omega), if_pos (by omega), if_neg hd, if_pos (by omega), if_pos (by omega), Int.toNat_natCast, if_pos (w82_), hj]
    · rw [impl_shortRange.l0, if_pos (by omega), if_pos (by omega), if_pos (by omega), if_pos (by omega), if_neg hd, if_pos (by omega), if_pos (by omega), Int.toNat_natCast, if_pos (w82_), hj]
  | succ n ih =>
    intro i hi
    have he : bt (num a) (i : Int) = bt (num b) (i : Int) := by
      rw [bt_list, bt_list, num_data, num_data, lead_same (Lib.decDigits a) (Lib.decDigits b) i (by omega)]
    obtain ⟨x, y⟩ := ih (i + 1) (by omega)
    refine ⟨Ev_step (fun k => ?_) x, Ev_step (fun k => ?_) y⟩
    · rw [spec_ixShort.l0, if_pos (by omega), if_pos (by omega), if_pos (by omega), if_pos he, nextI i (by omega)]
    · rw [impl_shortRange.l0, if_pos (by omega), if_pos (by omega), if_pos (by omega), if_pos (by omega), if_pos he, nextI i (by omega)]
theorem short_ev (a b : Nat) (ha : a ≤ 2000) (hb : b ≤ 2000) : Ev (fun k => spec_ixShort.f k (a : Int) (b : Int)) (mkB (sh a b)) ∧ Ev (fun k => impl_shortRange.f k (a : Int) (b : Int)) (mkB (sh a b)) := by
  have na := num_ev 3 a (by omega) (by omega)
  have nb := num_ev 3 b (by omega) (by omega)
  have s1 : (num a).size = (Lib.decDigits a).length := by rw [← size_list, num_data]
  have s2 : (num b).size = (Lib.decDigits b).length := by rw [← size_list, num_data]
  have z1 := num_size 3 a (by omega)
  have z2 := num_size 3 b (by omega)
  have s3 : (⟨#[45]⟩ : ByteArray).size = 1 := rfl
  simp only [spec_ixShort.f, impl_shortRange.f, itoaP a (by omega), itoaP b (by omega), Option.bind_some]
  by_cases h : a = b
  · have e : mkB (sh a b) = num a := by unfold sh; rw [if_pos h]; rfl
    rw [e]
    exact ⟨Ev_bind na (Ev_bind nb (Ev_pos (by omega) (Ev.now _))), Ev_pos (by omega) (Ev.now _)⟩
  · by_cases hl : (Lib.decDigits a).length = (Lib.decDigits b).length
    · obtain ⟨x, y⟩ := shS_l0 a b ha hb h hl _ 0 (Nat.zero_add _)
      exact ⟨Ev_bind na (Ev_bind nb (Ev_neg (by omega) (Ev_pos (by omega) x))), Ev_neg (by omega) y⟩
    · have hj := joinP a b (num b) (by rw [num_data]; unfold tail2; rw [if_neg hl]) h
      refine ⟨Ev_bind na (Ev_bind nb (Ev_neg (by omega) (Ev_neg (by omega) ?_))), Ev_neg (by omega) ?_⟩
      · refine Ev_pos (by omega) (Ev_pos (w82_) ?_)
        rw [hj]
        exact Ev.now _
      · have ex : (num b).extract (0 : Int).toNat (num b).size = num b := by
          rw [← mkB_data ((num b).extract (0 : Int).toNat (num b).size), Lib.extract_data]
          show mkB ((((num b).data.toList).drop 0).take _) = _
          rw [List.drop_zero, List.take_of_length_le (by rw [size_list]; exact Nat.le_refl _), mkB_data]
        refine Ev_step (fun k => ?_) (Ev.now _)
        rw [impl_shortRange.l0, if_neg (by omega), if_pos (by omega), if_pos (by omega), if_pos (by omega), ex, if_pos (w82_), hj]
end Go.Proofs.YtppbpefehpbejaaGreatDoor.P
end

section
namespace Go.Proofs.YtppbpefehpbejaaGreatDoor.P
open Go.RowKit Go.Proofs.YtppbpefehpbejaaGreatDoorW.PrintWords Go.Proofs.YtppbpefehpbejaaGreatDoorW.PrintLast Go.Proofs.YtppbpefehpbejaaGreatDoorW.PrintMore Go.Proofs.YtppbpefehpbejaaGreatDoor.Base
set_option linter.unusedVariables false

def IsSh (s : List UInt8) (p q : Nat) : Prop := 1 ≤ p ∧ p ≤ q ∧ q ≤ 2000 ∧ sh p q = s
def Lg (s : List UInt8) (r : Int × Int × Bool) : Prop := (∃ p q : Nat, IsSh s p q ∧ r = ((p : Int), (q : Int), true)) ∨ ((∀ p q : Nat, ¬ IsSh s p q) ∧ r = (0, 0, false))
theorem data_mkB (l : List UInt8) : (mkB l).data.toList = l := rfl
theorem atoi_num2 (a : Nat) (h : a ≤ 2000) : atoi.f (num a) = some ((a : Int), none) := atoi_num a h
theorem j1_no (s f t : ByteArray) (hf : f.size ≤ 100000) (ht : t.size ≤ 100000) (h : ∀ p q : Nat, ¬ IsSh s.data.toList p q) : Ev (fun k => impl_longRange.j1 k s f t) (0, 0, false) := by
  obtain ⟨v, e1, h1⟩ := atoi_any f (by omega)
  obtain ⟨w, e2, h2⟩ := atoi_any t (by omega)
  have key : Ev (fun k => (impl_isRange.f v w).bind fun t412 => (if t412 = true then ((impl_shortRange.f k v w).bind fun t413 => (if t413.toList = s.toList then (some (v, w, true)) else (some (0, 0, false)))) else (some (0, 0, false)))) ((0, 0, false) : Int × Int × Bool) := by
    simp only [isRange_eq, Option.bind_some]
    by_cases hr : rangeB v w = true
    · have hr2 := of_decide_eq_true hr
      obtain ⟨p, rfl⟩ := Int.eq_ofNat_of_zero_le (show 0 ≤ v by omega)
      obtain ⟨q, rfl⟩ := Int.eq_ofNat_of_zero_le (show 0 ≤ w by omega)
      refine Ev_pos hr (Ev_bind (short_ev p q (by omega) (by omega)).2 (Ev_neg (fun e => ?_) (Ev.now _)))
      refine h p q ⟨by omega, by omega, by omega, ?_⟩
      rw [ByteArray.toList_eq, ByteArray.toList_eq] at e
      exact e
    · exact Ev_neg hr (Ev.now _)
  refine Ev_step (fun k => by rw [impl_longRange.j1, h1, h2, Option.bind_some, Option.bind_some]) ?_
  cases e1 with
  | some x => exact Ev_neg (by simp) (Ev.now _)
  | none =>
    cases e2 with
    | some x => exact Ev_pos rfl (Ev_neg (by simp) (Ev.now _))
    | none => exact Ev_pos rfl (Ev_pos rfl key)
theorem short_same (s : ByteArray) {p q : Nat} (h : sh p q = s.data.toList) : (mkB (sh p q)).toList = s.toList := by rw [ByteArray.toList_eq, ByteArray.toList_eq, h, data_mkB]
theorem isSh_range {l : List UInt8} {p q : Nat} (h : IsSh l p q) : rangeB (p : Int) (q : Int) = true := by
  obtain ⟨h1, h2, h3, _⟩ := h
  exact decide_eq_true ⟨by omega, by omega, by omega⟩
theorem j1_yes (s : ByteArray) {p q : Nat} (h : IsSh s.data.toList p q) : Ev (fun k => impl_longRange.j1 k s (num p) (num q)) ((p : Int), (q : Int), true) := by
  obtain ⟨h1, h2, h3, h4⟩ := id h
  refine Ev_step (fun k => by rw [impl_longRange.j1, atoi_num2 p (by omega), atoi_num2 q (by omega), Option.bind_some, Option.bind_some]) ?_
  simp only [isRange_eq, Option.bind_some]
  exact Ev_pos rfl (Ev_pos rfl (Ev_pos (isSh_range h) (Ev_bind (short_ev p q (by omega) (by omega)).2 (Ev_pos (short_same s h4) (Ev.now _)))))
theorem j1s_no (s : ByteArray) (v w : Int) (h : ∀ p q : Nat, ¬ IsSh s.data.toList p q) : Ev (fun k => spec_ixLong.j1 k s v w) (0, 0, false) := by
  refine Ev_step (fun k => by rw [spec_ixLong.j1, ixRange_eq, Option.bind_some]) ?_
  by_cases hr : rangeB v w = true
  · have hr2 := of_decide_eq_true hr
    obtain ⟨p, rfl⟩ := Int.eq_ofNat_of_zero_le (show 0 ≤ v by omega)
    obtain ⟨q, rfl⟩ := Int.eq_ofNat_of_zero_le (show 0 ≤ w by omega)
    refine Ev_pos hr (Ev_bind (short_ev p q (by omega) (by omega)).1 (Ev_neg (fun e => ?_) (Ev.now _)))
    refine h p q ⟨by omega, by omega, by omega, ?_⟩
    rw [ByteArray.toList_eq, ByteArray.toList_eq] at e
    exact e
  · exact Ev_neg hr (Ev.now _)
theorem j1s_yes (s : ByteArray) {p q : Nat} (h : IsSh s.data.toList p q) : Ev (fun k => spec_ixLong.j1 k s (p : Int) (q : Int)) ((p : Int), (q : Int), true) := by
  obtain ⟨h1, h2, h3, h4⟩ := id h
  refine Ev_step (fun k => by rw [spec_ixLong.j1, ixRange_eq, Option.bind_some]) ?_
  exact Ev_pos (isSh_range h) (Ev_bind (short_ev p q (by omega) (by omega)).1 (Ev_pos (short_same s h4) (Ev.now _)))
theorem uniq {a r a' r' : List UInt8} (h : a ++ 45 :: r = a' ++ 45 :: r') (ha : (45 : UInt8) ∉ a) (ha' : (45 : UInt8) ∉ a') : a = a' ∧ r = r' := by
  have h1 := index_sep 45 r a ha
  rw [h, index_sep 45 r' a' ha'] at h1
  obtain ⟨x, y⟩ := List.append_inj h (by omega)
  exact ⟨x, (List.cons.inj y).2⟩
def toL2 (f e : List UInt8) : List UInt8 := if e.length < f.length then f.take (f.length - e.length) ++ e else e
theorem to_tail {p q : Nat} (h : p < q) : toL2 (Lib.decDigits p) (tail2 p q) = Lib.decDigits q := by
  have hm := dig_mono q p (by omega)
  unfold toL2 tail2
  by_cases hl : (Lib.decDigits p).length = (Lib.decDigits q).length
  · obtain ⟨d1, _⟩ := lead_diff _ _ hl (fun e => by have := dig_inj e; omega)
    rw [if_pos hl, List.length_drop]
    by_cases h0 : lead (Lib.decDigits p) (Lib.decDigits q) = 0
    · rw [h0, if_neg (by omega), List.drop_zero]
    · rw [if_pos (by omega), show (Lib.decDigits p).length - ((Lib.decDigits q).length - lead (Lib.decDigits p) (Lib.decDigits q)) = lead (Lib.decDigits p) (Lib.decDigits q) by omega, lead_take, List.take_append_drop]
  · rw [if_neg hl, if_neg (by omega)]
theorem tail_free (p q : Nat) : (45 : UInt8) ∉ tail2 p q := by
  have hb := dig_free q 45 (by decide)
  unfold tail2
  split
  · exact fun h => hb (List.mem_of_mem_drop h)
  · exact hb
theorem isSh_free {l : List UInt8} {p q : Nat} (h : IsSh l p q) (hl : (45 : UInt8) ∉ l) : p = q ∧ l = Lib.decDigits p := by
  obtain ⟨h1, h2, h3, h4⟩ := h
  unfold sh at h4
  by_cases e : p = q
  · rw [if_pos e] at h4
    exact ⟨e, h4.symm⟩
  · rw [if_neg e] at h4
    rw [← h4] at hl
    simp at hl
theorem isSh_sep {a r : List UInt8} {p q : Nat} (h : IsSh (a ++ 45 :: r) p q) (hl : (45 : UInt8) ∉ a) : p < q ∧ a = Lib.decDigits p ∧ r = tail2 p q := by
  obtain ⟨h1, h2, h3, h4⟩ := h
  have hb := dig_free p 45 (by decide)
  unfold sh at h4
  by_cases e : p = q
  · rw [if_pos e] at h4
    rw [h4] at hb
    simp at hb
  · rw [if_neg e] at h4
    obtain ⟨x, y⟩ := uniq h4.symm hl hb
    exact ⟨by omega, x, y⟩
theorem strcut_free (s : ByteArray) (hs : s.size ≤ 1000) (h : (45 : UInt8) ∉ s.data.toList) : strcut.f s (⟨#[45]⟩ : ByteArray) = some (s, mkB [], false) := by
  have e : Lib.cut s.data.toList (⟨#[45]⟩ : ByteArray).data.toList = (s.data.toList, [], false) := by
    have : (⟨#[45]⟩ : ByteArray).data.toList = [45] := rfl
    rw [this]
    unfold Lib.cut
    rw [index_free 45 _ h, if_neg (by decide)]
  unfold strcut.f
  rw [if_pos (by omega), e]
  show some (mkB s.data.toList, mkB [], false) = _
  rw [mkB_data]
theorem strcut_sep (s : ByteArray) (hs : s.size ≤ 1000) {a r : List UInt8} (he : s.data.toList = a ++ 45 :: r) (h : (45 : UInt8) ∉ a) : strcut.f s (⟨#[45]⟩ : ByteArray) = some (mkB a, mkB r, true) := by
  have e : Lib.cut s.data.toList (⟨#[45]⟩ : ByteArray).data.toList = (a, r, true) := by
    have : (⟨#[45]⟩ : ByteArray).data.toList = [45] := rfl
    rw [this, he]
    unfold Lib.cut
    rw [index_sep 45 r a h, if_pos (by omega), Int.toNat_natCast, List.take_left' rfl]
    have e : (a ++ 45 :: r).drop (a.length + [(45 : UInt8)].length) = r := by
      rw [show a ++ 45 :: r = (a ++ [45]) ++ r by simp, List.drop_left' (by simp)]
    rw [e]
  unfold strcut.f
  rw [if_pos (by omega), e]
  rfl
theorem mkB_size (l : List UInt8) : (mkB l).size = l.length := by rw [← size_list, data_mkB]
theorem longI_free (s : ByteArray) (hs : s.size ≤ 1000) (h : (45 : UInt8) ∉ s.data.toList) {r : Int × Int × Bool} (hr : Ev (fun k => impl_longRange.j1 k s s s) r) : Ev (fun k => impl_longRange.f k s) r := by
  simp only [impl_longRange.f, strcut_free s hs h, Option.bind_some]
  refine Ev_neg Bool.false_ne_true (Ev_step (fun k => ?_) hr)
  rw [impl_longRange.j0, if_neg Bool.false_ne_true, if_neg Bool.false_ne_true]
theorem longI_sep (s : ByteArray) (hs : s.size ≤ 1000) {a b : List UInt8} (he : s.data.toList = a ++ 45 :: b) (h : (45 : UInt8) ∉ a) {r : Int × Int × Bool} (hr : Ev (fun k => impl_longRange.j1 k s (mkB a) (mkB (toL2 a b))) r) : Ev (fun k => impl_longRange.f k s) r := by
  have hz := congrArg List.length he
  rw [size_list, List.length_append, List.length_cons] at hz
  simp only [impl_longRange.f, strcut_sep s hs he h, Option.bind_some]
  refine Ev_pos trivial ?_
  have m1 := mkB_size a
  have m2 := mkB_size b
  by_cases hl : b.length < a.length
  · rw [decide_eq_true (show ((mkB b).size : Int) < ((mkB a).size : Int) by omega)]
    have w : wrap64 (((mkB a).size : Int) - ((mkB b).size : Int)) = ((a.length - b.length : Nat) : Int) := by rw [w64 (by omega) (by omega)]; omega
    have ex : (mkB a).extract 0 (a.length - b.length) ++ mkB b = mkB (toL2 a b) := by
      unfold toL2
      rw [if_pos hl]
      apply ByteArray.ext
      apply Array.toList_inj.1
      rw [app_data, Lib.extract_data, data_mkB, data_mkB, data_mkB, List.drop_zero, Nat.sub_zero]
    have es : ((mkB a).extract 0 (a.length - b.length)).size ≤ 1000 := by
      rw [← size_list, Lib.extract_data, List.length_take, List.length_drop, size_list]
      omega
    refine Ev_step (fun k => ?_) hr
    rw [impl_longRange.j0, if_pos rfl, w, if_pos (by omega), if_pos (by omega), Int.toNat_natCast, if_pos (by omega), ex]
  · rw [decide_eq_false (show ¬ ((mkB b).size : Int) < ((mkB a).size : Int) by omega)]
    refine Ev_step (fun k => ?_) hr
    rw [impl_longRange.j0, if_neg Bool.false_ne_true, if_pos rfl]
    unfold toL2
    rw [if_neg hl]
theorem longS_free (s : ByteArray) (hs : s.size ≤ 9) (h : (45 : UInt8) ∉ s.data.toList) {v : Int} {r : Int × Int × Bool} (hv : Ev (fun k => spec_l1Read.f k s) v) (hr : Ev (fun k => spec_ixLong.j1 k s v v) r) : Ev (fun k => spec_ixLong.f k s) r := by
  have sp : Ev (fun k => spec_l1Split.f k s 45) ((cut 45 [] s.data.toList).map mkB) := split_ev s 45 (by omega)
  rw [cut_free 45 _ [] h, List.nil_append, List.map_cons, List.map_nil, mkB_data] at sp
  simp only [spec_ixLong.f]
  refine Ev_bind sp (Ev_neg (by omega) ?_)
  rw [decide_eq_false (show ¬ (([s] : List ByteArray).length : Int) > 2 by simp)]
  refine Ev_step (fun k => by rw [spec_ixLong.j0, if_neg Bool.false_ne_true, if_pos (show (0 : Int) < (([s] : List ByteArray).length : Int) by simp), show rdOf ByteArray.empty [s] 0 = s from rfl]) ?_
  exact Ev_bind hv (Ev_bind hv (Ev_neg (show ¬ (([s] : List ByteArray).length : Int) = 2 by simp) hr))
theorem longS_sep (s : ByteArray) (hs : s.size ≤ 9) {a b : List UInt8} (he : s.data.toList = a ++ 45 :: b) (h : (45 : UInt8) ∉ a) (h2 : (45 : UInt8) ∉ b) {v w : Int} {r : Int × Int × Bool} (hv : Ev (fun k => spec_l1Read.f k (mkB a)) v) (hw : Ev (fun k => spec_l1Read.f k (mkB (toL2 a b))) w) (hr : Ev (fun k => spec_ixLong.j1 k s v w) r) : Ev (fun k => spec_ixLong.f k s) r := by
  have sp : Ev (fun k => spec_l1Split.f k s 45) ((cut 45 [] s.data.toList).map mkB) := split_ev s 45 (by omega)
  rw [he, cut_sep 45 b a [] h, cut_free 45 b [] h2, List.nil_append, List.nil_append, List.map_cons, List.map_cons, List.map_nil] at sp
  have hz := congrArg List.length he
  rw [size_list, List.length_append, List.length_cons] at hz
  have m1 := mkB_size a
  have m2 := mkB_size b
  simp only [spec_ixLong.f]
  refine Ev_bind sp (Ev_neg (by omega) ?_)
  rw [decide_eq_false (show ¬ (([mkB a, mkB b] : List ByteArray).length : Int) > 2 by simp)]
  refine Ev_step (fun k => by rw [spec_ixLong.j0, if_neg Bool.false_ne_true, if_pos (show (0 : Int) < (([mkB a, mkB b] : List ByteArray).length : Int) by simp), show rdOf ByteArray.empty [mkB a, mkB b] 0 = mkB a from rfl, show rdOf ByteArray.empty [mkB a, mkB b] 1 = mkB b from rfl]) ?_
  refine Ev_bind hv (Ev_bind hv (Ev_pos (show (([mkB a, mkB b] : List ByteArray).length : Int) = 2 by simp) (Ev_pos (show (1 : Int) < (([mkB a, mkB b] : List ByteArray).length : Int) by simp) ?_)))
  by_cases hl : b.length < a.length
  · have w' : wrap64 (((mkB a).size : Int) - ((mkB b).size : Int)) = ((a.length - b.length : Nat) : Int) := by rw [w64 (by omega) (by omega)]; omega
    have ex : (mkB a).extract 0 (a.length - b.length) ++ mkB b = mkB (toL2 a b) := by
      unfold toL2
      rw [if_pos hl]
      apply ByteArray.ext
      apply Array.toList_inj.1
      rw [app_data, Lib.extract_data, data_mkB, data_mkB, data_mkB, List.drop_zero, Nat.sub_zero]
    have es : ((mkB a).extract 0 (a.length - b.length)).size ≤ 1000 := by
      rw [← size_list, Lib.extract_data, List.length_take, List.length_drop, size_list]
      omega
    rw [w', Int.toNat_natCast, ex]
    exact Ev_pos (by omega) (Ev_pos (by omega) (Ev_pos (by omega) (Ev_pos (by omega) (Ev_bind hw hr))))
  · have e : toL2 a b = b := by unfold toL2; rw [if_neg hl]
    rw [e] at hw
    exact Ev_neg (by omega) (Ev_bind hw hr)
theorem long_ev (s : ByteArray) (hs : s.size ≤ 1000) : ∃ r, Ev (fun k => impl_longRange.f k s) r ∧ Ev (fun k => spec_ixLong.f k s) r ∧ Lg s.data.toList r := by
  have sp : Ev (fun k => spec_l1Split.f k s 45) ((cut 45 [] s.data.toList).map mkB) := split_ev s 45 (by omega)
  have hz := size_list s
  by_cases hex : ∃ p q : Nat, IsSh s.data.toList p q
  · obtain ⟨p, q, h⟩ := hex
    obtain ⟨h1, h2, h3, h4⟩ := id h
    have h9 := sh_size p q (by omega) h3
    rw [h4] at h9
    refine ⟨((p : Int), (q : Int), true), ?_, ?_, Or.inl ⟨p, q, h, rfl⟩⟩
    · rcases split_or 45 s.data.toList with hf | ⟨a, b, he, hf⟩
      · obtain ⟨rfl, hd⟩ := isSh_free h hf
        have e : num p = s := by rw [← mkB_data s, hd]; rfl
        have := j1_yes s h
        rw [e] at this
        exact longI_free s hs hf this
      · obtain ⟨hlt, hd, ht⟩ := isSh_sep (he ▸ h) hf
        have := j1_yes s h
        have e1 : num p = mkB a := by rw [hd]; rfl
        have e2 : num q = mkB (toL2 a b) := by rw [hd, ht, to_tail hlt]; rfl
        rw [e1, e2] at this
        exact longI_sep s hs he hf this
    · rcases split_or 45 s.data.toList with hf | ⟨a, b, he, hf⟩
      · obtain ⟨rfl, hd⟩ := isSh_free h hf
        have e : num p = s := by rw [← mkB_data s, hd]; rfl
        have hv := read_num p (by omega)
        rw [e] at hv
        exact longS_free s (by omega) hf hv (j1s_yes s h)
      · obtain ⟨hlt, hd, ht⟩ := isSh_sep (he ▸ h) hf
        have e1 : num p = mkB a := by rw [hd]; rfl
        have e2 : num q = mkB (toL2 a b) := by rw [hd, ht, to_tail hlt]; rfl
        have hv := read_num p (by omega)
        have hw := read_num q (by omega)
        rw [e1] at hv
        rw [e2] at hw
        exact longS_sep s (by omega) he hf (ht ▸ tail_free p q) hv hw (j1s_yes s h)
  · have hno : ∀ p q : Nat, ¬ IsSh s.data.toList p q := fun p q h => hex ⟨p, q, h⟩
    refine ⟨(0, 0, false), ?_, ?_, Or.inr ⟨hno, rfl⟩⟩
    · rcases split_or 45 s.data.toList with hf | ⟨a, b, he, hf⟩
      · exact longI_free s hs hf (j1_no s s s (by omega) (by omega) hno)
      · have hl := congrArg List.length he
        rw [size_list, List.length_append, List.length_cons] at hl
        have hto : (toL2 a b).length ≤ 2000 := by
          unfold toL2
          split
          · rw [List.length_append, List.length_take]; omega
          · omega
        exact longI_sep s hs he hf (j1_no s _ _ (by rw [mkB_size]; omega) (by rw [mkB_size]; omega) hno)
    · have bad : Ev (fun k => spec_ixLong.j0 k s ((cut 45 [] s.data.toList).map mkB) true) (0, 0, false) := Ev_step (fun k => by rw [spec_ixLong.j0, if_pos rfl]) (Ev.now _)
      by_cases h9 : s.size ≤ 9
      · rcases split_or 45 s.data.toList with hf | ⟨a, b, he, hf⟩
        · obtain ⟨v, hv⟩ := read_any s
          exact longS_free s h9 hf hv (j1s_no s v v hno)
        · by_cases hb : (45 : UInt8) ∈ b
          · simp only [spec_ixLong.f]
            refine Ev_bind sp (Ev_neg (by omega) ?_)
            have h2 : (((cut 45 [] s.data.toList).map mkB).length : Int) > 2 := by
              rw [List.length_map, he, cut_sep 45 b a [] hf, List.length_cons]
              rcases split_or 45 b with hb2 | ⟨c, d, rfl, hc⟩
              · exact absurd hb hb2
              · rw [cut_sep 45 d c [] hc, List.length_cons]
                have := cut_pos 45 d []
                omega
            rw [decide_eq_true h2]
            exact bad
          · obtain ⟨v, hv⟩ := read_any (mkB a)
            obtain ⟨w, hw⟩ := read_any (mkB (toL2 a b))
            exact longS_sep s h9 he hf hb hv hw (j1s_no s v w hno)
      · simp only [spec_ixLong.f]
        exact Ev_bind sp (Ev_pos (by omega) bad)
theorem sh_inj {p q p' q' : Nat} {l : List UInt8} (h : IsSh l p q) (h' : IsSh l p' q') : p = p' ∧ q = q' := by
  rcases split_or 45 l with hf | ⟨a, b, rfl, hf⟩
  · obtain ⟨rfl, e1⟩ := isSh_free h hf
    obtain ⟨rfl, e2⟩ := isSh_free h' hf
    have := dig_inj (e1.symm.trans e2)
    exact ⟨this, this⟩
  · obtain ⟨l1, d1, t1⟩ := isSh_sep h hf
    obtain ⟨l2, d2, t2⟩ := isSh_sep h' hf
    have e1 : p = p' := dig_inj (d1.symm.trans d2)
    have a1 := to_tail l1
    have a2 := to_tail l2
    rw [← d1, ← t1] at a1
    rw [← d2, ← t2] at a2
    exact ⟨e1, dig_inj (a1.symm.trans a2)⟩
end Go.Proofs.YtppbpefehpbejaaGreatDoor.P
end

section
namespace Go.Proofs.YtppbpefehpbejaaGreatDoor.P
open Go.RowKit Go.Proofs.YtppbpefehpbejaaGreatDoorW.PrintWords Go.Proofs.YtppbpefehpbejaaGreatDoorW.PrintLast Go.Proofs.YtppbpefehpbejaaGreatDoorW.PrintMore Go.Proofs.YtppbpefehpbejaaGreatDoor.Base Go.Proofs.YtppbpefehpbejaaGreatDoor.Runs
set_option linter.unusedVariables false

def wordR (x : RG) : ByteArray := mkB (sh x.f0.toNat x.f1.toNat)
def rt (l : List RG) : ByteArray := J (l.map wordR)
theorem com44 : (⟨#[44]⟩ : ByteArray).size = 1 := rfl
theorem J_next (l : List ByteArray) (y : ByteArray) (m : Nat) (hy : y.size ≤ 9) (h : (J l).size ≤ 10 * m) : (J (l ++ [y])).size ≤ 10 * (m + 1) := by
  rcases l with _ | ⟨z, zs⟩
  · rw [List.nil_append, J_one]; omega
  · rw [J_snoc]
    simp only [ByteArray.size_append, com44]
    omega
theorem wordR_size {x : RG} (h0 : x.f0 ≤ 2000) (h1 : x.f1 ≤ 2000) : (wordR x).size ≤ 9 := by
  unfold wordR
  rw [mkB_size]
  exact sh_size _ _ (by omega) (by omega)
theorem textR_l0 (l : List RG) (hn : l.length ≤ 1000) (hl : Valid l) : ∀ (n i : Nat), i + n = l.length → (J ((l.take i).map wordR)).size ≤ 10 * i →
    (rt l).size ≤ 10 * l.length ∧ Ev (fun k => spec_ixText.l0 k (J ((l.take i).map wordR)) l (l.length : Int) (i : Int)) (rt l) ∧ Ev (fun k => impl_rangesText.l0 k ((l.take i).map wordR) l (l.length : Int) (i : Int)) (rt l) := by
  intro n
  induction n with
  | zero =>
    intro i hi hs
    rw [List.take_of_length_le (by omega)] at hs ⊢
    have hi2 : i = l.length := by omega
    refine ⟨by rw [← hi2]; exact hs, Ev_step (fun k => by rw [spec_ixText.l0, if_neg (by omega)]; rfl) (Ev.now _), Ev_step (fun k => by rw [impl_rangesText.l0, if_neg (by omega)]) ?_⟩
    refine Ev_some (a := J (l.map wordR)) ?_ (Ev.now _)
    unfold strjoin.f
    have hz : (joinB (l.map wordR) ⟨#[44]⟩).length ≤ 10 * i := hs
    rw [if_pos ⟨by omega, by rw [List.length_map]; omega⟩]
    rfl
  | succ n ih =>
    intro i hi hs
    have h : i < l.length := by omega
    have ht : (l.take (i + 1)).map wordR = (l.take i).map wordR ++ [wordR l[i]] := by rw [List.take_succ_eq_append_getElem h, List.map_append]; rfl
    have hr := rdT_mem l i h
    obtain ⟨v1, v2, v3⟩ := hl _ (List.getElem_mem h)
    have hwz := wordR_size (x := l[i]) (by omega) v3
    have hlt : ((l.take i).map wordR).length = i := by rw [List.length_map, List.length_take]; omega
    have hnx : (J ((l.take (i + 1)).map wordR)).size ≤ 10 * (i + 1) := by rw [ht]; exact J_next _ _ i hwz hs
    obtain ⟨e0, e1, e2⟩ := ih (i + 1) (by omega) hnx
    have sv := short_ev l[i].f0.toNat l[i].f1.toNat (by omega) (by omega)
    rw [Int.toNat_of_nonneg (by omega), Int.toNat_of_nonneg (by omega)] at sv
    have hw : mkB (sh l[i].f0.toNat l[i].f1.toNat) = wordR l[i] := rfl
    rw [hw] at sv
    refine ⟨e0, Ev_step (fun k => by rw [spec_ixText.l0, if_pos (by omega), if_pos (by omega), if_pos (by omega), hr, nextI i (by omega)]) ?_, Ev_step (fun k => by rw [impl_rangesText.l0, if_pos (by omega), if_pos (by omega), if_pos (by omega), hr, nextI i (by omega)]) ?_⟩
    · by_cases h0 : (i : Int) > 0
      · have hjn : J ((l.take (i + 1)).map wordR) = (J ((l.take i).map wordR) ++ (⟨#[44]⟩ : ByteArray)) ++ wordR l[i] := by
          rw [ht]
          rcases hc : (l.take i).map wordR with _ | ⟨y, ys⟩
          · rw [hc] at hlt
            simp only [List.length_nil] at hlt
            omega
          · rw [J_snoc]
        rw [hjn] at e1
        refine Ev_pos h0 (Ev_pos (by omega) (Ev_bind sv.1 (Ev_pos ?_ e1)))
        simp only [ByteArray.size_append, com44]
        omega
      · have hjn : J ((l.take (i + 1)).map wordR) = J ((l.take i).map wordR) ++ wordR l[i] := by
          rw [ht]
          have hc : (l.take i).map wordR = [] := List.eq_nil_of_length_eq_zero (by omega)
          rw [hc, List.nil_append, J_one]
          have : J [] = ⟨#[]⟩ := rfl
          rw [this]
          apply ByteArray.ext
          rw [ByteArray.data_append]
          simp
        rw [hjn] at e1
        exact Ev_neg h0 (Ev_bind sv.1 (Ev_pos (by omega) e1))
    · refine Ev_bind sv.2 (Ev_pos (by omega) ?_)
      rw [← ht]
      exact e2
theorem rt_ev (l : List RG) (hn : l.length ≤ 1000) (hl : Valid l) : (rt l).size ≤ 10 * l.length ∧ Ev (fun k => spec_ixText.f k l) (rt l) ∧ Ev (fun k => impl_rangesText.f k l) (rt l) := by
  obtain ⟨a, b, c⟩ := textR_l0 l hn hl l.length 0 (by omega) (by show (0 : Nat) ≤ _; omega)
  exact ⟨a, Ev.congr (fun k => by rw [spec_ixText.f]; rfl) b, Ev.congr (fun k => by rw [impl_rangesText.f]; rfl) c⟩
theorem text_sem (l : List RG) (hn : l.length ≤ 1048576) : Ev (fun k => impl_RangesText.f k l) (if areB l = true then (rt l, true) else (⟨#[]⟩, false)) ∧ Ev (fun k => spec_RangesText.f k l) (if areB l = true then (rt l, true) else (⟨#[]⟩, false)) := by
  obtain ⟨h1, h2⟩ := areR_ev l hn
  simp only [impl_RangesText.f, spec_RangesText.f]
  cases ha : areB l with
  | false =>
    rw [ha] at h1 h2
    rw [if_neg Bool.false_ne_true]
    exact ⟨Ev_bind h2 (Ev_neg Bool.false_ne_true (Ev.now _)), Ev_bind h1 (Ev_neg Bool.false_ne_true (Ev.now _))⟩
  | true =>
    rw [ha] at h1 h2
    rw [if_pos rfl]
    obtain ⟨hg, hl⟩ := areB_iff.1 ha
    obtain ⟨_, b, c⟩ := rt_ev l (by omega) (good_valid hg)
    exact ⟨Ev_bind h2 (Ev_pos rfl (Ev_bind c (Ev.now _))), Ev_bind h1 (Ev_pos rfl (Ev_bind b (Ev.now _)))⟩
end Go.Proofs.YtppbpefehpbejaaGreatDoor.P
end

section
namespace Go.Proofs.YtppbpefehpbejaaGreatDoor.P
open Go.RowKit Go.Proofs.YtppbpefehpbejaaGreatDoorW.PrintWords Go.Proofs.YtppbpefehpbejaaGreatDoorW.PrintLast Go.Proofs.YtppbpefehpbejaaGreatDoorW.PrintMore Go.Proofs.YtppbpefehpbejaaGreatDoor.Base Go.Proofs.YtppbpefehpbejaaGreatDoor.Runs
set_option linter.unusedVariables false

def AllSh : List ByteArray → List RG → Prop
  | [], [] => True
  | w :: ws, x :: m => (∃ p q : Nat, IsSh w.data.toList p q ∧ x = ⟨(p : Int), (q : Int)⟩) ∧ AllSh ws m
  | [], _ :: _ => False
  | _ :: _, [] => False
theorem AllSh.len : ∀ {ws : List ByteArray} {m : List RG}, AllSh ws m → ws.length = m.length := by
  intro ws
  induction ws with
  | nil => intro m h; cases m with
    | nil => rfl
    | cons x m => exact h.elim
  | cons w ws ih => intro m h; cases m with
    | nil => exact h.elim
    | cons x m => rw [List.length_cons, List.length_cons, ih h.2]
theorem AllSh.one : ∀ {ws : List ByteArray} {m m' : List RG}, AllSh ws m → AllSh ws m' → m = m' := by
  intro ws
  induction ws with
  | nil => intro m m' h h'; cases m with
    | nil => cases m' with
      | nil => rfl
      | cons x m => exact h'.elim
    | cons x m => exact h.elim
  | cons w ws ih => intro m m' h h'; cases m with
    | nil => exact h.elim
    | cons x m => cases m' with
      | nil => exact h'.elim
      | cons x' m' =>
        obtain ⟨⟨p, q, s, e⟩, t⟩ := h
        obtain ⟨⟨p', q', s', e'⟩, t'⟩ := h'
        obtain ⟨rfl, rfl⟩ := sh_inj s s'
        rw [ih t t', e, e']
theorem AllSh.words : ∀ {ws : List ByteArray} {m : List RG}, AllSh ws m → ws = m.map wordR := by
  intro ws
  induction ws with
  | nil => intro m h; cases m with
    | nil => rfl
    | cons x m => exact h.elim
  | cons w ws ih => intro m h; cases m with
    | nil => exact h.elim
    | cons x m =>
      obtain ⟨⟨p, q, s, rfl⟩, t⟩ := h
      rw [List.map_cons, ← ih t]
      congr 1
      unfold wordR
      rw [Int.toNat_natCast, Int.toNat_natCast, s.2.2.2, mkB_data]
theorem allSh_of : ∀ {l : List RG}, Valid l → AllSh (l.map wordR) l := by
  intro l
  induction l with
  | nil => intro _; trivial
  | cons x l ih =>
    intro hv
    obtain ⟨h1, h2, h3⟩ := hv x List.mem_cons_self
    refine ⟨⟨x.f0.toNat, x.f1.toNat, ⟨by omega, by omega, by omega, rfl⟩, ?_⟩, ih (fun y hy => hv y (List.mem_cons_of_mem _ hy))⟩
    rw [Int.toNat_of_nonneg (by omega), Int.toNat_of_nonneg (by omega)]
def fin2 (m : List RG) : List RG × Bool := if areB m = true then (m, true) else ([], false)
theorem rdB (l : List ByteArray) (i : Nat) (h : i < l.length) : rdOf ByteArray.empty l (i : Int) = l[i] := by unfold rdOf; rw [Int.toNat_natCast, getD_at l _ h]
theorem parse_l0 (ws : List ByteArray) (hl : ws.length ≤ 2000) (hw : ∀ x ∈ ws, x.size ≤ 1000) : ∀ (n i : Nat) (acc : List RG), i + n = ws.length → acc.length ≤ i →
    ∃ r, Ev (fun k => impl_ParseRanges.l0 k acc ws (ws.length : Int) (i : Int)) r ∧ Ev (fun k => spec_ixParse.l0 k acc ws (ws.length : Int) (i : Int)) r ∧
      ((∃ m, AllSh (ws.drop i) m ∧ r = fin2 (acc ++ m)) ∨ ((∀ m, ¬ AllSh (ws.drop i) m) ∧ r = ([], false))) := by
  intro n
  induction n with
  | zero =>
    intro i acc hi ha
    rw [List.drop_of_length_le (by omega)]
    obtain ⟨h1, h2⟩ := areR_ev acc (by omega)
    refine ⟨fin2 acc, ?_, ?_, Or.inl ⟨[], trivial, by rw [List.append_nil]⟩⟩
    · refine Ev_step (fun k => by rw [impl_ParseRanges.l0, if_neg (by omega)]) (Ev_bind h2 ?_)
      unfold fin2
      cases areB acc with
      | true => exact Ev_pos rfl (Ev.now _)
      | false => exact Ev_neg Bool.false_ne_true (Ev.now _)
    · refine Ev_step (fun k => by rw [spec_ixParse.l0, if_neg (by omega)]) (Ev_bind h1 ?_)
      unfold fin2
      cases areB acc with
      | true => exact Ev_pos rfl (Ev.now _)
      | false => exact Ev_neg Bool.false_ne_true (Ev.now _)
  | succ n ih =>
    intro i acc hi ha
    have h : i < ws.length := by omega
    obtain ⟨q, e1, e2, hq⟩ := long_ev ws[i] (hw _ (List.getElem_mem h))
    rw [List.drop_eq_getElem_cons h]
    have s1 : ∀ k, impl_ParseRanges.l0 (k + 1) acc ws (ws.length : Int) (i : Int) = (impl_longRange.f k ws[i]).bind fun bt421 => (if bt421.2.2 = true then (if acc.length < 8796093022208 then (impl_ParseRanges.l0 k (acc ++ [(⟨bt421.1, bt421.2.1⟩ : RG)]) ws (ws.length : Int) ((i + 1 : Nat) : Int)) else (none)) else (some (([] : List RG), false))) := fun k => by
      rw [impl_ParseRanges.l0, if_pos (by omega), if_pos (by omega), if_pos (by omega), rdB ws i h, nextI i (by omega)]
    have s2 : ∀ k, spec_ixParse.l0 (k + 1) acc ws (ws.length : Int) (i : Int) = (spec_ixLong.f k ws[i]).bind fun bt421 => (if bt421.2.2 = true then (if acc.length < 8796093022208 then (spec_ixParse.l0 k (acc ++ [(⟨bt421.1, bt421.2.1⟩ : RG)]) ws (ws.length : Int) ((i + 1 : Nat) : Int)) else (none)) else (some (([] : List RG), false))) := fun k => by
      rw [spec_ixParse.l0, if_pos (by omega), if_pos (by omega), if_pos (by omega), rdB ws i h, nextI i (by omega)]
    rcases hq with ⟨a, b, hs, rfl⟩ | ⟨hno, rfl⟩
    · obtain ⟨r, x, y, hr⟩ := ih (i + 1) (acc ++ [⟨(a : Int), (b : Int)⟩]) (by omega) (w75_)
      refine ⟨r, Ev_step s1 (Ev_bind e1 (Ev_pos rfl (Ev_pos (by omega) x))), Ev_step s2 (Ev_bind e2 (Ev_pos rfl (Ev_pos (by omega) y))), ?_⟩
      rcases hr with ⟨m, hm, rfl⟩ | ⟨hno, rfl⟩
      · exact Or.inl ⟨⟨(a : Int), (b : Int)⟩ :: m, ⟨⟨a, b, hs, rfl⟩, hm⟩, by rw [List.append_assoc, List.singleton_append]⟩
      · refine Or.inr ⟨fun m hm => ?_, rfl⟩
        cases m with
        | nil => exact hm
        | cons x m => exact hno m hm.2
    · refine ⟨([], false), Ev_step s1 (Ev_bind e1 (Ev_neg Bool.false_ne_true (Ev.now _))), Ev_step s2 (Ev_bind e2 (Ev_neg Bool.false_ne_true (Ev.now _))), Or.inr ⟨fun m hm => ?_, rfl⟩⟩
      cases m with
      | nil => exact hm
      | cons x m =>
        obtain ⟨⟨p, q, hs, _⟩, _⟩ := hm
        exact hno p q hs
theorem cut_le (b : UInt8) : ∀ (l acc : List UInt8), (cut b acc l).length ≤ l.length + 1 := by
  intro l
  induction l with
  | nil => intro acc; rw [cut]; simp
  | cons c r ih =>
    intro acc
    rw [cut, List.length_cons]
    split
    · have := ih []
      rw [List.length_cons]
      omega
    · have := ih (acc ++ [c])
      omega
theorem splitK_len (b : UInt8) : ∀ (k : Nat) (l : List UInt8), k + 1 ≤ (cut b [] l).length → (Lib.splitK [b] 0 k l).length = k + 1 := by
  intro k
  induction k with
  | zero => intro l _; rfl
  | succ k ih =>
    intro l h
    rcases split_or b l with h1 | ⟨a, r, rfl, h2⟩
    · rw [cut_free b l [] h1] at h
      simp at h
    · rw [cut_sep b r a [] h2, List.length_cons] at h
      have hm : ((a.length : Int) == -1) = false := beq_eq_false_iff_ne.2 (by omega)
      have e : (a ++ b :: r).drop (a.length + [b].length) = r := by
        rw [show a ++ b :: r = (a ++ [b]) ++ r by simp, List.drop_left' (by simp)]
      rw [Lib.splitK, index_sep b r a h2, if_neg (by rw [hm]; exact Bool.false_ne_true), Int.toNat_natCast, List.length_cons, e, ih r (by omega)]
theorem join_cut (b : UInt8) : ∀ (n : Nat) (l : List UInt8), l.length ≤ n → Lib.join (cut b [] l) [b] = l := by
  intro n
  induction n with
  | zero =>
    intro l h
    obtain rfl : l = [] := List.eq_nil_of_length_eq_zero (by omega)
    rw [cut, Lib.join_one]
  | succ n ih =>
    intro l h
    rcases split_or b l with h1 | ⟨a, r, rfl, h2⟩
    · rw [cut_free b l [] h1, Lib.join_one, List.nil_append]
    · rw [List.length_append, List.length_cons] at h
      have hr := ih r (by omega)
      rw [cut_sep b r a [] h2, List.nil_append]
      rcases hc : cut b [] r with _ | ⟨y, ys⟩
      · have := cut_pos b r []
        rw [hc] at this
        simp at this
      · rw [hc] at hr
        have e : Lib.join (a :: y :: ys) [b] = a ++ b :: Lib.join (y :: ys) [b] := by
          rw [Lib.join_cons, Lib.join_cons, Lib.joinTail, List.map_cons, List.flatten_cons, Lib.joinTail]
          simp
        rw [e, hr]
theorem sh_free (p q : Nat) : (44 : UInt8) ∉ sh p q := by
  have ha := dig_free p 44 (by decide)
  have hb := dig_free q 44 (by decide)
  unfold sh tail2
  split
  · exact ha
  · rw [List.mem_append, List.mem_cons, not_or, not_or]
    refine ⟨ha, by decide, ?_⟩
    split
    · exact fun h => hb (List.mem_of_mem_drop h)
    · exact hb
theorem wordR_free (x : RG) : (44 : UInt8) ∉ (wordR x).data.toList := sh_free _ _
theorem rt_cut (x : RG) (l : List RG) : (cut 44 [] (rt (x :: l)).data.toList).map mkB = (x :: l).map wordR := by
  have e : (rt (x :: l)).data.toList = Lib.join (((x :: l).map wordR).map (·.data.toList)) [44] := rfl
  rw [e, List.map_cons, List.map_cons, cut_join 44 _ _ (wordR_free x) (by intro y hy; rw [List.map_map, List.mem_map] at hy; obtain ⟨z, _, rfl⟩ := hy; exact wordR_free z)]
  have hm : ∀ z : List ByteArray, (z.map (·.data.toList)).map mkB = z := fun z => by
    have : (mkB ∘ fun x : ByteArray => x.data.toList) = id := funext fun x => mkB_data x
    rw [List.map_map, this, List.map_id]
  exact hm ((x :: l).map wordR)
theorem split_size (sep : ByteArray) : ∀ (k : Nat) (s : ByteArray), ∀ x ∈ Lib.splitB sep 0 k s, x.size ≤ s.size := by
  intro k
  induction k with
  | zero => intro s x hx; rw [Lib.splitB, List.mem_singleton] at hx; rw [hx]; exact Nat.le_refl _
  | succ k ih =>
    intro s x hx
    rw [Lib.splitB] at hx
    split at hx
    · rw [List.mem_singleton] at hx; rw [hx]; exact Nat.le_refl _
    · rw [List.mem_cons] at hx
      rcases hx with rfl | hx
      · rw [ByteArray.size_extract]; omega
      · have := ih _ x hx
        rw [ByteArray.size_extract] at this
        omega
def Pr (s : ByteArray) (r : List RG × Bool) : Prop := (∃ l, areB l = true ∧ rt l = s ∧ r = (l, true)) ∨ ((∀ l, areB l = true → rt l ≠ s) ∧ r = ([], false))
theorem areB_valid {l : List RG} (h : areB l = true) : Valid l := good_valid (areB_iff.1 h).1
theorem words_text {l : List RG} (h : l ≠ []) : (cut 44 [] (rt l).data.toList).map mkB = l.map wordR := by
  cases l with
  | nil => exact absurd rfl h
  | cons x l => exact rt_cut x l
theorem rt_ne {x : RG} {l : List RG} (h : Valid (x :: l)) : (rt (x :: l)).data.toList ≠ [] := fun e => by
  have hc := rt_cut x l
  rw [e, cut] at hc
  have h1 := (List.cons.inj hc).1
  have h2 : sh x.f0.toNat x.f1.toNat = [] := by
    have := congrArg (fun s : ByteArray => s.data.toList) h1
    exact this.symm
  have hd : Lib.decDigits x.f0.toNat ≠ [] := by
    by_cases h3 : x.f0.toNat < 10
    · rw [Lib.decDigits_one h3]; simp
    · rw [Lib.decDigits, dif_neg h3]; simp
  unfold sh at h2
  split at h2
  · exact hd h2
  · simp at h2
theorem rt_one {l m : List RG} (hl : areB l = true) (hm : areB m = true) (h : rt l = rt m) : l = m := by
  have vl := areB_valid hl
  have vm := areB_valid hm
  cases l with
  | nil => cases m with
    | nil => rfl
    | cons y m => exact absurd (by rw [← h]; rfl) (rt_ne vm)
  | cons x l => cases m with
    | nil => exact absurd (by rw [h]; rfl) (rt_ne vl)
    | cons y m =>
      have a := allSh_of vl
      have b := allSh_of vm
      rw [← rt_cut x l, h, rt_cut y m] at a
      exact a.one b
theorem parse_ev (s : ByteArray) (hs : s.size ≤ 1000) : ∃ r, Ev (fun k => impl_ParseRanges.f k s) r ∧ Ev (fun k => spec_ParseRanges.f k s) r ∧ Pr s r := by
  have hz := size_list s
  by_cases he : s.data.toList = []
  · have h0 : s.size = 0 := by rw [← hz, he]; rfl
    have hl : s.toList = ([] : List UInt8) := by rw [ByteArray.toList_eq, he]
    refine ⟨([], true), ?_, ?_, Or.inl ⟨[], rfl, by rw [← mkB_data s, he]; rfl, rfl⟩⟩
    · simp only [impl_ParseRanges.f]
      exact Ev_some rfl (Ev_pos hl (Ev.now _))
    · simp only [spec_ParseRanges.f, spec_ixParse.f]
      exact Ev_bind (a := ([], true)) (Ev_neg (by omega) (Ev_pos hl (Ev.now _))) (Ev.now _)
  · have hl : ¬ s.toList = ([] : List UInt8) := by rw [ByteArray.toList_eq]; exact he
    have hrt : rt [] ≠ s := fun e => he (by rw [← e]; rfl)
    have hcl := cut_le 44 s.data.toList []
    have hws : ((cut 44 [] s.data.toList).map mkB).length = (cut 44 [] s.data.toList).length := List.length_map _
    have hwz : ∀ x ∈ (cut 44 [] s.data.toList).map mkB, x.size ≤ 1000 := by
      intro x hx
      have e := splitB_cut 44 s.size s (by omega)
      rw [← e] at hx
      have := split_size _ _ _ x hx
      omega
    have sp : Ev (fun k => spec_l1Split.f k s 44) ((cut 44 [] s.data.toList).map mkB) := split_ev s 44 hs
    obtain ⟨r, e1, e2, hr⟩ := parse_l0 ((cut 44 [] s.data.toList).map mkB) (by omega) hwz _ 0 [] (Nat.zero_add _) (Nat.le_refl _)
    rw [List.drop_zero] at hr
    have joined : ∀ m, AllSh ((cut 44 [] s.data.toList).map mkB) m → rt m = s := fun m hm => by
      have e := hm.words
      have e3 : (m.map wordR).map (·.data.toList) = cut 44 [] s.data.toList := by
        rw [← e, List.map_map]
        exact List.map_id _
      apply ByteArray.ext
      apply Array.toList_inj.1
      show Lib.join ((m.map wordR).map (·.data.toList)) [44] = s.data.toList
      rw [e3]
      exact join_cut 44 _ _ (Nat.le_refl _)
    have back : ∀ l, areB l = true → rt l = s → AllSh ((cut 44 [] s.data.toList).map mkB) l := fun l h e => by
      have hne : l ≠ [] := fun e2 => hrt (by rw [← e2]; exact e)
      rw [← e, words_text hne]
      exact allSh_of (areB_valid h)
    have hp : Pr s r := by
      rcases hr with ⟨m, hm, rfl⟩ | ⟨hno, rfl⟩
      · rw [List.nil_append]
        unfold fin2
        cases hb : areB m with
        | true => exact Or.inl ⟨m, hb, joined m hm, rfl⟩
        | false =>
          refine Or.inr ⟨fun l h e => ?_, rfl⟩
          have := (back l h e).one hm
          rw [this, hb] at h
          cases h
      · exact Or.inr ⟨fun l h e => hno l (back l h e), rfl⟩
    refine ⟨r, ?_, ?_, hp⟩
    · have e : splitn.f s (⟨#[44]⟩ : ByteArray) 21 = some (Lib.splitB (mkB [44]) 0 (min 21 (s.size + 1) - 1) s) := by
        unfold splitn.f
        rw [if_pos ⟨by omega, by rw [com44]; exact Nat.le_refl _, by omega, by omega⟩]
        rfl
      simp only [impl_ParseRanges.f]
      refine Ev_some rfl (Ev_neg hl (Ev_some e ?_))
      by_cases hc : (cut 44 [] s.data.toList).length ≤ (min 21 (s.size + 1) - 1) + 1
      · rw [splitB_cut 44 _ s hc]
        exact e1
      · have hk : min 21 (s.size + 1) - 1 = 20 := by omega
        rw [hk]
        rw [hk] at hc
        have hlen : (Lib.splitB (mkB [44]) 0 20 s).length = 21 := by
          have e3 := congrArg List.length (Lib.splitB_data (mkB [44]) 0 20 s)
          rw [List.length_map] at e3
          rw [e3]
          exact splitK_len 44 20 _ (by omega)
        obtain ⟨r2, f1, f2, hr2⟩ := parse_l0 (Lib.splitB (mkB [44]) 0 20 s) (by omega) (fun x hx => by have := split_size _ _ _ x hx; omega) _ 0 [] (Nat.zero_add _) (Nat.le_refl _)
        have z2 : r2 = ([], false) := by
          rcases hr2 with ⟨m, hm, rfl⟩ | ⟨_, rfl⟩
          · have := hm.len
            rw [List.drop_zero, hlen] at this
            rw [List.nil_append]
            unfold fin2
            rw [if_neg (fun h => by have := (areB_iff.1 h).2; omega)]
          · rfl
        have z1 : r = ([], false) := by
          rcases hr with ⟨m, hm, rfl⟩ | ⟨_, rfl⟩
          · have := hm.len
            rw [hws] at this
            rw [List.nil_append]
            unfold fin2
            rw [if_neg (fun h => by have := (areB_iff.1 h).2; omega)]
          · rfl
        rw [z1, ← z2]
        exact f1
    · simp only [spec_ParseRanges.f, spec_ixParse.f]
      by_cases h2 : (s.size : Int) > 200
      · have : r = ([], false) := by
          rcases hp with ⟨l, hl2, e, _⟩ | ⟨_, rfl⟩
          · have h3 := (rt_ev l (by have := (areB_iff.1 hl2).2; omega) (areB_valid hl2)).1
            have := (areB_iff.1 hl2).2
            rw [e] at h3
            omega
          · rfl
        rw [this]
        exact Ev_bind (a := ([], false)) (Ev_pos h2 (Ev.now _)) (Ev.now _)
      · exact Ev_bind (a := r) (Ev_neg h2 (Ev_neg hl (Ev_bind sp e2))) (Ev.now _)
end Go.Proofs.YtppbpefehpbejaaGreatDoor.P
end

section
namespace Go.Proofs.YtppbpefehpbejaaGreatDoor.P
open Go.RowKit Go.Proofs.YtppbpefehpbejaaGreatDoorW.PrintWords Go.Proofs.YtppbpefehpbejaaGreatDoorW.PrintLast Go.Proofs.YtppbpefehpbejaaGreatDoorW.PrintMore Go.Proofs.YtppbpefehpbejaaGreatDoor.Base
set_option linter.unusedVariables false

theorem fSame_l0 (a : List Int) (hn : a.length ≤ 1048576) : ∀ n i : Nat, i + n = a.length → Ev (fun k => laws_fSame.l0 k a a (a.length : Int) (i : Int)) true := by
  intro n
  induction n with
  | zero =>
    intro i hi
    refine Ev_step (fun k => ?_) (Ev.now _)
    rw [laws_fSame.l0, if_neg (by omega)]
  | succ n ih =>
    intro i hi
    refine Ev_step (fun k => ?_) (ih (i + 1) (by omega))
    rw [laws_fSame.l0, if_pos (by omega), if_pos (by omega), if_pos (by omega), if_pos (by omega), if_pos rfl, nextI i (by omega)]
theorem fSame_ev (a : List Int) (hn : a.length ≤ 1048576) : Ev (fun k => laws_fSame.f k a a) true := by
  refine Ev.congr (f := fun k => laws_fSame.l0 k a a (a.length : Int) 0) (fun k => by rw [laws_fSame.f, if_pos rfl]) ?_
  exact fSame_l0 a hn a.length 0 (by omega)
theorem bne_self {α : Type} [BEq α] [LawfulBEq α] (x : α) : ¬ (x != x) = true := by simp
end Go.Proofs.YtppbpefehpbejaaGreatDoor.P
end

section
namespace Go.Proofs.YtppbpefehpbejaaGreatDoor.P
open Go.RowKit Go.Proofs.YtppbpefehpbejaaGreatDoorW.PrintWords Go.Proofs.YtppbpefehpbejaaGreatDoorW.PrintLast Go.Proofs.YtppbpefehpbejaaGreatDoorW.PrintMore Go.Proofs.YtppbpefehpbejaaGreatDoor.Base Go.Proofs.YtppbpefehpbejaaGreatDoor.Runs
set_option linter.unusedVariables false

theorem count_l0 (l : List RG) (hn : l.length ≤ 20) (hv : Valid l) : ∀ (n i : Nat) (acc : Int), i + n = l.length → 0 ≤ acc → acc ≤ 2001 * i →
    Ev (fun k => impl_CountIndexed.l0 k acc l (l.length : Int) (i : Int)) (acc + size (l.drop i), true) ∧ Ev (fun k => spec_ixCount.l0 k acc l (l.length : Int) (i : Int)) (acc + size (l.drop i)) := by
  intro n
  induction n with
  | zero =>
    intro i acc hi h0 h1
    rw [List.drop_of_length_le (by omega), size, Int.add_zero]
    refine ⟨Ev_step (fun k => ?_) (Ev.now _), Ev_step (fun k => ?_) (Ev.now _)⟩
    · rw [impl_CountIndexed.l0, if_neg (by omega)]
    · rw [spec_ixCount.l0, if_neg (by omega)]
  | succ n ih =>
    intro i acc hi h0 h1
    have h : i < l.length := by omega
    have hr := hv _ (List.getElem_mem h)
    have e := rdT_mem l i h
    have w1 : wrap64 (l[i].f1 - l[i].f0) = l[i].f1 - l[i].f0 := w64 (by omega) (by omega)
    have w2 : wrap64 (l[i].f1 - l[i].f0 + 1) = l[i].f1 - l[i].f0 + 1 := w64 (by omega) (by omega)
    have w3 : wrap64 (acc + (l[i].f1 - l[i].f0 + 1)) = acc + (l[i].f1 - l[i].f0 + 1) := w64 (by omega) (by omega)
    obtain ⟨a, b⟩ := ih (i + 1) (acc + (l[i].f1 - l[i].f0 + 1)) (by omega) (by omega) (by omega)
    rw [List.drop_eq_getElem_cons h, size, ← Int.add_assoc]
    refine ⟨Ev_step (fun k => ?_) a, Ev_step (fun k => ?_) b⟩
    · rw [impl_CountIndexed.l0, if_pos (by omega), if_pos (by omega), if_pos (by omega), e, w1, w2, w3, nextI i (by omega)]
    · rw [spec_ixCount.l0, if_pos (by omega), if_pos (by omega), if_pos (by omega), e, w1, w2, w3, nextI i (by omega)]
theorem count_sem (l : List RG) (hn : l.length ≤ 1048576) : Ev (fun k => impl_CountIndexed.f k l) (if areB l = true then (size l, true) else (0, false)) ∧ Ev (fun k => spec_CountIndexed.f k l) (if areB l = true then (size l, true) else (0, false)) := by
  obtain ⟨h1, h2⟩ := areR_ev l hn
  simp only [impl_CountIndexed.f, spec_CountIndexed.f]
  cases ha : areB l with
  | false =>
    rw [ha] at h1 h2
    rw [if_neg Bool.false_ne_true]
    exact ⟨Ev_bind h2 (Ev_neg Bool.false_ne_true (Ev.now _)), Ev_bind h1 (Ev_neg Bool.false_ne_true (Ev.now _))⟩
  | true =>
    rw [ha] at h1 h2
    rw [if_pos rfl]
    obtain ⟨hg, hl⟩ := areB_iff.1 ha
    obtain ⟨a, b⟩ := count_l0 l hl (good_valid hg) l.length 0 0 (by omega) (Int.le_refl _) (by omega)
    rw [List.drop_zero, Int.zero_add] at a b
    refine ⟨Ev_bind h2 (Ev_pos rfl a), Ev_bind h1 (Ev_pos rfl ?_)⟩
    exact Ev_bind (a := size l) (Ev.congr (fun k => by rw [spec_ixCount.f]; rfl) b) (Ev.now _)
theorem isIx_eq (a : Int) : impl_isIndexed.f a = some (inB a 1 2000) := by
  rw [impl_isIndexed.f, within_eq]
  rfl
theorem has_sem (l : List RG) (h : areB l = true) (p : Int) (h1 : 1 ≤ p) (h2 : p ≤ 2000) : Ev (fun k => impl_HasIndexed.f k l p) (has l p, true) := by
  obtain ⟨hg, hl⟩ := areB_iff.1 h
  obtain ⟨_, a⟩ := areR_ev l (by omega)
  rw [h] at a
  obtain ⟨xs, b, _, hx, mx⟩ := marks_sem l (by omega) (good_valid hg)
  have hin : inB p 1 2000 = true := by unfold inB; exact decide_eq_true ⟨h1, h2⟩
  obtain ⟨q, rfl⟩ := Int.eq_ofNat_of_zero_le (show 0 ≤ p by omega)
  have hxl := hx.len
  simp only [impl_HasIndexed.f, isIx_eq, hin]
  refine Ev_bind a (Ev_pos rfl ?_)
  simp only [Option.bind_some]
  refine Ev_pos trivial (Ev_bind b ?_)
  refine Ev_pos (by omega) (Ev_pos (by omega) ?_)
  rw [rdOf_nat, mx]
  exact Ev.now _
def pagesF (f : Int → Bool) (a : Int) : Nat → List Int
  | 0 => []
  | n + 1 => if f a = true then a :: pagesF f (a + 1) n else pagesF f (a + 1) n
theorem pagesF_congr {f g : Int → Bool} : ∀ {n : Nat} {a : Int}, (∀ p, a ≤ p → p < a + n → f p = g p) → pagesF f a n = pagesF g a n := by
  intro n
  induction n with
  | zero => intro a _; rfl
  | succ n ih =>
    intro a h
    rw [pagesF, pagesF, h a (Int.le_refl _) (by omega), ih (fun p h1 h2 => h p (by omega) (by omega))]
theorem pagesF_add (f : Int → Bool) : ∀ (n m : Nat) (a : Int), pagesF f a (n + m) = pagesF f a n ++ pagesF f (a + n) m := by
  intro n
  induction n with
  | zero => intro m a; rw [Nat.zero_add, pagesF, List.nil_append, show a + ((0 : Nat) : Int) = a by omega]
  | succ n ih =>
    intro m a
    rw [show n + 1 + m = (n + m) + 1 by omega, pagesF, pagesF, ih, show a + 1 + (n : Int) = a + ((n + 1 : Nat) : Int) by omega]
    by_cases h : f a = true
    · rw [if_pos h, if_pos h, List.cons_append]
    · rw [if_neg h, if_neg h]
theorem pagesF_none {f : Int → Bool} : ∀ {n : Nat} {a : Int}, (∀ p, a ≤ p → p < a + n → f p = false) → pagesF f a n = [] := by
  intro n
  induction n with
  | zero => intro a _; rfl
  | succ n ih =>
    intro a h
    rw [pagesF, h a (Int.le_refl _) (by omega), if_neg Bool.false_ne_true, ih (fun p h1 h2 => h p (by omega) (by omega))]
theorem pagesF_len (f : Int → Bool) : ∀ (n : Nat) (a : Int), (pagesF f a n).length = cnt f a n := by
  intro n
  induction n with
  | zero => intro a; rfl
  | succ n ih =>
    intro a
    rw [pagesF, cnt]
    by_cases h : f a = true
    · rw [if_pos h, if_pos h, List.length_cons, ih, Nat.add_comm]
    · rw [if_neg h, if_neg h, ih, Nat.zero_add]
theorem pagesF_mem (f : Int → Bool) : ∀ (n : Nat) (a x : Int), x ∈ pagesF f a n ↔ a ≤ x ∧ x < a + n ∧ f x = true := by
  intro n
  induction n with
  | zero => intro a x; rw [pagesF]; exact ⟨fun h => by (cases h), fun h => by omega⟩
  | succ n ih =>
    intro a x
    rw [pagesF]
    by_cases h : f a = true
    · rw [if_pos h, List.mem_cons, ih]
      constructor
      · rintro (rfl | ⟨h1, h2, h3⟩)
        · exact ⟨Int.le_refl _, by omega, h⟩
        · exact ⟨by omega, by omega, h3⟩
      · rintro ⟨h1, h2, h3⟩
        by_cases e : x = a
        · exact Or.inl e
        · exact Or.inr ⟨by omega, by omega, h3⟩
    · rw [if_neg h, ih]
      constructor
      · rintro ⟨h1, h2, h3⟩
        exact ⟨by omega, by omega, h3⟩
      · rintro ⟨h1, h2, h3⟩
        have : x ≠ a := fun e => h (e ▸ h3)
        exact ⟨by omega, by omega, h3⟩
theorem pagesF_up (f : Int → Bool) : ∀ (n : Nat) (a : Int), (pagesF f a n).Pairwise (· < ·) := by
  intro n
  induction n with
  | zero => intro a; exact List.Pairwise.nil
  | succ n ih =>
    intro a
    rw [pagesF]
    by_cases h : f a = true
    · rw [if_pos h]
      refine List.Pairwise.cons (fun x hx => ?_) (ih _)
      have := (pagesF_mem f n (a + 1) x).1 hx
      omega
    · rw [if_neg h]
      exact ih _
def rowsR : List RG → List Int
  | [] => []
  | r :: l => pagesF (fun _ => true) r.f0 (r.f1 + 1 - r.f0).toNat ++ rowsR l
theorem rows_pages : ∀ {l : List RG} {lo : Int} {n : Nat}, GoodF lo l → lo + n = 2001 → pagesF (has l) lo n = rowsR l := by
  intro l
  induction l with
  | nil =>
    intro lo n _ _
    rw [pagesF_none (fun p _ _ => has_nil p)]
    rfl
  | cons r l ih =>
    intro lo n h hn
    have h1 := h.1
    have h2 := h.2.1
    have h3 := h.2.2.1
    have hg := h.2.2.2
    obtain ⟨a, ha⟩ := Int.eq_ofNat_of_zero_le (show 0 ≤ r.f0 - lo by omega)
    obtain ⟨b, hb⟩ := Int.eq_ofNat_of_zero_le (show 0 ≤ r.f1 + 1 - r.f0 by omega)
    obtain ⟨c, hc⟩ := Int.eq_ofNat_of_zero_le (show 0 ≤ 2000 - r.f1 by omega)
    have e : n = a + (b + c) := by omega
    have e0 : lo + (a : Int) = r.f0 := by omega
    have z1 : pagesF (has (r :: l)) lo a = [] := pagesF_none (fun p p1 p2 => by rw [has_head h (by omega)]; exact decide_eq_false (by omega))
    have z2 : pagesF (has (r :: l)) r.f0 b = pagesF (fun _ => true) r.f0 b := pagesF_congr (fun p p1 p2 => by rw [has_head h (by omega)]; exact decide_eq_true (by omega))
    have z3 : pagesF (has (r :: l)) (r.f0 + b) c = pagesF (has l) (r.f0 + b) c := pagesF_congr (fun p p1 p2 => by rw [has_cons, decide_eq_false (by omega), Bool.false_or])
    rw [e, pagesF_add, pagesF_add, e0, z1, z2, z3, List.nil_append, rowsR, hb, Int.toNat_natCast]
    have e1 : r.f0 + (b : Int) = r.f1 + 1 := by omega
    rw [e1, ih (hg.mono (by omega)) (by omega)]
theorem pagesI_l0 (l : List RG) (xs : List Bool) (hx : Set1 xs) (mx : ∀ q : Nat, xs.getD q false = has l (q : Int)) : ∀ (n p : Nat) (acc : List Int), p + n = 2001 → acc.length ≤ p →
    Ev (fun k => impl_PagesOfRanges.l0 k xs acc (p : Int)) (acc ++ pagesF (has l) (p : Int) n, true) := by
  have hl := hx.len
  intro n
  induction n with
  | zero =>
    intro p acc hp ha
    rw [pagesF, List.append_nil]
    exact Ev_step (fun k => by rw [impl_PagesOfRanges.l0, if_neg (by omega)]) (Ev.now _)
  | succ n ih =>
    intro p acc hp ha
    rw [pagesF, show (p : Int) + 1 = ((p + 1 : Nat) : Int) by omega]
    by_cases h : has l (p : Int) = true
    · rw [if_pos h, ← List.singleton_append, ← List.append_assoc]
      refine Ev_step (fun k => ?_) (ih (p + 1) (acc ++ [(p : Int)]) (by omega) (w75_))
      rw [impl_PagesOfRanges.l0, if_pos (by omega), if_pos (by omega), if_pos (by omega), rdOf_nat, mx, if_pos h, if_pos (by omega), nextI p (by omega)]
    · rw [if_neg h]
      refine Ev_step (fun k => ?_) (ih (p + 1) acc (by omega) (by omega))
      rw [impl_PagesOfRanges.l0, if_pos (by omega), if_pos (by omega), if_pos (by omega), rdOf_nat, mx, if_neg h, nextI p (by omega)]
theorem pagesS_l1 (l : List RG) (hn : l.length ≤ 20) (i : Nat) (f0 f1 : Int) (h1 : f1 ≤ 2000) {r : List Int × Bool} : ∀ (n : Nat) (p : Int) (acc : List Int), p + n = f1 + 1 → 0 ≤ p → acc.length + n ≤ 1000000 →
    Ev (fun k => spec_PagesOfRanges.l0 k (acc ++ pagesF (fun _ => true) p n) l (l.length : Int) (wrap64 ((i : Int) + 1))) r → Ev (fun k => spec_PagesOfRanges.l1 k acc p l (l.length : Int) (i : Int) f0 f1) r := by
  intro n
  induction n with
  | zero =>
    intro p acc hp h0 ha b
    rw [pagesF, List.append_nil] at b
    exact Ev_step (fun k => by rw [spec_PagesOfRanges.l1, if_neg (by omega)]) b
  | succ n ih =>
    intro p acc hp h0 ha b
    rw [pagesF, if_pos rfl, ← List.singleton_append, ← List.append_assoc] at b
    refine Ev_step (fun k => ?_) (ih (p + 1) (acc ++ [p]) (by omega) (by omega) (w75_) b)
    rw [spec_PagesOfRanges.l1, if_pos (by omega), if_pos (by omega), w64 (by omega) (by omega)]
theorem pagesS_l0 (l : List RG) (hn : l.length ≤ 20) (hv : Valid l) : ∀ (n i : Nat) (acc : List Int), i + n = l.length → acc.length ≤ 2000 * i →
    Ev (fun k => spec_PagesOfRanges.l0 k acc l (l.length : Int) (i : Int)) (acc ++ rowsR (l.drop i), true) := by
  intro n
  induction n with
  | zero =>
    intro i acc hi ha
    rw [List.drop_of_length_le (by omega), rowsR, List.append_nil]
    exact Ev_step (fun k => by rw [spec_PagesOfRanges.l0, if_neg (by omega)]) (Ev.now _)
  | succ n ih =>
    intro i acc hi ha
    have h : i < l.length := by omega
    have hr := hv _ (List.getElem_mem h)
    have e := rdT_mem l i h
    rw [List.drop_eq_getElem_cons h, rowsR, ← List.append_assoc]
    obtain ⟨m, hm⟩ := Int.eq_ofNat_of_zero_le (show 0 ≤ l[i].f1 + 1 - l[i].f0 by omega)
    rw [hm, Int.toNat_natCast]
    have hlen : (pagesF (fun _ => true) l[i].f0 m).length ≤ 2000 := by
      rw [pagesF_len, cnt_all (fun _ _ _ => rfl)]
      omega
    have q := ih (i + 1) (acc ++ pagesF (fun _ => true) l[i].f0 m) (by omega) (by rw [List.length_append]; omega)
    rw [← nextI i (by omega)] at q
    have q2 := pagesS_l1 l hn i l[i].f0 l[i].f1 hr.2.2 m l[i].f0 acc (by omega) (by omega) (by omega) q
    refine Ev_step (fun k => ?_) q2
    rw [spec_PagesOfRanges.l0, if_pos (by omega), if_pos (by omega), if_pos (by omega), e]
theorem pages_sem (l : List RG) (hn : l.length ≤ 1048576) : Ev (fun k => impl_PagesOfRanges.f k l) (if areB l = true then (pagesF (has l) 0 2001, true) else ([], false)) ∧ Ev (fun k => spec_PagesOfRanges.f k l) (if areB l = true then (pagesF (has l) 0 2001, true) else ([], false)) := by
  obtain ⟨h1, h2⟩ := areR_ev l hn
  simp only [impl_PagesOfRanges.f, spec_PagesOfRanges.f]
  cases ha : areB l with
  | false =>
    rw [ha] at h1 h2
    rw [if_neg Bool.false_ne_true]
    exact ⟨Ev_bind h2 (Ev_neg Bool.false_ne_true (Ev.now _)), Ev_bind h1 (Ev_neg Bool.false_ne_true (Ev.now _))⟩
  | true =>
    rw [ha] at h1 h2
    rw [if_pos rfl]
    obtain ⟨hg, hl⟩ := areB_iff.1 ha
    obtain ⟨xs, b, _, hx, mx⟩ := marks_sem l hn (good_valid hg)
    have a := pagesI_l0 l xs hx mx 2001 0 [] (by omega) (Nat.le_refl _)
    have c := pagesS_l0 l hl (good_valid hg) l.length 0 [] (by omega) (Nat.le_refl _)
    rw [List.drop_zero, ← rows_pages (lo := 0) (n := 2001) (hg.mono (by omega)) (by omega)] at c
    rw [List.nil_append] at a c
    exact ⟨Ev_bind h2 (Ev_pos rfl (Ev_bind b a)), Ev_bind h1 (Ev_pos rfl c)⟩
end Go.Proofs.YtppbpefehpbejaaGreatDoor.P
end

section
namespace Go.Proofs.YtppbpefehpbejaaGreatDoor.P
open Go.RowKit Go.Proofs.YtppbpefehpbejaaGreatDoorW.PrintWords Go.Proofs.YtppbpefehpbejaaGreatDoorW.PrintLast Go.Proofs.YtppbpefehpbejaaGreatDoorW.PrintMore Go.Proofs.YtppbpefehpbejaaGreatDoor.Base Go.Proofs.YtppbpefehpbejaaGreatDoor.Runs
set_option linter.unusedVariables false

theorem set_mem {xs : List Bool} (hx : Set1 xs) {l : List Int} {i q : Nat} (h : i < l.length) (hq : l.getD i 0 = (q : Int)) (hq2 : q < 2001) (p : Nat) :
    ((xs.set q true).getD p false || decide ((p : Int) ∈ l.drop (i + 1))) = (xs.getD p false || decide ((p : Int) ∈ l.drop i)) := by
  have hl := hx.len
  have e : l[i] = (q : Int) := by rw [← hq, List.getD_eq_getElem?_getD, List.getElem?_eq_getElem h]; rfl
  rw [List.drop_eq_getElem_cons h, e]
  by_cases hp : p = q
  · subst hp
    rw [getD_set_self _ _ _ (by omega), decide_eq_true (show (p : Int) ∈ (p : Int) :: l.drop (i + 1) from List.mem_cons_self), Bool.or_true, Bool.true_or]
  · rw [getD_set_far _ _ _ _ (fun h => hp h.symm), show decide ((p : Int) ∈ (q : Int) :: l.drop (i + 1)) = decide ((p : Int) ∈ l.drop (i + 1)) from decide_eq_decide.2 (by rw [List.mem_cons]; exact ⟨fun h => h.resolve_left (by omega), Or.inr⟩)]
def good (l : List Int) (i : Nat) : Prop := (1 ≤ l.getD i 0 ∧ l.getD i 0 ≤ 2000) ∧ (0 < i → l.getD (i - 1) 0 < l.getD i 0)
theorem rop_l0 (l : List Int) (hn : l.length ≤ 1048576) : ∀ n i : Nat, i + n = l.length → ∃ b : Bool, Ev (fun k => spec_l1Rising.l0 k l 1 2000 l (l.length : Int) (i : Int)) b ∧ (b = true → ∀ j, i ≤ j → j < l.length → good l j) ∧
    (b = false → ∀ xs, Set1 xs → Ev (fun k => impl_RangesOfPages.l0 k l xs l (l.length : Int) (i : Int)) ([], false)) ∧
    (b = true → ∀ xs, Set1 xs → ∃ m : List RG, GoodF 1 m ∧ (∀ q : Nat, q ≤ 2000 → has m (q : Int) = (xs.getD q false || decide ((q : Int) ∈ l.drop i))) ∧ Ev (fun k => impl_RangesOfPages.l0 k l xs l (l.length : Int) (i : Int)) (few m) ∧ Ev (fun k => spec_RangesOfPages.l0 k (xs ++ [false]) l (l.length : Int) (i : Int)) (few m)) ∧
    (b = false → ∃ j, i ≤ j ∧ j < l.length ∧ ¬ good l j) := by
  intro n
  induction n with
  | zero =>
    intro i hi
    refine ⟨true, Ev_step (fun k => by rw [spec_l1Rising.l0, if_neg (by omega)]) (Ev.now _), fun _ j h1 h2 => absurd h2 (by omega), (fun h => by cases h), fun _ xs hx => ?_, (fun h => by cases h)⟩
    obtain ⟨m, hg, hq, a, b0⟩ := ranges_sem xs hx 1 (by omega)
    have b : Ev (fun k => spec_ixOf.f k (xs ++ [false])) (few m) := b0
    refine ⟨m, hg, fun q hq2 => by rw [hq q hq2, List.drop_of_length_le (by omega)]; simp, Ev_step (fun k => by rw [impl_RangesOfPages.l0, if_neg (by omega)]) (Ev_bind a (Ev.now _)), Ev_step (fun k => by rw [spec_RangesOfPages.l0, if_neg (by omega)]) (Ev_bind b (Ev.now _))⟩
  | succ n ih =>
    intro i hi
    obtain ⟨b, h1, h2, h3, h4, h5⟩ := ih (i + 1) (by omega)
    have h6 : b = false → ∃ j, i ≤ j ∧ j < l.length ∧ ¬ good l j := fun hb => by obtain ⟨j, x, y, z⟩ := h5 hb; exact ⟨j, by omega, y, z⟩
    have w1 : wrap64 ((i : Int) - 1) = (i : Int) - 1 := by rw [w64 (by omega) (by omega)]
    by_cases hg : 1 ≤ l.getD i 0 ∧ l.getD i 0 ≤ 2000
    · have hin : inB (l.getD i 0) 1 2000 = true := by unfold inB; exact decide_eq_true hg
      obtain ⟨q, hq⟩ := Int.eq_ofNat_of_zero_le (show 0 ≤ l.getD i 0 by omega)
      by_cases h0 : 0 < i
      · have e1 : ((i - 1 : Nat) : Int) = (i : Int) - 1 := by omega
        by_cases hlt : l.getD (i - 1) 0 < l.getD i 0
        · refine ⟨b, Ev_step (fun k => ?_) h1, fun hb j hj1 hj2 => ?_, fun hb xs hx => ?_, fun hb xs hx => ?_, h6⟩
          · rw [spec_l1Rising.l0, if_pos (by omega), if_pos (by omega), if_pos (by omega), l1In_eq, rd_nat, hin]
            simp only [Option.bind_some, if_true]
            rw [if_pos (by omega), w1, if_pos (by omega), if_pos (by omega), ← e1, rd_nat, if_neg (by omega), nextI i (by omega)]
          · by_cases e : j = i
            · subst e; exact ⟨hg, fun _ => hlt⟩
            · exact h2 hb j (by omega) hj2
          · refine Ev_step (fun k => ?_) (h3 hb (xs.set q true) (hx.put (by omega) true))
            have hl := hx.len
            rw [impl_RangesOfPages.l0, if_pos (by omega), if_pos (by omega), if_pos (by omega), isIx_eq, rd_nat, hin]
            simp only [Option.bind_some, if_true]
            rw [if_pos (by omega), w1, if_pos (by omega), if_pos (by omega), ← e1, rd_nat, if_neg (by omega), if_pos (by omega), if_pos (by omega), nextI i (by omega), hq, Int.toNat_natCast]
          · obtain ⟨m, g, mq, a, c⟩ := h4 hb (xs.set q true) (hx.put (by omega) true)
            have hl := hx.len
            refine ⟨m, g, fun q2 h' => by rw [mq q2 h', set_mem hx (by omega) hq (by omega)], Ev_step (fun k => ?_) a, Ev_step (fun k => ?_) c⟩
            · rw [impl_RangesOfPages.l0, if_pos (by omega), if_pos (by omega), if_pos (by omega), isIx_eq, rd_nat, hin]
              simp only [Option.bind_some, if_true]
              rw [if_pos (by omega), w1, if_pos (by omega), if_pos (by omega), ← e1, rd_nat, if_neg (by omega), if_pos (by omega), if_pos (by omega), nextI i (by omega), hq, Int.toNat_natCast]
            · rw [spec_RangesOfPages.l0, if_pos (by omega), if_pos (by omega), if_pos (by omega), rd_nat, if_pos (by omega), if_pos (w75_), nextI i (by omega), hq, Int.toNat_natCast, set_more _ _ _ _ (by omega)]
        · refine ⟨false, Ev_step (fun k => ?_) (Ev.now _), (fun hb => by cases hb), fun hb xs hx => Ev_step (fun k => ?_) (Ev.now _), (fun hb => by cases hb), fun _ => ⟨i, Nat.le_refl _, by omega, fun hgd => hlt (hgd.2 h0)⟩⟩
          · rw [spec_l1Rising.l0, if_pos (by omega), if_pos (by omega), if_pos (by omega), l1In_eq, rd_nat, hin]
            simp only [Option.bind_some, if_true]
            rw [if_pos (by omega), w1, if_pos (by omega), if_pos (by omega), ← e1, rd_nat, if_pos (by omega)]
          · rw [impl_RangesOfPages.l0, if_pos (by omega), if_pos (by omega), if_pos (by omega), isIx_eq, rd_nat, hin]
            simp only [Option.bind_some, if_true]
            rw [if_pos (by omega), w1, if_pos (by omega), if_pos (by omega), ← e1, rd_nat, if_pos (by omega)]
      · refine ⟨b, Ev_step (fun k => ?_) h1, fun hb j hj1 hj2 => ?_, fun hb xs hx => ?_, fun hb xs hx => ?_, h6⟩
        · rw [spec_l1Rising.l0, if_pos (by omega), if_pos (by omega), if_pos (by omega), l1In_eq, rd_nat, hin]
          simp only [Option.bind_some, if_true]
          rw [if_neg (by omega), nextI i (by omega)]
        · by_cases e : j = i
          · subst e; exact ⟨hg, fun h => absurd h h0⟩
          · exact h2 hb j (by omega) hj2
        · refine Ev_step (fun k => ?_) (h3 hb (xs.set q true) (hx.put (by omega) true))
          have hl := hx.len
          rw [impl_RangesOfPages.l0, if_pos (by omega), if_pos (by omega), if_pos (by omega), isIx_eq, rd_nat, hin]
          simp only [Option.bind_some, if_true]
          rw [if_neg (by omega), if_pos (by omega), if_pos (by omega), nextI i (by omega), hq, Int.toNat_natCast]
        · obtain ⟨m, g, mq, a, c⟩ := h4 hb (xs.set q true) (hx.put (by omega) true)
          have hl := hx.len
          refine ⟨m, g, fun q2 h' => by rw [mq q2 h', set_mem hx (by omega) hq (by omega)], Ev_step (fun k => ?_) a, Ev_step (fun k => ?_) c⟩
          · rw [impl_RangesOfPages.l0, if_pos (by omega), if_pos (by omega), if_pos (by omega), isIx_eq, rd_nat, hin]
            simp only [Option.bind_some, if_true]
            rw [if_neg (by omega), if_pos (by omega), if_pos (by omega), nextI i (by omega), hq, Int.toNat_natCast]
          · rw [spec_RangesOfPages.l0, if_pos (by omega), if_pos (by omega), if_pos (by omega), rd_nat, if_pos (by omega), if_pos (w75_), nextI i (by omega), hq, Int.toNat_natCast, set_more _ _ _ _ (by omega)]
    · have hin : inB (l.getD i 0) 1 2000 = false := by unfold inB; exact decide_eq_false hg
      refine ⟨false, Ev_step (fun k => ?_) (Ev.now _), (fun hb => by cases hb), fun hb xs hx => Ev_step (fun k => ?_) (Ev.now _), (fun hb => by cases hb), fun _ => ⟨i, Nat.le_refl _, by omega, fun hgd => hg hgd.1⟩⟩
      · rw [spec_l1Rising.l0, if_pos (by omega), if_pos (by omega), if_pos (by omega), l1In_eq, rd_nat, hin]
        rfl
      · rw [impl_RangesOfPages.l0, if_pos (by omega), if_pos (by omega), if_pos (by omega), isIx_eq, rd_nat, hin]
        rfl
theorem good_up (l : List Int) (h : ∀ j, j < l.length → good l j) : ∀ j, j < l.length → (j : Int) + 1 ≤ l.getD j 0 := by
  intro j
  induction j with
  | zero => intro hj; have := (h 0 hj).1; omega
  | succ j ih => intro hj; have := (h (j + 1) hj).2 (by omega); have := ih (by omega); rw [Nat.add_sub_cancel] at *; omega
theorem rop_sem (l : List Int) (hn : l.length ≤ 1048576) : ∃ r : List RG × Bool, Ev (fun k => spec_RangesOfPages.f k l) r ∧ Ev (fun k => impl_RangesOfPages.f k l) r ∧
    ((r = ([], false) ∧ ¬ ∀ j, j < l.length → good l j) ∨ ((∀ j, j < l.length → good l j) ∧ ∃ m, GoodF 1 m ∧ (∀ q : Nat, q ≤ 2000 → has m (q : Int) = decide ((q : Int) ∈ l)) ∧ r = few m)) := by
  obtain ⟨b, h1, h2, h3, h4, h5⟩ := rop_l0 l hn l.length 0 (by omega)
  have es : ∀ k, impl_RangesOfPages.f k l = impl_RangesOfPages.l0 k l (List.replicate 2001 false) l (l.length : Int) ((0 : Nat) : Int) := fun k => by rw [impl_RangesOfPages.f, if_pos (by omega)]; rfl
  have er : Ev (fun k => spec_l1Rising.f k l 1 2000) b := Ev.congr (fun k => by rw [spec_l1Rising.f]; rfl) h1
  cases b with
  | false =>
    refine ⟨([], false), ?_, Ev.congr es (h3 rfl _ Set1.empty), Or.inl ⟨rfl, fun h => ?_⟩⟩
    · simp only [spec_RangesOfPages.f]
      by_cases hl : (l.length : Int) > 2000
      · refine Ev_pos hl ?_
        refine Ev_step (fun k => by rw [spec_RangesOfPages.j0]) ?_
        exact Ev_pos rfl (Ev.now _)
      · refine Ev_neg hl (Ev_bind er ?_)
        refine Ev_step (fun k => by rw [spec_RangesOfPages.j0]) ?_
        exact Ev_pos rfl (Ev.now _)
    · obtain ⟨j, _, y, z⟩ := h5 rfl
      exact z (h j y)
  | true =>
    obtain ⟨m, hg, hq, a, c⟩ := h4 rfl _ Set1.empty
    refine ⟨few m, ?_, Ev.congr es a, Or.inr ⟨fun j hj => h2 rfl j (Nat.zero_le _) hj, m, hg, fun q hq2 => ?_, rfl⟩⟩
    · have hl : ¬ (l.length : Int) > 2000 := by
        intro h
        have := good_up l (fun j hj => h2 rfl j (Nat.zero_le _) hj) 2000 (by omega)
        have := (h2 rfl 2000 (Nat.zero_le _) (by omega)).1
        omega
      simp only [spec_RangesOfPages.f]
      refine Ev_neg hl (Ev_bind er ?_)
      refine Ev_step (fun k => by rw [spec_RangesOfPages.j0]) ?_
      refine Ev_neg Bool.false_ne_true (Ev_pos (by omega) ?_)
      exact Ev.congr (fun k => by rw [show List.replicate 2002 false = List.replicate 2001 false ++ [false] from List.replicate_succ']; rfl) c
    · rw [hq q hq2, rep_none, Bool.false_or, List.drop_zero]
end Go.Proofs.YtppbpefehpbejaaGreatDoor.P
end

section
namespace Go.Proofs.YtppbpefehpbejaaGreatDoor.P
open Go.RowKit Go.Proofs.YtppbpefehpbejaaGreatDoorW.PrintWords Go.Proofs.YtppbpefehpbejaaGreatDoorW.PrintLast Go.Proofs.YtppbpefehpbejaaGreatDoorW.PrintMore Go.Proofs.YtppbpefehpbejaaGreatDoor.Base Go.Proofs.YtppbpefehpbejaaGreatDoor.Runs
set_option linter.unusedVariables false

theorem fRanges_l0 (a : List RG) (hn : a.length ≤ 1048576) : ∀ n i : Nat, i + n = a.length → Ev (fun k => laws_fRanges.l0 k a a (a.length : Int) (i : Int)) true := by
  intro n
  induction n with
  | zero =>
    intro i hi
    exact Ev_step (fun k => by rw [laws_fRanges.l0, if_neg (by omega)]) (Ev.now _)
  | succ n ih =>
    intro i hi
    refine Ev_step (fun k => ?_) (ih (i + 1) (by omega))
    rw [laws_fRanges.l0, if_pos (by omega), if_pos (by omega), if_pos (by omega), if_pos (by omega), if_neg (by simp), nextI i (by omega)]
theorem fRanges_ev (a : List RG) (hn : a.length ≤ 1048576) : Ev (fun k => laws_fRanges.f k a a) true := by
  simp only [laws_fRanges.f]
  exact Ev_pos trivial (fRanges_l0 a hn a.length 0 (Nat.zero_add _))
theorem fRises_l0 (l : List Int) (hn : l.length ≤ 1048576) (hp : l.Pairwise (· < ·)) : ∀ n i : Nat, i + n = l.length → 1 ≤ i → Ev (fun k => laws_fRises.l0 k l (i : Int)) true := by
  intro n
  induction n with
  | zero =>
    intro i hi h1
    exact Ev_step (fun k => by rw [laws_fRises.l0, if_neg (by omega)]) (Ev.now _)
  | succ n ih =>
    intro i hi h1
    have h : i < l.length := by omega
    have w : wrap64 ((i : Int) - 1) = ((i - 1 : Nat) : Int) := by rw [w64 (by omega) (by omega)]; omega
    have hlt := List.pairwise_iff_getElem.1 hp (i - 1) i (by omega) h (by omega)
    have e1 : rd l ((i - 1 : Nat) : Int) = l[i - 1] := by rw [rd_nat, List.getD_eq_getElem?_getD, List.getElem?_eq_getElem]; rfl
    have e2 : rd l (i : Int) = l[i] := by rw [rd_nat, List.getD_eq_getElem?_getD, List.getElem?_eq_getElem h]; rfl
    refine Ev_step (fun k => ?_) (ih (i + 1) (by omega) (by omega))
    rw [laws_fRises.l0, if_pos (by omega), w, if_pos (by omega), if_pos (by omega), if_pos (by omega), e1, e2, if_neg (by omega), nextI i (by omega)]
theorem fRises_ev (l : List Int) (hn : l.length ≤ 1048576) (hp : l.Pairwise (· < ·)) : Ev (fun k => laws_fRises.f k l) true := by
  cases hl : l.length with
  | zero =>
    refine Ev.congr (fun k => by rw [laws_fRises.f]) (Ev_step (fun k => ?_) (Ev.now _))
    rw [laws_fRises.l0, if_neg (by omega)]
  | succ m => exact Ev.congr (fun k => by rw [laws_fRises.f]; rfl) (fRises_l0 l hn hp m 1 (by omega) (Nat.le_refl _))
theorem up_one : ∀ {l m : List Int}, l.Pairwise (· < ·) → m.Pairwise (· < ·) → (∀ x, x ∈ l ↔ x ∈ m) → l = m := by
  intro l
  induction l with
  | nil =>
    intro m _ _ h
    cases m with
    | nil => rfl
    | cons y m => exact absurd ((h y).2 List.mem_cons_self) List.not_mem_nil
  | cons x l ih =>
    intro m hl hm h
    cases m with
    | nil => exact absurd ((h x).1 List.mem_cons_self) List.not_mem_nil
    | cons y m =>
      obtain ⟨hx, hl2⟩ := List.pairwise_cons.1 hl
      obtain ⟨hy, hm2⟩ := List.pairwise_cons.1 hm
      have e : x = y := by
        rcases List.mem_cons.1 ((h x).1 List.mem_cons_self) with e | e
        · exact e
        · rcases List.mem_cons.1 ((h y).2 List.mem_cons_self) with e2 | e2
          · exact e2.symm
          · have := hx y e2
            have := hy x e
            omega
      subst e
      have e2 : l = m := by
        refine ih hl2 hm2 fun z => ⟨fun hz => ?_, fun hz => ?_⟩
        · rcases List.mem_cons.1 ((h z).1 (List.mem_cons_of_mem _ hz)) with e | e
          · have := hx z hz
            omega
          · exact e
        · rcases List.mem_cons.1 ((h z).2 (List.mem_cons_of_mem _ hz)) with e | e
          · have := hy z hz
            omega
          · exact e
      rw [e2]
end Go.Proofs.YtppbpefehpbejaaGreatDoor.P
end

section
namespace Go.Proofs.YtppbpefehpbejaaGreatDoor.P
open Go.RowKit Go.Proofs.YtppbpefehpbejaaGreatDoorW.PrintWords Go.Proofs.YtppbpefehpbejaaGreatDoorW.PrintLast Go.Proofs.YtppbpefehpbejaaGreatDoorW.PrintMore Go.Proofs.YtppbpefehpbejaaGreatDoor.Base Go.Proofs.YtppbpefehpbejaaGreatDoor.Runs
set_option linter.unusedVariables false

theorem few_in {r : List RG} (h : r.length ≤ 20) : few r = (r, true) := by unfold few; rw [if_neg (by omega)]
theorem few_true {r m : List RG} (h : few r = (m, true)) : m = r ∧ r.length ≤ 20 := by
  unfold few at h
  by_cases hl : (r.length : Int) > 20
  · rw [if_pos hl] at h
    cases (Prod.mk.inj h).2
  · rw [if_neg hl] at h
    exact ⟨(Prod.mk.inj h).1.symm, by omega⟩
theorem last_ev (s : ByteArray) (l : List RG) (b : Bool) (hp : Pr s (l, b)) : Ev (fun k => if b = true then ((impl_RangesText.f k l).bind fun bt622 => (if bt622.2 = true then (some (bt622.1.toList == s.toList)) else (some false))) else (some true)) true := by
  rcases hp with ⟨m, hm, e, h⟩ | ⟨_, h⟩
  · obtain ⟨rfl, rfl⟩ := Prod.mk.inj h
    have t := (text_sem l (by have := (areB_iff.1 hm).2; omega)).1
    rw [if_pos hm] at t
    refine Ev_pos rfl (Ev_bind t (Ev_pos rfl ?_))
    rw [e, beq_self_eq_true]
    exact Ev.now _
  · obtain ⟨rfl, rfl⟩ := Prod.mk.inj h
    exact Ev_neg Bool.false_ne_true (Ev.now _)
theorem j8_ev (g : List RG) (hg : g.length ≤ 1000) (s : ByteArray) (l : List RG) (b : Bool) (hp : Pr s (l, b)) :
    Ev (fun k => laws_FnIndexesMerge.j8 k g (if areB g = true then pagesF (has g) 0 2001 else []) (areB g) (if areB g = true then rt g else ⟨#[]⟩) (if areB g = true then size g else 0) s l b) true := by
  cases ha : areB g with
  | false =>
    rw [if_neg Bool.false_ne_true, if_neg Bool.false_ne_true, if_neg Bool.false_ne_true]
    exact Ev_step (fun k => by rw [laws_FnIndexesMerge.j8]) (Ev_neg Bool.false_ne_true (last_ev s l b hp))
  | true =>
    rw [if_pos rfl, if_pos rfl, if_pos rfl]
    obtain ⟨hgo, hgl⟩ := areB_iff.1 ha
    have hlen : ((pagesF (has g) 0 2001).length : Int) = size g := by
      rw [pagesF_len, size_cnt (hgo.mono (by omega)) (show (0 : Int) + (2001 : Nat) = 2001 by omega)]
    have hle : (pagesF (has g) 0 2001).length ≤ 2001 := by
      have := cnt_le (f := has g) (g := fun _ => true) (n := 2001) (a := 0) (fun _ _ _ _ => rfl)
      rw [pagesF_len, cnt_all (fun _ _ _ => rfl)] at *
      omega
    have hbd : ∀ x, has g x = true → 1 ≤ x ∧ x ≤ 2000 := fun x hx => by
      refine ⟨?_, ?_⟩
      · rcases Int.lt_or_le x 1 with h | h
        · rw [has_below hgo h] at hx; cases hx
        · exact h
      · rcases Int.lt_or_le 2000 x with h | h
        · rw [has_above hgo h] at hx; cases hx
        · exact h
    have hup := pagesF_up (has g) 2001 0
    have hgd : ∀ j, j < (pagesF (has g) 0 2001).length → good (pagesF (has g) 0 2001) j := fun j hj => by
      have gd : ∀ i (h : i < (pagesF (has g) 0 2001).length), (pagesF (has g) 0 2001).getD i 0 = (pagesF (has g) 0 2001)[i] := fun i h => by rw [List.getD_eq_getElem?_getD, List.getElem?_eq_getElem h]; rfl
      refine ⟨?_, fun h0 => ?_⟩
      · rw [gd j hj]
        exact hbd _ ((pagesF_mem _ _ _ _).1 (List.getElem_mem hj)).2.2
      · rw [gd j hj, gd (j - 1) (by omega)]
        exact List.pairwise_iff_getElem.1 hup (j - 1) j (by omega) hj (by omega)
    obtain ⟨r, _, e1, hr⟩ := rop_sem (pagesF (has g) 0 2001) (by omega)
    have er : r = (g, true) := by
      rcases hr with ⟨_, hno⟩ | ⟨_, m, hm, hq, rfl⟩
      · exact absurd hgd hno
      · have : m = g := good_one hm hgo fun p => by
          by_cases h1 : p < 1
          · rw [has_below hm h1, has_below hgo h1]
          · by_cases h2 : 2000 < p
            · rw [has_above hm h2, has_above hgo h2]
            · obtain ⟨q, rfl⟩ := Int.eq_ofNat_of_zero_le (show 0 ≤ p by omega)
              rw [hq q (by omega)]
              cases hh : has g (q : Int) with
              | true => exact decide_eq_true ((pagesF_mem _ _ _ _).2 ⟨by omega, by omega, hh⟩)
              | false => exact decide_eq_false fun h => by rw [((pagesF_mem _ _ _ _).1 h).2.2] at hh; cases hh
        rw [this, few_in hgl]
    rw [er] at e1
    have hz := (rt_ev g (by omega) (areB_valid ha)).1
    obtain ⟨r2, e2, _, hr2⟩ := parse_ev (rt g) (by omega)
    have er2 : r2 = (g, true) := by
      rcases hr2 with ⟨m, hm, he, rfl⟩ | ⟨hno, _⟩
      · rw [rt_one hm ha he]
      · exact absurd rfl (hno g ha)
    rw [er2] at e2
    have hf := fRanges_ev g (by omega)
    refine Ev_step (fun k => by rw [laws_FnIndexesMerge.j8]) (Ev_pos rfl (Ev_bind e1 (Ev_bind e2 (Ev_pos hlen (Ev_bind (fRises_ev _ (by omega) hup) (Ev_pos rfl (Ev_pos rfl (Ev_bind hf (Ev_pos rfl (Ev_pos rfl (Ev_bind hf ?_))))))))))) 
    exact Ev_step (fun k => by rw [laws_FnIndexesMerge.j9, if_neg (by decide)]) (last_ev s l b hp)
theorem j7_ev (pg : List Int) (hpg : pg.length ≤ 1000) (g : List RG) (hg : g.length ≤ 1000) (s : ByteArray) (l : List RG) (b : Bool) (hp : Pr s (l, b)) {x : List RG} {y : Bool} (hxy : (x, y) = ([], false) ∨ ((∀ j, j < pg.length → good pg j) ∧ ∃ m, GoodF 1 m ∧ (∀ q : Nat, q ≤ 2000 → has m (q : Int) = decide ((q : Int) ∈ pg)) ∧ (x, y) = few m)) :
    Ev (fun k => laws_FnIndexesMerge.j7 k pg x y g (if areB g = true then pagesF (has g) 0 2001 else []) (areB g) (if areB g = true then rt g else ⟨#[]⟩) (if areB g = true then size g else 0) s l b) true := by
  have nx := j8_ev g hg s l b hp
  rcases hxy with h | ⟨hgd, m, hm, hq, h⟩
  · obtain ⟨rfl, rfl⟩ := Prod.mk.inj h
    exact Ev_step (fun k => by rw [laws_FnIndexesMerge.j7]) (Ev_neg Bool.false_ne_true nx)
  · cases y with
    | false => exact Ev_step (fun k => by rw [laws_FnIndexesMerge.j7]) (Ev_neg Bool.false_ne_true nx)
    | true =>
      obtain ⟨rfl, hl⟩ := few_true h.symm
      have hb : areB x = true := areB_iff.2 ⟨hm, hl⟩
      have hps := (pages_sem x (by omega)).1
      rw [if_pos hb] at hps
      have hup : pg.Pairwise (· < ·) := by
        have step : ∀ j i, i < j → (hj : j < pg.length) → pg.getD i 0 < pg.getD j 0 := by
          intro j
          induction j with
          | zero => intro i hi; omega
          | succ j ih =>
            intro i hi hj
            have h1 := (hgd (j + 1) hj).2 (by omega)
            rw [Nat.add_sub_cancel] at h1
            by_cases e : i = j
            · rw [e]; exact h1
            · have := ih i (by omega) (by omega)
              omega
        refine List.pairwise_iff_getElem.2 fun i j hi hj hij => ?_
        have := step j i hij hj
        rw [List.getD_eq_getElem?_getD, List.getD_eq_getElem?_getD, List.getElem?_eq_getElem hi, List.getElem?_eq_getElem hj] at this
        exact this
      have e : pagesF (has x) 0 2001 = pg := up_one (pagesF_up _ _ _) hup fun z => by
        rw [pagesF_mem]
        constructor
        · rintro ⟨h1, h2, h3⟩
          obtain ⟨q, rfl⟩ := Int.eq_ofNat_of_zero_le h1
          rw [hq q (by omega)] at h3
          exact of_decide_eq_true h3
        · intro hz
          obtain ⟨j, hj, e⟩ := List.mem_iff_getElem.1 hz
          have h1 := (hgd j hj).1
          rw [List.getD_eq_getElem?_getD, List.getElem?_eq_getElem hj] at h1
          have h2 : 1 ≤ z ∧ z ≤ 2000 := by rw [← e]; exact h1
          obtain ⟨q, rfl⟩ := Int.eq_ofNat_of_zero_le (show 0 ≤ z by omega)
          exact ⟨by omega, by omega, by rw [hq q (by omega)]; exact decide_eq_true hz⟩
      rw [e] at hps
      exact Ev_step (fun k => by rw [laws_FnIndexesMerge.j7]) (Ev_pos rfl (Ev_bind hps (Ev_pos rfl (Ev_bind (fSame_ev pg (by omega)) (Ev_pos rfl nx)))))
theorem l2_ev {lst m : List RG} (hl : lst.length ≤ 1000) (hm : areB m = true) {p : Nat} (hp1 : 1 ≤ p) (hp2 : p ≤ 60) {pg A : List Int} {x g l : List RG} {y B b : Bool} {C s : ByteArray} {D : Int}
    (nx : Ev (fun k => laws_FnIndexesMerge.l1 k lst m pg x y g A B C D s l b ((p + 1 : Nat) : Int)) true) : ∀ (n i : Nat) (acc : Bool), i + n = lst.length → (acc || has (lst.drop i) (p : Int)) = has m (p : Int) →
    Ev (fun k => laws_FnIndexesMerge.l2 k lst m pg x y g A B C D s l b (p : Int) acc lst (lst.length : Int) (i : Int)) true := by
  intro n
  induction n with
  | zero =>
    intro i acc hi he
    rw [List.drop_of_length_le (by omega), has_nil, Bool.or_false] at he
    refine Ev_step (fun k => by rw [laws_FnIndexesMerge.l2, if_neg (by omega)]) (Ev_bind (has_sem m hm (p : Int) (by omega) (by omega)) (Ev_pos rfl (Ev_neg ?_ ?_)))
    · show ¬ (has m (p : Int) != acc) = true
      rw [he]
      simp
    · rw [nextI p (by omega)]
      exact nx
  | succ n ih =>
    intro i acc hi he
    have h : i < lst.length := by omega
    rw [List.drop_eq_getElem_cons h, has_cons] at he
    have e := rdT_mem lst i h
    refine Ev_step (fun k => by rw [laws_FnIndexesMerge.l2, if_pos (by omega), if_pos (by omega), if_pos (by omega), e, nextI i (by omega)]) ?_
    cases acc with
    | true => exact Ev_pos rfl (ih (i + 1) true (by omega) (by rw [Bool.true_or] at he ⊢; exact he))
    | false =>
      rw [Bool.false_or] at he
      refine Ev_neg Bool.false_ne_true ?_
      by_cases h1 : lst[i].f0 ≤ (p : Int)
      · refine Ev_pos h1 (ih (i + 1) _ (by omega) ?_)
        rw [← he]
        congr 1
        exact decide_eq_decide.2 ⟨fun h => ⟨h1, h⟩, fun h => h.2⟩
      · refine Ev_neg h1 (ih (i + 1) false (by omega) ?_)
        rw [← he, decide_eq_false (fun h => h1 h.1)]
theorem l1_ev {lst m : List RG} (hl : lst.length ≤ 1000) (hm : areB m = true) (hq : ∀ p : Int, 1 ≤ p → p ≤ 2000 → has m p = has lst p) {pg A : List Int} {x g l : List RG} {y B b : Bool} {C s : ByteArray} {D : Int}
    (nx : Ev (fun k => laws_FnIndexesMerge.j7 k pg x y g A B C D s l b) true) : ∀ n p : Nat, p + n = 61 → 1 ≤ p → Ev (fun k => laws_FnIndexesMerge.l1 k lst m pg x y g A B C D s l b (p : Int)) true := by
  intro n
  induction n with
  | zero =>
    intro p hp h1
    exact Ev_step (fun k => by rw [laws_FnIndexesMerge.l1, if_neg (by omega)]) nx
  | succ n ih =>
    intro p hp h1
    refine Ev_step (fun k => by rw [laws_FnIndexesMerge.l1, if_pos (by omega)]) ?_
    exact l2_ev hl hm h1 (by omega) (ih (p + 1) (by omega) (by omega)) lst.length 0 false (Nat.zero_add _) (by rw [List.drop_zero, Bool.false_or, hq (p : Int) (by omega) (by omega)])
theorem j4_ev {lst : List RG} (hl : lst.length ≤ 1000) {mg : List RG} {ok : Bool} (hmg : (mg, ok) = ([], false) ∨ ∃ m, GoodF 1 m ∧ (∀ p, 1 ≤ p → p ≤ 2000 → has m p = has lst p) ∧ (mg, ok) = few m) {pg A : List Int} {x g l : List RG} {y B b : Bool} {C s : ByteArray} {D : Int}
    (nx : Ev (fun k => laws_FnIndexesMerge.j7 k pg x y g A B C D s l b) true) : Ev (fun k => laws_FnIndexesMerge.j4 k lst mg ok pg x y g A B C D s l b false) true := by
  refine Ev_step (fun k => by rw [laws_FnIndexesMerge.j4]) (Ev_neg Bool.false_ne_true ?_)
  rcases hmg with h | ⟨m, hm, hq, h⟩
  · obtain ⟨rfl, rfl⟩ := Prod.mk.inj h
    exact Ev_neg Bool.false_ne_true nx
  · cases ok with
    | false => exact Ev_neg Bool.false_ne_true nx
    | true =>
      obtain ⟨rfl, h20⟩ := few_true h.symm
      have hb : areB mg = true := areB_iff.2 ⟨hm, h20⟩
      have ha := (areR_ev mg (by omega)).2
      rw [hb] at ha
      exact Ev_pos rfl (Ev_bind ha (Ev_pos rfl (l1_ev hl hb hq nx 60 1 (by omega) (Nat.le_refl _))))
end Go.Proofs.YtppbpefehpbejaaGreatDoor.P
end

section
namespace Go.Proofs.YtppbpefehpbejaaGreatDoor.P
open Go.RowKit Go.Proofs.YtppbpefehpbejaaGreatDoorW.PrintWords Go.Proofs.YtppbpefehpbejaaGreatDoorW.PrintLast Go.Proofs.YtppbpefehpbejaaGreatDoorW.PrintMore Go.Proofs.YtppbpefehpbejaaGreatDoor.Base
set_option linter.unusedVariables false

def Bytes (c : List Int) : Prop := ∀ x ∈ c, 0 ≤ x ∧ x ≤ 255
theorem Bytes.of {c : List Int} (h : ∀ x ∈ c, (Lit.int .u8 x).wf = true) : Bytes c := fun x hx => bounds_u8 (h x hx)
theorem Bytes.at {c : List Int} (h : Bytes c) (i : Int) : 0 ≤ rd c i ∧ rd c i ≤ 255 := by
  unfold rd
  rw [List.getD_eq_getElem?_getD]
  cases e : c[i.toNat]? with
  | none => exact ⟨by decide, by decide⟩
  | some x => exact h x (List.mem_of_getElem? e)
theorem wrap_u64 (n : Int) : IntKind.u64.wrap n = n % 18446744073709551616 := by simp [IntKind.wrap, IntKind.bits, IntKind.signed]
theorem low8 (n : Int) : 0 ≤ wrap64 (Go.bits .and .u64 (IntKind.u64.wrap n / 1099511627776) 255) ∧ wrap64 (Go.bits .and .u64 (IntKind.u64.wrap n / 1099511627776) 255) ≤ 255 := by
  have hn := wrap_u64 n
  have e : Go.bits .and .u64 (IntKind.u64.wrap n / 1099511627776) 255 = (IntKind.u64.wrap n / 1099511627776) % 256 :=
    Go.bits_mask .u64 24 (by decide) (fun m h0 h1 => by rw [wrap_u64]; omega) 8 (by decide) _ (by omega) (by rw [hn]; omega)
  rw [e, w64 (by omega) (by omega)]
  omega
theorem next_ok {c : List Int} (hc : Bytes c) {a : Int} (s : Int) (h0 : 0 ≤ a) (h1 : a ≤ 1000000) :
    ∃ x s', spec_l1Cur_next.f c a s = some (x, a + 1, s') ∧ 0 ≤ x ∧ x ≤ 255 := by
  have hr := hc.at a
  have w1 : wrap64 (a + 1) = a + 1 := w64 (by omega) (by omega)
  have w2 : wrap64 (rd c a) = rd c a := w64 (by omega) (by omega)
  rw [spec_l1Cur_next.f, w1, w2]
  by_cases h : a < (c.length : Int)
  · rw [if_pos h, if_pos h0]
    by_cases h2 : a + 1 ≤ (c.length : Int)
    · rw [if_pos h2]
      exact ⟨_, _, rfl, hr.1, hr.2⟩
    · rw [if_neg h2]
      exact ⟨_, _, rfl, (low8 _).1, (low8 _).2⟩
  · rw [if_neg h]
    by_cases h2 : a + 1 ≤ (c.length : Int)
    · rw [if_pos h2]
      exact ⟨_, _, rfl, by decide, by decide⟩
    · rw [if_neg h2]
      exact ⟨_, _, rfl, (low8 _).1, (low8 _).2⟩
theorem pick_ok {c : List Int} (hc : Bytes c) {a : Int} (s n : Int) (h0 : 0 ≤ a) (h1 : a ≤ 999990) (hn : n ≤ 1000000) :
    ∃ x a' s', spec_l1Cur_pick.f c a s n = some (x, a', s') ∧ 0 ≤ x ∧ (x < n ∨ x = 0) ∧ a ≤ a' ∧ a' ≤ a + 2 := by
  rw [spec_l1Cur_pick.f]
  by_cases hs : n ≤ 1
  · rw [if_pos hs]
    exact ⟨0, a, s, rfl, by decide, .inr rfl, by omega, by omega⟩
  · rw [if_neg hs]
    obtain ⟨x, s1, e1, hx0, hx1⟩ := next_ok hc s h0 (by omega)
    simp only [e1, Option.bind_some]
    by_cases hb : n > 200
    · rw [if_pos hb]
      obtain ⟨y, s2, e2, hy0, hy1⟩ := next_ok hc (a := a + 1) s1 (by omega) (by omega)
      simp only [e2, Option.bind_some]
      rw [if_neg (by omega), w64 (x := x * 256) (by omega) (by omega), w64 (x := x * 256 + y) (by omega) (by omega), Int.tmod_eq_emod_of_nonneg (by omega)]
      exact ⟨_, _, _, rfl, Int.emod_nonneg _ (by omega), .inl (Int.emod_lt_of_pos _ (by omega)), by omega, by omega⟩
    · rw [if_neg hb, if_neg (by omega), Int.tmod_eq_emod_of_nonneg (by omega)]
      exact ⟨_, _, _, rfl, Int.emod_nonneg _ (by omega), .inl (Int.emod_lt_of_pos _ (by omega)), by omega, by omega⟩
theorem one_ok {c : List Int} (hc : Bytes c) {a : Int} (s n : Int) (h0 : 0 ≤ a) (h1 : a ≤ 999990) (hn : n ≤ 1000000) :
    ∃ b a' s', spec_l1Cur_one.f c a s n = some (b, a', s') ∧ a ≤ a' ∧ a' ≤ a + 2 := by
  obtain ⟨x, a', s', e, _, _, h2, h3⟩ := pick_ok hc s n h0 h1 hn
  refine ⟨x == 0, a', s', ?_, h2, h3⟩
  rw [spec_l1Cur_one.f, e]
  rfl
end Go.Proofs.YtppbpefehpbejaaGreatDoor.P
end

section
namespace Go.Proofs.YtppbpefehpbejaaGreatDoor.P
open Go.RowKit Go.Proofs.YtppbpefehpbejaaGreatDoorW.PrintWords Go.Proofs.YtppbpefehpbejaaGreatDoorW.PrintLast Go.Proofs.YtppbpefehpbejaaGreatDoorW.PrintMore Go.Proofs.YtppbpefehpbejaaGreatDoor.Base
set_option linter.unusedVariables false

theorem among_ok {c : List Int} (hc : Bytes c) {a : Int} (s : Int) (l : List Int) (h0 : 0 ≤ a) (h1 : a ≤ 999990) (hl : 1 ≤ l.length ∧ l.length ≤ 1000) :
    ∃ x a' s', spec_l1Cur_among.f c a s l = some (x, a', s') ∧ x ∈ l ∧ a ≤ a' ∧ a' ≤ a + 2 := by
  obtain ⟨x, a', s', e, g0, g1, g2, g3⟩ := pick_ok hc s (l.length : Int) h0 h1 (by omega)
  have hx : x < (l.length : Int) := by omega
  refine ⟨rd l x, a', s', ?_, ?_, g2, g3⟩
  · rw [spec_l1Cur_among.f, e]
    simp only [Option.bind_some]
    rw [if_pos g0, if_pos hx]
  · unfold rd
    rw [List.getD_eq_getElem?_getD, List.getElem?_eq_getElem (by omega)]
    exact List.getElem_mem _
end Go.Proofs.YtppbpefehpbejaaGreatDoor.P
end

section
namespace Go.Proofs.YtppbpefehpbejaaGreatDoor.P
open Go.RowKit Go.Proofs.YtppbpefehpbejaaGreatDoorW.PrintWords Go.Proofs.YtppbpefehpbejaaGreatDoorW.PrintLast Go.Proofs.YtppbpefehpbejaaGreatDoorW.PrintMore Go.Proofs.YtppbpefehpbejaaGreatDoor.Base
set_option linter.unusedVariables false

theorem one_size (b : Int) : (strOfNums [b]).size = 1 := rfl
theorem spoilt_j1 {c : List Int} {w t : ByteArray} {n : Nat} {a s j a1 s1 a2 s2 q a3 s3 : Int} {i : Nat} {r : ByteArray × Int × Int} (hn : n ≤ 2) (hz : (t.size : Int) > 0) (ht : t.size ≤ 500000) (hi : i < t.size)
    (e1 : spec_l1Cur_pick.f c a s (t.size : Int) = some ((i : Int), a1, s1)) (e2 : spec_l1Cur_pick.f c a1 s1 (w.size : Int) = some (j, a2, s2)) (e3 : spec_l1Cur_pick.f c a2 s2 3 = some (q, a3, s3)) (j0 : 0 ≤ j) (j1 : j < (w.size : Int))
    (h : ∃ u : ByteArray, (q = 0 ∧ u = ((t.extract 0 i) ++ (strOfNums [bt w j])) ++ (t.extract i t.size) ∨ q = 1 ∧ u = ((t.extract 0 i) ++ (strOfNums [bt w j])) ++ (t.extract (i + 1) t.size) ∨ q ≠ 0 ∧ q ≠ 1 ∧ u = (t.extract 0 i) ++ (t.extract (i + 1) t.size)) ∧ Ev (fun k => spec_l1Cur_spoilt.l0 k u w (n : Int) c a3 s3) r) :
    Ev (fun k => spec_l1Cur_spoilt.j1 k t w ((n + 1 : Nat) : Int) true c a s) r := by
  have w1 : wrap64 ((i : Int) + 1) = ((i + 1 : Nat) : Int) := by rw [w64 (by omega) (by omega)]; omega
  have w2 : wrap64 (((n + 1 : Nat) : Int) - 1) = (n : Int) := by rw [w64 (by omega) (by omega)]; omega
  have z1 : (t.extract 0 i).size = i := by rw [ByteArray.size_extract]; omega
  have z2 : (t.extract i t.size).size = t.size - i := by rw [ByteArray.size_extract]; omega
  have z3 : (t.extract (i + 1) t.size).size = t.size - (i + 1) := by rw [ByteArray.size_extract]; omega
  have z4 := one_size (bt w j)
  have b1 : (t.extract 0 i).size + (strOfNums [bt w j]).size ≤ 9223372036854775807 := by rw [z1, z4]; omega
  have b2 : ((t.extract 0 i) ++ (strOfNums [bt w j])).size + (t.extract i t.size).size ≤ 9223372036854775807 := by rw [ByteArray.size_append, z1, z4, z2]; omega
  have b3 : ((t.extract 0 i) ++ (strOfNums [bt w j])).size + (t.extract (i + 1) t.size).size ≤ 9223372036854775807 := by rw [ByteArray.size_append, z1, z4, z3]; omega
  have b4 : (t.extract 0 i).size + (t.extract (i + 1) t.size).size ≤ 9223372036854775807 := by rw [z1, z3]; omega
  have p0 : 0 ≤ (i : Int) := by omega
  have p1 : (i : Int) ≤ (t.size : Int) := by omega
  have p2 : 0 ≤ ((i + 1 : Nat) : Int) := by omega
  have p3 : ((i + 1 : Nat) : Int) ≤ (t.size : Int) := by omega
  clear z1 z2 z3 z4 hi ht hz hn
  refine Ev_step (fun k => by rw [spec_l1Cur_spoilt.j1, if_pos rfl, e1]) ?_
  simp only [Option.bind_some, e2, if_pos j0, if_pos j1, e3, w1, w2, Int.toNat_natCast]
  clear e1 e2 e3 w1 w2
  obtain ⟨u, hu, hev⟩ := h
  rcases hu with ⟨h0, rfl⟩ | ⟨h1, rfl⟩ | ⟨h0, h1, rfl⟩
  · simp only [if_pos h0, if_pos p0, if_pos p1, if_pos b1, if_pos b2]
    exact hev
  · have h0 : ¬ q = 0 := by omega
    simp only [if_neg h0, if_pos h1, if_pos p0, if_pos p1, if_pos p2, if_pos p3, if_pos b1, if_pos b3]
    exact hev
  · simp only [if_neg h0, if_neg h1, if_pos p0, if_pos p1, if_pos p2, if_pos p3, if_pos b4]
    exact hev
theorem spoilt_l0 {c : List Int} (hc : Bytes c) (w : ByteArray) (hw : 1 ≤ w.size ∧ w.size ≤ 200) : ∀ (n : Nat) (t : ByteArray) (a s : Int), n ≤ 2 → 0 ≤ a → a + 6 * n ≤ 999900 → t.size + n ≤ 500000 →
    ∃ t' a' s', Ev (fun k => spec_l1Cur_spoilt.l0 k t w (n : Int) c a s) (t', a', s') ∧ t'.size ≤ t.size + n ∧ a ≤ a' ∧ a' ≤ a + 6 * n := by
  intro n
  induction n with
  | zero =>
    intro t a s hn h0 h1 ht
    refine ⟨t, a, s, Ev_step (fun k => by rw [spec_l1Cur_spoilt.l0, if_neg (by omega)]) (Ev_step (fun k => by rw [spec_l1Cur_spoilt.j1]) (Ev_neg (by decide) (Ev.now _))), by omega, by omega, by omega⟩
  | succ n ih =>
    intro t a s hn h0 h1 ht
    have hp : ((n + 1 : Nat) : Int) > 0 := by omega
    by_cases hz : (t.size : Int) > 0
    · obtain ⟨i, a1, s1, e1, i0, i1, g1, g2⟩ := pick_ok hc s (t.size : Int) h0 (by omega) (by omega)
      obtain ⟨j, a2, s2, e2, j0, j1, g3, g4⟩ := pick_ok hc (a := a1) s1 (w.size : Int) (by omega) (by omega) (by omega)
      obtain ⟨q, a3, s3, e3, q0, q1, g5, g6⟩ := pick_ok hc (a := a2) s2 3 (by omega) (by omega) (by omega)
      obtain ⟨i, rfl⟩ := Int.eq_ofNat_of_zero_le i0
      have hi : i < t.size := by omega
      have z1 : (t.extract 0 i).size = i := by rw [ByteArray.size_extract]; omega
      have z2 : (t.extract i t.size).size = t.size - i := by rw [ByteArray.size_extract]; omega
      have z3 : (t.extract (i + 1) t.size).size = t.size - (i + 1) := by rw [ByteArray.size_extract]; omega
      have z4 := one_size (bt w j)
      have hu : ∃ u : ByteArray, u.size ≤ t.size + 1 ∧ (q = 0 ∧ u = ((t.extract 0 i) ++ (strOfNums [bt w j])) ++ (t.extract i t.size) ∨ q = 1 ∧ u = ((t.extract 0 i) ++ (strOfNums [bt w j])) ++ (t.extract (i + 1) t.size) ∨ q ≠ 0 ∧ q ≠ 1 ∧ u = (t.extract 0 i) ++ (t.extract (i + 1) t.size)) := by
        by_cases h0q : q = 0
        · exact ⟨_, by rw [ByteArray.size_append, ByteArray.size_append, z1, z2, z4]; omega, .inl ⟨h0q, rfl⟩⟩
        · by_cases h1q : q = 1
          · exact ⟨_, by rw [ByteArray.size_append, ByteArray.size_append, z1, z3, z4]; omega, .inr (.inl ⟨h1q, rfl⟩)⟩
          · exact ⟨_, by rw [ByteArray.size_append, z1, z3]; omega, .inr (.inr ⟨h0q, h1q, rfl⟩)⟩
      obtain ⟨u, hus, hq⟩ := hu
      obtain ⟨t', a', s', e, r1, r2, r3⟩ := ih u a3 s3 (by omega) (by omega) (by omega) (by omega)
      refine ⟨t', a', s', ?_, by omega, by omega, by omega⟩
      have := spoilt_j1 (by omega) hz (by omega) hi e1 e2 e3 j0 (by omega) ⟨u, hq, e⟩
      exact Ev_step (fun k => by rw [spec_l1Cur_spoilt.l0, if_pos hp, decide_eq_true hz]) this
    · refine ⟨t, a, s, Ev_step (fun k => by rw [spec_l1Cur_spoilt.l0, if_pos hp, decide_eq_false hz]) (Ev_step (fun k => by rw [spec_l1Cur_spoilt.j1]) (Ev_neg (by decide) (Ev.now _))), by omega, by omega, by omega⟩
theorem spoilt_ok {c : List Int} (hc : Bytes c) {a : Int} (s : Int) (t w : ByteArray) (h0 : 0 ≤ a) (h1 : a ≤ 999800) (hw : 1 ≤ w.size ∧ w.size ≤ 200) (ht : t.size ≤ 400000) :
    ∃ t' a' s', Ev (fun k => spec_l1Cur_spoilt.f k c a s t w) (t', a', s') ∧ t'.size ≤ t.size + 2 ∧ a ≤ a' ∧ a' ≤ a + 14 := by
  obtain ⟨x, a1, s1, e1, x0, x1, g1, g2⟩ := pick_ok hc s 2 h0 (by omega) (by omega)
  obtain ⟨x, rfl⟩ := Int.eq_ofNat_of_zero_le x0
  obtain ⟨t', a', s', e, r1, r2, r3⟩ := spoilt_l0 hc w hw (x + 1) t a1 s1 (by omega) (by omega) (by omega) (by omega)
  refine ⟨t', a', s', ?_, by omega, by omega, by omega⟩
  have w1 : wrap64 (1 + (x : Int)) = ((x + 1 : Nat) : Int) := by rw [w64 (by omega) (by omega)]; omega
  simp only [spec_l1Cur_spoilt.f, e1, Option.bind_some, w1]
  exact e
end Go.Proofs.YtppbpefehpbejaaGreatDoor.P
end

section
namespace Go.Proofs.YtppbpefehpbejaaGreatDoor.P
open Go.RowKit Go.Proofs.YtppbpefehpbejaaGreatDoorW.PrintWords Go.Proofs.YtppbpefehpbejaaGreatDoorW.PrintLast Go.Proofs.YtppbpefehpbejaaGreatDoorW.PrintMore Go.Proofs.YtppbpefehpbejaaGreatDoor.Base Go.Proofs.YtppbpefehpbejaaGreatDoor.Runs
set_option linter.unusedVariables false

theorem sure_l0 {c : List Int} (hc : Bytes c) : ∀ (n : Nat) (acc : List RG) (x : Int) (a s : Int), n ≤ 5 → GoodF 1 acc → (∀ r ∈ acc, r.f1 + 1 ≤ x) → 0 ≤ x → x + 30 * n ≤ 1800 → acc.length + n ≤ 5 → 0 ≤ a → a + 10 * n ≤ 999900 →
    ∃ l a' s', Ev (fun k => spec_l1Cur_sureRanges.l0 k acc x (n : Int) c a s) (l, a', s') ∧ GoodF 1 l ∧ l.length ≤ 5 ∧ a ≤ a' ∧ a' ≤ a + 10 * n := by
  intro n
  induction n with
  | zero =>
    intro acc x a s hn hg hp hx0 hx hl ha ha2
    exact ⟨acc, a, s, Ev_step (fun k => by rw [spec_l1Cur_sureRanges.l0, if_neg (by omega)]) (Ev.now _), hg, by omega, by omega, by omega⟩
  | succ n ih =>
    intro acc x a s hn hg hp hx0 hx hl ha ha2
    obtain ⟨v, a1, s1, e1, g0, g1, g2, g3⟩ := pick_ok hc s 8 ha (by omega) (by omega)
    obtain ⟨w, a2, s2, e2, hw, g4, g5⟩ := among_ok (a := a1) hc s1 [0, 0, 1, 2, 5, 12] (by omega) (by omega) (by decide)
    have hw2 : 0 ≤ w ∧ w ≤ 12 := by
      simp only [List.mem_cons, List.not_mem_nil, or_false] at hw
      omega
    have w1 : wrap64 (1 + v) = 1 + v := w64 (by omega) (by omega)
    have w2 : wrap64 (x + (1 + v)) = x + (1 + v) := w64 (by omega) (by omega)
    have w3 : wrap64 (x + (1 + v) + w) = x + (1 + v) + w := w64 (by omega) (by omega)
    have w4 : wrap64 (x + (1 + v) + w + 1) = x + (1 + v) + w + 1 := w64 (by omega) (by omega)
    have w5 : wrap64 (((n + 1 : Nat) : Int) - 1) = (n : Int) := by rw [w64 (by omega) (by omega)]; omega
    have hg2 : GoodF 1 (acc ++ [⟨x + (1 + v), x + (1 + v) + w⟩]) := good_snoc hg (fun r hr => by have := hp r hr; show r.f1 + 2 ≤ x + (1 + v); omega) (by show 1 ≤ x + (1 + v); omega) (by show x + (1 + v) ≤ x + (1 + v) + w; omega) (by show x + (1 + v) + w ≤ 2000; omega)
    obtain ⟨l, a', s', e3, gl, ll, b1, b2⟩ := ih (acc ++ [⟨x + (1 + v), x + (1 + v) + w⟩]) (x + (1 + v) + w + 1) a2 s2 (by omega) hg2 (fun r hr => by
      rcases List.mem_append.1 hr with h | h
      · have := hp r h
        omega
      · rw [List.mem_singleton.1 h]
        exact Int.le_refl _) (by omega) (by omega) (w75_) (by omega) (by omega)
    refine ⟨l, a', s', Ev_step (fun k => ?_) e3, gl, ll, by omega, by omega⟩
    rw [spec_l1Cur_sureRanges.l0, if_pos (by omega), e1, Option.bind_some, e2, Option.bind_some, if_pos (by omega), w1, w2, w3, w4, w5]
theorem sure_ok {c : List Int} (hc : Bytes c) {a : Int} (s : Int) (h0 : 0 ≤ a) (h1 : a ≤ 900000) :
    ∃ l a' s', Ev (fun k => spec_l1Cur_sureRanges.f k c a s) (l, a', s') ∧ GoodF 1 l ∧ l.length ≤ 5 ∧ a ≤ a' ∧ a' ≤ a + 100 := by
  obtain ⟨w, a2, s2, e2, hw, g4, g5⟩ := among_ok hc s [0, 0, 8, 95, 118, 995] h0 (by omega) (by decide)
  have hw2 : 0 ≤ w ∧ w ≤ 995 := by
    simp only [List.mem_cons, List.not_mem_nil, or_false] at hw
    omega
  obtain ⟨v, a1, s1, e1, g0, g1, g2, g3⟩ := pick_ok (a := a2) hc s2 6 (by omega) (by omega) (by omega)
  obtain ⟨n, rfl⟩ := Int.eq_ofNat_of_zero_le g0
  obtain ⟨l, a', s', e3, gl, ll, b1, b2⟩ := sure_l0 hc n [] w a1 s1 (by omega) trivial (fun r hr => by cases hr) (by omega) (by omega) (by simp; omega) (by omega) (by omega)
  refine ⟨l, a', s', ?_, gl, ll, by omega, by omega⟩
  refine Ev.congr (fun k => ?_) e3
  rw [spec_l1Cur_sureRanges.f, e2, Option.bind_some, e1, Option.bind_some]
theorem ranges_ok {c : List Int} (hc : Bytes c) {a : Int} (s : Int) (h0 : 0 ≤ a) (h1 : a ≤ 900000) :
    ∃ l a' s', Ev (fun k => spec_l1Cur_ranges.f k c a s) (l, a', s') ∧ l.length ≤ 6 ∧ a ≤ a' ∧ a' ≤ a + 200 := by
  obtain ⟨l, a1, s1, e1, hg, hl, g1, g2⟩ := sure_ok hc s h0 h1
  by_cases hn : (l.length : Int) = 0
  · refine ⟨l, a1, s1, ?_, by omega, by omega, by omega⟩
    simp only [spec_l1Cur_ranges.f]
    exact Ev_bind e1 (Ev_pos hn (Ev.now _))
  · obtain ⟨v, a2, s2, e2, v0, v1, g3, g4⟩ := pick_ok (a := a1) hc s1 16 (by omega) (by omega) (by omega)
    have w1 : wrap64 ((l.length : Int) - 1) = ((l.length - 1 : Nat) : Int) := by rw [w64 (by omega) (by omega)]; omega
    by_cases hv0 : v = 0
    · obtain ⟨w, a3, s3, e3, hw, g5, g6⟩ := among_ok (a := a2) hc s2 [0, (-1), 2000, 2001, 4611686018427387904] (by omega) (by omega) (by decide)
      refine ⟨l.set (0 : Int).toNat ⟨w, (rd_T69 l 0).f1⟩, a3, s3, ?_, by rw [List.length_set]; omega, by omega, by omega⟩
      simp only [spec_l1Cur_ranges.f]
      refine Ev_bind e1 (Ev_neg hn ?_)
      simp only [e2, Option.bind_some]
      refine Ev_pos hv0 ?_
      simp only [e3, Option.bind_some]
      exact Ev_pos (by omega) (Ev.now _)
    · by_cases hv1 : v = 1
      · obtain ⟨w, a3, s3, e3, hw, g5, g6⟩ := among_ok (a := a2) hc s2 [0, 2000, 2001, (-1), 4611686018427387904] (by omega) (by omega) (by decide)
        refine ⟨l.set (((l.length - 1 : Nat) : Int)).toNat ⟨(rd_T69 l ((l.length - 1 : Nat) : Int)).f0, w⟩, a3, s3, ?_, by rw [List.length_set]; omega, by omega, by omega⟩
        simp only [spec_l1Cur_ranges.f]
        refine Ev_bind e1 (Ev_neg hn ?_)
        simp only [e2, Option.bind_some]
        refine Ev_neg hv0 (Ev_pos hv1 ?_)
        simp only [e3, Option.bind_some, w1]
        exact Ev_pos (by omega) (Ev_pos (by omega) (Ev.now _))
      · by_cases hv2 : v = 2
        · refine ⟨l ++ [⟨wrap64 ((rd_T69 l ((l.length - 1 : Nat) : Int)).f1 + 1), wrap64 ((rd_T69 l ((l.length - 1 : Nat) : Int)).f1 + 3)⟩], a2, s2, ?_, w75_, by omega, by omega⟩
          simp only [spec_l1Cur_ranges.f]
          refine Ev_bind e1 (Ev_neg hn ?_)
          simp only [e2, Option.bind_some]
          refine Ev_neg hv0 (Ev_neg hv1 (Ev_pos hv2 ?_))
          simp only [w1]
          exact Ev_pos (by omega) (Ev_pos (by omega) (Ev_pos (by omega) (Ev.now _)))
        · refine ⟨l, a2, s2, ?_, by omega, by omega, by omega⟩
          simp only [spec_l1Cur_ranges.f]
          refine Ev_bind e1 (Ev_neg hn ?_)
          simp only [e2, Option.bind_some]
          exact Ev_neg hv0 (Ev_neg hv1 (Ev_neg hv2 (Ev.now _)))
theorem drawUnion_ok {c : List Int} (hc : Bytes c) : ∃ a b : List RG, Ev (fun k => spec_DrawUnionRanges.f k c) (a, b) ∧ a.length ≤ 6 ∧ b.length ≤ 6 := by
  obtain ⟨a, a1, s1, e1, h1, g1, g2⟩ := ranges_ok hc (a := 0) 0 (by omega) (by omega)
  obtain ⟨b, a2, s2, e2, h2, _, _⟩ := ranges_ok hc (a := a1) s1 (by omega) (by omega)
  refine ⟨a, b, ?_, h1, h2⟩
  simp only [spec_DrawUnionRanges.f]
  exact Ev_bind e1 (Ev_bind e2 (Ev.now _))
theorem drawPages_ok {c : List Int} (hc : Bytes c) : ∃ a : List RG, Ev (fun k => spec_DrawPagesOfRanges.f k c) a ∧ a.length ≤ 6 := by
  obtain ⟨a, a1, s1, e1, h1, _, _⟩ := ranges_ok hc (a := 0) 0 (by omega) (by omega)
  refine ⟨a, ?_, h1⟩
  simp only [spec_DrawPagesOfRanges.f, spec_DrawAreRanges.f]
  exact Ev_bind (Ev_bind e1 (Ev.now _)) (Ev.now _)
theorem drawParse_ok {c : List Int} (hc : Bytes c) : ∃ t : ByteArray, Ev (fun k => spec_DrawParseRanges.f k c) t ∧ t.size ≤ 200 := by
  obtain ⟨l, a1, s1, e1, hg, hl, g1, g2⟩ := sure_ok hc (a := 0) 0 (by omega) (by omega)
  obtain ⟨hz, e2, _⟩ := rt_ev l (by omega) (good_valid hg)
  obtain ⟨b, a2, s2, e3, g3, g4⟩ := one_ok (a := a1) hc s1 3 (by omega) (by omega) (by omega)
  have e9 : (⟨#[57]⟩ : ByteArray).size = 1 := rfl
  by_cases hb : b = true
  · obtain ⟨t, a3, s3, e4, hz2, _, _⟩ := spoilt_ok (a := a2) hc s2 (rt l ++ (⟨#[57]⟩ : ByteArray)) (⟨#[48, 49, 50, 51, 45, 44, 120]⟩ : ByteArray) (by omega) (by omega) ⟨by decide, by decide⟩ (w82_)
    rw [ByteArray.size_append] at hz2
    refine ⟨t, ?_, by omega⟩
    simp only [spec_DrawParseRanges.f]
    refine Ev_bind e1 (Ev_bind e2 ?_)
    simp only [e3, Option.bind_some]
    exact Ev_pos hb (Ev_pos (by omega) (Ev_bind e4 (Ev.now _)))
  · refine ⟨rt l, ?_, by omega⟩
    simp only [spec_DrawParseRanges.f]
    refine Ev_bind e1 (Ev_bind e2 ?_)
    simp only [e3, Option.bind_some]
    exact Ev_neg hb (Ev.now _)
end Go.Proofs.YtppbpefehpbejaaGreatDoor.P
end

section
namespace Go.Proofs.YtppbpefehpbejaaGreatDoor.P
open Go.RowKit Go.Proofs.YtppbpefehpbejaaGreatDoorW.PrintWords Go.Proofs.YtppbpefehpbejaaGreatDoorW.PrintLast Go.Proofs.YtppbpefehpbejaaGreatDoorW.PrintMore Go.Proofs.YtppbpefehpbejaaGreatDoor.Base Go.Proofs.YtppbpefehpbejaaGreatDoor.Runs
set_option linter.unusedVariables false

theorem mergeD_l0 {c : List Int} (hc : Bytes c) : ∀ (n : Nat) (acc : List RG) (a s : Int), n ≤ 20 → acc.length + n ≤ 20 → 0 ≤ a → a + 10 * n ≤ 999900 →
    ∃ l, Ev (fun k => spec_DrawMergeRanges.l0 k acc (n : Int) c a s) l ∧ l.length ≤ 21 := by
  intro n
  induction n with
  | zero =>
    intro acc a s hn hl ha ha2
    obtain ⟨b, a1, s1, e1, g1, g2⟩ := one_ok hc s 12 ha (by omega) (by omega)
    by_cases hb : b = true
    · obtain ⟨w, a2, s2, e2, hw, g4, g5⟩ := among_ok (a := a1) hc s1 [0, 5, 9] (by omega) (by omega) (by decide)
      refine ⟨acc ++ [⟨w, 3⟩], Ev_step (fun k => ?_) (Ev.now _), w75_⟩
      rw [spec_DrawMergeRanges.l0, if_neg (by omega), e1, Option.bind_some, if_pos hb, e2, Option.bind_some, if_pos (by omega)]
    · refine ⟨acc, Ev_step (fun k => ?_) (Ev.now _), by omega⟩
      rw [spec_DrawMergeRanges.l0, if_neg (by omega), e1, Option.bind_some, if_neg hb]
  | succ n ih =>
    intro acc a s hn hl ha ha2
    obtain ⟨v, a1, s1, e1, v0, v1, g1, g2⟩ := pick_ok hc s 40 ha (by omega) (by omega)
    obtain ⟨w, a2, s2, e2, w0, w1, g3, g4⟩ := pick_ok (a := a1) hc s1 6 (by omega) (by omega) (by omega)
    have w5 : wrap64 (((n + 1 : Nat) : Int) - 1) = (n : Int) := by rw [w64 (by omega) (by omega)]; omega
    obtain ⟨l, e3, hl3⟩ := ih (acc ++ [⟨wrap64 (1 + v), wrap64 (wrap64 (1 + v) + w)⟩]) a2 s2 (by omega) (w75_) (by omega) (by omega)
    refine ⟨l, Ev_step (fun k => ?_) e3, hl3⟩
    rw [spec_DrawMergeRanges.l0, if_pos (by omega), e1, Option.bind_some, e2, Option.bind_some, if_pos (by omega), w5]
theorem drawMerge_ok {c : List Int} (hc : Bytes c) : ∃ l : List RG, Ev (fun k => spec_DrawMergeRanges.f k c) l ∧ l.length ≤ 21 := by
  obtain ⟨v, a1, s1, e1, v0, v1, g1, g2⟩ := pick_ok hc (a := 0) 0 8 (by omega) (by omega) (by omega)
  obtain ⟨n, rfl⟩ := Int.eq_ofNat_of_zero_le v0
  obtain ⟨l, e3, hl⟩ := mergeD_l0 hc n [] a1 s1 (by omega) (by simp; omega) (by omega) (by omega)
  refine ⟨l, Ev.congr (fun k => ?_) e3, hl⟩
  rw [spec_DrawMergeRanges.f, e1, Option.bind_some]
theorem ropD_l0 {c : List Int} (hc : Bytes c) : ∀ (n : Nat) (acc : List Int) (x a s : Int), n ≤ 20 → acc.length + n ≤ 20 → 0 ≤ a → a + 10 * n ≤ 999900 →
    ∃ l, Ev (fun k => spec_DrawRangesOfPages.l0 k acc x (n : Int) c a s) l ∧ l.length ≤ 21 := by
  intro n
  induction n with
  | zero =>
    intro acc x a s hn hl ha ha2
    obtain ⟨b, a1, s1, e1, g1, g2⟩ := one_ok hc s 12 ha (by omega) (by omega)
    by_cases hb : b = true
    · obtain ⟨w, a2, s2, e2, hw, g4, g5⟩ := among_ok (a := a1) hc s1 [0, 1, 2000, 2001] (by omega) (by omega) (by decide)
      refine ⟨acc ++ [w], Ev_step (fun k => ?_) (Ev.now _), w75_⟩
      rw [spec_DrawRangesOfPages.l0, if_neg (by omega), e1, Option.bind_some, if_pos hb, e2, Option.bind_some, if_pos (by omega)]
    · refine ⟨acc, Ev_step (fun k => ?_) (Ev.now _), by omega⟩
      rw [spec_DrawRangesOfPages.l0, if_neg (by omega), e1, Option.bind_some, if_neg hb]
  | succ n ih =>
    intro acc x a s hn hl ha ha2
    obtain ⟨w, a2, s2, e2, hw, g4, g5⟩ := among_ok (a := a) hc s [1, 1, 1, 2, 3, 7] (by omega) (by omega) (by decide)
    have w5 : wrap64 (((n + 1 : Nat) : Int) - 1) = (n : Int) := by rw [w64 (by omega) (by omega)]; omega
    obtain ⟨l, e3, hl3⟩ := ih (acc ++ [wrap64 (x + w)]) (wrap64 (x + w)) a2 s2 (by omega) (w75_) (by omega) (by omega)
    refine ⟨l, Ev_step (fun k => ?_) e3, hl3⟩
    rw [spec_DrawRangesOfPages.l0, if_pos (by omega), e2, Option.bind_some, if_pos (by omega), w5]
theorem drawRop_ok {c : List Int} (hc : Bytes c) : ∃ l : List Int, Ev (fun k => spec_DrawRangesOfPages.f k c) l ∧ l.length ≤ 21 := by
  obtain ⟨v, a1, s1, e1, v0, v1, g1, g2⟩ := pick_ok hc (a := 0) 0 12 (by omega) (by omega) (by omega)
  obtain ⟨n, rfl⟩ := Int.eq_ofNat_of_zero_le v0
  obtain ⟨l, e3, hl⟩ := ropD_l0 hc n [] 0 a1 s1 (by omega) (by simp; omega) (by omega) (by omega)
  refine ⟨l, Ev.congr (fun k => ?_) e3, hl⟩
  rw [spec_DrawRangesOfPages.f, e1, Option.bind_some]
end Go.Proofs.YtppbpefehpbejaaGreatDoor.P
end

section
namespace Go.Proofs.YtppbpefehpbejaaGreatDoor.P
open Go.RowKit Go.Proofs.YtppbpefehpbejaaGreatDoorW.PrintWords Go.Proofs.YtppbpefehpbejaaGreatDoorW.PrintLast Go.Proofs.YtppbpefehpbejaaGreatDoorW.PrintMore Go.Proofs.YtppbpefehpbejaaGreatDoor.Base Go.Proofs.YtppbpefehpbejaaGreatDoor.Runs
set_option linter.unusedVariables false

theorem few_len (r : List RG) : (few r).1.length ≤ 20 := by
  unfold few
  by_cases h : (r.length : Int) > 20
  · rw [if_pos h]; exact Nat.zero_le _
  · rw [if_neg h]; show r.length ≤ 20; omega
theorem j3_ev {c : List Int} (hc : Bytes c) : Ev (fun k => laws_FnIndexesMerge.j3 k c) true := by
  obtain ⟨lst, d1, hl1⟩ := drawMerge_ok hc
  obtain ⟨⟨mg, ok⟩, m2, m1, hm⟩ := merge_sem lst (by omega)
  obtain ⟨pg, d2, hl2⟩ := drawRop_ok hc
  obtain ⟨⟨x, y⟩, r2, r1, hr⟩ := rop_sem pg (by omega)
  obtain ⟨g, d3, hl3⟩ := drawPages_ok hc
  obtain ⟨p1, p2⟩ := pages_sem g (by omega)
  obtain ⟨t1, t2⟩ := text_sem g (by omega)
  obtain ⟨c1, c2⟩ := count_sem g (by omega)
  obtain ⟨s, d4, hs⟩ := drawParse_ok hc
  obtain ⟨⟨l, b⟩, q1, q2, hp⟩ := parse_ev s (by omega)
  obtain ⟨a2, a1⟩ := areR_ev g (by omega)
  have ep : (if areB g = true then (pagesF (has g) 0 2001, true) else ([], false)) = ((if areB g = true then pagesF (has g) 0 2001 else [], areB g) : List Int × Bool) := by cases areB g <;> rfl
  have et : (if areB g = true then (rt g, true) else (⟨#[]⟩, false)) = ((if areB g = true then rt g else ⟨#[]⟩, areB g) : ByteArray × Bool) := by cases areB g <;> rfl
  have ec : (if areB g = true then (size g, true) else (0, false)) = ((if areB g = true then size g else 0, areB g) : Int × Bool) := by cases areB g <;> rfl
  rw [ep] at p1 p2
  rw [et] at t1 t2
  rw [ec] at c1 c2
  have hmg : mg.length ≤ 20 := by
    rcases hm with h | ⟨m, _, _, h⟩
    · rw [(Prod.mk.inj h).1]; exact Nat.zero_le _
    · have := few_len m; rw [← h] at this; exact this
  have hx : x.length ≤ 20 := by
    rcases hr with ⟨h, _⟩ | ⟨_, m, _, _, h⟩
    · rw [(Prod.mk.inj h).1]; exact Nat.zero_le _
    · have := few_len m; rw [← h] at this; exact this
  have hle : (if areB g = true then pagesF (has g) 0 2001 else []).length ≤ 2001 := by
    split
    · have := cnt_le (f := has g) (g := fun _ => true) (n := 2001) (a := 0) (fun _ _ _ _ => rfl)
      rw [cnt_all (fun _ _ _ => rfl)] at this
      rw [pagesF_len]
      exact this
    · exact Nat.zero_le _
  have hll : l.length ≤ 20 := by
    rcases hp with ⟨m, hm, _, h⟩ | ⟨_, h⟩
    · rw [(Prod.mk.inj h).1]; exact (areB_iff.1 hm).2
    · rw [(Prod.mk.inj h).1]; exact Nat.zero_le _
  have nx := j4_ev (lst := lst) (by omega) hm (j7_ev pg (by omega) g (by omega) s l b hp (x := x) (y := y) (by rcases hr with ⟨h, _⟩ | h; exact Or.inl h; exact Or.inr h))
  have a3 : Ev (fun k => spec_AreRanges.f k g) (areB g) := by
    simp only [spec_AreRanges.f]
    exact Ev_bind a2 (Ev.now _)
  refine Ev_step (fun k => by rw [laws_FnIndexesMerge.j3]) ?_
  refine Ev_bind d1 (Ev_bind m1 (Ev_bind m2 (Ev_bind d2 (Ev_bind r1 (Ev_bind r2 (Ev_bind d3 (Ev_bind p1 (Ev_bind p2 (Ev_bind t1 (Ev_bind t2 (Ev_bind c1 (Ev_bind c2 (Ev_bind d4 (Ev_bind q1 (Ev_bind q2 ?_)))))))))))))))
  refine Ev_neg (bne_self _) (Ev_bind (fRanges_ev mg (by omega)) (Ev_pos rfl (Ev_neg (bne_self _) (Ev_bind (fRanges_ev x (by omega)) (Ev_pos rfl (Ev_neg (bne_self _) (Ev_bind (fSame_ev _ (show _ ≤ 1048576 from Nat.le_trans hle (by decide))) (Ev_pos rfl (Ev_neg (bne_self _) (Ev_pos rfl (Ev_neg (bne_self _) (Ev_pos rfl (Ev_neg (bne_self _) (Ev_bind (fRanges_ev l (by omega)) (Ev_pos rfl (Ev_bind a1 (Ev_neg (bne_self _) (Ev_bind a1 (Ev_bind a3 (Ev_neg (bne_self _) (Ev_neg (bne_self _) ?_)))))))))))))))))))))
  refine Ev.congr (fun k => ?_) nx
  rw [show (areB g != areB g) = false by simp]
end Go.Proofs.YtppbpefehpbejaaGreatDoor.P
end

section
set_option linter.unusedVariables false
namespace Go.Proofs.YtppbpefehpbejaaGreatDoor.Pure
open Go.RowKit Go.Proofs.YtppbpefehpbejaaGreatDoorW.PrintWords Go.Proofs.YtppbpefehpbejaaGreatDoorW.PrintLast Go.Proofs.YtppbpefehpbejaaGreatDoorW.PrintMore Go.Proofs.YtppbpefehpbejaaGreatDoor.P Go.Proofs.YtppbpefehpbejaaGreatDoor.Base Go.Proofs.YtppbpefehpbejaaGreatDoor.Runs

theorem both_in (kind : Int) (op : Bool → Bool → Bool) (hs : StepOK kind op) (h0 : op false false = false) {a b : List RG} (ha : areB a = true) (hb : areB b = true) (hf : ∀ r, GoodF 1 r → (∀ p, has r p = op (has a p) (has b p)) → r.length ≤ 20) :
    ∃ r : List RG, areB r = true ∧ (∀ p, has r p = op (has a p) (has b p)) ∧ Ev (fun k => spec_ixBoth.f k a b kind) (r, true) ∧ Ev (fun k => impl_combined.f op k a b) (r, true) := by
  obtain ⟨r, hg, hp, e1, e2⟩ := bothS_yes kind op hs h0 a b ha hb
  have hl := hf r hg hp
  rw [few_in hl] at e1 e2
  exact ⟨r, areB_iff.2 ⟨hg, hl⟩, hp, e1, e2⟩
theorem l0_ev {c : List Int} (hc : Bytes c) {a b u m w : List RG} (ha : areB a = true) (hb : areB b = true) (hu : areB u = true) (hm : areB m = true) (hw : areB w = true)
    (pu : ∀ p, has u p = (has a p || has b p)) (pm : ∀ p, has m p = (has a p && has b p)) (pw : ∀ p, has w p = (has a p && !has b p)) : ∀ n p : Nat, p + n = 161 → 1 ≤ p → Ev (fun k => laws_FnIndexesMerge.l0 k c a b u m w (p : Int)) true := by
  intro n
  induction n with
  | zero =>
    intro p hp h1
    exact Ev_step (fun k => by rw [laws_FnIndexesMerge.l0, if_neg (by omega)]) (j3_ev hc)
  | succ n ih =>
    intro p hp h1
    have nx := ih (p + 1) (by omega) (by omega)
    rw [← nextI p (by omega)] at nx
    have hs : ∀ {l : List RG}, areB l = true → Ev (fun k => impl_HasIndexed.f k l (p : Int)) (has l (p : Int), true) := fun h => has_sem _ h (p : Int) (by omega) (by omega)
    refine Ev_step (fun k => by rw [laws_FnIndexesMerge.l0, if_pos (by omega)]) ?_
    refine Ev_bind (hs ha) (Ev_bind (hs hb) (Ev_bind (hs hu) (Ev_bind (hs hm) (Ev_bind (hs hw) (Ev_pos rfl (Ev_pos rfl (Ev_pos rfl (Ev_pos rfl (Ev_pos rfl ?_)))))))))
    simp only [pu, pm, pw]
    cases has a (p : Int) <;> cases has b (p : Int) <;> simpa using nx
theorem size_le {l : List RG} (h : areB l = true) : 0 ≤ size l ∧ size l ≤ 2000 := by
  have hg := (areB_iff.1 h).1
  have e := size_cnt hg (show (1 : Int) + (2000 : Nat) = 2001 by omega)
  have c := cnt_le (f := has l) (g := fun _ => true) (n := 2000) (a := 1) (fun _ _ _ _ => rfl)
  rw [cnt_all (fun _ _ _ => rfl)] at c
  omega
theorem size_two {a b c d : List RG} (ha : areB a = true) (hb : areB b = true) (hc : areB c = true) (hd : areB d = true)
    (e : ∀ p, (if has a p = true then 1 else 0) + (if has b p = true then 1 else 0) = (if has c p = true then (1 : Nat) else 0) + (if has d p = true then 1 else 0)) : size a + size b = size c + size d := by
  have s : ∀ {l : List RG}, areB l = true → size l = (cnt (has l) 1 2000 : Int) := fun h => size_cnt (areB_iff.1 h).1 (show (1 : Int) + (2000 : Nat) = 2001 by omega)
  have := cnt_two _ _ _ _ e 2000 1
  rw [s ha, s hb, s hc, s hd]
  omega
theorem same_of {a b : List RG} (ha : areB a = true) (hb : areB b = true) (e : ∀ p, has a p = has b p) : a = b := good_one (areB_iff.1 ha).1 (areB_iff.1 hb).1 e
theorem are_ev {l : List RG} (h : areB l = true) : Ev (fun k => impl_AreRanges.f k l) true := by
  have := (areR_ev l (by have := (areB_iff.1 h).2; omega)).2
  rw [h] at this
  exact this
theorem cnt_ev {l : List RG} (h : areB l = true) : Ev (fun k => impl_CountIndexed.f k l) (size l, true) := by
  have := (count_sem l (by have := (areB_iff.1 h).2; omega)).1
  rw [if_pos h] at this
  exact this
theorem len20 {l : List RG} (h : areB l = true) : l.length ≤ 1048576 := by have := (areB_iff.1 h).2; omega
theorem j1_ev {c : List Int} (hc : Bytes c) {a b u m w : List RG} (ha : areB a = true) (hb : areB b = true) (hu : areB u = true) (hm : areB m = true) (hw : areB w = true)
    (pu : ∀ p, has u p = (has a p || has b p)) (pm : ∀ p, has m p = (has a p && has b p)) (pw : ∀ p, has w p = (has a p && !has b p)) : Ev (fun k => laws_FnIndexesMerge.j1 k c a b u m w false) true := by
  refine Ev_step (fun k => by rw [laws_FnIndexesMerge.j1]) ?_
  exact Ev_neg Bool.false_ne_true (l0_ev hc ha hb hu hm hw pu pm pw 160 1 rfl (Nat.le_refl _))
theorem j0_no {c : List Int} (hc : Bytes c) (a b : List RG) : Ev (fun k => laws_FnIndexesMerge.j0 k c a b [] false [] [] false) true := by
  refine Ev_step (fun k => by rw [laws_FnIndexesMerge.j0]) ?_
  exact Ev_neg Bool.false_ne_true (Ev_neg Bool.false_ne_true (j3_ev hc))
theorem j0_yes {c : List Int} (hc : Bytes c) {a b u m w : List RG} (ha : areB a = true) (hb : areB b = true) (hu : areB u = true) (hm : areB m = true) (hw : areB w = true) (hal : a.length ≤ 6) (hbl : b.length ≤ 6) (hwl : w.length ≤ 12) (hml : m.length ≤ 12)
    (pu : ∀ p, has u p = (has a p || has b p)) (pm : ∀ p, has m p = (has a p && has b p)) (pw : ∀ p, has w p = (has a p && !has b p)) : Ev (fun k => laws_FnIndexesMerge.j0 k c a b u true m w false) true := by
  have ga := (areB_iff.1 ha).1
  have gb := (areB_iff.1 hb).1
  have gm := (areB_iff.1 hm).1
  have gw := (areB_iff.1 hw).1
  obtain ⟨u2, hu2, pu2, _, eu2⟩ := both_in 0 (fun a b => a || b) step_or rfl hb ha (fun r hr e => by have := few_or gb ga hr e; omega)
  obtain ⟨m2, hm2, pm2, _, em2⟩ := both_in 1 (fun a b => a && b) step_and rfl hb ha (fun r hr e => by have := few_and gb ga hr e; omega)
  obtain ⟨a2, ha2, pa2, _, ea2⟩ := both_in 0 (fun a b => a || b) step_or rfl hw hm (fun r hr e => by
    have : r = a := good_one hr ga (fun p => by rw [e, pw, pm]; cases has a p <;> cases has b p <;> rfl)
    rw [this]; omega)
  obtain rfl : u2 = u := same_of hu2 hu (fun p => by rw [pu2, pu, Bool.or_comm])
  obtain rfl : m2 = m := same_of hm2 hm (fun p => by rw [pm2, pm, Bool.and_comm])
  obtain rfl : a2 = a := same_of ha2 ha (fun p => by rw [pa2, pw, pm]; cases has a p <;> cases has b p <;> rfl)
  have s1 : size u2 + size m2 = size a2 + size b := size_two hu hm ha hb (fun p => by rw [pu, pm]; cases has a2 p <;> cases has b p <;> rfl)
  have s2 : size w + size m2 = size a2 := by
    have := size_two hw hm ha (show areB [] = true from rfl) (fun p => by rw [pw, pm, has_nil]; cases has a2 p <;> cases has b p <;> rfl)
    rw [this]
    exact Int.add_zero _
  have l1 := size_le ha
  have l2 := size_le hb
  have l3 := size_le hu
  have l4 := size_le hm
  have l5 := size_le hw
  have w1 : wrap64 (size u2 + size m2) = size u2 + size m2 := w64 (by omega) (by omega)
  have w2 : wrap64 (size a2 + size b) = size a2 + size b := w64 (by omega) (by omega)
  have w3 : wrap64 (size w + size m2) = size w + size m2 := w64 (by omega) (by omega)
  refine Ev_step (fun k => by rw [laws_FnIndexesMerge.j0]) ?_
  refine Ev_neg Bool.false_ne_true (Ev_pos rfl ?_)
  refine Ev_bind (cnt_ev ha) (Ev_bind (cnt_ev hb) (Ev_bind (cnt_ev hu) (Ev_bind (cnt_ev hm) (Ev_bind (cnt_ev hw) (Ev_bind eu2 (Ev_bind em2 (Ev_bind ea2 ?_)))))))
  refine Ev_bind (are_ev hu) (Ev_pos rfl (Ev_bind (are_ev hm) (Ev_pos rfl (Ev_bind (are_ev hw) (Ev_pos rfl ?_)))))
  refine Ev_pos rfl (Ev_pos rfl (Ev_pos rfl (Ev_pos rfl (Ev_pos rfl ?_))))
  refine Ev_pos (by rw [w1, w2]; exact s1) (Ev_pos (by rw [w3]; exact s2) (Ev_pos rfl ?_))
  refine Ev_bind (fRanges_ev u2 (len20 hu)) (Ev_pos rfl (Ev_pos rfl (Ev_bind (fRanges_ev m2 (len20 hm)) (Ev_pos rfl (Ev_pos rfl (Ev_bind (fRanges_ev a2 (len20 ha)) ?_))))))
  exact j1_ev hc ha hb hu hm hw pu pm pw
theorem f_ev {c d : List Int} (hB : laws_big.f c d = some false) (hd : Bytes d) {a b u m w : List RG} {ok : Bool} (e0 : Ev (fun k => spec_DrawUnionRanges.f k c) (a, b))
    (hu : u.length ≤ 1048576) (hm : m.length ≤ 1048576) (hw : w.length ≤ 1048576)
    (u1 : Ev (fun k => impl_UnionRanges.f k a b) (u, ok)) (u2 : Ev (fun k => spec_UnionRanges.f k a b) (u, ok))
    (m1 : Ev (fun k => impl_CommonRanges.f k a b) (m, ok)) (m2 : Ev (fun k => spec_CommonRanges.f k a b) (m, ok))
    (w1 : Ev (fun k => impl_WithoutRanges.f k a b) (w, ok)) (w2 : Ev (fun k => spec_WithoutRanges.f k a b) (w, ok))
    (nx : Ev (fun k => laws_FnIndexesMerge.j0 k d a b u ok m w false) true) : Ev (fun k => laws_FnIndexesMerge.f k c d) true := by
  simp only [laws_FnIndexesMerge.f]
  refine Ev_some hB (Ev_neg Bool.false_ne_true (Ev_bind e0 (Ev_bind u1 (Ev_bind u2 (Ev_bind m1 (Ev_bind m2 (Ev_bind w1 (Ev_bind w2 ?_))))))))
  refine Ev_neg (bne_self _) (Ev_bind (fRanges_ev u hu) (Ev_pos rfl (Ev_neg (bne_self _) (Ev_bind (fRanges_ev m hm) (Ev_pos rfl (Ev_neg (bne_self _) (Ev_bind (fRanges_ev w hw) (Ev_pos rfl (Ev_neg (bne_self _) ?_)))))))))
  refine Ev.congr (fun k => ?_) nx
  rw [show (ok != ok) = false by simp]
theorem FnIndexesMerge : laws_FnIndexesMerge.Pure := by
  intro l0 l1 ⟨hm0, hw0⟩ ⟨hm1, hw1⟩
  refine Ev.rounds (g := fun k => laws_FnIndexesMerge.f k l0 l1) ?_
  have hbg : ∃ B, laws_big.f l0 l1 = some B := by
    unfold laws_big.f
    split
    · exact ⟨_, rfl⟩
    · exact ⟨_, rfl⟩
  obtain ⟨B, hB⟩ := hbg
  cases B with
  | true =>
    simp only [laws_FnIndexesMerge.f]
    exact Ev_some hB (Ev_pos rfl (Ev.now _))
  | false =>
    obtain ⟨a, b, e0, hal, hbl⟩ := drawUnion_ok (Bytes.of hw0)
    have hd := Bytes.of hw1
    have thr : ∀ {kind : Int} {r : List RG × Bool}, Ev (fun k => spec_ixBoth.f k a b kind) r → Ev (fun k => (spec_ixBoth.f k a b kind).bind fun bt => (some (bt.1, bt.2))) r := fun h => Ev_bind h (Ev.now _)
    cases hg : (areB a && areB b) with
    | false =>
      obtain ⟨s0, i0⟩ := bothS_no 0 (fun a b => a || b) a b (by omega) (by omega) hg
      obtain ⟨s1, i1⟩ := bothS_no 1 (fun a b => a && b) a b (by omega) (by omega) hg
      obtain ⟨s2, i2⟩ := bothS_no 2 (fun a b => a && !b) a b (by omega) (by omega) hg
      exact f_ev hB hd e0 (Nat.zero_le _) (Nat.zero_le _) (Nat.zero_le _) i0 (thr s0) i1 (thr s1) i2 (thr s2) (j0_no hd a b)
    | true =>
      rw [Bool.and_eq_true] at hg
      obtain ⟨ha, hb⟩ := hg
      have ga := (areB_iff.1 ha).1
      have gb := (areB_iff.1 hb).1
      obtain ⟨u, hu, pu, s0, i0⟩ := both_in 0 (fun a b => a || b) step_or rfl ha hb (fun r hr e => by have := few_or ga gb hr e; omega)
      obtain ⟨m, hm, pm, s1, i1⟩ := both_in 1 (fun a b => a && b) step_and rfl ha hb (fun r hr e => by have := few_and ga gb hr e; omega)
      obtain ⟨w, hw, pw, s2, i2⟩ := both_in 2 (fun a b => a && !b) step_not rfl ha hb (fun r hr e => by have := few_not ga gb hr e; omega)
      have hml := few_and ga gb (areB_iff.1 hm).1 pm
      have hwl := few_not ga gb (areB_iff.1 hw).1 pw
      exact f_ev hB hd e0 (len20 hu) (len20 hm) (len20 hw) i0 (thr s0) i1 (thr s1) i2 (thr s2) (j0_yes hd ha hb hu hm hw hal hbl (by omega) (by omega) pu pm pw)
end Go.Proofs.YtppbpefehpbejaaGreatDoor.Pure
end

section
namespace Go.Proofs.YtppbpefehpbejaaGreatDoor.Open
open Go.ChangeShapes Go.WideShapes Go.ChangeAt Go.RowKit Go.Proofs.YtppbpefehpbejaaGreatDoorW.PrintWords
set_option linter.unusedVariables false

structure Opens {α : Type} (P : Program) (t : TypeId) (d : Kd α) (fit : α → Prop) : Prop where
  out : ∀ {H : Type} (enc : TypeId × Value → H) (w : World) (fuel : Nat) (cs : List Value) (x : DataW H × List MemPlace), DataW.trod enc P w 0 (fun _ => true) true fuel t cs = some x → ∃ y, d.K w y cs ∧ fit y
theorem opens_int {P : Program} {t : TypeId} {k : IntKind} (ht : P.underlying t = some (.int k)) : Opens P t (Kd.int k) (fun x => (Lit.int k x).wf = true) := by
  refine ⟨fun {H} enc w fuel cs x h => ?_⟩
  obtain ⟨n, rfl, _, hw⟩ := DataW.trod_int ht h
  exact ⟨n, rfl, hw⟩
theorem cells_at {w : World} {base n : Nat} {a : Addr} {cs : List Value} (h : w.cells? base a n = some cs) : cs.length = n ∧ ∀ i u, cs[i]? = some u → w.cell? (a.add i) = some u := by
  unfold World.cells? at h
  split at h
  · have hl := mapM_some_length h
    rw [List.length_range] at hl
    refine ⟨hl, fun i u hu => ?_⟩
    have hi : i < n := by have := (List.getElem?_eq_some_iff.1 hu).1; omega
    have := mapM_some_get h i i (by simp [hi])
    rw [this, hu]
  · cases h

theorem list_of {α : Type} {n : Nat} {p : Nat → α → Prop} (h : ∀ i, i < n → ∃ x, p i x) : ∃ xs : List α, xs.length = n ∧ ∀ i x, xs[i]? = some x → p i x := by
  induction n with
  | zero => exact ⟨[], rfl, by simp⟩
  | succ n ih =>
    obtain ⟨xs, hl, hx⟩ := ih (fun i hi => h i (by omega))
    obtain ⟨y, hy⟩ := h n (by omega)
    refine ⟨xs ++ [y], by simp [hl], fun i x hi => ?_⟩
    rcases Nat.lt_trichotomy i n with hlt | rfl | hgt
    · rw [List.getElem?_append_left (by omega)] at hi
      exact hx i x hi
    · rw [List.getElem?_append_right (by omega), hl] at hi
      simp at hi
      exact hi ▸ hy
    · rw [List.getElem?_eq_none (by simp; omega)] at hi
      cases hi

theorem opens_slice {α : Type} {P : Program} {t e : TypeId} {d : Kd α} {fit : α → Prop} (ht : P.underlying t = some (.slice e)) (hc : P.cellsOf e = d.sz) (h : Opens P e d fit) :
    Opens P t (Kd.slice e d) (fun xs => xs.length ≤ maxLen ∧ ∀ x, x ∈ xs → fit x) := by
  refine ⟨fun {H} enc w fuel cs x hx => ?_⟩
  rcases Go.Deep.open_slice ht hx with ⟨rfl, _⟩ | ⟨a, len, cap, m, n, D, Pl, rfl, _, hl, hm, hmm, _, hel⟩
  · exact ⟨[], ⟨none, 0, rfl, Nat.le_refl _, rfl, by simp, fun h0 => absurd h0 (by simp)⟩, by simp, by simp⟩
  · have hm' : m = cap := by simpa using hmm
    subst hm'
    obtain ⟨xs, hlen, hxs⟩ := list_of (n := len) (p := fun i y => ∃ c, c.length = d.sz ∧ d.K w y c ∧ fit y ∧ ∀ j u, c[j]? = some u → w.cell? (a.add (i * d.sz + j)) = some u) (fun i hi => by
      obtain ⟨cs', hcs, htr⟩ := hel i (by omega)
      obtain ⟨y, hK, hf⟩ := h.out enc w n cs' _ htr
      obtain ⟨hlc, hcell⟩ := cells_at hcs
      refine ⟨y, cs', d.K_len hK, hK, hf, fun j u hu => ?_⟩
      have := hcell j u hu
      rw [Go.Deep.add_add, hc] at this
      exact this)
    subst hlen
    refine ⟨xs, ⟨some a, m, rfl, hl, rfl, by unfold maxLen at hm; omega, fun _ => ⟨a, rfl, fun j p hj => ?_⟩⟩, by omega, fun x hmem => ?_⟩
    · obtain ⟨c, h1, h2, _, h3⟩ := hxs j p hj
      exact ⟨c, h1, h2, h3⟩
    · obtain ⟨i, hi, rfl⟩ := List.mem_iff_getElem.1 hmem
      obtain ⟨_, _, _, hf, _⟩ := hxs i _ (List.getElem?_eq_getElem hi)
      exact hf

theorem arg_slice {α : Type} {P : Program} {t e : TypeId} {d : Kd α} {fit : List α → Prop} {H : Type} {enc : TypeId × Value → H} {w : World} {v : Value} {x : DataW H} {ps : List MemPlace} (ho : Opens P t (Kd.slice e d) fit) (h : DataW.Trod enc P w 0 (fun _ => true) true t v x ps) (hv : ∃ a n c, v = .slice a n c) :
    ∃ (A : Option Addr) (c : Nat) (l : List α), v = .slice A l.length c ∧ Kd.C d w A l.length l ∧ l.length ≤ c ∧ fit l := by
  obtain ⟨fuel, hf⟩ := h
  obtain ⟨a, n, c, rfl⟩ := hv
  obtain ⟨l, ⟨A, c', hcs, hlc, hC⟩, hfit⟩ := ho.out enc w fuel _ _ hf
  simp [Value.cells] at hcs
  obtain ⟨rfl, rfl, rfl⟩ := hcs
  exact ⟨a, c, l, rfl, hC, hlc, hfit⟩
end Go.Proofs.YtppbpefehpbejaaGreatDoor.Open
end
