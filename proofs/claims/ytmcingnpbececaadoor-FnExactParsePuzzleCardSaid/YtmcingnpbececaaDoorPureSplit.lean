/- Texts cut at a sign: as the reference and the library cut them. -/
import Derived.Test.YtmcingnpbececaaDoorPx10
import Derived.Lib.Split
import Derived.Lib.AtoiTie
import Derived.Test.YtmcingnpbececaaDoorPurePText
namespace Go.Proofs.YtmcingnpbececaaDoor.P
open Go.RowKit Go.Proofs.YtmcingnpbececaaDoorW.PrintWords Go.Proofs.YtmcingnpbececaaDoorW.PrintLast Go.Proofs.YtmcingnpbececaaDoorW.PrintMore Go.Proofs.YtmcingnpbececaaDoor.Base
set_option linter.unusedVariables false

def mkB (l : List UInt8) : ByteArray := ⟨l.toArray⟩
/-- A row of bytes cut at each sign. -/
def cut (b : UInt8) : List UInt8 → List UInt8 → List (List UInt8)
  | acc, [] => [acc]
  | acc, c :: r => if c = b then acc :: cut b [] r else cut b (acc ++ [c]) r
theorem cut_free (b : UInt8) : ∀ (l acc : List UInt8), b ∉ l → cut b acc l = [acc ++ l] := by
  intro l
  induction l with
  | nil => intro acc _; rw [cut, List.append_nil]
  | cons c r ih =>
    intro acc h
    rw [List.mem_cons, not_or] at h
    rw [cut, if_neg (fun e => h.1 e.symm), ih _ h.2, List.append_assoc, List.singleton_append]
theorem cut_sep (b : UInt8) (r : List UInt8) : ∀ (l acc : List UInt8), b ∉ l → cut b acc (l ++ b :: r) = (acc ++ l) :: cut b [] r := by
  intro l
  induction l with
  | nil => intro acc _; rw [List.nil_append, cut, if_pos rfl, List.append_nil]
  | cons c l ih =>
    intro acc h
    rw [List.mem_cons, not_or] at h
    rw [List.cons_append, cut, if_neg (fun e => h.1 e.symm), ih _ h.2, List.append_assoc, List.singleton_append]
theorem cut_pos (b : UInt8) : ∀ (l acc : List UInt8), 0 < (cut b acc l).length := by
  intro l
  induction l with
  | nil => intro acc; rw [cut]; exact Nat.one_pos
  | cons c r ih =>
    intro acc
    rw [cut]
    split
    · exact Nat.succ_pos _
    · exact ih _
theorem mkB_data (s : ByteArray) : mkB s.data.toList = s := mk_data s
theorem bt_list (s : ByteArray) (i : Nat) : bt s (i : Int) = (((s.data.toList[i]?).getD 0).toNat : Int) := by
  unfold bt
  rw [Int.toNat_natCast]
  by_cases h : i < s.size
  · rw [dif_pos h, List.getElem?_eq_getElem (by simpa using h)]
    rfl
  · rw [dif_neg h, List.getElem?_eq_none (by simpa using h)]
    rfl
theorem split_l0 (s : ByteArray) (b : UInt8) (hs : s.size ≤ 1000) : ∀ (n i f : Nat) (out : List ByteArray), i + n = s.size → f ≤ i → out.length ≤ i →
    Ev (fun k => spec_l1Split.l0 k s ((b.toNat : Nat) : Int) out (f : Int) (i : Int)) (out ++ (cut b ((s.data.toList.take i).drop f) (s.data.toList.drop i)).map mkB) := by
  have hz : s.size = s.data.toList.length := Lib.size_eq s
  intro n
  induction n with
  | zero =>
    intro i f out hi hf ho
    refine Ev_step (fun k => by rw [spec_l1Split.l0, if_neg (by omega), if_pos (by omega), if_pos (by omega), if_pos (by omega), Int.toNat_natCast]) ?_
    have e : (cut b ((s.data.toList.take i).drop f) (s.data.toList.drop i)).map mkB = [s.extract f s.size] := by
      have ed : s.data.toList.drop i = [] := List.drop_of_length_le (by omega)
      rw [ed, cut, List.map_cons, List.map_nil]
      congr 1
      rw [← mkB_data (s.extract f s.size), Lib.extract_data, List.drop_take, show i = s.size by omega]
    rw [e]
    exact Ev.now _
  | succ n ih =>
    intro i f out hi hf ho
    have h : i < s.data.toList.length := by omega
    have w : wrap64 ((i : Int) + 1) = ((i + 1 : Nat) : Int) := by rw [w64 (by omega) (by omega)]; omega
    have hd : s.data.toList.drop i = s.data.toList[i] :: s.data.toList.drop (i + 1) := List.drop_eq_getElem_cons h
    have hb : bt s (i : Int) = ((s.data.toList[i].toNat : Nat) : Int) := by rw [bt_list, List.getElem?_eq_getElem h]; rfl
    refine Ev_step (fun k => by rw [spec_l1Split.l0, if_pos (by omega), if_pos (by omega), hb, w, Int.toNat_natCast, Int.toNat_natCast]) ?_
    rw [hd, cut]
    by_cases hc : s.data.toList[i] = b
    · rw [if_pos hc]
      refine Ev_pos (by rw [hc]) (Ev_pos (by omega) (Ev_pos (by omega) (Ev_pos (by omega) (Ev_pos (by omega) ?_))))
      have hi2 := ih (i + 1) (i + 1) (out ++ [s.extract f i]) (by omega) (by omega) (by rw [List.length_append]; simp only [List.length_cons, List.length_nil]; omega)
      rw [List.drop_of_length_le (by rw [List.length_take]; omega), List.append_assoc, List.singleton_append] at hi2
      rw [List.map_cons]
      have e : mkB ((s.data.toList.take i).drop f) = s.extract f i := by rw [← mkB_data (s.extract f i), Lib.extract_data, List.drop_take]
      rw [e]
      exact hi2
    · rw [if_neg hc]
      refine Ev_neg (fun e => hc (UInt8.toNat_inj.1 (by omega))) ?_
      have hi2 := ih (i + 1) f out (by omega) (by omega) (by omega)
      have e : (s.data.toList.take (i + 1)).drop f = (s.data.toList.take i).drop f ++ [s.data.toList[i]] := by
        rw [List.take_succ_eq_append_getElem h, List.drop_append_of_le_length (by rw [List.length_take]; omega)]
      rw [e] at hi2
      exact hi2
theorem split_ev (s : ByteArray) (b : UInt8) (hs : s.size ≤ 1000) : Ev (fun k => spec_l1Split.f k s ((b.toNat : Nat) : Int)) ((cut b [] s.data.toList).map mkB) := by
  have := split_l0 s b hs s.size 0 0 [] (by omega) (by omega) (by simp)
  exact Ev.congr (fun k => by rw [spec_l1Split.f]; rfl) this
theorem split_or (b : UInt8) : ∀ l : List UInt8, b ∉ l ∨ ∃ a r, l = a ++ b :: r ∧ b ∉ a := by
  intro l
  induction l with
  | nil => exact .inl (by simp)
  | cons c l ih =>
    by_cases h : c = b
    · exact .inr ⟨[], l, by rw [h]; rfl, by simp⟩
    · rcases ih with h1 | ⟨a, r, h1, h2⟩
      · exact .inl (by rw [List.mem_cons, not_or]; exact ⟨fun e => h e.symm, h1⟩)
      · exact .inr ⟨c :: a, r, by rw [h1]; rfl, by rw [List.mem_cons, not_or]; exact ⟨fun e => h e.symm, h2⟩⟩
theorem index_free (b : UInt8) : ∀ l : List UInt8, b ∉ l → Lib.index l [b] = -1 := by
  intro l
  induction l with
  | nil => intro _; rfl
  | cons c l ih =>
    intro h
    rw [List.mem_cons, not_or] at h
    have h1 : (b == c) = false := beq_eq_false_iff_ne.2 h.1
    rw [Lib.index, ih h.2]
    simp [List.isPrefixOf, h1]
theorem index_sep (b : UInt8) (r : List UInt8) : ∀ a : List UInt8, b ∉ a → Lib.index (a ++ b :: r) [b] = (a.length : Int) := by
  intro a
  induction a with
  | nil => intro _; rw [List.nil_append, Lib.index]; simp [List.isPrefixOf]
  | cons c a ih =>
    intro h
    rw [List.mem_cons, not_or] at h
    have h1 : (b == c) = false := beq_eq_false_iff_ne.2 h.1
    rw [List.cons_append, Lib.index, ih h.2]
    have h2 : ((a.length : Int) == -1) = false := beq_eq_false_iff_ne.2 (by omega)
    simp [List.isPrefixOf, h1, h2]
theorem splitK_cut (b : UInt8) : ∀ (k : Nat) (l : List UInt8), (cut b [] l).length ≤ k + 1 → Lib.splitK [b] 0 k l = cut b [] l := by
  intro k
  induction k with
  | zero =>
    intro l h
    rcases split_or b l with h1 | ⟨a, r, rfl, h2⟩
    · rw [cut_free b l [] h1]; rfl
    · rw [cut_sep b r a [] h2, List.length_cons] at h
      have := cut_pos b r []
      omega
  | succ k ih =>
    intro l h
    rcases split_or b l with h1 | ⟨a, r, rfl, h2⟩
    · rw [cut_free b l [] h1, Lib.splitK, index_free b l h1]
      rfl
    · rw [cut_sep b r a [] h2, List.length_cons] at h
      have hm : ((a.length : Int) == -1) = false := beq_eq_false_iff_ne.2 (by omega)
      rw [cut_sep b r a [] h2, Lib.splitK, index_sep b r a h2, if_neg (by rw [hm]; exact Bool.false_ne_true), Int.toNat_natCast, List.nil_append, Nat.add_zero, List.take_left' rfl]
      congr 1
      have e : (a ++ b :: r).drop (a.length + [b].length) = r := by
        rw [show a ++ b :: r = (a ++ [b]) ++ r by simp, List.drop_left' (by simp)]
      rw [e]
      exact ih r (by omega)
theorem splitB_cut (b : UInt8) (k : Nat) (s : ByteArray) (h : (cut b [] s.data.toList).length ≤ k + 1) : Lib.splitB (mkB [b]) 0 k s = (cut b [] s.data.toList).map mkB := by
  have e := Lib.splitB_data (mkB [b]) 0 k s
  have e2 : (mkB [b]).data.toList = [b] := rfl
  rw [e2, splitK_cut b k _ h] at e
  rw [← e, List.map_map]
  have : (mkB ∘ fun x : ByteArray => x.data.toList) = id := funext fun x => mkB_data x
  rw [this, List.map_id]
theorem cut_join (b : UInt8) : ∀ (r : List (List UInt8)) (x : List UInt8), b ∉ x → (∀ y ∈ r, b ∉ y) → cut b [] (Lib.join (x :: r) [b]) = x :: r := by
  intro r
  induction r with
  | nil => intro x hx _; rw [Lib.join_one, cut_free b x [] hx]; rfl
  | cons y r ih =>
    intro x hx hr
    have e : Lib.join (x :: y :: r) [b] = x ++ b :: Lib.join (y :: r) [b] := by
      rw [Lib.join_cons, Lib.join_cons, Lib.joinTail, List.map_cons, List.flatten_cons, Lib.joinTail]
      simp
    rw [e, cut_sep b _ x [] hx, List.nil_append, ih y (hr y (by simp)) (fun z hz => hr z (by simp [hz]))]
/-- Digits. -/
theorem dig_in : ∀ (n : Nat), ∀ c ∈ Lib.decDigits n, 48 ≤ c.toNat ∧ c.toNat ≤ 57 := by
  intro n
  induction n using Nat.strongRecOn with
  | ind n ih =>
    intro c hc
    have one : ∀ d, d < 10 → c = UInt8.ofNat (48 + d) → 48 ≤ c.toNat ∧ c.toNat ≤ 57 := by
      intro d hd e
      rw [e, UInt8.toNat_ofNat']
      omega
    by_cases h : n < 10
    · rw [Lib.decDigits_one h, List.mem_singleton] at hc
      exact one n h hc
    · rw [Lib.decDigits, dif_neg h, List.mem_append, List.mem_singleton] at hc
      rcases hc with hc | hc
      · exact ih (n / 10) (by omega) c hc
      · exact one _ (by omega) hc
theorem dig_free (n : Nat) (b : UInt8) (hb : b.toNat < 48) : b ∉ Lib.decDigits n := fun h => by have := dig_in n b h; omega
theorem word_data (a b c : Nat) : (word a b c).data.toList = Lib.join [Lib.decDigits a, Lib.decDigits b, Lib.decDigits c] [46] := by
  unfold word
  simp only [Lib.join_cons, Lib.joinTail, List.map_cons, List.map_nil, List.flatten_cons, List.flatten_nil, app_data, num_data, List.append_nil, List.append_assoc]
theorem word_free (a b c : Nat) : (44 : UInt8) ∉ (word a b c).data.toList := by
  have ha := dig_free a 44 (by decide)
  have hb := dig_free b 44 (by decide)
  have hc := dig_free c 44 (by decide)
  unfold word
  simp only [app_data, num_data, List.mem_append, not_or]
  exact ⟨⟨⟨⟨ha, by decide⟩, hb⟩, by decide⟩, hc⟩
theorem wordOf_free (x : S51) : (44 : UInt8) ∉ (wordOf x).data.toList := word_free _ _ _
theorem word_cut (a b c : Nat) : (cut 46 [] (word a b c).data.toList).map mkB = [num a, num b, num c] := by
  rw [word_data, cut_join 46 _ _ (dig_free a 46 (by decide)) (by intro y hy; simp only [List.mem_cons, List.not_mem_nil, or_false] at hy; rcases hy with rfl | rfl <;> exact dig_free _ 46 (by decide))]
  rfl
theorem text_cut (x : S51) (l : List S51) : (cut 44 [] (J ((x :: l).map wordOf)).data.toList).map mkB = (x :: l).map wordOf := by
  have e : (J ((x :: l).map wordOf)).data.toList = Lib.join (((x :: l).map wordOf).map (·.data.toList)) [44] := rfl
  rw [e, List.map_cons, List.map_cons, cut_join 44 _ _ (wordOf_free x) (by intro y hy; rw [List.map_map, List.mem_map] at hy; obtain ⟨z, _, rfl⟩ := hy; exact wordOf_free z)]
  have hm : ∀ z : List ByteArray, (z.map (·.data.toList)).map mkB = z := fun z => by
    have : (mkB ∘ fun x : ByteArray => x.data.toList) = id := funext fun x => mkB_data x
    rw [List.map_map, this, List.map_id]
  exact hm ((x :: l).map wordOf)
/-- Reading. -/
theorem digitVal_of (d : Nat) (h : d < 10) : Lib.digitVal (UInt8.ofNat (48 + d)) = some d := by
  rcases ten d h with rfl | rfl | rfl | rfl | rfl | rfl | rfl | rfl | rfl | rfl <;> rfl
theorem decFrom_app : ∀ (l r : List UInt8) (a : Nat), Lib.decFrom a (l ++ r) = (Lib.decFrom a l).bind (Lib.decFrom · r) := by
  intro l
  induction l with
  | nil => intro r a; rfl
  | cons c l ih =>
    intro r a
    rw [List.cons_append, Lib.decFrom, Lib.decFrom]
    cases Lib.digitVal c with
    | none => rfl
    | some d => exact ih r _
theorem decFrom_dig : ∀ (n : Nat), Lib.decFrom 0 (Lib.decDigits n) = some n := by
  intro n
  induction n using Nat.strongRecOn with
  | ind n ih =>
    by_cases h : n < 10
    · rw [Lib.decDigits_one h, Lib.decFrom, digitVal_of n h]
      simp [Lib.decFrom]
    · rw [Lib.decDigits, dif_neg h, decFrom_app, ih (n / 10) (by omega), Option.bind_some, Lib.decFrom, digitVal_of _ (by omega)]
      simp only [Lib.decFrom]
      congr 1
      omega
theorem dig_len (n : Nat) (h : n ≤ 1000000) : (Lib.decDigits n).length ≤ 7 := by
  have := num_size 6 n (by omega)
  rw [← size_list, num_data] at this
  exact this
theorem atoiAll_dig (n : Nat) (h : n ≤ 1000000) : Lib.atoiAll (Lib.decDigits n) = .ok (n : Int) := by
  rw [Lib.atoiAll_short _ (by have := dig_len n h; omega)]
  have hp : Lib.decDigits n ≠ [] := by
    by_cases h1 : n < 10
    · rw [Lib.decDigits_one h1]; simp
    · rw [Lib.decDigits, dif_neg h1]; simp
  have hd := decFrom_dig n
  have hi := dig_in n
  rcases hc : Lib.decDigits n with _ | ⟨c, r⟩
  · exact absurd hc hp
  · rw [hc] at hd hi
    have h0 := hi c (by simp)
    have h1 : (c == 45) = false := beq_eq_false_iff_ne.2 (fun e => by rw [e] at h0; have : (45 : UInt8).toNat = 45 := rfl; omega)
    have h2 : (c == 43) = false := beq_eq_false_iff_ne.2 (fun e => by rw [e] at h0; have : (43 : UInt8).toNat = 43 := rfl; omega)
    have e : Lib.atoi (c :: r) = some (n : Int) := by
      simp [Lib.atoi, Lib.decNat, hd, h1, h2]
    rw [e]
    rfl
end Go.Proofs.YtmcingnpbececaaDoor.P
