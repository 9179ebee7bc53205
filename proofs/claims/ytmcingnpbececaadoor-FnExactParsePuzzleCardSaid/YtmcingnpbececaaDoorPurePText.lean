/- The text of a puzzle: the program and the reference write the same; at most six clues. -/
import Derived.Test.YtmcingnpbececaaDoorPx5
import Derived.Test.YtmcingnpbececaaDoorPx7
import Derived.Test.YtmcingnpbececaaDoorPx7
import Derived.Test.YtmcingnpbececaaDoorPureClue
namespace Go.Proofs.YtmcingnpbececaaDoor.P
open Go.RowKit Go.Proofs.YtmcingnpbececaaDoorW.PrintWords Go.Proofs.YtmcingnpbececaaDoorW.PrintLast Go.Proofs.YtmcingnpbececaaDoorW.PrintMore Go.Proofs.YtmcingnpbececaaDoor.Base
set_option linter.unusedVariables false

/-- A number's numeral. -/
def num (n : Nat) : ByteArray := ⟨(Lib.decDigits n).toArray⟩
theorem num_data (n : Nat) : (num n).data.toList = Lib.decDigits n := rfl
theorem mk_app (a b : List UInt8) : (⟨a.toArray⟩ : ByteArray) ++ (⟨b.toArray⟩ : ByteArray) = ⟨(a ++ b).toArray⟩ := by
  apply ByteArray.ext
  rw [ByteArray.data_append]
  simp
theorem mk_data (a : ByteArray) : (⟨a.data.toList.toArray⟩ : ByteArray) = a := by
  apply ByteArray.ext
  simp
theorem ten (a : Nat) (h : a < 10) : a = 0 ∨ a = 1 ∨ a = 2 ∨ a = 3 ∨ a = 4 ∨ a = 5 ∨ a = 6 ∨ a = 7 ∨ a = 8 ∨ a = 9 := by omega
theorem digitP (a : Nat) (h : a < 10) : strOfNums [wrap64 (48 + (a : Int)) % 256] = (⟨[UInt8.ofNat (48 + a)].toArray⟩ : ByteArray) := by
  rw [w64 (by omega) (by omega)]
  rcases ten a h with rfl | rfl | rfl | rfl | rfl | rfl | rfl | rfl | rfl | rfl <;> rfl
theorem num_small (a : Nat) (h : a < 10) : num a = ⟨[UInt8.ofNat (48 + a)].toArray⟩ := by unfold num; rw [Lib.decDigits_one h]
theorem num_big (a : Nat) (h : ¬ a < 10) : num a = num (a / 10) ++ (⟨[UInt8.ofNat (48 + a % 10)].toArray⟩ : ByteArray) := by
  unfold num
  rw [mk_app, Lib.decDigits, dif_neg h]
theorem num_size1 (a : Nat) (h : a < 10) : (num a).size = 1 := by rw [num_small a h]; rfl
theorem num_size : ∀ (n a : Nat), a < 10 ^ (n + 1) → (num a).size ≤ n + 1 := by
  intro n
  induction n with
  | zero => intro a h; rw [num_size1 a (by omega)]; omega
  | succ n ih =>
    intro a h
    by_cases h1 : a < 10
    · rw [num_size1 a h1]; omega
    · rw [num_big a h1, ByteArray.size_append]
      have := ih (a / 10) (by rw [Nat.pow_succ] at h; omega)
      have e : (⟨[UInt8.ofNat (48 + a % 10)].toArray⟩ : ByteArray).size = 1 := rfl
      omega
theorem num_ev (n : Nat) : ∀ (a : Nat), a < 10 ^ (n + 1) → a ≤ 1000000 → Ev (fun k => spec_l1Num.f k (a : Int)) (num a) := by
  induction n with
  | zero =>
    intro a h h2
    refine Ev_step (fun k => by rw [spec_l1Num.f, if_pos (by omega), digitP a (by omega), ← num_small a (by omega)]) (Ev.now _)
  | succ n ih =>
    intro a h h2
    by_cases h1 : a < 10
    · exact Ev_step (fun k => by rw [spec_l1Num.f, if_pos (by omega), digitP a (by omega), ← num_small a (by omega)]) (Ev.now _)
    · have e1 : wrap64 (Int.tdiv (a : Int) 10) = ((a / 10 : Nat) : Int) := by
        have : Int.tdiv (a : Int) 10 = ((a / 10 : Nat) : Int) := rfl
        rw [this, w64 (by omega) (by omega)]
      have e2 : Int.tmod (a : Int) 10 = ((a % 10 : Nat) : Int) := rfl
      refine Ev_step (fun k => by rw [spec_l1Num.f, if_neg (by omega), e1, e2]) ?_
      refine Ev_bind (ih (a / 10) (by rw [Nat.pow_succ] at h; omega) (by omega)) ?_
      refine Ev_some rfl ?_
      rw [digitP (a % 10) (by omega)]
      have := num_size 6 (a / 10) (by omega)
      have e : (⟨[UInt8.ofNat (48 + a % 10)].toArray⟩ : ByteArray).size = 1 := rfl
      refine Ev_pos (by omega) ?_
      rw [← num_big a h1]
      exact Ev.now _
theorem itoaP (a : Nat) (h : a ≤ 1000000) : itoa.f (a : Int) = some (num a) := by
  unfold itoa.f
  rw [if_pos (by omega)]
  unfold Lib.itoa
  rw [if_neg (by omega)]
  rfl
/-- A clue's word. -/
def word (a b c : Nat) : ByteArray := (((num a ++ (⟨#[46]⟩ : ByteArray)) ++ num b) ++ (⟨#[46]⟩ : ByteArray)) ++ num c
theorem app_data (a b : ByteArray) : (a ++ b).data.toList = a.data.toList ++ b.data.toList := by
  rw [ByteArray.data_append]
  simp
theorem word_size (a b c : Nat) (ha : a ≤ 1000) (hb : b ≤ 1000) (hc : c ≤ 1000) : (word a b c).size ≤ 14 := by
  unfold word
  have h1 := num_size 3 a (by omega)
  have h2 := num_size 3 b (by omega)
  have h3 := num_size 3 c (by omega)
  have e : (⟨#[46]⟩ : ByteArray).size = 1 := rfl
  simp only [ByteArray.size_append, e]
  omega
theorem size_list (a : ByteArray) : a.data.toList.length = a.size := by rw [Array.length_toList]; rfl
theorem joined_ev (a b c : Nat) (ha : a ≤ 1000) (hb : b ≤ 1000) (hc : c ≤ 1000) : Ev (fun k => impl_joined.f k [(a : Int), (b : Int), (c : Int)] (⟨#[46]⟩ : ByteArray)) (word a b c) := by
  have hj : joinB [num a, num b, num c] ⟨#[46]⟩ = (word a b c).data.toList := by
    unfold joinB word
    simp only [List.map_cons, List.map_nil, Lib.join_cons, Lib.joinTail, List.flatten_cons, List.flatten_nil, app_data, List.append_nil, List.append_assoc]
  have hs := word_size a b c ha hb hc
  have h0 : rd [(a : Int), (b : Int), (c : Int)] 0 = (a : Int) := rfl
  have h1 : rd [(a : Int), (b : Int), (c : Int)] 1 = (b : Int) := rfl
  have h2 : rd [(a : Int), (b : Int), (c : Int)] 2 = (c : Int) := rfl
  have w0 : wrap64 (0 + 1) = 1 := by rw [w64 (by omega) (by omega)]; rfl
  have w1 : wrap64 (1 + 1) = 2 := by rw [w64 (by omega) (by omega)]; rfl
  have w2 : wrap64 (2 + 1) = 3 := by rw [w64 (by omega) (by omega)]; rfl
  refine Ev.congr (fun k => by rw [impl_joined.f]; rfl) (?_ : Ev (fun k => impl_joined.l0 k (⟨#[46]⟩ : ByteArray) [] [(a : Int), (b : Int), (c : Int)] 3 0) _)
  refine Ev_step (fun k => by rw [impl_joined.l0, if_pos (by omega), if_pos (by omega), if_pos (by simp only [List.length_cons, List.length_nil]; omega), h0, w0]) ?_
  refine Ev_some (itoaP a (by omega)) (Ev_pos (by simp) ?_)
  refine Ev_step (fun k => by rw [impl_joined.l0, if_pos (by omega), if_pos (by omega), if_pos (by simp only [List.length_cons, List.length_nil]; omega), h1, w1]) ?_
  refine Ev_some (itoaP b (by omega)) (Ev_pos (by simp) ?_)
  refine Ev_step (fun k => by rw [impl_joined.l0, if_pos (by omega), if_pos (by omega), if_pos (by simp only [List.length_cons, List.length_nil]; omega), h2, w2]) ?_
  refine Ev_some (itoaP c (by omega)) (Ev_pos (by simp) ?_)
  refine Ev_step (fun k => by rw [impl_joined.l0, if_neg (by omega)]) ?_
  refine Ev_some (a := word a b c) ?_ (Ev.now _)
  show strjoin.f [num a, num b, num c] _ = _
  unfold strjoin.f
  rw [if_pos ⟨by rw [hj, size_list]; omega, by simp only [List.length_cons, List.length_nil]; omega⟩, hj, mk_data]
/-- The words with commas between them. -/
def J (l : List ByteArray) : ByteArray := ⟨(joinB l (⟨#[44]⟩ : ByteArray)).toArray⟩
theorem J_one (y : ByteArray) : J [y] = y := by
  unfold J joinB
  rw [List.map_cons, List.map_nil, Lib.join_one, mk_data]
theorem J_snoc (x : ByteArray) (l : List ByteArray) (y : ByteArray) : J ((x :: l) ++ [y]) = (J (x :: l) ++ (⟨#[44]⟩ : ByteArray)) ++ y := by
  apply ByteArray.ext
  apply Array.toList_inj.1
  rw [app_data, app_data]
  unfold J joinB
  simp only [List.cons_append, List.map_cons, List.map_append, List.map_nil, Lib.join_cons, Lib.joinTail, List.flatten_append, List.flatten_cons, List.flatten_nil, List.append_nil, List.append_assoc]
theorem clue_in {x : S51} (h : clueOk x = true) : (0 ≤ x.f0 ∧ x.f0 ≤ 1000) ∧ (0 ≤ x.f1 ∧ x.f1 ≤ 1000) ∧ (0 ≤ x.f2 ∧ x.f2 ≤ 1000) := by
  unfold clueOk clueB inB at h
  rw [Bool.and_eq_true, decide_eq_true_eq] at h
  obtain ⟨h1, h2⟩ := h
  split at h2
  · have := beq_iff_eq.1 h2; omega
  · split at h2
    · have := of_decide_eq_true h2; omega
    · split at h2
      · rw [Bool.and_eq_true, decide_eq_true_eq] at h2; omega
      · split at h2
        · rw [Bool.and_eq_true, decide_eq_true_eq] at h2; omega
        · cases h2
def wordOf (x : S51) : ByteArray := word x.f0.toNat x.f1.toNat x.f2.toNat
theorem text_l0 (l : List S51) (hn : l.length ≤ 6) (hl : ∀ x ∈ l, clueOk x = true) : ∀ (n i : Nat), i + n = l.length → (J ((l.take i).map wordOf)).size ≤ 15 * i →
    Ev (fun k => spec_pzText.l0 k (J ((l.take i).map wordOf)) l (l.length : Int) (i : Int)) (J (l.map wordOf)) ∧ Ev (fun k => impl_puzzleText.l0 k ((l.take i).map wordOf) l (l.length : Int) (i : Int)) (J (l.map wordOf)) := by
  intro n
  induction n with
  | zero =>
    intro i hi hs
    rw [List.take_of_length_le (by omega)] at hs ⊢
    refine ⟨Ev_step (fun k => by rw [spec_pzText.l0, if_neg (by omega)]) (Ev.now _), Ev_step (fun k => by rw [impl_puzzleText.l0, if_neg (by omega)]) ?_⟩
    refine Ev_some (a := J (l.map wordOf)) ?_ (Ev.now _)
    unfold strjoin.f
    have hz : (joinB (l.map wordOf) ⟨#[44]⟩).length ≤ 15 * i := hs
    rw [if_pos ⟨by omega, by rw [List.length_map]; omega⟩]
    rfl
  | succ n ih =>
    intro i hi hs
    have h : i < l.length := by omega
    have ht : (l.take (i + 1)).map wordOf = (l.take i).map wordOf ++ [wordOf l[i]] := by rw [List.take_succ_eq_append_getElem h, List.map_append]; rfl
    have hr : rd_T51 l (i : Int) = l[i] := by unfold rd_T51; rw [Int.toNat_natCast, getD_at _ _ h]
    obtain ⟨⟨a1, a2⟩, ⟨b1, b2⟩, ⟨c1, c2⟩⟩ := clue_in (hl _ (List.getElem_mem h))
    have hw : wordOf l[i] = word l[i].f0.toNat l[i].f1.toNat l[i].f2.toNat := rfl
    have hwz := word_size l[i].f0.toNat l[i].f1.toNat l[i].f2.toNat (by omega) (by omega) (by omega)
    rw [← hw] at hwz
    have w : wrap64 ((i : Int) + 1) = ((i + 1 : Nat) : Int) := by rw [w64 (by omega) (by omega)]; omega
    have ca : l[i].f0 = (l[i].f0.toNat : Int) := by omega
    have cb : l[i].f1 = (l[i].f1.toNat : Int) := by omega
    have cc : l[i].f2 = (l[i].f2.toNat : Int) := by omega
    have na := num_ev 3 l[i].f0.toNat (by omega) (by omega)
    have nb := num_ev 3 l[i].f1.toNat (by omega) (by omega)
    have nc := num_ev 3 l[i].f2.toNat (by omega) (by omega)
    have sa := num_size 3 l[i].f0.toNat (by omega)
    have sb := num_size 3 l[i].f1.toNat (by omega)
    have sc := num_size 3 l[i].f2.toNat (by omega)
    have jo := joined_ev l[i].f0.toNat l[i].f1.toNat l[i].f2.toNat (by omega) (by omega) (by omega)
    rw [← hw] at jo
    have e46 : (⟨#[46]⟩ : ByteArray).size = 1 := rfl
    have e44 : (⟨#[44]⟩ : ByteArray).size = 1 := rfl
    have hlt : ((l.take i).map wordOf).length = i := by rw [List.length_map, List.length_take]; omega
    have next : (J ((l.take (i + 1)).map wordOf)).size ≤ 15 * (i + 1) := by
      rw [ht]
      rcases hc : (l.take i).map wordOf with _ | ⟨y, ys⟩
      · rw [List.nil_append, J_one]; omega
      · rw [J_snoc, ← hc]
        simp only [ByteArray.size_append, e44]
        omega
    obtain ⟨e1, e2⟩ := ih (i + 1) (by omega) next
    refine ⟨?_, ?_⟩
    · refine Ev_step (fun k => by rw [spec_pzText.l0, if_pos (by omega), if_pos (by omega), if_pos (by omega), hr, w]) ?_
      rw [ca, cb, cc]
      by_cases h0 : (i : Int) > 0
      · have hjn : J ((l.take (i + 1)).map wordOf) = (J ((l.take i).map wordOf) ++ (⟨#[44]⟩ : ByteArray)) ++ wordOf l[i] := by
          rw [ht]
          rcases hc : (l.take i).map wordOf with _ | ⟨y, ys⟩
          · rw [hc] at hlt
            simp only [List.length_nil] at hlt
            omega
          · rw [J_snoc]
        rw [hjn] at e1
        refine Ev_pos h0 (Ev_pos (by omega) (Ev_bind na (Ev_pos (by omega) (Ev_bind nb (Ev_pos ?_ (Ev_pos ?_ (Ev_bind nc (Ev_pos ?_ (Ev_pos ?_ ?_)))))))))
        · simp only [ByteArray.size_append, e46]; omega
        · simp only [ByteArray.size_append, e46]; omega
        · simp only [ByteArray.size_append, e46]; omega
        · simp only [ByteArray.size_append, e46, e44]; omega
        · exact e1
      · have hjn : J ((l.take (i + 1)).map wordOf) = J ((l.take i).map wordOf) ++ wordOf l[i] := by
          have hi0 : i = 0 := by omega
          rw [ht]
          have hc : (l.take i).map wordOf = [] := List.eq_nil_of_length_eq_zero (by omega)
          rw [hc, List.nil_append, J_one]
          have : J [] = ⟨#[]⟩ := rfl
          rw [this]
          apply ByteArray.ext
          rw [ByteArray.data_append]
          simp
        rw [hjn] at e1
        refine Ev_neg h0 (Ev_bind na (Ev_pos (by omega) (Ev_bind nb (Ev_pos ?_ (Ev_pos ?_ (Ev_bind nc (Ev_pos ?_ (Ev_pos ?_ ?_))))))))
        · simp only [ByteArray.size_append, e46]; omega
        · simp only [ByteArray.size_append, e46]; omega
        · simp only [ByteArray.size_append, e46]; omega
        · simp only [ByteArray.size_append, e46]; omega
        · exact e1
    · refine Ev_step (fun k => by rw [impl_puzzleText.l0, if_pos (by omega), if_pos (by omega), if_pos (by omega), hr, w]) ?_
      rw [ca, cb, cc]
      refine Ev_bind jo (Ev_pos (by omega) ?_)
      rw [← ht]
      exact e2
theorem text_ev (l : List S51) (h : goodP l = true) : Ev (fun k => spec_pzText.f k l) (J (l.map wordOf)) ∧ Ev (fun k => impl_puzzleText.f k l) (J (l.map wordOf)) := by
  unfold goodP at h
  rw [Bool.and_eq_true, decide_eq_true_eq, List.all_eq_true] at h
  have := text_l0 l h.1 h.2 l.length 0 (by omega) (by show (0 : Nat) ≤ _; omega)
  exact ⟨Ev.congr (fun k => by rw [spec_pzText.f]; rfl) this.1, Ev.congr (fun k => by rw [impl_puzzleText.f]; rfl) this.2⟩
end Go.Proofs.YtmcingnpbececaaDoor.P
