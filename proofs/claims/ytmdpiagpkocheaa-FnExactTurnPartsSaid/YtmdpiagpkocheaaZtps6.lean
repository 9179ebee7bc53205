/- A part of a binding is turned: the program and the reference do the same. -/
import Derived.Test.YtmdpiagpkocheaaZtps1
import Derived.Test.YtmdpiagpkocheaaZtps5
import Derived.Test.YtmdpiagpkocheaaZtps4
import Derived.Test.YtmdpiagpkocheaaZtps2
import Derived.Test.YtmdpiagpkocheaaZtps3
import Derived.Test.YtmdpiagpkocheaaZtps0
/-! A part of a binding is turned: the program and the reference do the same. -/
section
namespace Go.Proofs.Ytmdpiagpkocheaa.P
open Go.RowKit Go.Proofs.YtmdpiagpkocheaaW.PrintWords Go.Proofs.YtmdpiagpkocheaaW.PrintLast Go.Proofs.YtmdpiagpkocheaaW.PrintMore Go.Proofs.Ytmdpiagpkocheaa.Base Go.Proofs.Ytmdpiagpkocheaa.Order
set_option linter.unusedVariables false

theorem same_l0 : ∀ (k : Nat) (b : List Int) (f t : Int) (acc : List Int) (i : Int), impl_turned.l0 k b f t acc i = spec_biTurn.l0 k b f t acc i := by
  intro k
  induction k with
  | zero => intros; rfl
  | succ k ih =>
    intro b f t acc i
    rw [impl_turned.l0, spec_biTurn.l0]
    simp only [ih]
theorem turn_l0 (b : List Int) (f t : Nat) (hf : f ≤ t) (ht : t < b.length) (hb : b.length ≤ 1048576) : ∀ (n i : Nat) (acc : List Int), i + n = t + 1 → f ≤ i → acc.length = b.length → ∃ r, Ev (fun k => spec_biTurn.l0 k b (f : Int) (t : Int) acc (i : Int)) r ∧ r.length = b.length := by
  intro n
  induction n with
  | zero =>
    intro i acc hi h1 ha
    refine ⟨acc, Ev_step (fun k => ?_) (Ev.now _), ha⟩
    rw [spec_biTurn.l0, if_neg (by omega)]
  | succ n ih =>
    intro i acc hi h1 ha
    have w1 : wrap64 (wrap64 ((f : Int) + (t : Int)) - (i : Int)) = (f : Int) + t - i := by rw [w64 (x := (f : Int) + t) (by omega) (by omega), w64 (by omega) (by omega)]
    obtain ⟨r, h2, h3⟩ := ih (i + 1) (acc.set i (wrap64 (-(rd b ((f : Int) + t - i))))) (by omega) (by omega) (by rw [List.length_set]; exact ha)
    refine ⟨r, Ev_step (fun k => ?_) h2, h3⟩
    rw [spec_biTurn.l0, w1, if_pos (by omega), if_pos (by omega), if_pos (by omega), if_pos (by omega), if_pos (by omega), nextI i (by omega), Int.toNat_natCast]
/-- Both turn a part the same. -/
theorem turn_both (b : List Int) (f t : Int) (hb : bindS b = true) (hp : partB b f t = true) : ∃ r, Ev (fun k => spec_biTurn.f k b f t) r ∧ Ev (fun k => impl_turned.f k b f t) r ∧ r.length = b.length := by
  have hl := bind_len hb
  unfold partB at hp
  rw [decide_eq_true_eq] at hp
  obtain ⟨f, rfl⟩ := Int.eq_ofNat_of_zero_le hp.1
  obtain ⟨t, rfl⟩ := Int.eq_ofNat_of_zero_le (show 0 ≤ t by omega)
  obtain ⟨r, h1, h2⟩ := turn_l0 b f t (by omega) (by omega) (by omega) (t + 1 - f) f b (by omega) (Nat.le_refl _) rfl
  refine ⟨r, ?_, ?_, h2⟩
  · simp only [spec_biTurn.f]
    refine Ev_some (a := b) ?_ h1
    rw [spec_l1Own.f]
    simp only [Option.bind_some, List.length_nil, List.nil_append]
    rw [if_pos (by omega)]
  · simp only [impl_turned.f]
    refine Ev_some (a := b) ?_ (Ev.congr (fun k => same_l0 k b f t b f) h1)
    rw [clone_Int.f, if_pos (by omega)]
end Go.Proofs.Ytmdpiagpkocheaa.P
end

/-! Turns, ranks and the search in breadth: what the program's and the reference's functions come to; for bindings of at most eight leaves. -/
section
namespace Go.Proofs.Ytmdpiagpkocheaa.P
open Go.RowKit Go.Proofs.YtmdpiagpkocheaaW.PrintWords Go.Proofs.YtmdpiagpkocheaaW.PrintLast Go.Proofs.YtmdpiagpkocheaaW.PrintMore Go.Proofs.Ytmdpiagpkocheaa.Base Go.Proofs.Ytmdpiagpkocheaa.Order Go.Proofs.Ytmdpiagpkocheaa.Far
set_option linter.unusedVariables false

/-- A binding while its part is being turned. -/
def accT (b : List Int) (f t i : Nat) : List Int := (List.range b.length).map fun j => if f ≤ j ∧ j < i then -(b.getD (f + t - j) 0) else b.getD j 0
theorem accT_len (b : List Int) (f t i : Nat) : (accT b f t i).length = b.length := by simp [accT]
theorem accT_at (b : List Int) (f t i j : Nat) (h : j < b.length) : (accT b f t i).getD j 0 = if f ≤ j ∧ j < i then -(b.getD (f + t - j) 0) else b.getD j 0 := by
  rw [List.getD_eq_getElem?_getD]
  simp [accT, h]
theorem accT_start (b : List Int) (f t : Nat) : accT b f t f = b := by
  refine ext_at (accT_len _ _ _ _) (fun j hj => ?_)
  rw [accT_at b f t f j hj, if_neg (by omega)]
theorem accT_end (b : List Int) (f t : Nat) (hf : f ≤ t) (ht : t < b.length) : accT b f t (t + 1) = turn b f t := by
  refine ext_at (by rw [accT_len, turn_len hf ht]) (fun j hj => ?_)
  rw [turn_len hf ht] at hj
  rw [accT_at b f t _ j hj, turn_at hf ht]
  by_cases h : f ≤ j ∧ j ≤ t
  · rw [if_pos h, if_pos (by omega)]
  · rw [if_neg h, if_neg (by omega)]
theorem accT_set (b : List Int) (f t i : Nat) (hi : f ≤ i) (h : i < b.length) : (accT b f t i).set i (-(b.getD (f + t - i) 0)) = accT b f t (i + 1) := by
  refine ext_at (by rw [List.length_set, accT_len, accT_len]) (fun j hj => ?_)
  rw [accT_len] at hj
  rw [accT_at b f t _ j hj]
  by_cases e : j = i
  · subst e
    rw [getD_set_self _ _ _ (by rw [accT_len]; exact h), if_pos (by omega)]
  · rw [List.getD_eq_getElem?_getD, List.getElem?_set_ne (fun h => e h.symm), ← List.getD_eq_getElem?_getD, accT_at b f t i j hj]
    by_cases h2 : f ≤ j ∧ j < i
    · rw [if_pos h2, if_pos (by omega)]
    · rw [if_neg h2, if_neg (by omega)]
theorem bd_at {n : Nat} {b : List Int} (h : Bd n b) (hn : n ≤ 8) (i : Nat) : -8 ≤ b.getD i 0 ∧ b.getD i 0 ≤ 8 := by
  rcases Nat.lt_or_ge i b.length with hi | hi
  · have := h.2.1 (b.getD i 0) (by rw [getD_at b 0 hi]; exact List.getElem_mem hi)
    omega
  · rw [List.getD_eq_getElem?_getD, List.getElem?_eq_none hi]
    decide
theorem biTurn_l0 {n : Nat} {b : List Int} (hb : Bd n b) (hn : n ≤ 8) (f t : Nat) (hf : f ≤ t) (ht : t < n) : ∀ (d i : Nat), i + d = t + 1 → f ≤ i → Ev (fun k => spec_biTurn.l0 k b (f : Int) (t : Int) (accT b f t i) (i : Int)) (turn b f t) := by
  have hl := hb.1
  intro d
  induction d with
  | zero =>
    intro i hi h1
    obtain rfl : i = t + 1 := by omega
    refine Ev_step (fun k => ?_) (Ev.now _)
    rw [spec_biTurn.l0, if_neg (by omega), accT_end b f t hf (by omega)]
  | succ d ih =>
    intro i hi h1
    have w1 : wrap64 (wrap64 ((f : Int) + (t : Int)) - (i : Int)) = ((f + t - i : Nat) : Int) := by rw [w64 (x := (f : Int) + t) (by omega) (by omega), w64 (by omega) (by omega)]; omega
    have ha := bd_at hb hn (f + t - i)
    refine Ev_step (fun k => ?_) (ih (i + 1) (by omega) (by omega))
    rw [spec_biTurn.l0, w1, if_pos (by omega), if_pos (by omega), if_pos (by omega), if_pos (by omega), if_pos (by rw [accT_len]; omega), nextI i (by omega), Int.toNat_natCast, rd_nat, w64 (x := -(b.getD (f + t - i) 0)) (by omega) (by omega), accT_set b f t i h1 (by omega)]
theorem biTurn_ev {n : Nat} {b : List Int} (hb : Bd n b) (hn : n ≤ 8) (f t : Nat) (hf : f ≤ t) (ht : t < n) : Ev (fun k => spec_biTurn.f k b (f : Int) (t : Int)) (turn b f t) := by
  have hl := hb.1
  simp only [spec_biTurn.f]
  refine Ev_some (a := b) ?_ ?_
  · rw [spec_l1Own.f]
    simp only [Option.bind_some, List.length_nil, List.nil_append]
    rw [if_pos (by omega)]
  · have := biTurn_l0 hb hn f t hf ht (t + 1 - f) f (by omega) (Nat.le_refl _)
    rwa [accT_start] at this
theorem turned_ev {n : Nat} {b : List Int} (hb : Bd n b) (hn : n ≤ 8) (f t : Nat) (hf : f ≤ t) (ht : t < n) : Ev (fun k => impl_turned.f k b (f : Int) (t : Int)) (turn b f t) := by
  have hl := hb.1
  simp only [impl_turned.f]
  refine Ev_some (a := b) ?_ (Ev.congr (fun k => same_l0 k b f t b f) ?_)
  · rw [clone_Int.f, if_pos (by omega)]
  · have := biTurn_l0 hb hn f t hf ht (t + 1 - f) f (by omega) (Nat.le_refl _)
    rwa [accT_start] at this
theorem right_succ (i : Nat) : right (i + 1) = right i ++ [(i : Int) + 1] := by simp [right, List.range_succ]
theorem right_l0 (n : Nat) (hn : n ≤ 8) : ∀ d i : Nat, i + d = n → Ev (fun k => impl_right.l0 k (right i) (n : Int) (i : Int)) (right n) := by
  intro d
  induction d with
  | zero =>
    intro i hi
    obtain rfl : i = n := by omega
    refine Ev_step (fun k => ?_) (Ev.now _)
    rw [impl_right.l0, if_neg (by omega)]
  | succ d ih =>
    intro i hi
    refine Ev_step (fun k => ?_) (ih (i + 1) (by omega))
    have w1 : wrap64 ((i : Int) + 1) = (i : Int) + 1 := w64 (by omega) (by omega)
    rw [impl_right.l0, if_pos (by omega), if_pos (by rw [right_len]; omega), w1, ← right_succ]
    rfl
theorem right_ev (n : Nat) (hn : n ≤ 8) : Ev (fun k => impl_right.f k (n : Int)) (right n) := by
  refine Ev.congr (fun k => ?_) (right_l0 n hn n 0 (by omega))
  rw [impl_right.f]
  rfl
theorem allOf_le {m : Nat} (h : m ≤ 8) : allOf m ≤ 10321920 := by
  rcases (by omega : m = 0 ∨ m = 1 ∨ m = 2 ∨ m = 3 ∨ m = 4 ∨ m = 5 ∨ m = 6 ∨ m = 7 ∨ m = 8) with rfl | rfl | rfl | rfl | rfl | rfl | rfl | rfl | rfl <;> decide
theorem biAll_l0 (n : Nat) (hn : n ≤ 8) : ∀ d m : Nat, m + d = n → Ev (fun k => spec_biAll.l0 k (n : Int) ((allOf m : Nat) : Int) ((m : Int) + 1)) ((allOf n : Nat) : Int) := by
  intro d
  induction d with
  | zero =>
    intro m hm
    obtain rfl : m = n := by omega
    refine Ev_step (fun k => ?_) (Ev.now _)
    rw [spec_biAll.l0, if_neg (by omega)]
  | succ d ih =>
    intro m hm
    refine Ev_step (fun k => ?_) (ih (m + 1) (by omega))
    have h1 := allOf_le (m := m + 1) (by omega)
    have w1 : wrap64 (2 * ((m : Int) + 1)) = ((2 * (m + 1) : Nat) : Int) := by rw [w64 (by omega) (by omega)]; omega
    have w2 : wrap64 (((allOf m : Nat) : Int) * ((2 * (m + 1) : Nat) : Int)) = ((allOf (m + 1) : Nat) : Int) := by
      have e : allOf m * (2 * (m + 1)) = allOf (m + 1) := rfl
      rw [← Int.natCast_mul, e, w64 (by omega) (by omega)]
    rw [spec_biAll.l0, if_pos (by omega), w1, w2, w64 (x := (m : Int) + 1 + 1) (by omega) (by omega)]
    rfl
theorem biAll_ev (n : Nat) (hn : n ≤ 8) : Ev (fun k => spec_biAll.f k (n : Int)) ((allOf n : Nat) : Int) := by
  refine Ev.congr (fun k => ?_) (biAll_l0 n hn n 0 (by omega))
  rw [spec_biAll.f]
  rfl
theorem biRank_l1 {n : Nat} {b : List Int} (hb : Bd n b) (hn : n ≤ 8) {i : Nat} (hi : i < n) (acc : Nat) (r : Int) (ha : acc ≤ 20000000)
    (hnext : Ev (fun k => spec_biRank.l0 k b ((acc * (2 * (n - i)) + digit n (b.take i) (b.getD i 0) : Nat) : Int) b (n : Int) ((i + 1 : Nat) : Int)) r) :
    ∀ d j : Nat, j + d = (b.getD i 0 + n).toNat → Ev (fun k => spec_biRank.l1 k b (acc : Int) (i : Int) (b.getD i 0) ((cnt (free (b.take i)) (-(n : Int)) j : Nat) : Int) (-(n : Int) + (j : Int)) b (n : Int) (i : Int)) r := by
  have hl := hb.1
  have hx := hb.2.1 (b.getD i 0) (by rw [getD_at b 0 (by omega)]; exact List.getElem_mem (by omega))
  have hcj : ∀ j, cnt (free (b.take i)) (-(n : Int)) j ≤ j := by
    intro j
    induction j with
    | zero => exact Nat.le_refl _
    | succ j ih => rw [cnt]; split <;> omega
  have ht : (b.take i).length ≤ 1048576 := by rw [List.length_take]; omega
  intro d
  induction d with
  | zero =>
    intro j hj
    obtain rfl : j = (b.getD i 0 + n).toNat := by omega
    have hd : cnt (free (b.take i)) (-(n : Int)) (b.getD i 0 + n).toNat = digit n (b.take i) (b.getD i 0) := rfl
    have hc := hcj (b.getD i 0 + n).toNat
    rw [hd] at hc ⊢
    have m1 : acc * 2 * (n - i) ≤ 20000000 * 2 * 8 := Nat.mul_le_mul (Nat.mul_le_mul_right _ ha) (by omega)
    have e1 : (((acc : Nat) : Int) * 2 * ((n : Int) - (i : Int))) = ((acc * 2 * (n - i) : Nat) : Int) := by
      rw [Int.natCast_mul, Int.natCast_mul, Int.natCast_sub (by omega)]
      rfl
    refine Ev_step (fun k => ?_) hnext
    rw [spec_biRank.l1, if_neg (by omega), nextI i (by omega), hl, w64 (x := (acc : Int) * 2) (by omega) (by omega), w64 (x := (n : Int) - (i : Int)) (by omega) (by omega), e1, w64 (x := ((acc * 2 * (n - i) : Nat) : Int)) (by omega) (by omega), w64 (by omega) (by omega), Nat.mul_assoc acc 2]
    congr 1
  | succ d ih =>
    intro j hj
    have hnx := ih (j + 1) (by omega)
    have w1 : wrap64 (-(n : Int) + (j : Int) + 1) = -(n : Int) + ((j + 1 : Nat) : Int) := by rw [w64 (by omega) (by omega)]; omega
    have w2 : wrap64 (-(-(n : Int) + (j : Int))) = -(-(n : Int) + (j : Int)) := w64 (by omega) (by omega)
    have hc := hcj j
    have w3 : wrap64 (((cnt (free (b.take i)) (-(n : Int)) j : Nat) : Int) + 1) = ((cnt (free (b.take i)) (-(n : Int)) j + 1 : Nat) : Int) := by rw [w64 (by omega) (by omega)]; omega
    have hs : ∀ k, spec_biRank.l1 (k + 1) b (acc : Int) (i : Int) (b.getD i 0) ((cnt (free (b.take i)) (-(n : Int)) j : Nat) : Int) (-(n : Int) + (j : Int)) b (n : Int) (i : Int) = _ := fun k => by
      rw [spec_biRank.l1, if_pos (by omega), w1, w2, w3, Int.toNat_natCast]
    refine Ev_step hs ?_
    have hf : free (b.take i) (-(n : Int) + (j : Int)) = (-(n : Int) + (j : Int) != 0 && (!(b.take i).contains (-(n : Int) + (j : Int)) && !(b.take i).contains (-(-(n : Int) + (j : Int))))) := rfl
    have hcs : cnt (free (b.take i)) (-(n : Int)) (j + 1) = cnt (free (b.take i)) (-(n : Int)) j + if free (b.take i) (-(n : Int) + (j : Int)) = true then 1 else 0 := rfl
    rw [hf] at hcs
    by_cases h0 : -(n : Int) + (j : Int) = 0
    · rw [show (-(n : Int) + (j : Int) != 0) = false by rw [h0]; rfl, Bool.false_and, if_neg (by decide), Nat.add_zero] at hcs
      rw [hcs] at hnx
      exact Ev_pos h0 hnx
    · rw [show (-(n : Int) + (j : Int) != 0) = true from bne_iff_ne.2 h0, Bool.true_and] at hcs
      refine Ev_neg h0 (Ev_pos (by omega) (Ev_pos (by omega) (Ev_bind (l1Has_ev _ _ ht) ?_)))
      cases h1 : (b.take i).contains (-(n : Int) + (j : Int)) with
      | true =>
        rw [h1, Bool.not_true, Bool.false_and, if_neg (by decide), Nat.add_zero] at hcs
        rw [hcs] at hnx
        exact Ev_pos rfl hnx
      | false =>
        rw [h1, Bool.not_false, Bool.true_and] at hcs
        refine Ev_neg (by decide) (Ev_bind (l1Has_ev _ _ ht) ?_)
        cases h2 : (b.take i).contains (-(-(n : Int) + (j : Int))) with
        | true =>
          rw [h2, Bool.not_true, if_neg (by decide), Nat.add_zero] at hcs
          rw [hcs] at hnx
          exact Ev_pos rfl hnx
        | false =>
          rw [h2, Bool.not_false, if_pos rfl] at hcs
          rw [hcs] at hnx
          exact Ev_neg (by decide) hnx
theorem biRank_l0 {n : Nat} {b : List Int} (hb : Bd n b) (hn : n ≤ 8) : ∀ (rest pre : List Int) (acc : Nat), pre ++ rest = b → rk n pre rest acc ≤ 20000000 → Ev (fun k => spec_biRank.l0 k b (acc : Int) b (n : Int) ((pre.length : Nat) : Int)) ((rk n pre rest acc : Nat) : Int) := by
  have hl := hb.1
  intro rest
  induction rest with
  | nil =>
    intro pre acc hp hr
    rw [List.append_nil] at hp
    refine Ev_step (fun k => ?_) (Ev.now _)
    rw [spec_biRank.l0, if_neg (by rw [hp, hl]; omega), rk]
  | cons x xs ih =>
    intro pre acc hp hr
    have hlen : pre.length + (xs.length + 1) = n := by rw [← hl, ← hp, List.length_append, List.length_cons]
    have hx : b.getD pre.length 0 = x := by rw [← hp, List.getD_eq_getElem?_getD, List.getElem?_append_right (Nat.le_refl _), Nat.sub_self]; rfl
    have htk : b.take pre.length = pre := by rw [← hp, List.take_left']; rfl
    rw [rk] at hr ⊢
    have hacc : acc ≤ 20000000 := by
      have h1 := rk_acc n xs (pre ++ [x]) (acc * (2 * (xs.length + 1)) + digit n pre x)
      have h2 := allOf_pos xs.length
      have h3 : acc * (2 * (xs.length + 1)) ≤ (acc * (2 * (xs.length + 1)) + digit n pre x) * allOf xs.length := Nat.le_trans (Nat.le_add_right _ _) (Nat.le_mul_of_pos_right _ h2)
      have h4 : acc ≤ acc * (2 * (xs.length + 1)) := Nat.le_mul_of_pos_right _ (by omega)
      omega
    have hnx := ih (pre ++ [x]) (acc * (2 * (xs.length + 1)) + digit n pre x) (by rw [List.append_assoc]; exact hp) hr
    rw [List.length_append, List.length_singleton] at hnx
    have hl1 := biRank_l1 hb hn (i := pre.length) (by omega) acc ((rk n (pre ++ [x]) xs (acc * (2 * (xs.length + 1)) + digit n pre x) : Nat) : Int) hacc (by
      rw [hx, htk, show n - pre.length = xs.length + 1 by omega]
      exact hnx) (b.getD pre.length 0 + n).toNat 0 (by omega)
    refine Ev_step (fun k => ?_) hl1
    rw [spec_biRank.l0, if_pos (by omega), if_pos (by omega), if_pos (by omega), rd_nat, hl, w64 (x := -(n : Int)) (by omega) (by omega)]
    rw [show (-(n : Int) + ((0 : Nat) : Int)) = -(n : Int) by omega]
    rfl
theorem biRank_ev {n : Nat} {b : List Int} (hb : Bd n b) (hn : n ≤ 8) : Ev (fun k => spec_biRank.f k b) ((rank b : Nat) : Int) := by
  have hr := rank_lt hb
  have ha := allOf_le hn
  have hl := hb.1
  unfold rank at hr ⊢
  rw [hl] at hr ⊢
  have := biRank_l0 hb hn b [] 0 rfl (by omega)
  refine Ev.congr (fun k => ?_) this
  rw [spec_biRank.f, hl]
  rfl
end Go.Proofs.Ytmdpiagpkocheaa.P
end

/-! The law of TurnParts answers true at all rows; no condition. -/
section
set_option linter.unusedVariables false
namespace Go.Proofs.Ytmdpiagpkocheaa.Pure
open Go.RowKit Go.Proofs.YtmdpiagpkocheaaW.PrintWords Go.Proofs.Ytmdpiagpkocheaa.P Go.Proofs.Ytmdpiagpkocheaa.Base Go.Proofs.Ytmdpiagpkocheaa.Order Go.Proofs.Ytmdpiagpkocheaa.Far

theorem ownL (l : List Int) (h : l.length < 17592186044416) : spec_l1Own.f l = some l := by
  rw [spec_l1Own.f, Option.bind_some, List.nil_append, List.length_nil, Nat.zero_add, if_pos h]
theorem parts_l0 (ts : List (List Int)) (hn : ts.length ≤ 1048576) : ∀ (d i : Nat) (b : List Int), i + d = ts.length → bindS b = true → ∃ r : List Int × Bool, Ev (fun k => spec_TurnParts.l0 k b ts (ts.length : Int) (i : Int)) r ∧ Ev (fun k => impl_TurnParts.l0 k b ts (ts.length : Int) (i : Int)) r ∧ r.1.length ≤ 1048576 := by
  intro d
  induction d with
  | zero =>
    intro i b hi hb
    have := (bind_len hb).2
    refine ⟨(b, true), Ev_step (fun k => ?_) (Ev.now _), Ev_step (fun k => ?_) (Ev.now _), by simp only; omega⟩
    · rw [spec_TurnParts.l0, if_neg (by omega)]
    · rw [impl_TurnParts.l0, if_neg (by omega)]
  | succ d ih =>
    intro i b hi hb
    have h : i < ts.length := by omega
    have hb8 := (bind_len hb).2
    have hs : ∀ k, spec_TurnParts.l0 (k + 1) b ts (ts.length : Int) (i : Int) = _ := fun k => by rw [spec_TurnParts.l0, if_pos (by omega), if_pos (by omega), if_pos (by omega), nextI i (by omega)]
    have hp : ∀ k, impl_TurnParts.l0 (k + 1) b ts (ts.length : Int) (i : Int) = _ := fun k => by rw [impl_TurnParts.l0, if_pos (by omega), if_pos (by omega), if_pos (by omega), nextI i (by omega)]
    by_cases h2 : ((rd_L1 ts (i : Int)).length : Int) = 2
    · cases hq : partB b (rd (rd_L1 ts (i : Int)) 0) (rd (rd_L1 ts (i : Int)) 1) with
      | false =>
        refine ⟨([], false), Ev_step hs (Ev_pos h2 (Ev_pos (by omega) (Ev_pos (by omega) (Ev_bind (biPart_ev b _ _ (by omega)) ?_)))), Ev_step hp (Ev_pos h2 (Ev_pos (by omega) (Ev_pos (by omega) (Ev_some (isPart_eq b _ _ hb) ?_)))), Nat.zero_le _⟩
        · rw [hb, hq]
          exact Ev_neg (by decide) (Ev.now _)
        · rw [hq]
          exact Ev_neg (by decide) (Ev.now _)
      | true =>
        obtain ⟨f, t, hf, ht, ef, et⟩ : ∃ f t : Nat, f ≤ t ∧ t < b.length ∧ rd (rd_L1 ts (i : Int)) 0 = (f : Int) ∧ rd (rd_L1 ts (i : Int)) 1 = (t : Int) := by
          have := hq
          unfold partB at this
          have := of_decide_eq_true this
          exact ⟨(rd (rd_L1 ts (i : Int)) 0).toNat, (rd (rd_L1 ts (i : Int)) 1).toNat, by omega, by omega, by omega, by omega⟩
        have hbd := ((bd_iff b).1 hb).1
        have hl := (bind_len hb).1
        have htb : bindS (turn b f t) = true := bind_of_bd (turn_bd hbd hf ht) hl hb8
        obtain ⟨r, h3, h4, h5⟩ := ih (i + 1) (turn b f t) (by omega) htb
        refine ⟨r, Ev_step hs (Ev_pos h2 (Ev_pos (by omega) (Ev_pos (by omega) (Ev_bind (biPart_ev b _ _ (by omega)) ?_)))), Ev_step hp (Ev_pos h2 (Ev_pos (by omega) (Ev_pos (by omega) (Ev_some (isPart_eq b _ _ hb) ?_)))), h5⟩
        · rw [hb, hq, ef, et]
          exact Ev_pos rfl (Ev_bind (biTurn_ev hbd hb8 f t hf ht) h3)
        · rw [hq, ef, et]
          exact Ev_pos rfl (Ev_bind (turned_ev hbd hb8 f t hf ht) h4)
    · exact ⟨([], false), Ev_step hs (Ev_neg h2 (Ev.now _)), Ev_step hp (Ev_neg h2 (Ev.now _)), Nat.zero_le _⟩
theorem turnParts_ev (b : List Int) (ts : List (List Int)) (hn : b.length ≤ 1048576) (ht : ts.length ≤ 1048576) : ∃ r : List Int × Bool, Ev (fun k => spec_TurnParts.f k b ts) r ∧ Ev (fun k => impl_TurnParts.f k b ts) r ∧ r.1.length ≤ 1048576 := by
  have hno : Ev (fun k => spec_TurnParts.j0 k b ts true) (([] : List Int), false) := Ev_step (fun k => by rw [spec_TurnParts.j0]) (Ev_pos rfl (Ev.now _))
  have hno' : Ev (fun k => impl_TurnParts.j0 k b ts true) (([] : List Int), false) := Ev_step (fun k => by rw [impl_TurnParts.j0]) (Ev_pos rfl (Ev.now _))
  simp only [spec_TurnParts.f, impl_TurnParts.f]
  cases hb : bindS b with
  | false =>
    refine ⟨([], false), Ev_bind (biGood_ev b hn) ?_, Ev_bind (isBinding_ev b hn) ?_, Nat.zero_le _⟩
    · rw [hb]
      exact Ev_neg (by decide) hno
    · rw [hb]
      exact Ev_neg (by decide) hno'
  | true =>
    have hb8 := (bind_len hb).2
    by_cases hc : (ts.length : Int) > 40
    · refine ⟨([], false), Ev_bind (biGood_ev b hn) ?_, Ev_bind (isBinding_ev b hn) ?_, Nat.zero_le _⟩
      · rw [hb, decide_eq_true hc]
        exact Ev_pos rfl hno
      · rw [hb, decide_eq_true hc]
        exact Ev_pos rfl hno'
    · obtain ⟨r, h1, h2, h3⟩ := parts_l0 ts ht ts.length 0 b (by omega) hb
      refine ⟨r, Ev_bind (biGood_ev b hn) ?_, Ev_bind (isBinding_ev b hn) ?_, h3⟩
      · rw [hb, decide_eq_false hc]
        exact Ev_pos rfl (Ev_step (fun k => by rw [spec_TurnParts.j0]) (Ev_neg (by decide) (Ev_some (ownL b (by omega)) h1)))
      · rw [hb, decide_eq_false hc]
        exact Ev_pos rfl (Ev_step (fun k => by rw [impl_TurnParts.j0]) (Ev_neg (by decide) (Ev_some (show clone_Int.f b = some b by rw [clone_Int.f, if_pos (by omega)]) h2)))
theorem FnExactTurnParts : laws_FnExactTurnParts.Pure := by
  intro l ts ⟨hm, _⟩ ⟨hm2, hm3⟩
  refine Ev.rounds (g := fun k => laws_FnExactTurnParts.f k l ts) ?_
  by_cases hn : l.length ≤ 1048576
  · obtain ⟨s, hs, hs2⟩ := szIntSS_ev ts hm2 (fun r hr => (hm3 r hr).1)
    simp only [laws_FnExactTurnParts.f]
    refine Ev_neg (by omega) (Ev_bind hs ?_)
    by_cases h0 : s < 0
    · exact Ev_pos h0 (Ev.now _)
    · refine Ev_neg h0 ?_
      have hz := hs2 (by omega)
      have hF := Fine.of hz
      have h1 := toIntS_ev l hn
      have h2 := toIntSS_ev ts hF
      obtain ⟨⟨d1, d2⟩, h3, h4, hd⟩ := turnParts_ev l ts hn hF.1
      have h5 := eqIntS_ev d1 hd
      have h6 := markIntS_ev d1 hd
      have h7 := heldIntS_ev d1.length hd
      have h8 := markIntS_ev l hn
      have h9 : Ev (fun k => laws_markIntSS.f k ts (1 + (l.length : Int))) (1 + (l.length : Int) + (tot ts : Int)) := ⟨0, fun k _ => by
        show laws_markIntSS.f k ts _ = _
        rw [laws_markIntSS.f, if_pos (by omega)]⟩
      refine Ev_bind h1 (Ev_bind h2 (Ev_bind h3 (Ev_bind h1 (Ev_bind h2 (Ev_bind h4 (Ev_bind h5 (Ev_pos rfl ?_)))))))
      refine Ev_step (fun k => by rw [laws_FnExactTurnParts.j0]) ?_
      refine Ev_neg (by simp) (Ev_bind h1 (Ev_bind (eqIntS_ev l hn) (Ev_pos rfl (Ev_bind h2 (Ev_bind (eqIntSS_ev ts hF) (Ev_pos rfl (Ev_bind h8 (Ev_bind h9 (Ev_neg (by omega) (Ev_bind h5 (Ev_pos rfl ?_)))))))))))
      refine Ev_step (fun k => by rw [laws_FnExactTurnParts.j1]) ?_
      refine Ev_neg (by simp) (Ev_bind h6 (Ev_bind h7 (Ev_neg (by omega) (Ev_pos rfl (Ev_bind h1 (Ev_bind h2 (Ev_bind h4 (Ev_bind h5 (Ev_pos rfl ?_)))))))))
      refine Ev_step (fun k => by rw [laws_FnExactTurnParts.j2]) ?_
      exact Ev_neg (by simp) (Ev_bind h7 (Ev_neg (by omega) (Ev_pos rfl (Ev.now _))))
  · refine ⟨0, fun k _ => ?_⟩
    simp only [laws_FnExactTurnParts.f]
    rw [if_pos (by omega)]
end Go.Proofs.Ytmdpiagpkocheaa.Pure
end
