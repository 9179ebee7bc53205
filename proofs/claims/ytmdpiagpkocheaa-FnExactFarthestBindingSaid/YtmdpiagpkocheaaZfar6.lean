/- A part of a binding is turned: the program and the reference do the same. -/
import Derived.Test.YtmdpiagpkocheaaZfar1
import Derived.Test.YtmdpiagpkocheaaZfar5
import Derived.Test.YtmdpiagpkocheaaZfar4
import Derived.Test.YtmdpiagpkocheaaZfar2
import Derived.Test.YtmdpiagpkocheaaZfar0
import Derived.Carry
import Derived.IntWalk
import Derived.Test.YtmdpiagpkocheaaZfar3
/-! A part of a binding is turned: the program and the reference do the same. -/
section
namespace Go.Proofs.Ytmdpiagpkocheaa.P
open Go.RowKit Go.Proofs.YtmdpiagpkocheaaW.PrintWords Go.Proofs.YtmdpiagpkocheaaW.PrintLast Go.Proofs.YtmdpiagpkocheaaW.PrintMore Go.Proofs.Ytmdpiagpkocheaa.Base Go.Proofs.Ytmdpiagpkocheaa.Order
set_option linter.unusedVariables false

theorem same_l0 : ∀ (k : Nat) (b : List Int) (f t : Int) (acc : List Int) (i : Int), impl_turned.l0 k b f t acc i = spec_biTurn.l0 k b f t acc i := by
  intro k
  induction k with
  | zero => intros; rfl
  | succ k ih =>
    intro b f t acc i
    rw [impl_turned.l0, spec_biTurn.l0]
    simp only [ih]
theorem turn_l0 (b : List Int) (f t : Nat) (hf : f ≤ t) (ht : t < b.length) (hb : b.length ≤ 1048576) : ∀ (n i : Nat) (acc : List Int), i + n = t + 1 → f ≤ i → acc.length = b.length → ∃ r, Ev (fun k => spec_biTurn.l0 k b (f : Int) (t : Int) acc (i : Int)) r ∧ r.length = b.length := by
  intro n
  induction n with
  | zero =>
    intro i acc hi h1 ha
    refine ⟨acc, Ev_step (fun k => ?_) (Ev.now _), ha⟩
    rw [spec_biTurn.l0, if_neg (by omega)]
  | succ n ih =>
    intro i acc hi h1 ha
    have w1 : wrap64 (wrap64 ((f : Int) + (t : Int)) - (i : Int)) = (f : Int) + t - i := by rw [w64 (x := (f : Int) + t) (by omega) (by omega), w64 (by omega) (by omega)]
    obtain ⟨r, h2, h3⟩ := ih (i + 1) (acc.set i (wrap64 (-(rd b ((f : Int) + t - i))))) (by omega) (by omega) (by rw [List.length_set]; exact ha)
    refine ⟨r, Ev_step (fun k => ?_) h2, h3⟩
    rw [spec_biTurn.l0, w1, if_pos (by omega), if_pos (by omega), if_pos (by omega), if_pos (by omega), if_pos (by omega), nextI i (by omega), Int.toNat_natCast]
/-- Both turn a part the same. -/
theorem turn_both (b : List Int) (f t : Int) (hb : bindS b = true) (hp : partB b f t = true) : ∃ r, Ev (fun k => spec_biTurn.f k b f t) r ∧ Ev (fun k => impl_turned.f k b f t) r ∧ r.length = b.length := by
  have hl := bind_len hb
  unfold partB at hp
  rw [decide_eq_true_eq] at hp
  obtain ⟨f, rfl⟩ := Int.eq_ofNat_of_zero_le hp.1
  obtain ⟨t, rfl⟩ := Int.eq_ofNat_of_zero_le (show 0 ≤ t by omega)
  obtain ⟨r, h1, h2⟩ := turn_l0 b f t (by omega) (by omega) (by omega) (t + 1 - f) f b (by omega) (Nat.le_refl _) rfl
  refine ⟨r, ?_, ?_, h2⟩
  · simp only [spec_biTurn.f]
    refine Ev_some (a := b) ?_ h1
    rw [spec_l1Own.f]
    simp only [Option.bind_some, List.length_nil, List.nil_append]
    rw [if_pos (by omega)]
  · simp only [impl_turned.f]
    refine Ev_some (a := b) ?_ (Ev.congr (fun k => same_l0 k b f t b f) h1)
    rw [clone_Int.f, if_pos (by omega)]
end Go.Proofs.Ytmdpiagpkocheaa.P
end

/-! Turns, ranks and the search in breadth: what the program's and the reference's functions come to; for bindings of at most eight leaves. -/
section
namespace Go.Proofs.Ytmdpiagpkocheaa.P
open Go.RowKit Go.Proofs.YtmdpiagpkocheaaW.PrintWords Go.Proofs.YtmdpiagpkocheaaW.PrintLast Go.Proofs.YtmdpiagpkocheaaW.PrintMore Go.Proofs.Ytmdpiagpkocheaa.Base Go.Proofs.Ytmdpiagpkocheaa.Order Go.Proofs.Ytmdpiagpkocheaa.Far
set_option linter.unusedVariables false

/-- A binding while its part is being turned. -/
def accT (b : List Int) (f t i : Nat) : List Int := (List.range b.length).map fun j => if f ≤ j ∧ j < i then -(b.getD (f + t - j) 0) else b.getD j 0
theorem accT_len (b : List Int) (f t i : Nat) : (accT b f t i).length = b.length := by simp [accT]
theorem accT_at (b : List Int) (f t i j : Nat) (h : j < b.length) : (accT b f t i).getD j 0 = if f ≤ j ∧ j < i then -(b.getD (f + t - j) 0) else b.getD j 0 := by
  rw [List.getD_eq_getElem?_getD]
  simp [accT, h]
theorem accT_start (b : List Int) (f t : Nat) : accT b f t f = b := by
  refine ext_at (accT_len _ _ _ _) (fun j hj => ?_)
  rw [accT_at b f t f j hj, if_neg (by omega)]
theorem accT_end (b : List Int) (f t : Nat) (hf : f ≤ t) (ht : t < b.length) : accT b f t (t + 1) = turn b f t := by
  refine ext_at (by rw [accT_len, turn_len hf ht]) (fun j hj => ?_)
  rw [turn_len hf ht] at hj
  rw [accT_at b f t _ j hj, turn_at hf ht]
  by_cases h : f ≤ j ∧ j ≤ t
  · rw [if_pos h, if_pos (by omega)]
  · rw [if_neg h, if_neg (by omega)]
theorem accT_set (b : List Int) (f t i : Nat) (hi : f ≤ i) (h : i < b.length) : (accT b f t i).set i (-(b.getD (f + t - i) 0)) = accT b f t (i + 1) := by
  refine ext_at (by rw [List.length_set, accT_len, accT_len]) (fun j hj => ?_)
  rw [accT_len] at hj
  rw [accT_at b f t _ j hj]
  by_cases e : j = i
  · subst e
    rw [getD_set_self _ _ _ (by rw [accT_len]; exact h), if_pos (by omega)]
  · rw [List.getD_eq_getElem?_getD, List.getElem?_set_ne (fun h => e h.symm), ← List.getD_eq_getElem?_getD, accT_at b f t i j hj]
    by_cases h2 : f ≤ j ∧ j < i
    · rw [if_pos h2, if_pos (by omega)]
    · rw [if_neg h2, if_neg (by omega)]
theorem bd_at {n : Nat} {b : List Int} (h : Bd n b) (hn : n ≤ 8) (i : Nat) : -8 ≤ b.getD i 0 ∧ b.getD i 0 ≤ 8 := by
  rcases Nat.lt_or_ge i b.length with hi | hi
  · have := h.2.1 (b.getD i 0) (by rw [getD_at b 0 hi]; exact List.getElem_mem hi)
    omega
  · rw [List.getD_eq_getElem?_getD, List.getElem?_eq_none hi]
    decide
theorem biTurn_l0 {n : Nat} {b : List Int} (hb : Bd n b) (hn : n ≤ 8) (f t : Nat) (hf : f ≤ t) (ht : t < n) : ∀ (d i : Nat), i + d = t + 1 → f ≤ i → Ev (fun k => spec_biTurn.l0 k b (f : Int) (t : Int) (accT b f t i) (i : Int)) (turn b f t) := by
  have hl := hb.1
  intro d
  induction d with
  | zero =>
    intro i hi h1
    obtain rfl : i = t + 1 := by omega
    refine Ev_step (fun k => ?_) (Ev.now _)
    rw [spec_biTurn.l0, if_neg (by omega), accT_end b f t hf (by omega)]
  | succ d ih =>
    intro i hi h1
    have w1 : wrap64 (wrap64 ((f : Int) + (t : Int)) - (i : Int)) = ((f + t - i : Nat) : Int) := by rw [w64 (x := (f : Int) + t) (by omega) (by omega), w64 (by omega) (by omega)]; omega
    have ha := bd_at hb hn (f + t - i)
    refine Ev_step (fun k => ?_) (ih (i + 1) (by omega) (by omega))
    rw [spec_biTurn.l0, w1, if_pos (by omega), if_pos (by omega), if_pos (by omega), if_pos (by omega), if_pos (by rw [accT_len]; omega), nextI i (by omega), Int.toNat_natCast, rd_nat, w64 (x := -(b.getD (f + t - i) 0)) (by omega) (by omega), accT_set b f t i h1 (by omega)]
theorem biTurn_ev {n : Nat} {b : List Int} (hb : Bd n b) (hn : n ≤ 8) (f t : Nat) (hf : f ≤ t) (ht : t < n) : Ev (fun k => spec_biTurn.f k b (f : Int) (t : Int)) (turn b f t) := by
  have hl := hb.1
  simp only [spec_biTurn.f]
  refine Ev_some (a := b) ?_ ?_
  · rw [spec_l1Own.f]
    simp only [Option.bind_some, List.length_nil, List.nil_append]
    rw [if_pos (by omega)]
  · have := biTurn_l0 hb hn f t hf ht (t + 1 - f) f (by omega) (Nat.le_refl _)
    rwa [accT_start] at this
theorem turned_ev {n : Nat} {b : List Int} (hb : Bd n b) (hn : n ≤ 8) (f t : Nat) (hf : f ≤ t) (ht : t < n) : Ev (fun k => impl_turned.f k b (f : Int) (t : Int)) (turn b f t) := by
  have hl := hb.1
  simp only [impl_turned.f]
  refine Ev_some (a := b) ?_ (Ev.congr (fun k => same_l0 k b f t b f) ?_)
  · rw [clone_Int.f, if_pos (by omega)]
  · have := biTurn_l0 hb hn f t hf ht (t + 1 - f) f (by omega) (Nat.le_refl _)
    rwa [accT_start] at this
theorem right_succ (i : Nat) : right (i + 1) = right i ++ [(i : Int) + 1] := by simp [right, List.range_succ]
theorem right_l0 (n : Nat) (hn : n ≤ 8) : ∀ d i : Nat, i + d = n → Ev (fun k => impl_right.l0 k (right i) (n : Int) (i : Int)) (right n) := by
  intro d
  induction d with
  | zero =>
    intro i hi
    obtain rfl : i = n := by omega
    refine Ev_step (fun k => ?_) (Ev.now _)
    rw [impl_right.l0, if_neg (by omega)]
  | succ d ih =>
    intro i hi
    refine Ev_step (fun k => ?_) (ih (i + 1) (by omega))
    have w1 : wrap64 ((i : Int) + 1) = (i : Int) + 1 := w64 (by omega) (by omega)
    rw [impl_right.l0, if_pos (by omega), if_pos (by rw [right_len]; omega), w1, ← right_succ]
    rfl
theorem right_ev (n : Nat) (hn : n ≤ 8) : Ev (fun k => impl_right.f k (n : Int)) (right n) := by
  refine Ev.congr (fun k => ?_) (right_l0 n hn n 0 (by omega))
  rw [impl_right.f]
  rfl
theorem allOf_le {m : Nat} (h : m ≤ 8) : allOf m ≤ 10321920 := by
  rcases (by omega : m = 0 ∨ m = 1 ∨ m = 2 ∨ m = 3 ∨ m = 4 ∨ m = 5 ∨ m = 6 ∨ m = 7 ∨ m = 8) with rfl | rfl | rfl | rfl | rfl | rfl | rfl | rfl | rfl <;> decide
theorem biAll_l0 (n : Nat) (hn : n ≤ 8) : ∀ d m : Nat, m + d = n → Ev (fun k => spec_biAll.l0 k (n : Int) ((allOf m : Nat) : Int) ((m : Int) + 1)) ((allOf n : Nat) : Int) := by
  intro d
  induction d with
  | zero =>
    intro m hm
    obtain rfl : m = n := by omega
    refine Ev_step (fun k => ?_) (Ev.now _)
    rw [spec_biAll.l0, if_neg (by omega)]
  | succ d ih =>
    intro m hm
    refine Ev_step (fun k => ?_) (ih (m + 1) (by omega))
    have h1 := allOf_le (m := m + 1) (by omega)
    have w1 : wrap64 (2 * ((m : Int) + 1)) = ((2 * (m + 1) : Nat) : Int) := by rw [w64 (by omega) (by omega)]; omega
    have w2 : wrap64 (((allOf m : Nat) : Int) * ((2 * (m + 1) : Nat) : Int)) = ((allOf (m + 1) : Nat) : Int) := by
      have e : allOf m * (2 * (m + 1)) = allOf (m + 1) := rfl
      rw [← Int.natCast_mul, e, w64 (by omega) (by omega)]
    rw [spec_biAll.l0, if_pos (by omega), w1, w2, w64 (x := (m : Int) + 1 + 1) (by omega) (by omega)]
    rfl
theorem biAll_ev (n : Nat) (hn : n ≤ 8) : Ev (fun k => spec_biAll.f k (n : Int)) ((allOf n : Nat) : Int) := by
  refine Ev.congr (fun k => ?_) (biAll_l0 n hn n 0 (by omega))
  rw [spec_biAll.f]
  rfl
theorem biRank_l1 {n : Nat} {b : List Int} (hb : Bd n b) (hn : n ≤ 8) {i : Nat} (hi : i < n) (acc : Nat) (r : Int) (ha : acc ≤ 20000000)
    (hnext : Ev (fun k => spec_biRank.l0 k b ((acc * (2 * (n - i)) + digit n (b.take i) (b.getD i 0) : Nat) : Int) b (n : Int) ((i + 1 : Nat) : Int)) r) :
    ∀ d j : Nat, j + d = (b.getD i 0 + n).toNat → Ev (fun k => spec_biRank.l1 k b (acc : Int) (i : Int) (b.getD i 0) ((cnt (free (b.take i)) (-(n : Int)) j : Nat) : Int) (-(n : Int) + (j : Int)) b (n : Int) (i : Int)) r := by
  have hl := hb.1
  have hx := hb.2.1 (b.getD i 0) (by rw [getD_at b 0 (by omega)]; exact List.getElem_mem (by omega))
  have hcj : ∀ j, cnt (free (b.take i)) (-(n : Int)) j ≤ j := by
    intro j
    induction j with
    | zero => exact Nat.le_refl _
    | succ j ih => rw [cnt]; split <;> omega
  have ht : (b.take i).length ≤ 1048576 := by rw [List.length_take]; omega
  intro d
  induction d with
  | zero =>
    intro j hj
    obtain rfl : j = (b.getD i 0 + n).toNat := by omega
    have hd : cnt (free (b.take i)) (-(n : Int)) (b.getD i 0 + n).toNat = digit n (b.take i) (b.getD i 0) := rfl
    have hc := hcj (b.getD i 0 + n).toNat
    rw [hd] at hc ⊢
    have m1 : acc * 2 * (n - i) ≤ 20000000 * 2 * 8 := Nat.mul_le_mul (Nat.mul_le_mul_right _ ha) (by omega)
    have e1 : (((acc : Nat) : Int) * 2 * ((n : Int) - (i : Int))) = ((acc * 2 * (n - i) : Nat) : Int) := by
      rw [Int.natCast_mul, Int.natCast_mul, Int.natCast_sub (by omega)]
      rfl
    refine Ev_step (fun k => ?_) hnext
    rw [spec_biRank.l1, if_neg (by omega), nextI i (by omega), hl, w64 (x := (acc : Int) * 2) (by omega) (by omega), w64 (x := (n : Int) - (i : Int)) (by omega) (by omega), e1, w64 (x := ((acc * 2 * (n - i) : Nat) : Int)) (by omega) (by omega), w64 (by omega) (by omega), Nat.mul_assoc acc 2]
    congr 1
  | succ d ih =>
    intro j hj
    have hnx := ih (j + 1) (by omega)
    have w1 : wrap64 (-(n : Int) + (j : Int) + 1) = -(n : Int) + ((j + 1 : Nat) : Int) := by rw [w64 (by omega) (by omega)]; omega
    have w2 : wrap64 (-(-(n : Int) + (j : Int))) = -(-(n : Int) + (j : Int)) := w64 (by omega) (by omega)
    have hc := hcj j
    have w3 : wrap64 (((cnt (free (b.take i)) (-(n : Int)) j : Nat) : Int) + 1) = ((cnt (free (b.take i)) (-(n : Int)) j + 1 : Nat) : Int) := by rw [w64 (by omega) (by omega)]; omega
    have hs : ∀ k, spec_biRank.l1 (k + 1) b (acc : Int) (i : Int) (b.getD i 0) ((cnt (free (b.take i)) (-(n : Int)) j : Nat) : Int) (-(n : Int) + (j : Int)) b (n : Int) (i : Int) = _ := fun k => by
      rw [spec_biRank.l1, if_pos (by omega), w1, w2, w3, Int.toNat_natCast]
    refine Ev_step hs ?_
    have hf : free (b.take i) (-(n : Int) + (j : Int)) = (-(n : Int) + (j : Int) != 0 && (!(b.take i).contains (-(n : Int) + (j : Int)) && !(b.take i).contains (-(-(n : Int) + (j : Int))))) := rfl
    have hcs : cnt (free (b.take i)) (-(n : Int)) (j + 1) = cnt (free (b.take i)) (-(n : Int)) j + if free (b.take i) (-(n : Int) + (j : Int)) = true then 1 else 0 := rfl
    rw [hf] at hcs
    by_cases h0 : -(n : Int) + (j : Int) = 0
    · rw [show (-(n : Int) + (j : Int) != 0) = false by rw [h0]; rfl, Bool.false_and, if_neg (by decide), Nat.add_zero] at hcs
      rw [hcs] at hnx
      exact Ev_pos h0 hnx
    · rw [show (-(n : Int) + (j : Int) != 0) = true from bne_iff_ne.2 h0, Bool.true_and] at hcs
      refine Ev_neg h0 (Ev_pos (by omega) (Ev_pos (by omega) (Ev_bind (l1Has_ev _ _ ht) ?_)))
      cases h1 : (b.take i).contains (-(n : Int) + (j : Int)) with
      | true =>
        rw [h1, Bool.not_true, Bool.false_and, if_neg (by decide), Nat.add_zero] at hcs
        rw [hcs] at hnx
        exact Ev_pos rfl hnx
      | false =>
        rw [h1, Bool.not_false, Bool.true_and] at hcs
        refine Ev_neg (by decide) (Ev_bind (l1Has_ev _ _ ht) ?_)
        cases h2 : (b.take i).contains (-(-(n : Int) + (j : Int))) with
        | true =>
          rw [h2, Bool.not_true, if_neg (by decide), Nat.add_zero] at hcs
          rw [hcs] at hnx
          exact Ev_pos rfl hnx
        | false =>
          rw [h2, Bool.not_false, if_pos rfl] at hcs
          rw [hcs] at hnx
          exact Ev_neg (by decide) hnx
theorem biRank_l0 {n : Nat} {b : List Int} (hb : Bd n b) (hn : n ≤ 8) : ∀ (rest pre : List Int) (acc : Nat), pre ++ rest = b → rk n pre rest acc ≤ 20000000 → Ev (fun k => spec_biRank.l0 k b (acc : Int) b (n : Int) ((pre.length : Nat) : Int)) ((rk n pre rest acc : Nat) : Int) := by
  have hl := hb.1
  intro rest
  induction rest with
  | nil =>
    intro pre acc hp hr
    rw [List.append_nil] at hp
    refine Ev_step (fun k => ?_) (Ev.now _)
    rw [spec_biRank.l0, if_neg (by rw [hp, hl]; omega), rk]
  | cons x xs ih =>
    intro pre acc hp hr
    have hlen : pre.length + (xs.length + 1) = n := by rw [← hl, ← hp, List.length_append, List.length_cons]
    have hx : b.getD pre.length 0 = x := by rw [← hp, List.getD_eq_getElem?_getD, List.getElem?_append_right (Nat.le_refl _), Nat.sub_self]; rfl
    have htk : b.take pre.length = pre := by rw [← hp, List.take_left']; rfl
    rw [rk] at hr ⊢
    have hacc : acc ≤ 20000000 := by
      have h1 := rk_acc n xs (pre ++ [x]) (acc * (2 * (xs.length + 1)) + digit n pre x)
      have h2 := allOf_pos xs.length
      have h3 : acc * (2 * (xs.length + 1)) ≤ (acc * (2 * (xs.length + 1)) + digit n pre x) * allOf xs.length := Nat.le_trans (Nat.le_add_right _ _) (Nat.le_mul_of_pos_right _ h2)
      have h4 : acc ≤ acc * (2 * (xs.length + 1)) := Nat.le_mul_of_pos_right _ (by omega)
      omega
    have hnx := ih (pre ++ [x]) (acc * (2 * (xs.length + 1)) + digit n pre x) (by rw [List.append_assoc]; exact hp) hr
    rw [List.length_append, List.length_singleton] at hnx
    have hl1 := biRank_l1 hb hn (i := pre.length) (by omega) acc ((rk n (pre ++ [x]) xs (acc * (2 * (xs.length + 1)) + digit n pre x) : Nat) : Int) hacc (by
      rw [hx, htk, show n - pre.length = xs.length + 1 by omega]
      exact hnx) (b.getD pre.length 0 + n).toNat 0 (by omega)
    refine Ev_step (fun k => ?_) hl1
    rw [spec_biRank.l0, if_pos (by omega), if_pos (by omega), if_pos (by omega), rd_nat, hl, w64 (x := -(n : Int)) (by omega) (by omega)]
    rw [show (-(n : Int) + ((0 : Nat) : Int)) = -(n : Int) by omega]
    rfl
theorem biRank_ev {n : Nat} {b : List Int} (hb : Bd n b) (hn : n ≤ 8) : Ev (fun k => spec_biRank.f k b) ((rank b : Nat) : Int) := by
  have hr := rank_lt hb
  have ha := allOf_le hn
  have hl := hb.1
  unfold rank at hr ⊢
  rw [hl] at hr ⊢
  have := biRank_l0 hb hn b [] 0 rfl (by omega)
  refine Ev.congr (fun k => ?_) this
  rw [spec_biRank.f, hl]
  rfl
end Go.Proofs.Ytmdpiagpkocheaa.P
end

/-! The program's search in breadth: for one to five leaves it answers a new map of each binding's least number of turns. -/
section
namespace Go.Proofs.Ytmdpiagpkocheaa.P
open Go.RowKit Go.Proofs.YtmdpiagpkocheaaW.PrintWords Go.Proofs.YtmdpiagpkocheaaW.PrintLast Go.Proofs.YtmdpiagpkocheaaW.PrintMore Go.Proofs.Ytmdpiagpkocheaa.Base Go.Proofs.Ytmdpiagpkocheaa.Order Go.Proofs.Ytmdpiagpkocheaa.Far
set_option linter.unusedVariables false
set_option linter.unusedSimpArgs false

/-- What the search answers. -/
def FarPost (n : Nat) (w : World) (e : Ending) (w' : World) : Prop := ∃ B, e = .returned (.map (some B)) ∧ w.heap.size ≤ B ∧ FarAt w' B (distO n) ∧ Below w.heap.size w w'
/-- The rows that were met, and which block they are not. -/
def Rows (w : World) (base B : Nat) (v : Value) (o : Out) : Prop := Kd.N (Kd.slice 3 (Kd.int .i64)) 22 w base (fun k => k ≠ B) v (o.map (·.1))
theorem Rows.at_ {w : World} {base B : Nat} {ad : Addr} {m c : Nat} {o : Out} (h : Rows w base B (.slice (some ad) m c) o) {i : Nat} {q : List Int} {d : Int} (hi : o[i]? = some (q, d)) :
    m = o.length ∧ ∃ A cc, w.cell? (ad.add i) = some (.slice A q.length cc) ∧ q.length ≤ cc ∧ Kd.C (Kd.int .i64) w A q.length q := by
  have hr := Kd.N_reads' h
  have hil := (List.getElem?_eq_some_iff.1 hi).1
  rw [List.length_map] at hr
  obtain ⟨ad', A, cc, e, hx, hl, hC⟩ := at_L1 hr.2.2 (i : Int) (by omega) (by omega)
  cases e
  have hq : rd_L1 (o.map (·.1)) (i : Int) = q := by
    unfold rd_L1
    rw [Int.toNat_natCast, List.getD_eq_getElem?_getD, List.getElem?_map, hi]
    rfl
  rw [hq] at hx hl hC
  rw [Int.toNat_natCast] at hx
  exact ⟨hr.1, A, cc, hx, hl, hC⟩

theorem Rows.slice {w : World} {base B : Nat} {v : Value} {o : Out} (h : Rows w base B v o) : ∃ A c, v = .slice A o.length c := by
  obtain ⟨A, c, e⟩ := Kd.N_slice h
  rw [List.length_map] at e
  exact ⟨A, c, e⟩
theorem add_nought (a : Addr) : a.add 0 = a := by
  unfold Addr.add
  rw [if_pos rfl]
theorem Rows.addr {w : World} {base B m c : Nat} {A : Option Addr} {o : Out} (h : Rows w base B (.slice A m c) o) (ho : 0 < o.length) : ∃ ad, A = some ad := by
  have hr := Kd.N_reads' h
  rw [List.length_map] at hr
  obtain ⟨ad, _, _, e, _⟩ := at_L1 hr.2.2 0 (by omega) (by omega)
  exact ⟨ad, e⟩
set_option maxHeartbeats 4000000 in
set_option maxRecDepth 100000 in
theorem distances_calls (n : Nat) (h1 : 1 ≤ n) (hn : n ≤ 5) (w : World) : Calls Try.prog 44 #[.int .i64 (n : Int)] w (FarPost n w) := by
  obtain ⟨K1, hK1⟩ := Ev_at (right_ev n (by omega))
  have HR1 := Aside0.mk (hK1 K1 (Nat.le_refl _))
  clear hK1
  have HB := Aside0.mk (Below.refl w.heap.size w)
  have HN := Aside0.mk (And.intro h1 hn)
  clear h1 hn
  go_enter Try.func44, Try.ntmps44
  go_wp2_with (first | (go_at_call 58; (with_reducible refine (impl_right.calls K1 (n : Int) (right n) _ HR1.out).mono ?_); rintro e w1 ⟨v1, rfl, ho, hb⟩; have HO1 := Aside0.mk ho; have HB1 := Aside0.mk hb; clear ho hb; obtain ⟨A1, c1, e1⟩ := Kd.R_slice HO1.out; subst e1) | ((with_reducible refine gate_dst (N := 13) rfl ?_); refine Kd.N_lit (Kd.slice 3 (Kd.int .i64)) _ 22 ?hg (N' := 13) ?hd (xs := ([right n] : List (List Int))) (inner := [.slice A1 (right n).length c1]) (ok := (fun _ => True)) (okp := (fun _ => True)) ?hr ?hp (fun _ hk => hk) trivial (Below.refl _ _) (Nat.le_refl _) (by simp) ?_; (case hd => rfl); (case hg => rfl); (case hr => first | (go_simp; done) | (go_simp; rfl)); (case hp => exact (Reps.one (show Kd.FK (Kd.slice 3 (Kd.int .i64)) _ _ (right n) [.slice A1 (right n).length c1] from (Kd.FK_slice_mk (Kd.R_reads' HO1.out).2.1 (Kd.R_F HO1.out))) (Reps.none _ _))); intro v2 w2 ho2 hb2 hg_ hnew_; clear hg_ hnew_; have HO2 := Aside0.mk ho2; have HB2 := Aside0.mk hb2; clear ho2 hb2; obtain ⟨A2, c2, e2⟩ := Kd.N_slice HO2.out; subst e2) | ((with_reducible refine gate_dst (N := 14) rfl ?_); refine far_event rfl rfl ?_; intro B w3 hB hF hb3; have HB3 := Aside0.mk (below_step (below_step HB1.out HB2.out) hb3); have HF := Aside0.mk hF; have GB := Aside0.mk (show w.heap.size ≤ B from by rw [hB]; exact Nat.le_trans HB1.out.size HB2.out.size); have HO := Aside0.mk (show Rows w3 w.heap.size B (.slice A2 1 c2) [(right n, 0)] from Kd.N_below (Kd.N_mono (Kd.N_elderB (Kd.N_lower HO2.out HB1.out.size) B (by rw [hB]; exact Nat.le_refl _)) (fun k hk => hk.2)) hb3); clear hB hF hb3 HO2 HO1; obtain ⟨ad, ea⟩ := HO.out.addr Nat.zero_lt_one; subst ea; obtain ⟨-, A3, c3, hx3, hl3, hC3⟩ := HO.out.at_ (i := 0) rfl; rw [add_nought] at hx3; have HL3 := Aside0.mk hl3; have HC3 := Aside0.mk hC3; clear hl3 hC3) | (go_at_call 48; (refine (keyOf_calls _ _ (right n) _ HC3.out (by rw [right_len]; have := HN.out; omega)).mono ?_); rintro e w4 ⟨rfl, hb⟩; have HF4 := Aside0.mk (HF.out.below hb); have HO4 := Aside0.mk (show Rows w4 w.heap.size B _ _ from Kd.N_below HO.out hb); have HB4 := Aside0.mk (below_step HB3.out hb); clear hb HF HO) | (refine far_insert rfl (.tmp 14) (.tmp 18) (.const (.int .i64 0)) rfl (n := n) (l := right n) (v := 0) (by rfl) (by rfl) (by rfl) HF4.out (by have := HN.out; omega) (right_bd n) (by decide) (by decide) ?_; intro w5 hF hg; have HF5 := Aside0.mk hF; have HO5 := Aside0.mk (show Rows w5 w.heap.size B _ _ from Kd.N_grown HO4.out hg (fun k hk e => hk (Option.some.inj e))); have HB5 := Aside0.mk (show Below w.heap.size w w5 from pw_below_grown HB4.out (some B) HB4.out.size hg (fun k e => by injection e with e; rw [← e]; exact GB.out)); clear hF hg HF4 HO4))
  have RT := Aside0.mk (dist_all n).2.2
  go_loopg [3, 5] (allOf n + 2) (fun kq v3 v5 w' => ∃ (o : Out) (i : Nat), v5 = .int .i64 (i : Int) ∧ Aside0 (G n o i [] ∧ bfs n kq i o = some (distO n) ∧ i ≤ o.length ∧ Bnd o) ∧ Aside0 (Rows w' w.heap.size B v3 o) ∧ Aside0 (FarAt w' B o) ∧ Aside0 (Below w.heap.size w w'))
  case atStart => exact ⟨[(right n, 0)], 0, rfl, ⟨G.start n, RT.out, Nat.zero_le _, Bnd.start n⟩, HO5, HF5, HB5⟩
  case round =>
    clear hx3 HO5 HF5 HB5 HB1 HB2 HB3 HB4 HL3 HC3 RT
    obtain ⟨o, i, rfl, HG, HO, HF, HB5⟩ := hrel
    cases gk with
    | zero => exact absurd HG.out.2.1 (by simp [bfs])
    | succ kk =>
    obtain ⟨A3, c3, e3⟩ := HO.out.slice
    subst e3
    by_cases hil : i < o.length
    · obtain ⟨q, d, hq⟩ : ∃ q d, o[i]? = some (q, d) := ⟨_, _, List.getElem?_eq_getElem hil⟩
      have HQ := Aside0.mk hq
      clear hq
      have c0 : decide ((i : Int) < (o.length : Int)) = true := decide_eq_true (by omega)
      have c1 : decide (i < o.length) = true := decide_eq_true hil
      clear hil
      go_wp2
      go_loopg [3, 27] n (fun kq v3 v27 w' => ∃ (o2 : Out) (f : Nat), v27 = .int .i64 (f : Int) ∧ Aside0 (f + kq = n) ∧ Aside0 (St n o q d (rowsFrom n f) o2) ∧ Aside0 (Rows w' w.heap.size B v3 o2) ∧ Aside0 (FarAt w' B o2) ∧ Aside0 (Below w.heap.size w w'))
      case atStart => exact ⟨o, 0, rfl, ⟨Nat.zero_add _⟩, ⟨St.start n o q d⟩, HO, HF, HB5⟩
      case round =>
        clear HO HF HB5 c0 c1
        obtain ⟨o2, f, rfl, HK, HS, HO, HF, HB5⟩ := hrel
        obtain rfl : gk = n - f := by have := HK.out; omega
        by_cases hf : f < n
        · have HFN := Aside0.mk hf
          have c0 : decide ((f : Int) < (n : Int)) = true := decide_eq_true (by omega)
          have c1 : decide (f < n) = true := decide_eq_true hf
          have HS2 := Aside0.mk (show St n o q d (restOf n f f) o2 from by rw [← rows_rest hf]; exact HS.out)
          clear hf HS
          go_wp2
          go_loopg [3, 7] (n - f) (fun kq v3 v7 w' => ∃ (o2 : Out) (t : Nat), v7 = .int .i64 (t : Int) ∧ Aside0 (t + kq = n ∧ f ≤ t) ∧ Aside0 (St n o q d (restOf n f t) o2) ∧ Aside0 (Rows w' w.heap.size B v3 o2) ∧ Aside0 (FarAt w' B o2) ∧ Aside0 (Below w.heap.size w w'))
          case atStart => exact ⟨o2, f, rfl, ⟨by have := HFN.out; omega, Nat.le_refl _⟩, HS2, HO, HF, HB5⟩
          case round =>
            clear HO HF HB5 c0 c1 HS2
            obtain ⟨o3, t, rfl, HK2, HS, HO, HF, HB5⟩ := hrel
            obtain rfl : gk = n - t := by have := HK2.out; omega
            obtain ⟨A4, c4, e4⟩ := HO.out.slice
            subst e4
            by_cases ht : t < n
            · have HTN := Aside0.mk ht
              have d0 : decide ((t : Int) < (n : Int)) = true := decide_eq_true (by omega)
              have d1 : decide (t < n) = true := decide_eq_true ht
              obtain ⟨hg3, hq3⟩ := St.good HS.out HG.out.1 HQ.out
              have hil := (List.getElem?_eq_some_iff.1 hq3).1
              obtain ⟨ad4, ea⟩ := HO.out.addr (Nat.lt_of_le_of_lt (Nat.zero_le _) hil)
              subst ea
              obtain ⟨-, A5, c5, hx5, hl5, hC5⟩ := HO.out.at_ hq3
              have HL5 := Aside0.mk hl5
              have HC5 := Aside0.mk hC5
              have d2 : decide ((i : Int) < (o3.length : Int)) = true := decide_eq_true (by omega)
              have d3 := eq_true hil
              have hqb : Bd n q := by
                obtain ⟨dn, g⟩ := hg3
                exact g.bd _ (List.mem_of_getElem? hq3)
              obtain ⟨K2, hK2⟩ := Ev_at (turned_ev hqb (by have := HN.out; omega) f t HK2.out.2 ht)
              have HT := Aside0.mk (hK2 K2 (Nat.le_refl _))
              have HNB := Aside0.mk (turn_bd hqb HK2.out.2 ht)
              have HG3 := Aside0.mk (And.intro hg3 hq3)
              have HQB := Aside0.mk hqb
              clear ht hil hl5 hC5 hqb hK2 hg3 hq3
              cases hl : o3.lookup (turn q f t) with
              | some v =>
                have HL := Aside0.mk hl
                clear hl
                go_wp2_with (first | (go_at_call 38; (with_reducible refine (impl_turned.calls K2 A5 c5 q (f : Int) (t : Int) (turn q f t) _ HC5.out HL5.out HT.out).mono ?_); rintro e w8 ⟨v8, rfl, ho, hb⟩; have HO8 := Aside0.mk ho; have HOb := Aside0.mk (show Rows w8 w.heap.size B _ o3 from Kd.N_below HO.out hb); have HFb := Aside0.mk (HF.out.below hb); have HBb := Aside0.mk (below_step HB5.out hb); clear ho hb HO HF HB5; obtain ⟨A8, c8, e8⟩ := Kd.R_slice HO8.out; subst e8) | (go_at_call 48; (refine (keyOf_calls A8 c8 (turn q f t) _ (Kd.R_reads' HO8.out).2.2 (by have := HN.out; have := HNB.out.1; omega)).mono ?_); rintro e w9 ⟨rfl, hb⟩; have HO := Aside0.mk (show Rows w9 w.heap.size B _ o3 from Kd.N_below HOb.out hb); have HF := Aside0.mk (HFb.out.below hb); have HB5 := Aside0.mk (below_step HBb.out hb); clear hb HOb HFb HBb HO8) | ((with_reducible refine gate_dst (N := 47) rfl ?_); refine far_look_ok rfl (.tmp 44) (.tmp 46) rfl (n := n) (l := turn q f t) (by rfl) (by rfl) HF.out (by have := HN.out; omega) (by obtain ⟨⟨dn, g⟩, _⟩ := HG3.out; exact g.bd) (by obtain ⟨⟨dn, g⟩, _⟩ := HG3.out; exact g.nd) HNB.out ?_; rw [HL.out]))
                go_roundg (n - (t + 1))
                case measure => have := HTN.out; omega
                case rel => exact ⟨o3, t + 1, congrArg (Value.int .i64) (nextI t (by have := HTN.out; have := HN.out; omega)), ⟨by have := HTN.out; omega, by have := HK2.out; omega⟩, ⟨by
                  have h := St.step (p := (f, t)) (by rw [← rest_cons HTN.out]; exact HS.out)
                  unfold put at h
                  rw [HL.out] at h
                  exact h⟩, HO, HF, HB5⟩
              | none =>
                have HL := Aside0.mk hl
                clear hl
                go_wp2_with (first | (go_at_call 38; (with_reducible refine (impl_turned.calls K2 A5 c5 q (f : Int) (t : Int) (turn q f t) _ HC5.out HL5.out HT.out).mono ?_); rintro e w8 ⟨v8, rfl, ho, hb⟩; have HO8 := Aside0.mk (show Kd.R (Kd.int .i64) 3 w8 wr.heap.size (fun k => k ≠ B) v8 (turn q f t) from Kd.R_mono (Kd.R_bound ho) (fun k hk => by have := hk.2.1; have := HF.out.lt; omega)); have HOb := Aside0.mk (show Rows w8 w.heap.size B _ o3 from Kd.N_below HO.out hb); have HFb := Aside0.mk (HF.out.below hb); have HBb := Aside0.mk (below_step HB5.out hb); clear ho hb HO HF HB5; obtain ⟨A8, c8, e8⟩ := Kd.R_slice HO8.out; subst e8) | (go_at_call 48; (refine (keyOf_calls A8 c8 (turn q f t) _ (Kd.R_reads' HO8.out).2.2 (by have := HN.out; have := HNB.out.1; omega)).mono ?_); rintro e w9 ⟨rfl, hb⟩; have HO9 := Aside0.mk (Kd.R_below HO8.out hb); have HO := Aside0.mk (show Rows w9 w.heap.size B _ o3 from Kd.N_below HOb.out hb); have HF := Aside0.mk (HFb.out.below hb); have HB5 := Aside0.mk (below_step HBb.out hb); clear hb HOb HFb HBb HO8; have HO8 := HO9; clear HO9; have hx6 := (HO.out.at_ HG3.out.2); obtain ⟨-, A6, c6, hx6, hl6, hC6⟩ := hx6; have HL6 := Aside0.mk hl6; have HC6 := Aside0.mk hC6; clear hl6 hC6 hx5 HC5 HL5) | ((with_reducible refine gate_dst (N := 47) rfl ?_); refine far_look_ok rfl (.tmp 44) (.tmp 46) rfl (n := n) (l := turn q f t) (by rfl) (by rfl) HF.out (by have := HN.out; omega) (by obtain ⟨⟨dn, g⟩, _⟩ := HG3.out; exact g.bd) (by obtain ⟨⟨dn, g⟩, _⟩ := HG3.out; exact g.nd) HNB.out ?_; rw [HL.out]))
                have HD : 0 ≤ d ∧ d ≤ 4000 ∧ o3.length ≤ 4000 ∧ o3.lookup q = some d := by
                  obtain ⟨⟨dn, g⟩, hq3⟩ := HG3.out
                  have h1 := g.nn _ (List.mem_of_getElem? hq3)
                  have h2 := St.bnd HS.out HG.out.2.2.2 HQ.out i (q, d) hq3
                  have h3 := g.few
                  have h4 : allOf n ≤ 3840 := by
                    have := HN.out
                    rcases (by omega : n = 1 ∨ n = 2 ∨ n = 3 ∨ n = 4 ∨ n = 5) with h | h | h | h | h <;> rw [h] <;> decide
                  have h5 := (List.getElem?_eq_some_iff.1 hq3).1
                  exact ⟨h1, by simp only at h2; omega, by omega, lookup_in g.nd (List.mem_of_getElem? hq3)⟩
                have HD := Aside0.mk HD
                have hw1 : IntKind.i64.wrap (d + 1) = d + 1 := IntWalk.i64_in _ (by have := HD.out; omega)
                have hw2 : wrap64 (d + 1) = d + 1 := w64 (by have := HD.out; omega) (by have := HD.out; omega)
                have HWF := Aside0.mk (show (Lit.int .i64 (d + 1)).wf = true from WalkArith.wf_i64 (by have := HD.out; omega))
                have hlk := far_run HF.out (by have := HN.out; omega) (by obtain ⟨⟨dn, g⟩, _⟩ := HG3.out; exact g.bd) (by obtain ⟨⟨dn, g⟩, _⟩ := HG3.out; exact g.nd) HQB.out
                rw [HD.out.2.2.2] at hlk
                replace hlk : (Instr.lookup 50 (.map (some B)) (keyV q) false).run Try.prog w9 = .ok (.int .i64 d) w9 := hlk
                replace HO := Aside0.mk (show Rows w9.drew w.heap.size B _ o3 from Kd.N_drew HO.out)
                replace HF := Aside0.mk (show FarAt w9.drew B o3 from World.ownsMap.drew HF.out)
                replace HB5 := Aside0.mk (below_drew HB5.out)
                replace HO8 := Aside0.mk (Kd.R_drew HO8.out)
                replace HC6 := Aside0.mk (Kd.C_drew HC6.out)
                go_region_with (first | (go_at_call 48; (first | ((with_reducible refine (keyOf_calls A8 c8 (turn q f t) _ ?x1 ?x2).mono ?_); (case x1 => exact (Kd.R_reads' HO8.out).2.2); (case x2 => have := HN.out; have := HNB.out.1; omega)) | ((with_reducible refine (keyOf_calls A6 c6 q _ ?x1 ?x2).mono ?_); (case x1 => exact HC6.out); (case x2 => have := HN.out; have := HQB.out.1; omega))); rintro e w10 ⟨rfl, hb⟩; replace HO := Aside0.mk (show Rows w10 w.heap.size B _ o3 from Kd.N_below HO.out hb); replace HF := Aside0.mk (HF.out.below hb); replace HB5 := Aside0.mk (below_step HB5.out hb); replace HO8 := Aside0.mk (Kd.R_below HO8.out hb); replace HC6 := Aside0.mk (Kd.C_below HC6.out hb); (first | replace hx6 := (hb.cell (World.block_lt_of_cell? _ _ hx6)).trans hx6 | replace hx6 := (hb.cell (World.block_lt_of_cell? w9.drew _ (show w9.drew.cell? _ = _ from hx6))).trans (show w9.drew.cell? _ = _ from hx6)); clear hb hlk; (try clear hrun HF11 HG11); have hlk := far_run HF.out (by have := HN.out; omega) (by obtain ⟨⟨dn, g⟩, _⟩ := HG3.out; exact g.bd) (by obtain ⟨⟨dn, g⟩, _⟩ := HG3.out; exact g.nd) HQB.out; rw [HD.out.2.2.2] at hlk; replace hlk : (Instr.lookup 50 (.map (some B)) (keyV q) false).run Try.prog w10 = .ok (.int .i64 d) w10 := hlk; obtain ⟨w11, hrun, hF11, hg11⟩ := far_update HF.out (by have := HN.out; omega) HNB.out (by have := HD.out; omega) HWF.out; have HF11 := Aside0.mk hF11; have HG11 := Aside0.mk hg11; clear hF11 hg11))
                all_goals
                  have HOa := Aside0.mk (show Rows w11 w.heap.size B _ o3 from Kd.N_grown HO.out HG11.out (fun k hk e => hk (Option.some.inj e)))
                  have HBa := Aside0.mk (show Below w.heap.size w w11 from pw_below_grown HB5.out (some B) HB5.out.size HG11.out (fun k e => by injection e with e; rw [← e]; exact GB.out))
                  have HRa := Aside0.mk (Kd.R_grown HO8.out HG11.out (fun k hk e => hk (Option.some.inj e)))
                  clear HO HF HB5 HO8 HC6 hx6 hlk hrun HG11 hw1
                  go_wp2_with ((with_reducible refine gate_builtin (b := .append) (xs := #[.tmp 63, .tmp 65]) rfl ?_); at_builtin; refine Kd.N_append (Kd.slice 3 (Kd.int .i64)) (w0 := w) w.heap.size rfl (.tmp 63) (.tmp 65) 23 22 (.slice none 0 0) 24 rfl Try.underlying23 info22 rfl (by decide) (by omega) (.slice (some ad4) o3.length c4) (o3.map (·.1)) (turn q f t) [.slice A8 (turn q f t).length c8] (fun k => k ≠ B) (fun k => k ≠ B ∧ some k ≠ (Value.slice (some ad4) o3.length c4).ownBlock) rfl rfl ?aP (fun _ hk => hk) ?aF ?aO ?aB ?aS ?aL ?_; (case aP => have R8 := Kd.R_apart' HRa.out (Kd.N_typed HOa.out) (by decide); exact Kd.FK_slice_mk (Kd.R_reads' R8).2.1 (Kd.R_F R8)); (case aF => exact fun k hk => by have := HF11.out.lt; omega); (case aO => exact HOa.out); (case aB => exact HBa.out); (case aS => exact HBa.out.size); (case aL => have := HD.out; rw [List.length_map]; omega); intro v12 w12 ho hb hg hat; have HO := Aside0.mk (show Rows w12 w.heap.size B v12 (o3 ++ [(turn q f t, d + 1)]) from by unfold Rows; rw [List.map_append]; exact ho); have HF := Aside0.mk (HF11.out.kept hg (fun e => (HOa.out.1 B e.symm) rfl)); have HB5 := Aside0.mk hb; clear ho hb hg hat HOa HBa HRa HF11)
                  go_roundg (n - (t + 1))
                  case measure => have := HTN.out; omega
                  case rel => exact ⟨o3 ++ [(turn q f t, d + 1)], t + 1, congrArg (Value.int .i64) (nextI t (by have := HTN.out; have := HN.out; omega)), ⟨by have := HTN.out; omega, by have := HK2.out; omega⟩, ⟨by
                    have h := St.step (p := (f, t)) (by rw [← rest_cons HTN.out]; exact HS.out)
                    unfold put at h
                    rw [HL.out] at h
                    exact h⟩, HO, HF, HB5⟩
            · have d0 : decide ((t : Int) < (n : Int)) = false := decide_eq_false (by omega)
              have d1 : decide (t < n) = false := decide_eq_false ht
              obtain rfl : t = n := by have := HK2.out; omega
              clear ht
              go_wp2
              go_roundg (t - (f + 1))
              case measure => have := HFN.out; omega
              case rel => exact ⟨o3, f + 1, congrArg (Value.int .i64) (nextI f (by have := HFN.out; have := HN.out; omega)), ⟨by have := HFN.out; omega⟩, ⟨by rw [← rest_end]; exact HS.out⟩, HO, HF, HB5⟩
        · have d0 : decide ((f : Int) < (n : Int)) = false := decide_eq_false (by omega)
          have d1 : decide (f < n) = false := decide_eq_false hf
          obtain rfl : f = n := by have := HK.out; omega
          clear hf
          go_wp2
          go_roundg kk
          case measure => omega
          case rel =>
            have hx := St.done (by rw [← rows_end f]; exact HS.out)
            subst hx
            obtain ⟨g1, g2, g3, g4⟩ := HG.out
            rw [bfs, HQ.out] at g2
            obtain ⟨g5, s, hs⟩ := g1.expand HQ.out
            have hb := St.bnd HS.out g4 HQ.out
            have hi := (List.getElem?_eq_some_iff.1 HQ.out).1
            exact ⟨expand f (q, d) o, i + 1, congrArg (Value.int .i64) (nextI i (by
              have := g1.few
              have h4 : allOf f ≤ 3840 := by
                have := HN.out
                rcases (by omega : f = 1 ∨ f = 2 ∨ f = 3 ∨ f = 4 ∨ f = 5) with h | h | h | h | h <;> rw [h] <;> decide
              omega)), ⟨g5, g2, by rw [hs, List.length_append]; omega, hb⟩, HO, HF, HB5⟩
    · have c0 : decide ((i : Int) < (o.length : Int)) = false := decide_eq_false (by omega)
      have c1 : decide (i < o.length) = false := decide_eq_false hil
      have hx : o = distO n := by
        have h := HG.out.2.1
        rw [bfs, List.getElem?_eq_none (Nat.le_of_not_lt hil)] at h
        exact Option.some.inj h
      clear hil
      have HX := Aside0.mk hx
      clear hx
      go_wp2
      go_ret
      exact ⟨B, rfl, GB.out, by rw [← HX.out]; exact HF.out, HB5.out⟩
end Go.Proofs.Ytmdpiagpkocheaa.P
end

/-! The program's CountByTurns: how many bindings need just so many turns, by the search; no condition. -/
section
namespace Go.Proofs.Ytmdpiagpkocheaa.P
open Go.RowKit Go.Proofs.YtmdpiagpkocheaaW.PrintWords Go.Proofs.YtmdpiagpkocheaaW.PrintLast Go.Proofs.YtmdpiagpkocheaaW.PrintMore Go.Proofs.Ytmdpiagpkocheaa.Base Go.Proofs.Ytmdpiagpkocheaa.Order Go.Proofs.Ytmdpiagpkocheaa.Far
set_option linter.unusedVariables false
set_option linter.unusedSimpArgs false

def impl_CountByTurns.f (k : Nat) (a0 a1 : Int) : Option (Int × Bool) := if 1 ≤ a0 ∧ a0 ≤ 5 ∧ 0 ≤ a1 then some (((distO a0.toNat).countP (fun e => e.2 == a1) : Nat), true) else some (0, false)
theorem impl_CountByTurns.mono : ∀ a0 a1 k, LeO (impl_CountByTurns.f k a0 a1) (impl_CountByTurns.f (k + 1) a0 a1) := fun _ _ _ => LeO.refl _
theorem small_all {n : Nat} (h1 : 1 ≤ n) (h : n ≤ 5) : (distO n).length ≤ 3840 := by
  refine Nat.le_trans (dist_all n).2.1 ?_
  rcases (by omega : n = 1 ∨ n = 2 ∨ n = 3 ∨ n = 4 ∨ n = 5) with h | h | h | h | h <;> rw [h] <;> decide
set_option maxHeartbeats 4000000 in
set_option maxRecDepth 100000 in
theorem impl_CountByTurns.calls (k : Nat) (a0 a1 : Int) (r1 : Int) (r2 : Bool) (w : World) (h : impl_CountByTurns.f k a0 a1 = some (r1, r2)) :
    Calls Try.prog 22 #[.int .i64 a0, .int .i64 a1] w fun e w' => e = .returned (.tuple #[.int .i64 r1, .bool r2]) ∧ Below w.heap.size w w' := by
  have HB := Aside0.mk (Below.refl w.heap.size w)
  unfold impl_CountByTurns.f at h
  by_cases hc : 1 ≤ a0 ∧ a0 ≤ 5 ∧ 0 ≤ a1
  · rw [if_pos hc] at h
    obtain ⟨h1, rfl⟩ := Prod.mk.inj (Option.some.inj h)
    have H1 := Aside0.mk h1
    obtain ⟨n, rfl⟩ := Int.eq_ofNat_of_zero_le (show 0 ≤ a0 by omega)
    have HN := Aside0.mk (show 1 ≤ n ∧ n ≤ 5 by omega)
    have HW := Aside0.mk (show impl_within.f (n : Int) 1 5 = some true by rw [within_eq]; unfold inB; rw [decide_eq_true (by omega)])
    have d0 : decide (a1 < 0) = false := decide_eq_false (by omega)
    clear h h1 hc
    go_enter Try.func22, Try.ntmps22
    go_wp2_with (first | (go_at_call 40; (with_reducible refine (impl_within.calls (n : Int) 1 5 true _ HW.out).mono ?_); rintro e w1 ⟨rfl, ⟨nd, rfl⟩⟩) | (go_at_call 44; (refine (distances_calls n HN.out.1 HN.out.2 _).mono ?_); rintro e w2 ⟨B, rfl, _, hF, hb⟩; have HFA := Aside0.mk hF; have HB2 := Aside0.mk (show Below w.heap.size w w2 from (pw_below_drewN (Below.refl w.heap.size w) nd).trans hb); clear hF hb) | ((with_reducible refine gate_dst (N := 18) rfl ?_); refine far_range rfl (.tmp 17) rfl (by rfl) HFA.out (n := n) (by have := HN.out; omega) (dist_all _).1.bd (dist_all _).1.nd ?_; intro r w3 hr hI hb; have HI := Aside0.mk hI; have HB3 := Aside0.mk (below_step HB2.out hb); have HR := Aside0.mk (show w.heap.size ≤ r from by rw [hr]; exact HB2.out.size); clear hr hI hb))
    go_frame
    go_loopg [6] (distO n).length (fun kq v6 w' => ∃ (rem : Out) (c : Nat), v6 = .int .i64 (c : Int) ∧ Aside0 (c + rem.countP (fun e => e.2 == a1) = (distO n).countP (fun e => e.2 == a1) ∧ rem.length ≤ kq) ∧ Aside0 (FarIter w' B r (distO n) rem) ∧ Aside0 (Below w.heap.size w w'))
    case atStart => exact ⟨distO n, 0, rfl, ⟨Nat.zero_add _, Nat.le_refl _⟩, HI, HB3⟩
    case round =>
      clear HI HB3
      obtain ⟨rem, c, rfl, HC, HI, HB3⟩ := hrel
      by_cases hr : rem = []
      · have HRM := Aside0.mk hr
        clear hr
        go_wp2_with ((with_reducible refine gate_dst (N := 19) rfl ?_); refine far_next rfl (.tmp 18) rfl (by rfl) HI.out (n := n) (by have := HN.out; omega) (dist_all _).1.bd (dist_all _).1.nd (fun _ => ?_) (fun q d rem' w' hp => absurd hp (by rw [HRM.out]; exact fun h => List.cons_ne_nil _ _ (List.nil_perm.1 h))))
        go_ret2
        have h := HC.out.1
        have h1 := H1.out
        rw [HRM.out, List.countP_nil, Nat.add_zero] at h
        rw [Int.toNat_natCast, ← h] at h1
        exact ⟨by rw [← h1]; rfl, HB3.out⟩
      · have HRM := Aside0.mk hr
        clear hr
        go_wp2_with ((with_reducible refine gate_dst (N := 19) rfl ?_); refine far_next rfl (.tmp 18) rfl (by rfl) HI.out (n := n) (by have := HN.out; omega) (dist_all _).1.bd (dist_all _).1.nd (fun h => absurd h HRM.out) ?_; intro q d rem' w4 hp hm hI hg hsz hen; have HP := Aside0.mk hp; have HI4 := Aside0.mk hI; have HB4 := Aside0.mk (show Below w.heap.size w w4 from pw_below_grown HB3.out (some r) HB3.out.size hg (fun k e => by injection e with e; rw [← e]; exact HR.out)); clear hp hm hI hg hsz)
        all_goals
          rename_i hd
          have HD := Aside0.mk hd
          clear hd hen
          go_roundg (gk - 1)
          case measure =>
            have h := HC.out.2
            have h2 := HP.out.length_eq
            rw [List.length_cons] at h2
            omega
          case rel =>
            have h1 := HC.out
            have h2 := HP.out.length_eq
            have h3 := HP.out.countP_eq (fun e => e.2 == a1)
            have h4 := small_all HN.out.1 HN.out.2
            have h5 : (distO n).countP (fun e => e.2 == a1) ≤ (distO n).length := List.countP_le_length
            rw [List.length_cons] at h2
            rw [List.countP_cons, HD.out] at h3
            first
            | exact ⟨rem', c + 1, congrArg (Value.int .i64) (nextI c (by omega)), ⟨by simp only [if_true] at h3; omega, by omega⟩, HI4, HB4⟩
            | exact ⟨rem', c, rfl, ⟨by simp only [Bool.false_eq_true, if_false] at h3; omega, by omega⟩, HI4, HB4⟩
  · rw [if_neg hc] at h
    obtain ⟨rfl, rfl⟩ := Prod.mk.inj (Option.some.inj h)
    clear h
    by_cases hw : 1 ≤ a0 ∧ a0 ≤ 5
    · have HW := Aside0.mk (show impl_within.f a0 1 5 = some true by rw [within_eq]; unfold inB; rw [decide_eq_true hw])
      have d0 : decide (a1 < 0) = true := decide_eq_true (by omega)
      clear hc hw
      go_enter Try.func22, Try.ntmps22
      go_wp2_with (go_at_call 40; (with_reducible refine (impl_within.calls a0 1 5 true _ HW.out).mono ?_); rintro e w1 ⟨rfl, ⟨nd, rfl⟩⟩)
      go_ret2
      exact ⟨rfl, pw_below_drewN (Below.refl w.heap.size w) nd⟩
    · have HW := Aside0.mk (show impl_within.f a0 1 5 = some false by rw [within_eq]; unfold inB; rw [decide_eq_false hw])
      clear hc hw
      go_enter Try.func22, Try.ntmps22
      go_wp2_with (go_at_call 40; (with_reducible refine (impl_within.calls a0 1 5 false _ HW.out).mono ?_); rintro e w1 ⟨rfl, ⟨nd, rfl⟩⟩)
      go_ret2
      exact ⟨rfl, pw_below_drewN (Below.refl w.heap.size w) nd⟩
end Go.Proofs.Ytmdpiagpkocheaa.P
end

/-! The program's FarthestBinding: the first of those that need the most turns, by the search; no condition. -/
section
namespace Go.Proofs.Ytmdpiagpkocheaa.P
open Go.RowKit Go.Proofs.YtmdpiagpkocheaaW.PrintWords Go.Proofs.YtmdpiagpkocheaaW.PrintLast Go.Proofs.YtmdpiagpkocheaaW.PrintMore Go.Proofs.Ytmdpiagpkocheaa.Base Go.Proofs.Ytmdpiagpkocheaa.Order Go.Proofs.Ytmdpiagpkocheaa.Far
set_option linter.unusedVariables false
set_option linter.unusedSimpArgs false

def impl_FarthestBinding.f (k : Nat) (a0 : Int) : Option (List Int × Int × Bool) := if 1 ≤ a0 ∧ a0 ≤ 5 then some ((farB (distO a0.toNat)).1, (farB (distO a0.toNat)).2, true) else some ([], 0, false)
theorem impl_FarthestBinding.mono : ∀ a0 k, LeO (impl_FarthestBinding.f k a0) (impl_FarthestBinding.f (k + 1) a0) := fun _ _ => LeO.refl _
/-- Eight cells are written. -/
theorem put8 {w : World} {g : Nat} {t : TypeId} {z y0 y1 y2 y3 y4 y5 y6 y7 : Value} (h : w.heap[g]? = some (.cells #[z, z, z, z, z, z, z, z] t (0, 0))) :
    ((((((((w.setCell ⟨g, 0, none⟩ y0).setCell ⟨g, 1, none⟩ y1).setCell ⟨g, 2, none⟩ y2).setCell ⟨g, 3, none⟩ y3).setCell ⟨g, 4, none⟩ y4).setCell ⟨g, 5, none⟩ y5).setCell ⟨g, 6, none⟩ y6).setCell ⟨g, 7, none⟩ y7).heap[g]? = some (.cells #[y0, y1, y2, y3, y4, y5, y6, y7] t (0, 0)) := by
  refine blk_put (cs := #[y0, y1, y2, y3, y4, y5, y6, z]) ?_ 7 _ rfl
  refine blk_put (cs := #[y0, y1, y2, y3, y4, y5, z, z]) ?_ 6 _ rfl
  refine blk_put (cs := #[y0, y1, y2, y3, y4, z, z, z]) ?_ 5 _ rfl
  refine blk_put (cs := #[y0, y1, y2, y3, z, z, z, z]) ?_ 4 _ rfl
  refine blk_put (cs := #[y0, y1, y2, z, z, z, z, z]) ?_ 3 _ rfl
  refine blk_put (cs := #[y0, y1, z, z, z, z, z, z]) ?_ 2 _ rfl
  refine blk_put (cs := #[y0, z, z, z, z, z, z, z]) ?_ 1 _ rfl
  exact blk_put h 0 _ rfl
theorem below8 {w W : World} {g : Nat} {y0 y1 y2 y3 y4 y5 y6 y7 : Value} (h : Below w.heap.size w W) (hg : w.heap.size ≤ g) :
    Below w.heap.size w ((((((((W.setCell ⟨g, 0, none⟩ y0).setCell ⟨g, 1, none⟩ y1).setCell ⟨g, 2, none⟩ y2).setCell ⟨g, 3, none⟩ y3).setCell ⟨g, 4, none⟩ y4).setCell ⟨g, 5, none⟩ y5).setCell ⟨g, 6, none⟩ y6).setCell ⟨g, 7, none⟩ y7) :=
  below_set (below_set (below_set (below_set (below_set (below_set (below_set (below_set h hg) hg) hg) hg) hg) hg) hg) hg
/-- What a written block keeps: all others. -/
theorem kept8 {w : World} {g : Nat} {y0 y1 y2 y3 y4 y5 y6 y7 : Value} : w.grownBy ((((((((w.setCell ⟨g, 0, none⟩ y0).setCell ⟨g, 1, none⟩ y1).setCell ⟨g, 2, none⟩ y2).setCell ⟨g, 3, none⟩ y3).setCell ⟨g, 4, none⟩ y4).setCell ⟨g, 5, none⟩ y5).setCell ⟨g, 6, none⟩ y6).setCell ⟨g, 7, none⟩ y7) (some g) := by
  have one : ∀ (W : World) (j : Nat) (y : Value), W.grownBy (W.setCell ⟨g, j, none⟩ y) (some g) := fun W j y => ⟨rfl, rfl, rfl, by simp [World.setCell], fun k _ hk => Below.heap_setCell W _ y k (fun e => hk (by rw [e]))⟩
  have both : ∀ {a b c : World}, a.grownBy b (some g) → b.grownBy c (some g) → a.grownBy c (some g) := fun h k => h.andThen k (fun j e => .inr e)
  exact both (both (both (both (both (both (both (one _ _ _) (one _ _ _)) (one _ _ _)) (one _ _ _)) (one _ _ _)) (one _ _ _)) (one _ _ _)) (one _ _ _)
theorem row_of_key {w : World} {g : Nat} {t : TypeId} {q : List Int} (hq : q.length ≤ 8) (h : w.heap[g]? = some (.cells #[.int .i64 (q.getD 0 0), .int .i64 (q.getD 1 0), .int .i64 (q.getD 2 0), .int .i64 (q.getD 3 0), .int .i64 (q.getD 4 0), .int .i64 (q.getD 5 0), .int .i64 (q.getD 6 0), .int .i64 (q.getD 7 0)] t (0, 0))) :
    Kd.C (Kd.int .i64) w (some ⟨g, 0, none⟩) q.length q := by
  refine ⟨rfl, by omega, fun hp => ⟨_, rfl, fun j p hj => ⟨[.int .i64 p], rfl, rfl, fun i u hu => ?_⟩⟩⟩
  obtain ⟨hl, rfl⟩ := List.getElem?_eq_some_iff.1 hj
  have hi : i = 0 := by
    have := (List.getElem?_eq_some_iff.1 hu).1
    simpa using this
  subst hi
  obtain rfl := Option.some.inj hu
  show w.cell? (Addr.add ⟨g, 0, none⟩ (j * 1 + 0)) = _
  rw [add_at, Nat.zero_add, Nat.mul_one, Nat.add_zero, blk_cell h j, ← getD_at q 0 hl]
  rcases (by omega : j = 0 ∨ j = 1 ∨ j = 2 ∨ j = 3 ∨ j = 4 ∨ j = 5 ∨ j = 6 ∨ j = 7) with rfl | rfl | rfl | rfl | rfl | rfl | rfl | rfl <;> rfl

/-- A copy of the row that a key's first numbers make. -/
theorem clone_key {w0 : World} {g n : Nat} {q : List Int} {t : TypeId} (hq : q.length = n) (hn : n ≤ 8) (h : w0.heap[g]? = some (.cells #[.int .i64 0, .int .i64 0, .int .i64 0, .int .i64 0, .int .i64 0, .int .i64 0, .int .i64 0, .int .i64 0] t (0, 0))) :
    Calls Try.prog 36 #[.slice (some ⟨g, 0, none⟩) n 8] ((((((((w0.setCell ⟨g, 0, none⟩ (.int .i64 (q[0]?.getD 0))).setCell ⟨g, 1, none⟩ (.int .i64 (q[1]?.getD 0))).setCell ⟨g, 2, none⟩ (.int .i64 (q[2]?.getD 0))).setCell ⟨g, 3, none⟩ (.int .i64 (q[3]?.getD 0))).setCell ⟨g, 4, none⟩ (.int .i64 (q[4]?.getD 0))).setCell ⟨g, 5, none⟩ (.int .i64 (q[5]?.getD 0))).setCell ⟨g, 6, none⟩ (.int .i64 (q[6]?.getD 0))).setCell ⟨g, 7, none⟩ (.int .i64 (q[7]?.getD 0))) fun e w' => ∃ v : Value, e = .returned v ∧ Kd.R (Kd.int .i64) 3 w' w0.heap.size (fun _ => True) v q ∧ w0.grownBy w' (some g) := by
  subst hq
  have hp := put8 (y0 := .int .i64 (q[0]?.getD 0)) (y1 := .int .i64 (q[1]?.getD 0)) (y2 := .int .i64 (q[2]?.getD 0)) (y3 := .int .i64 (q[3]?.getD 0)) (y4 := .int .i64 (q[4]?.getD 0)) (y5 := .int .i64 (q[5]?.getD 0)) (y6 := .int .i64 (q[6]?.getD 0)) (y7 := .int .i64 (q[7]?.getD 0)) h
  have hk := kept8 (w := w0) (g := g) (y0 := .int .i64 (q[0]?.getD 0)) (y1 := .int .i64 (q[1]?.getD 0)) (y2 := .int .i64 (q[2]?.getD 0)) (y3 := .int .i64 (q[3]?.getD 0)) (y4 := .int .i64 (q[4]?.getD 0)) (y5 := .int .i64 (q[5]?.getD 0)) (y6 := .int .i64 (q[6]?.getD 0)) (y7 := .int .i64 (q[7]?.getD 0))
  simp only [← List.getD_eq_getElem?_getD] at hp hk ⊢
  refine (clone_Int.calls (some ⟨g, 0, none⟩) 8 q q _ (row_of_key hn hp) hn (by rw [clone_Int.f, if_pos (by omega)])).mono ?_
  rintro e w' ⟨v, rfl, hO, hB⟩
  exact ⟨v, rfl, Kd.R_lower hO hk.size, hk.andThen (grown_of_below hB (some g)) (fun j e => .inr e)⟩

set_option maxHeartbeats 8000000 in
set_option maxRecDepth 100000 in
theorem impl_FarthestBinding.calls (k : Nat) (a0 : Int) (r1 : List Int) (r2 : Int) (r3 : Bool) (w : World) (h : impl_FarthestBinding.f k a0 = some (r1, r2, r3)) :
    Calls Try.prog 26 #[.int .i64 a0] w fun e w' => ∃ v0_ : Value, e = .returned (.tuple #[v0_, .int .i64 r2, .bool r3]) ∧ Kd.R (Kd.int .i64) 3 w' w.heap.size (fun _ => True) v0_ r1 ∧ Below w.heap.size w w' := by
  unfold impl_FarthestBinding.f at h
  by_cases hc : 1 ≤ a0 ∧ a0 ≤ 5
  · rw [if_pos hc] at h
    obtain ⟨n, rfl⟩ := Int.eq_ofNat_of_zero_le (show 0 ≤ a0 by omega)
    rw [Int.toNat_natCast] at h
    obtain ⟨h1, h⟩ := Prod.mk.inj (Option.some.inj h)
    obtain ⟨h2, rfl⟩ := Prod.mk.inj h
    have H1 := Aside0.mk (And.intro h1 h2)
    have HN := Aside0.mk (show 1 ≤ n ∧ n ≤ 5 by omega)
    have HW := Aside0.mk (show impl_within.f (n : Int) 1 5 = some true by rw [within_eq]; unfold inB; rw [decide_eq_true (by omega)])
    have hn5 : n ≤ 5 := by omega
    have hn1 : 1 ≤ n := by omega
    clear h1 h2 hc h
    (try clear h)
    (try clear h)
    have hal : Try.prog.arrayLen 53 = 8 := by kernel_rfl
    have hu53 := Try.underlying53
    have hn8 : n ≤ 8 := by omega
    have hn8' : (n : Int) ≤ 8 := by omega
    go_enter Try.func26, Try.ntmps26
    go_wp2_with (first | (go_at_call 40; (with_reducible refine (impl_within.calls (n : Int) 1 5 true _ HW.out).mono ?_); rintro e w1 ⟨rfl, ⟨nd, rfl⟩⟩) | ((with_reducible refine gate_dst (N := 13) rfl ?_); refine Kd.R_lit (Kd.int .i64) _ 3 ?hg (N := 13) ?hd (xs := ([] : List Int)) (inner := []) (ok := fun _ => True) (okp := fun _ => True) ?hr ?hp (fun _ hk => hk) trivial (Below.refl _ _) (Nat.le_refl _) (by simp) ?_; (case hd => rfl); (case hg => rfl); (case hr => first | (go_simp; done) | (go_simp; rfl)); (case hp => exact (Reps.none _ _)); intro v5 w2 ho hb hg_ hnew_; clear hg_ hnew_; have HB2 := Aside0.mk (show Below w.heap.size w w2 from (pw_below_drewN (Below.refl w.heap.size w) nd).trans hb); have HO2 := Aside0.mk (show Kd.R (Kd.int .i64) 3 w2 w.heap.size (fun _ => True) v5 [] from ho); clear ho hb) | (go_at_call 44; (refine (distances_calls n HN.out.1 HN.out.2 _).mono ?_); rintro e w3 ⟨B, rfl, hB, hF, hb⟩; have HFA := Aside0.mk hF; have HB3 := Aside0.mk (below_step HB2.out hb); have HO3 := Aside0.mk (show Kd.R (Kd.int .i64) 3 w3 w.heap.size (fun k => k ≠ B) v5 [] from Kd.R_below (Kd.R_mono (Kd.R_bound HO2.out) (fun k hk => by have := hk.2.2.1; omega)) hb); clear hF hb hB HO2) | ((with_reducible refine gate_dst (N := 16) rfl ?_); refine far_range rfl (.tmp 15) rfl (by rfl) HFA.out (n := n) (by have := HN.out; omega) (dist_all _).1.bd (dist_all _).1.nd ?_; intro r w4 hr hI hb; have HI := Aside0.mk hI; have HB4 := Aside0.mk (below_step HB3.out hb); have HR := Aside0.mk (show w.heap.size ≤ r from by rw [hr]; exact HB3.out.size); have HO := Aside0.mk (show Kd.R (Kd.int .i64) 3 w4 w.heap.size (fun k => k ≠ B ∧ k ≠ r) v5 [] from Kd.R_below (Kd.R_mono (Kd.R_bound HO3.out) (fun k hk => ⟨hk.1, by have := hk.2.2.1; omega⟩)) hb); clear hr hI hb HO3))
    go_frame
    go_loopg [5, 6] (distO n).length (fun kq v5 v6 w' => ∃ (rem : Out) (b : List Int) (m : Int), v6 = .int .i64 m ∧ Aside0 (Bst (distO n) rem b m ∧ rem.length ≤ kq) ∧ Aside0 (Kd.R (Kd.int .i64) 3 w' w.heap.size (fun k => k ≠ B ∧ k ≠ r) v5 b) ∧ Aside0 (FarIter w' B r (distO n) rem) ∧ Aside0 (Below w.heap.size w w'))
    case atStart => exact ⟨distO n, [], -1, rfl, ⟨Bst.start _, Nat.le_refl _⟩, HO, HI, HB4⟩
    case round =>
      clear HI HB4 HO HB3 HB2 HFA
      obtain ⟨rem, b, m, rfl, HC, HO, HI, HB3⟩ := hrel
      obtain ⟨Ab, cb, eb⟩ := Kd.R_slice HO.out
      subst eb
      by_cases hr : rem = []
      · have HRM := Aside0.mk hr
        clear hr
        go_wp2_with ((with_reducible refine gate_dst (N := 17) rfl ?_); refine far_next rfl (.tmp 16) rfl (by rfl) HI.out (n := n) (by have := HN.out; omega) (dist_all _).1.bd (dist_all _).1.nd (fun _ => ?_) (fun q d rem' w' hp => absurd hp (by rw [HRM.out]; exact fun h => List.cons_ne_nil _ _ (List.nil_perm.1 h))))
        go_ret3
        have hB := farB_is (dist_all n).1 (by have := HC.out.1; rw [HRM.out] at this; exact this)
        have h1 := H1.out
        obtain ⟨rfl, rfl⟩ := hB
        rw [h1.1, h1.2] at *
        exact ⟨_, rfl, Kd.R_mono HO.out (fun _ _ => trivial), HB3.out⟩
      · have HRM := Aside0.mk hr
        clear hr
        go_wp2_with (first | ((with_reducible refine gate_dst (N := 17) rfl ?_); refine far_next rfl (.tmp 16) rfl (by rfl) HI.out (n := n) (by have := HN.out; omega) (dist_all _).1.bd (dist_all _).1.nd (fun h => absurd h HRM.out) ?_; intro q d rem' w4 hp hm hI hg hsz hen; have HP := Aside0.mk hp; have HM := Aside0.mk hm; have HI4 := Aside0.mk hI; have HB4 := Aside0.mk (show Below w.heap.size w w4 from pw_below_grown HB3.out (some r) HB3.out.size hg (fun k e => by injection e with e; rw [← e]; exact HR.out)); have HO4 := Aside0.mk (Kd.R_grown HO.out hg (fun k hk e => hk.2 (Option.some.inj e))); clear hp hm hI hg hsz; unfold keyV at hen) | ((with_reducible refine gate_dst (N := 7) rfl ?_); refine box_event ?hg (N := 7) ?hd (cs := #[.int .i64 0, .int .i64 0, .int .i64 0, .int .i64 0, .int .i64 0, .int .i64 0, .int .i64 0, .int .i64 0]) (t := 53) ?hr ?_; (case hd => rfl); (case hg => rfl); (case hr => first | (go_simp; done) | (go_simp; rfl)); intro g hg w5 hbox hb; have BK5 := Aside0.mk hbox; have HI5 := Aside0.mk (HI4.out.below hb); have HB5 := Aside0.mk (below_step HB4.out hb); have GE := Aside0.mk (show w.heap.size ≤ g from by rw [hg]; exact HB4.out.size); have GB := Aside0.mk (show g ≠ B ∧ g ≠ r from ⟨by have := HI4.out.owns.lt; omega, by have := HI4.out.lt; omega⟩); have HO5 := Aside0.mk (show Kd.R (Kd.int .i64) 3 w5 w.heap.size (fun k => k ≠ g ∧ k ≠ B ∧ k ≠ r) (.slice Ab b.length cb) b from Kd.R_below (Kd.R_mono (Kd.R_bound HO4.out) (fun k hk => ⟨by have := hk.2.2.1; omega, hk.1⟩)) hb); clear hbox hb hg HI4 HO4; have q0 : w5.cell? ⟨g, 0, none⟩ = some (.int .i64 0) := (blk_cell BK5.out 0).trans rfl; have q1 : w5.cell? ⟨g, 1, none⟩ = some (.int .i64 0) := (blk_cell BK5.out 1).trans rfl; have q2 : w5.cell? ⟨g, 2, none⟩ = some (.int .i64 0) := (blk_cell BK5.out 2).trans rfl; have q3 : w5.cell? ⟨g, 3, none⟩ = some (.int .i64 0) := (blk_cell BK5.out 3).trans rfl; have q4 : w5.cell? ⟨g, 4, none⟩ = some (.int .i64 0) := (blk_cell BK5.out 4).trans rfl; have q5 : w5.cell? ⟨g, 5, none⟩ = some (.int .i64 0) := (blk_cell BK5.out 5).trans rfl; have q6 : w5.cell? ⟨g, 6, none⟩ = some (.int .i64 0) := (blk_cell BK5.out 6).trans rfl; have q7 : w5.cell? ⟨g, 7, none⟩ = some (.int .i64 0) := (blk_cell BK5.out 7).trans rfl; have z0 := blk_frozen BK5.out 0; have z1 := blk_frozen BK5.out 1; have z2 := blk_frozen BK5.out 2; have z3 := blk_frozen BK5.out 3; have z4 := blk_frozen BK5.out 4; have z5 := blk_frozen BK5.out 5; have z6 := blk_frozen BK5.out 6; have z7 := blk_frozen BK5.out 7))
        refine (clone_key (show q.length = n from ((dist_all n).1.bd _ HM.out).1) hn8 BK5.out).mono ?_
        rintro e w6 ⟨v, rfl, hO, hG⟩
        obtain ⟨Aq, cq, ev⟩ := Kd.R_slice hO
        subst ev
        have HQ := Aside0.mk (Kd.R_lower (Kd.R_mono (Kd.R_bound hO) (ok' := fun k => k ≠ g ∧ k ≠ B ∧ k ≠ r) (fun k hk => ⟨by have := (blk_lt BK5.out); have := hk.2.1; omega, by have := HI5.out.owns.lt; have := hk.2.1; omega, by have := HI5.out.lt; have := hk.2.1; omega⟩)) HB5.out.size)
        have HO6 := Aside0.mk (Kd.R_grown HO5.out hG (fun k hk e => hk.1 (Option.some.inj e)))
        have HB6 := Aside0.mk (pw_below_grown HB5.out (some g) HB5.out.size hG (fun k e => by injection e with e; rw [← e]; exact GE.out))
        have HI6 := Aside0.mk (HI5.out.kept hG (fun e => GB.out.1 (Option.some.inj e).symm) (fun e => GB.out.2 (Option.some.inj e).symm))
        clear hO hG q0 q1 q2 q3 q4 q5 q6 q7 z0 z1 z2 z3 z4 z5 z6 z7 BK5 HO5 HI5 HB5 HB4 HO HB3
        rcases Int.lt_trichotomy d m with h0 | h0 | h0
        · have e1 : decide (m < d) = false := decide_eq_false (by omega)
          have e2 : decide (d = m) = false := decide_eq_false (by omega)
          have e3 : (d == m) = false := beq_false_of_ne (by omega)
          have HD := Aside0.mk h0
          clear h0 hen
          go_wp2
          go_roundg (gk - 1)
          case measure => have h := HC.out.2; have h2 := HP.out.length_eq; rw [List.length_cons] at h2; omega
          case rel => exact ⟨rem', b, m, rfl, ⟨HC.out.1.pass HP.out (.inl HD.out), by have h := HC.out.2; have h2 := HP.out.length_eq; rw [List.length_cons] at h2; omega⟩, ⟨Kd.R_mono HO6.out (fun _ h => h.2)⟩, HI6, HB6⟩
        · have HQL := Aside0.mk (show q.length = n from ((dist_all n).1.bd _ HM.out).1)
          have HBL := Aside0.mk (show b.length = n from by
            rcases HC.out.1.1 with ⟨_, h1⟩ | h1
            · have := (dist_all n).1.nn _ HM.out
              simp only at this
              omega
            · exact ((dist_all n).1.bd _ h1).1)
          obtain ⟨fl, hfl0⟩ := compare_ev q b (by rw [HQL.out, HBL.out]) (by have := HN.out; have := HQL.out; omega)
          have hfl := hfl0 fl (Nat.le_refl _)
          clear hfl0
          have HFL := Aside0.mk (hfl)
          have e1 : decide (m < d) = false := decide_eq_false (by omega)
          have e2 : decide (d = m) = true := decide_eq_true h0
          have e3 : (d == m) = true := beq_iff_eq.2 h0
          have HD := Aside0.mk h0
          clear h0 hen hfl
          rcases hlx : lexlt q b with _ | _
          · have e4 : decide (cmpR q b < 0) = false := decide_eq_false (fun h => by rw [(cmpR_lt q b (by rw [HQL.out, HBL.out])).1 h] at hlx; cases hlx)
            have HX := Aside0.mk hlx
            clear hlx
            go_wp2_with (go_at_call 50; (with_reducible refine (slices_Compare_int_int.calls fl _ _ q _ _ b (cmpR q b) _ ?side1 ?side2 ?side3 ?side4 HFL.out).mono ?_); (case side1 => exact (Kd.R_reads' HQ.out).2.2); (case side2 => exact (Kd.R_reads' HQ.out).2.1); (case side3 => exact (Kd.R_reads' HO6.out).2.2); (case side4 => exact (Kd.R_reads' HO6.out).2.1); rintro e w7 ⟨rfl, ⟨nd, rfl⟩⟩)
            have HD6 := Aside0.mk (pw_below_drewN (Below.refl w6.heap.size w6) nd)
            go_roundg (gk - 1)
            case measure => have h := HC.out.2; have h2 := HP.out.length_eq; rw [List.length_cons] at h2; omega
            case rel => exact ⟨rem', b, m, rfl, ⟨HC.out.1.pass HP.out (.inr ⟨HD.out, HX.out⟩), by have h := HC.out.2; have h2 := HP.out.length_eq; rw [List.length_cons] at h2; omega⟩, ⟨Kd.R_below (Kd.R_mono HO6.out (fun _ h => h.2)) HD6.out⟩, ⟨HI6.out.below HD6.out⟩, ⟨below_step HB6.out HD6.out⟩⟩
          · have e4 : decide (cmpR q b < 0) = true := decide_eq_true ((cmpR_lt q b (by rw [HQL.out, HBL.out])).2 hlx)
            have HX := Aside0.mk hlx
            clear hlx
            go_wp2_with (go_at_call 50; (with_reducible refine (slices_Compare_int_int.calls fl _ _ q _ _ b (cmpR q b) _ ?side1 ?side2 ?side3 ?side4 HFL.out).mono ?_); (case side1 => exact (Kd.R_reads' HQ.out).2.2); (case side2 => exact (Kd.R_reads' HQ.out).2.1); (case side3 => exact (Kd.R_reads' HO6.out).2.2); (case side4 => exact (Kd.R_reads' HO6.out).2.1); rintro e w7 ⟨rfl, ⟨nd, rfl⟩⟩)
            have HD6 := Aside0.mk (pw_below_drewN (Below.refl w6.heap.size w6) nd)
            go_roundg (gk - 1)
            case measure => have h := HC.out.2; have h2 := HP.out.length_eq; rw [List.length_cons] at h2; omega
            case rel => exact ⟨rem', q, d, rfl, ⟨HC.out.1.take HP.out HM.out (.inr ⟨HD.out, HX.out⟩), by have h := HC.out.2; have h2 := HP.out.length_eq; rw [List.length_cons] at h2; omega⟩, ⟨Kd.R_below (Kd.R_mono HQ.out (fun _ h => h.2)) HD6.out⟩, ⟨HI6.out.below HD6.out⟩, ⟨below_step HB6.out HD6.out⟩⟩
        · have e1 : decide (m < d) = true := decide_eq_true (by omega)
          have HD := Aside0.mk h0
          clear h0 hen
          go_wp2
          go_roundg (gk - 1)
          case measure => have h := HC.out.2; have h2 := HP.out.length_eq; rw [List.length_cons] at h2; omega
          case rel => exact ⟨rem', q, d, rfl, ⟨HC.out.1.take HP.out HM.out (.inl HD.out), by have h := HC.out.2; have h2 := HP.out.length_eq; rw [List.length_cons] at h2; omega⟩, ⟨Kd.R_mono HQ.out (fun _ h => h.2)⟩, HI6, HB6⟩
  · rw [if_neg hc] at h
    obtain ⟨rfl, h1⟩ := Prod.mk.inj (Option.some.inj h)
    obtain ⟨rfl, rfl⟩ := Prod.mk.inj h1
    have HW := Aside0.mk (show impl_within.f a0 1 5 = some false by rw [within_eq]; unfold inB; rw [decide_eq_false hc])
    clear hc h
    go_enter Try.func26, Try.ntmps26
    go_wp2_with (go_at_call 40; (with_reducible refine (impl_within.calls a0 1 5 false _ HW.out).mono ?_); rintro e w1 ⟨rfl, ⟨nd, rfl⟩⟩)
    go_ret3
    exact ⟨_, rfl, Kd.R_nil _ _ _ _ _, pw_below_drewN (Below.refl w.heap.size w) nd⟩
end Go.Proofs.Ytmdpiagpkocheaa.P
end

/-! The reference's search in breadth comes to the row of the least numbers of turns, by ranks; for at most eight leaves. -/
section
namespace Go.Proofs.Ytmdpiagpkocheaa.P
open Go.RowKit Go.Proofs.YtmdpiagpkocheaaW.PrintWords Go.Proofs.YtmdpiagpkocheaaW.PrintLast Go.Proofs.YtmdpiagpkocheaaW.PrintMore Go.Proofs.Ytmdpiagpkocheaa.Base Go.Proofs.Ytmdpiagpkocheaa.Order Go.Proofs.Ytmdpiagpkocheaa.Far
set_option linter.unusedVariables false

section
variable {n : Nat} (hn : n ≤ 8) {x48 : List (List Int)} {x50 : Nat} {q : List Int} {d : Nat} {i : Nat} {r : List Int}
include hn
/-- The turns of one, from a first and a last place on. -/
theorem far_l5 (hd : d ≤ 20000000) {f : Nat} (hf : f < n) (hnext : ∀ (o : Out) (X : List (List Int)), (∃ dn, G n o i dn) → o[i]? = some (q, (d : Int)) → X.length ≤ o.length →
      Ev (fun k => spec_biFar.l4 k (n : Int) (arrOf (allOf n) ((rowsFrom n (f + 1)).foldl (put q d) o)) ((d : Int) + 1) (X ++ newsAll q d (rowsFrom n (f + 1)) o) q (n : Int) x48 (x48.length : Int) (x50 : Int)) r →
      Ev (fun k => spec_biFar.l4 k (n : Int) (arrOf (allOf n) o) ((d : Int) + 1) X q ((f + 1 : Nat) : Int) x48 (x48.length : Int) (x50 : Int)) r) :
    ∀ (dt t : Nat) (o : Out) (X : List (List Int)), t + dt = n → f ≤ t → (∃ dn, G n o i dn) → o[i]? = some (q, (d : Int)) → X.length ≤ o.length →
      Ev (fun k => spec_biFar.l4 k (n : Int) (arrOf (allOf n) ((restOf n f t).foldl (put q d) o)) ((d : Int) + 1) (X ++ newsAll q d (restOf n f t) o) q (n : Int) x48 (x48.length : Int) (x50 : Int)) r →
      Ev (fun k => spec_biFar.l5 k (n : Int) (arrOf (allOf n) o) ((d : Int) + 1) X q (f : Int) (t : Int) x48 (x48.length : Int) (x50 : Int)) r := by
  have ha := allOf_le hn
  intro dt
  induction dt with
  | zero =>
    intro t o X ht hft hg hi hX hr
    obtain rfl : t = n := by omega
    rw [rest_end] at hr
    refine Ev_step (fun k => ?_) (hnext o X hg hi hX hr)
    rw [spec_biFar.l5, if_neg (by omega), nextI f (by omega)]
  | succ dt ih =>
    intro t o X ht hft hg hi hX hr
    obtain ⟨dn, g⟩ := hg
    have hq := g.bd _ (List.mem_of_getElem? hi)
    have hb := turn_bd hq hft (by omega : t < n)
    have hlo := g.few
    rw [rest_cons (by omega), List.foldl_cons, newsAll, ← List.append_assoc] at hr
    have hi' : (put q d o (f, t))[i]? = some (q, (d : Int)) := by
      obtain ⟨s, hs⟩ := put_more q d o (f, t)
      rw [hs, List.getElem?_append_left (List.getElem?_eq_some_iff.1 hi).1]
      exact hi
    have hX' : (X ++ news q o (f, t)).length ≤ (put q d o (f, t)).length := by rw [put_news, List.length_append, List.length_append, List.length_map]; omega
    have hnx := ih (t + 1) (put q d o (f, t)) (X ++ news q o (f, t)) (by omega) (by omega) ⟨_, G.put g hi hft (by omega)⟩ hi' hX' hr
    have hrk := rank_lt hb
    have hat := arr_at hb o g.bd g.nd
    have hlen := arr_len (allOf n) o
    refine Ev_step (fun k => by rw [spec_biFar.l5, if_pos (by omega)]) ?_
    refine Ev_bind (biTurn_ev hq hn f t hft (by omega)) (Ev_bind (biRank_ev hb hn) (Ev_pos (by omega) (Ev_pos (by rw [hlen]; omega) ?_)))
    simp only [rd_nat, hat, nextI t (by omega)]
    cases hl : o.lookup (turn q f t) with
    | some v =>
      have hv := g.nn _ (lookup_mem hl)
      have e1 : put q d o (f, t) = o := by unfold put; rw [hl]; rfl
      have e2 : news q o (f, t) = [] := by unfold news; rw [hl]; rfl
      rw [e1, e2, List.append_nil] at hnx
      exact Ev_neg (by show ¬ v < 0; exact Int.not_lt.2 hv) hnx
    | none =>
      have e1 : put q d o (f, t) = o ++ [(turn q f t, (d : Int) + 1)] := by unfold put; rw [hl]; rfl
      have e2 : news q o (f, t) = [turn q f t] := by unfold news; rw [hl]; rfl
      rw [e1, e2, arrOf_snoc] at hnx
      exact Ev_pos (by decide) (Ev_pos (by omega) hnx)
theorem far_l4 (hd : d ≤ 20000000) :
    ∀ (df f : Nat) (o : Out) (X : List (List Int)), f + df = n → (∃ dn, G n o i dn) → o[i]? = some (q, (d : Int)) → X.length ≤ o.length →
      Ev (fun k => spec_biFar.l4 k (n : Int) (arrOf (allOf n) ((rowsFrom n f).foldl (put q d) o)) ((d : Int) + 1) (X ++ newsAll q d (rowsFrom n f) o) q (n : Int) x48 (x48.length : Int) (x50 : Int)) r →
      Ev (fun k => spec_biFar.l4 k (n : Int) (arrOf (allOf n) o) ((d : Int) + 1) X q (f : Int) x48 (x48.length : Int) (x50 : Int)) r := by
  intro df
  induction df with
  | zero =>
    intro f o X hf hg hi hX hr
    obtain rfl : f = n := by omega
    rw [rows_end, List.foldl_nil, newsAll, List.append_nil] at hr
    exact hr
  | succ df ih =>
    intro f o X hf hg hi hX hr
    refine Ev_step (fun k => by rw [spec_biFar.l4, if_pos (by omega)]) ?_
    rw [rows_rest (by omega)] at hr
    exact far_l5 hn hd (by omega) (fun o X hg hi hX hr => ih (f + 1) o X (by omega) hg hi hX hr) (n - f) f o X (by omega) (Nat.le_refl _) hg hi hX hr
end
/-- One row after the other. -/
theorem far_l3 {n : Nat} (hn : n ≤ 8) : ∀ (kk i : Nat) (o P : Out) (R X : List (List Int)) (d : Nat) (x48 : List (List Int)) (x50 : Nat), bfs n kk i o = some (distO n) → G n o i [] →
    o = P ++ (R.map (fun b => (b, (d : Int))) ++ X.map (fun b => (b, (d : Int) + 1))) → P.length = i → R = x48.drop x50 → x50 ≤ x48.length → x48.length ≤ o.length → x50 + d ≤ i → 0 < x48.length →
    Ev (fun k => spec_biFar.l3 k (n : Int) (arrOf (allOf n) o) ((d : Int) + 1) X x48 (x48.length : Int) (x50 : Int)) (arrOf (allOf n) (distO n)) := by
  have ha := allOf_le hn
  intro kk
  induction kk with
  | zero => intro i o P R X d x48 x50 h; cases h
  | succ kk ih =>
    -- a row that isn't at its end
    have one : ∀ (i : Nat) (o P : Out) (R X : List (List Int)) (d : Nat) (x48 : List (List Int)) (x50 : Nat), bfs n (kk + 1) i o = some (distO n) → G n o i [] →
        o = P ++ (R.map (fun b => (b, (d : Int))) ++ X.map (fun b => (b, (d : Int) + 1))) → P.length = i → R = x48.drop x50 → x50 < x48.length → x48.length ≤ o.length → x50 + d ≤ i →
        Ev (fun k => spec_biFar.l3 k (n : Int) (arrOf (allOf n) o) ((d : Int) + 1) X x48 (x48.length : Int) (x50 : Int)) (arrOf (allOf n) (distO n)) := by
      intro i o P R X d x48 x50 hb g ho hP hR hx hlen hd
      have hfew := g.few
      obtain ⟨q, R', rfl, hq, hR'⟩ : ∃ q R', R = q :: R' ∧ x48.getD x50 [] = q ∧ R' = x48.drop (x50 + 1) := by
        rw [List.drop_eq_getElem_cons hx] at hR
        exact ⟨_, _, hR, getD_at x48 [] hx, rfl⟩
      have hi : o[i]? = some (q, (d : Int)) := by
        rw [ho, List.getElem?_append_right (by omega), hP, Nat.sub_self]
        rfl
      have hil : i < o.length := (List.getElem?_eq_some_iff.1 hi).1
      rw [bfs, hi] at hb
      obtain ⟨g', s, hs⟩ := g.expand hi
      have hXl : X.length ≤ o.length := by rw [ho]; simp; omega
      have hlen' : x48.length ≤ (expand n (q, (d : Int)) o).length := by rw [hs, List.length_append]; omega
      have hnx := ih (i + 1) (expand n (q, (d : Int)) o) (P ++ [(q, (d : Int))]) R' (X ++ newsAll q d (pairs n) o) d x48 (x50 + 1) hb g' (by
        show (pairs n).foldl (put q (d : Int)) o = _
        rw [puts_news, ho]
        simp) (by rw [List.length_append, hP]; rfl) hR' (by omega) hlen' (by omega) (by omega)
      refine Ev_step (fun k => by rw [spec_biFar.l3, if_pos (by omega), if_pos (by omega), if_pos (by omega)]) ?_
      rw [show rd_L1 x48 (x50 : Int) = q from by unfold rd_L1; rw [Int.toNat_natCast]; exact hq]
      have e := far_l4 (x48 := x48) (x50 := x50) (r := arrOf (allOf n) (distO n)) hn (by omega : d ≤ 20000000) n 0 o X (by omega) ⟨[], g⟩ hi hXl
      refine e ?_
      rw [← pairs_rows]
      refine Ev_step (fun k => ?_) hnx
      rw [spec_biFar.l4, if_neg (by omega), w64 (x := (x50 : Int) + 1) (by omega) (by omega)]
      rfl
    intro i o P R X d x48 x50 hb g ho hP hR hx hlen hd h0
    rcases Nat.lt_or_ge x50 x48.length with h | h
    · exact one i o P R X d x48 x50 hb g ho hP hR h hlen hd
    · have hfew := g.few
      obtain rfl : R = [] := by rw [hR, List.drop_of_length_le h]
      refine Ev_step (fun k => by rw [spec_biFar.l3, if_neg (by omega)]) ?_
      cases X with
      | nil =>
        have hlo : o.length = i := by rw [ho, ← hP]; simp
        rw [bfs, List.getElem?_eq_none (by omega)] at hb
        refine Ev_step (fun k => by rw [spec_biFar.l2, if_neg (by simp)]) ?_
        rw [← Option.some.inj hb]
        exact Ev.now _
      | cons q X' =>
        have hXl : (q :: X').length ≤ o.length := by rw [ho]; simp
        have hil : i < o.length := by rw [ho, ← hP]; simp
        have e := one i o P (q :: X') [] (d + 1) (q :: X') 0 hb g (by
          rw [ho]
          simp) hP rfl (by simp) hXl (by
          omega)
        refine Ev_step (fun k => by rw [spec_biFar.l2, if_pos (by rw [List.length_cons]; omega), w64 (x := (d : Int) + 1 + 1) (by omega) (by omega)]) ?_
        exact e
theorem fill_l0 {n N : Nat} (hN : N ≤ 20000000) {r : List Int} (hr : Ev (fun k => spec_biFar.l1 k (n : Int) (List.replicate N (-1)) ([] : List Int) 1) r) : ∀ (d i : Nat), i + d = N → Ev (fun k => spec_biFar.l0 k (n : Int) (List.replicate i (-1) ++ List.replicate d 0) (N : Int) (i : Int)) r := by
  intro d
  induction d with
  | zero =>
    intro i hi
    obtain rfl : i = N := by omega
    refine Ev_step (fun k => by rw [spec_biFar.l0, if_neg (by omega)]) ?_
    simp only [List.replicate_zero, List.append_nil]
    exact hr
  | succ d ih =>
    intro i hi
    refine Ev_step (fun k => ?_) (ih (i + 1) (by omega))
    rw [spec_biFar.l0, if_pos (by omega), if_pos (by omega), if_pos (by simp; omega), w64 (x := (i : Int) + 1) (by omega) (by omega), Int.toNat_natCast, List.set_append_right _ _ (by simp), List.length_replicate, Nat.sub_self, List.replicate_succ, List.set_cons_zero, List.replicate_succ', List.append_assoc]
    rfl
theorem far_l1 {n : Nat} (hn : n ≤ 8) (h1 : 1 ≤ n) : ∀ (d i : Nat), i + d = n → Ev (fun k => spec_biFar.l1 k (n : Int) (List.replicate (allOf n) (-1)) (right i) ((i : Int) + 1)) (arrOf (allOf n) (distO n)) := by
  have ha := allOf_le hn
  intro d
  induction d with
  | zero =>
    intro i hi
    obtain rfl : i = n := by omega
    have hb := right_bd i
    have hr := rank_lt hb
    have hs := arrOf_snoc (allOf i) [] (right i, 0)
    have e0 : arrOf (allOf i) [] = List.replicate (allOf i) (-1) := rfl
    rw [e0] at hs
    refine Ev_step (fun k => by rw [spec_biFar.l1, if_neg (by omega)]) ?_
    refine Ev_bind (biRank_ev hb hn) (Ev_pos (by omega) (Ev_pos (by rw [List.length_replicate]; omega) ?_))
    have e := far_l3 hn (allOf i + 2) 0 [(right i, 0)] [] [right i] [] 0 [right i] 0 (dist_all i).2.2 (G.start i) rfl rfl rfl (Nat.zero_le _) (Nat.le_refl _) (Nat.le_refl _) Nat.zero_lt_one
    refine Ev_step (fun k => ?_) e
    rw [spec_biFar.l2, if_pos (by show (0 : Int) < 1; decide), Int.toNat_natCast]
    show spec_biFar.l3 k (i : Int) ((List.replicate (allOf i) (-1)).set (rank (right i)) 0) 1 [] [right i] _ 0 = _
    rw [← hs]
    rfl
  | succ d ih =>
    intro i hi
    refine Ev_step (fun k => ?_) (ih (i + 1) (by omega))
    rw [spec_biFar.l1, if_pos (by omega), if_pos (by rw [right_len]; omega), w64 (x := (i : Int) + 1 + 1) (by omega) (by omega), ← right_succ]
    rfl
theorem biFar_ev {n : Nat} (hn : n ≤ 8) (h1 : 1 ≤ n) : Ev (fun k => spec_biFar.f k (n : Int)) (arrOf (allOf n) (distO n)) := by
  have ha := allOf_le hn
  simp only [spec_biFar.f]
  refine Ev_bind (biAll_ev n hn) (Ev_pos (by omega) (Ev_pos (by omega) ?_))
  simp only [Option.bind_some, Int.toNat_natCast, List.length_replicate]
  have e := far_l1 hn h1 n 0 (by omega)
  have := fill_l0 (N := allOf n) (by omega) e (allOf n) 0 (by omega)
  simp only [List.replicate_zero, List.nil_append] at this
  exact this
end Go.Proofs.Ytmdpiagpkocheaa.P
end

/-! The binding of a rank, and the first of the farthest ones by rank: what the reference comes to. -/
section
namespace Go.Proofs.Ytmdpiagpkocheaa.P
open Go.RowKit Go.Proofs.YtmdpiagpkocheaaW.PrintWords Go.Proofs.YtmdpiagpkocheaaW.PrintLast Go.Proofs.YtmdpiagpkocheaaW.PrintMore Go.Proofs.Ytmdpiagpkocheaa.Base Go.Proofs.Ytmdpiagpkocheaa.Order Go.Proofs.Ytmdpiagpkocheaa.Far
set_option linter.unusedVariables false

theorem cnt_small (p : Int → Bool) (lo : Int) : ∀ j, cnt p lo j ≤ j
  | 0 => Nat.le_refl _
  | j + 1 => by
    have := cnt_small p lo j
    rw [cnt]
    split <;> omega
theorem biOf_l1 {n : Nat} (hn : n ≤ 8) {pre xs : List Int} {x : Int} (hc : Cut n pre (x :: xs)) (r1 : Int) (A : Int) (r : List Int)
    (hnext : Ev (fun k => spec_biOf.l0 k (n : Int) r1 (pre ++ [x]) A ((pre.length + 1 : Nat) : Int)) r) :
    ∀ d j : Nat, j + d = (x + n).toNat → Ev (fun k => spec_biOf.l1 k (n : Int) r1 pre A ((pre.length : Nat) : Int) ((digit n pre x - cnt (free pre) (-(n : Int)) j : Nat) : Int) (-(n : Int) + (j : Int))) r := by
  have hlen : pre.length + (xs.length + 1) = n := by
    have := hc.1
    rwa [List.length_append, List.length_cons] at this
  have ht : pre.length ≤ 1048576 := by omega
  obtain ⟨hx1, hx2, hx3, _⟩ := hc.head
  have hfr := (free_iff _ _).1 hx1
  have hdg : digit n pre x ≤ (x + n).toNat := cnt_small _ _ _
  intro d
  induction d with
  | zero =>
    intro j hj
    obtain rfl : j = (x + n).toNat := by omega
    rw [show digit n pre x - cnt (free pre) (-(n : Int)) (x + n).toNat = 0 from Nat.sub_self _, show -(n : Int) + (((x + n).toNat : Nat) : Int) = x by omega]
    refine Ev_step (fun k => by rw [spec_biOf.l1, if_pos (by omega), if_neg hfr.1, w64 (x := -x) (by omega) (by omega)]) ?_
    refine Ev_bind (l1Has_ev _ _ ht) ?_
    rw [show pre.contains x = false by simpa using hfr.2.1]
    refine Ev_neg (by decide) (Ev_bind (l1Has_ev _ _ ht) ?_)
    rw [show pre.contains (-x) = false by simpa using hfr.2.2]
    refine Ev_step (fun k => by rw [spec_biOf.j2, if_neg (by decide), if_pos (show ((0 : Nat) : Int) = 0 from rfl), if_pos (by omega), nextI pre.length (by omega)]) hnext
  | succ d ih =>
    intro j hj
    have hnx := ih (j + 1) (by omega)
    have w1 : wrap64 (-(n : Int) + (j : Int) + 1) = -(n : Int) + ((j + 1 : Nat) : Int) := by rw [w64 (by omega) (by omega)]; omega
    have w2 : wrap64 (-(-(n : Int) + (j : Int))) = -(-(n : Int) + (j : Int)) := w64 (by omega) (by omega)
    have hs : ∀ k, spec_biOf.l1 (k + 1) (n : Int) r1 pre A ((pre.length : Nat) : Int) ((digit n pre x - cnt (free pre) (-(n : Int)) j : Nat) : Int) (-(n : Int) + (j : Int)) = _ := fun k => by
      rw [spec_biOf.l1, if_pos (by omega), w2]
    refine Ev_step hs ?_
    have hf : free pre (-(n : Int) + (j : Int)) = (-(n : Int) + (j : Int) != 0 && (!pre.contains (-(n : Int) + (j : Int)) && !pre.contains (-(-(n : Int) + (j : Int))))) := rfl
    have hcs : cnt (free pre) (-(n : Int)) (j + 1) = cnt (free pre) (-(n : Int)) j + if free pre (-(n : Int) + (j : Int)) = true then 1 else 0 := rfl
    have hskip : free pre (-(n : Int) + (j : Int)) = false → Ev (fun k => spec_biOf.j2 k (n : Int) r1 pre A ((pre.length : Nat) : Int) ((digit n pre x - cnt (free pre) (-(n : Int)) j : Nat) : Int) (-(n : Int) + (j : Int)) true) r := by
      intro h
      have hcs' : cnt (free pre) (-(n : Int)) (j + 1) = cnt (free pre) (-(n : Int)) j := by rw [hcs, h]; rfl
      rw [hcs'] at hnx
      refine Ev_step (fun k => by rw [spec_biOf.j2, if_pos rfl, w1]) hnx
    by_cases h0 : -(n : Int) + (j : Int) = 0
    · refine Ev_pos h0 (hskip ?_)
      rw [hf, show (-(n : Int) + (j : Int) != 0) = false by rw [h0]; rfl, Bool.false_and]
    · refine Ev_neg h0 (Ev_bind (l1Has_ev _ _ ht) ?_)
      rw [show (-(n : Int) + (j : Int) != 0) = true from bne_iff_ne.2 h0, Bool.true_and] at hf
      cases h1 : pre.contains (-(n : Int) + (j : Int)) with
      | true =>
        rw [h1, Bool.not_true, Bool.false_and] at hf
        exact Ev_pos rfl (hskip hf)
      | false =>
        rw [h1, Bool.not_false, Bool.true_and] at hf
        refine Ev_neg (by decide) (Ev_bind (l1Has_ev _ _ ht) ?_)
        cases h2 : pre.contains (-(-(n : Int) + (j : Int))) with
        | true =>
          rw [h2, Bool.not_true] at hf
          exact hskip hf
        | false =>
          rw [h2, Bool.not_false] at hf
          have hlt : cnt (free pre) (-(n : Int)) j < digit n pre x := cnt_lt _ _ (by omega) hf
          rw [hf, if_pos rfl] at hcs
          have w3 : wrap64 (((digit n pre x - cnt (free pre) (-(n : Int)) j : Nat) : Int) - 1) = ((digit n pre x - cnt (free pre) (-(n : Int)) (j + 1) : Nat) : Int) := by
            rw [hcs, w64 (by omega) (by omega)]
            omega
          refine Ev_step (fun k => by rw [spec_biOf.j2, if_neg (by decide), if_neg (by omega), w1, w3]) hnx
theorem ne0 {u : Nat} (h : 1 ≤ u) : ¬ ((u : Nat) : Int) = 0 := by omega
theorem tdivN (a b : Nat) : Int.tdiv (a : Int) (b : Int) = ((a / b : Nat) : Int) := rfl
theorem tmodN (a b : Nat) : Int.tmod (a : Int) (b : Int) = ((a % b : Nat) : Int) := rfl
theorem biOf_l0 {n : Nat} (hn : n ≤ 8) : ∀ (rest pre : List Int), Cut n pre rest → Ev (fun k => spec_biOf.l0 k (n : Int) ((rk n pre rest 0 : Nat) : Int) pre ((allOf rest.length : Nat) : Int) ((pre.length : Nat) : Int)) (pre ++ rest) := by
  intro rest
  induction rest with
  | nil =>
    intro pre hc
    have := hc.1
    rw [List.append_nil] at this
    refine Ev_step (fun k => ?_) (Ev.now _)
    rw [spec_biOf.l0, if_neg (by omega), List.append_nil]
  | cons x xs ih =>
    intro pre hc
    have hlen : pre.length + (xs.length + 1) = n := by
      have := hc.1
      rwa [List.length_append, List.length_cons] at this
    have hnx := ih (pre ++ [x]) hc.next
    rw [List.append_assoc, List.singleton_append, List.length_append, List.length_singleton] at hnx
    have hd := digit_lt hc
    have hr := rk_lt xs (pre ++ [x]) hc.next
    have hp := allOf_pos xs.length
    have ha := allOf_le (m := xs.length) (by omega)
    have h1 := biOf_l1 hn hc _ _ _ hnx (x + n).toNat 0 (by omega)
    have e1 : rk n pre (x :: xs) 0 = digit n pre x * allOf xs.length + rk n (pre ++ [x]) xs 0 := by rw [rk, rk_acc, Nat.zero_mul, Nat.zero_add]
    have e2 : (allOf (xs.length + 1)) / (2 * (xs.length + 1)) = allOf xs.length := Nat.mul_div_cancel _ (by omega)
    have e3 : rk n pre (x :: xs) 0 / allOf xs.length = digit n pre x := by
      rw [e1, Nat.mul_comm, Nat.mul_add_div hp, Nat.div_eq_of_lt hr, Nat.add_zero]
    have e4 : rk n pre (x :: xs) 0 % allOf xs.length = rk n (pre ++ [x]) xs 0 := by
      rw [e1, Nat.mul_comm, Nat.mul_add_mod, Nat.mod_eq_of_lt hr]
    have w1 : wrap64 (2 * wrap64 ((n : Int) - ((pre.length : Nat) : Int))) = ((2 * (xs.length + 1) : Nat) : Int) := by
      rw [w64 (x := (n : Int) - ((pre.length : Nat) : Int)) (by omega) (by omega), w64 (by omega) (by omega)]
      omega
    have w2 : wrap64 ((allOf xs.length : Nat) : Int) = ((allOf xs.length : Nat) : Int) := w64 (by omega) (by omega)
    have w3 : wrap64 ((digit n pre x : Nat) : Int) = ((digit n pre x : Nat) : Int) := w64 (by omega) (by omega)
    have w4 : wrap64 (-(n : Int)) = -(n : Int) := w64 (by omega) (by omega)
    rw [show cnt (free pre) (-(n : Int)) 0 = 0 from rfl, Nat.sub_zero, show -(n : Int) + ((0 : Nat) : Int) = -(n : Int) by omega] at h1
    refine Ev_step (fun k => ?_) h1
    rw [spec_biOf.l0, if_pos (by omega), w1, tdivN, List.length_cons, e2, w2, if_neg (ne0 (show 1 ≤ 2 * (xs.length + 1) by omega)), if_neg (ne0 hp), tdivN, tmodN, e3, e4, w3, w4]
theorem biOf_ev {n : Nat} {b : List Int} (hb : Bd n b) (hn : n ≤ 8) : Ev (fun k => spec_biOf.f k (n : Int) ((rank b : Nat) : Int)) b := by
  have h := biOf_l0 hn b [] hb
  rw [hb.1, List.nil_append] at h
  simp only [spec_biOf.f]
  refine Ev_bind (biAll_ev n hn) ?_
  unfold rank
  rw [hb.1]
  exact h
/-- What is no less than 0 has come from somewhere. -/
theorem arr_from (N : Nat) (i : Nat) : ∀ (o : Out), 0 ≤ (arrOf N o).getD i (-1) → ∃ e ∈ o, rank e.1 = i ∧ e.2 = (arrOf N o).getD i (-1) := by
  refine snoc_ind (P := fun o => 0 ≤ (arrOf N o).getD i (-1) → ∃ e ∈ o, rank e.1 = i ∧ e.2 = (arrOf N o).getD i (-1)) ?_ ?_
  · intro h
    exfalso
    unfold arrOf at h
    rw [List.foldl_nil, List.getD_eq_getElem?_getD, List.getElem?_replicate] at h
    split at h <;> simp at h
  · intro o e ih h
    rw [arrOf_snoc] at h ⊢
    by_cases hr : rank e.1 = i
    · subst hr
      refine ⟨e, by simp, rfl, ?_⟩
      rw [List.getD_eq_getElem?_getD, List.getElem?_set_self'] at h ⊢
      cases hx : (arrOf N o)[rank e.1]? with
      | none => rw [hx] at h; simp at h
      | some y => rfl
    · rw [List.getD_eq_getElem?_getD, List.getElem?_set_ne hr, ← List.getD_eq_getElem?_getD] at h ⊢
      obtain ⟨e', h1, h2, h3⟩ := ih h
      exact ⟨e', by simp [h1], h2, h3⟩
/-- The first place with the greatest number, of those before i. -/
def Top (a : List Int) (i p : Nat) (m : Int) : Prop := (m = -1 ∧ ∀ j, j < i → a.getD j 0 < 0) ∨ (0 ≤ m ∧ p < i ∧ a.getD p 0 = m ∧ (∀ j, j < i → a.getD j 0 ≤ m) ∧ ∀ j, j < p → a.getD j 0 < m)
theorem top_is {n p : Nat} {m : Int} (h : Top (arrOf (allOf n) (distO n)) (allOf n) p m) : p = rank (farB (distO n)).1 ∧ m = (farB (distO n)).2 := by
  have g := (dist_all n).1
  have B := farB_best g
  obtain ⟨b, eb⟩ : ∃ b, b = (farB (distO n)).1 := ⟨_, rfl⟩
  obtain ⟨v, ev⟩ : ∃ v, v = (farB (distO n)).2 := ⟨_, rfl⟩
  rw [← eb, ← ev] at B ⊢
  clear eb ev
  have hbd : Bd n b := g.bd _ B.1
  have hat : (arrOf (allOf n) (distO n)).getD (rank b) 0 = v := by
    have : (distO n).lookup b = some v := lookup_in g.nd B.1
    rw [arr_at hbd _ g.bd g.nd, this]
    rfl
  have hnn : 0 ≤ v := g.nn _ B.1
  have hlt := rank_lt hbd
  rcases h with ⟨_, h⟩ | ⟨h0, h1, h2, h3, h4⟩
  · have := h _ hlt
    omega
  · have h5 := h3 _ hlt
    have hl : p < (arrOf (allOf n) (distO n)).length := by rw [arr_len]; exact h1
    have hp : (arrOf (allOf n) (distO n)).getD p (-1) = m := by rw [← h2, getD_at _ _ hl, getD_at _ _ hl]
    obtain ⟨e, he, h6, h7⟩ := arr_from (allOf n) p (distO n) (by rw [hp]; exact h0)
    rw [hp] at h7
    have h8 := B.2 e he
    have hm : m = v := by omega
    refine ⟨?_, hm⟩
    have h9 : lexlt e.1 b = false := by
      rcases h8 with h8 | h8
      · omega
      · exact h8.2
    rcases lex_total e.1 b (by rw [(g.bd _ he).1, hbd.1]) with hx | hx | hx
    · rw [h9] at hx; cases hx
    · rw [← h6, hx]
    · have hk := rank_lex hbd (g.bd _ he) hx
      have := h4 (rank b) (by omega)
      omega
theorem far_scan {n : Nat} (hn : n ≤ 5) : ∀ (d i p : Nat) (m : Int), i + d = allOf n → Top (arrOf (allOf n) (distO n)) i p m → Ev (fun k => spec_FarthestBinding.l0 k (n : Int) (p : Int) m (arrOf (allOf n) (distO n)) ((allOf n : Nat) : Int) (i : Int)) ((farB (distO n)).1, (farB (distO n)).2, true) := by
  have ha : allOf n ≤ 3840 := by
    rcases (by omega : n = 0 ∨ n = 1 ∨ n = 2 ∨ n = 3 ∨ n = 4 ∨ n = 5) with h | h | h | h | h | h <;> rw [h] <;> decide
  intro d
  induction d with
  | zero =>
    intro i p m hi ht
    obtain rfl : i = allOf n := by omega
    obtain ⟨rfl, rfl⟩ := top_is ht
    refine Ev_step (fun k => by rw [spec_FarthestBinding.l0, if_neg (by omega)]) ?_
    exact Ev_bind (biOf_ev ((dist_all n).1.bd _ (farB_best (dist_all n).1).1) (by omega)) (Ev.now _)
  | succ d ih =>
    intro i p m hi ht
    refine Ev_step (fun k => by rw [spec_FarthestBinding.l0, if_pos (by omega), if_pos (by omega), if_pos (by rw [arr_len]; omega), rd_nat, nextI i (by omega)]) ?_
    by_cases hc : (arrOf (allOf n) (distO n)).getD i 0 > m
    · refine Ev_pos hc (ih (i + 1) i _ (by omega) ?_)
      rcases ht with ⟨rfl, ht⟩ | ⟨h0, h1, h2, h3, h4⟩
      · refine .inr ⟨by omega, by omega, rfl, fun j hj => ?_, fun j hj => ?_⟩
        · by_cases e : j = i
          · subst e; exact Int.le_refl _
          · have := ht j (by omega); omega
        · have := ht j (by omega); omega
      · refine .inr ⟨by omega, by omega, rfl, fun j hj => ?_, fun j hj => ?_⟩
        · by_cases e : j = i
          · subst e; exact Int.le_refl _
          · have := h3 j (by omega); omega
        · have := h3 j (by omega); omega
    · refine Ev_neg hc (ih (i + 1) p m (by omega) ?_)
      rcases ht with ⟨rfl, ht⟩ | ⟨h0, h1, h2, h3, h4⟩
      · refine .inl ⟨rfl, fun j hj => ?_⟩
        by_cases e : j = i
        · subst e; omega
        · exact ht j (by omega)
      · refine .inr ⟨h0, by omega, h2, fun j hj => ?_, h4⟩
        by_cases e : j = i
        · subst e; omega
        · exact h3 j (by omega)
theorem farthest_ev (a0 : Int) : Ev (fun k => spec_FarthestBinding.f k a0) (if 1 ≤ a0 ∧ a0 ≤ 5 then ((farB (distO a0.toNat)).1, (farB (distO a0.toNat)).2, true) else ([], 0, false)) := by
  simp only [spec_FarthestBinding.f]
  refine Ev_some (l1In_eq _ _ _) ?_
  unfold inB
  by_cases h : 1 ≤ a0 ∧ a0 ≤ 5
  · rw [decide_eq_true h, if_pos h]
    refine Ev_pos rfl ?_
    obtain ⟨n, rfl⟩ := Int.eq_ofNat_of_zero_le (show 0 ≤ a0 by omega)
    rw [Int.toNat_natCast]
    have hl := arr_len (allOf n) (distO n)
    have := far_scan (n := n) (by omega) (allOf n) 0 0 (-1) (by omega) (.inl ⟨rfl, fun j hj => by omega⟩)
    refine Ev_bind (biFar_ev (by omega) (by omega)) ?_
    rw [hl]
    exact this
  · rw [decide_eq_false h, if_neg h]
    exact Ev_neg (by decide) (Ev.now _)
end Go.Proofs.Ytmdpiagpkocheaa.P
end
