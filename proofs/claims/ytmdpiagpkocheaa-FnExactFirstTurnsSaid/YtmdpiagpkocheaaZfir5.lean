/- A part of a binding is turned: the program and the reference do the same. -/
import Derived.Test.YtmdpiagpkocheaaZfir1
import Derived.Test.YtmdpiagpkocheaaZfir4
import Derived.Test.YtmdpiagpkocheaaZfir3
import Derived.Test.YtmdpiagpkocheaaZfir2
import Derived.Test.YtmdpiagpkocheaaZfir0
import Derived.Carry
import Derived.IntWalk
/-! A part of a binding is turned: the program and the reference do the same. -/
section
namespace Go.Proofs.Ytmdpiagpkocheaa.P
open Go.RowKit Go.Proofs.YtmdpiagpkocheaaW.PrintWords Go.Proofs.YtmdpiagpkocheaaW.PrintLast Go.Proofs.YtmdpiagpkocheaaW.PrintMore Go.Proofs.Ytmdpiagpkocheaa.Base Go.Proofs.Ytmdpiagpkocheaa.Order
set_option linter.unusedVariables false

theorem same_l0 : ∀ (k : Nat) (b : List Int) (f t : Int) (acc : List Int) (i : Int), impl_turned.l0 k b f t acc i = spec_biTurn.l0 k b f t acc i := by
  intro k
  induction k with
  | zero => intros; rfl
  | succ k ih =>
    intro b f t acc i
    rw [impl_turned.l0, spec_biTurn.l0]
    simp only [ih]
theorem turn_l0 (b : List Int) (f t : Nat) (hf : f ≤ t) (ht : t < b.length) (hb : b.length ≤ 1048576) : ∀ (n i : Nat) (acc : List Int), i + n = t + 1 → f ≤ i → acc.length = b.length → ∃ r, Ev (fun k => spec_biTurn.l0 k b (f : Int) (t : Int) acc (i : Int)) r ∧ r.length = b.length := by
  intro n
  induction n with
  | zero =>
    intro i acc hi h1 ha
    refine ⟨acc, Ev_step (fun k => ?_) (Ev.now _), ha⟩
    rw [spec_biTurn.l0, if_neg (by omega)]
  | succ n ih =>
    intro i acc hi h1 ha
    have w1 : wrap64 (wrap64 ((f : Int) + (t : Int)) - (i : Int)) = (f : Int) + t - i := by rw [w64 (x := (f : Int) + t) (by omega) (by omega), w64 (by omega) (by omega)]
    obtain ⟨r, h2, h3⟩ := ih (i + 1) (acc.set i (wrap64 (-(rd b ((f : Int) + t - i))))) (by omega) (by omega) (by rw [List.length_set]; exact ha)
    refine ⟨r, Ev_step (fun k => ?_) h2, h3⟩
    rw [spec_biTurn.l0, w1, if_pos (by omega), if_pos (by omega), if_pos (by omega), if_pos (by omega), if_pos (by omega), nextI i (by omega), Int.toNat_natCast]
/-- Both turn a part the same. -/
theorem turn_both (b : List Int) (f t : Int) (hb : bindS b = true) (hp : partB b f t = true) : ∃ r, Ev (fun k => spec_biTurn.f k b f t) r ∧ Ev (fun k => impl_turned.f k b f t) r ∧ r.length = b.length := by
  have hl := bind_len hb
  unfold partB at hp
  rw [decide_eq_true_eq] at hp
  obtain ⟨f, rfl⟩ := Int.eq_ofNat_of_zero_le hp.1
  obtain ⟨t, rfl⟩ := Int.eq_ofNat_of_zero_le (show 0 ≤ t by omega)
  obtain ⟨r, h1, h2⟩ := turn_l0 b f t (by omega) (by omega) (by omega) (t + 1 - f) f b (by omega) (Nat.le_refl _) rfl
  refine ⟨r, ?_, ?_, h2⟩
  · simp only [spec_biTurn.f]
    refine Ev_some (a := b) ?_ h1
    rw [spec_l1Own.f]
    simp only [Option.bind_some, List.length_nil, List.nil_append]
    rw [if_pos (by omega)]
  · simp only [impl_turned.f]
    refine Ev_some (a := b) ?_ (Ev.congr (fun k => same_l0 k b f t b f) h1)
    rw [clone_Int.f, if_pos (by omega)]
end Go.Proofs.Ytmdpiagpkocheaa.P
end

/-! Turns, ranks and the search in breadth: what the program's and the reference's functions come to; for bindings of at most eight leaves. -/
section
namespace Go.Proofs.Ytmdpiagpkocheaa.P
open Go.RowKit Go.Proofs.YtmdpiagpkocheaaW.PrintWords Go.Proofs.YtmdpiagpkocheaaW.PrintLast Go.Proofs.YtmdpiagpkocheaaW.PrintMore Go.Proofs.Ytmdpiagpkocheaa.Base Go.Proofs.Ytmdpiagpkocheaa.Order Go.Proofs.Ytmdpiagpkocheaa.Far
set_option linter.unusedVariables false

/-- A binding while its part is being turned. -/
def accT (b : List Int) (f t i : Nat) : List Int := (List.range b.length).map fun j => if f ≤ j ∧ j < i then -(b.getD (f + t - j) 0) else b.getD j 0
theorem accT_len (b : List Int) (f t i : Nat) : (accT b f t i).length = b.length := by simp [accT]
theorem accT_at (b : List Int) (f t i j : Nat) (h : j < b.length) : (accT b f t i).getD j 0 = if f ≤ j ∧ j < i then -(b.getD (f + t - j) 0) else b.getD j 0 := by
  rw [List.getD_eq_getElem?_getD]
  simp [accT, h]
theorem accT_start (b : List Int) (f t : Nat) : accT b f t f = b := by
  refine ext_at (accT_len _ _ _ _) (fun j hj => ?_)
  rw [accT_at b f t f j hj, if_neg (by omega)]
theorem accT_end (b : List Int) (f t : Nat) (hf : f ≤ t) (ht : t < b.length) : accT b f t (t + 1) = turn b f t := by
  refine ext_at (by rw [accT_len, turn_len hf ht]) (fun j hj => ?_)
  rw [turn_len hf ht] at hj
  rw [accT_at b f t _ j hj, turn_at hf ht]
  by_cases h : f ≤ j ∧ j ≤ t
  · rw [if_pos h, if_pos (by omega)]
  · rw [if_neg h, if_neg (by omega)]
theorem accT_set (b : List Int) (f t i : Nat) (hi : f ≤ i) (h : i < b.length) : (accT b f t i).set i (-(b.getD (f + t - i) 0)) = accT b f t (i + 1) := by
  refine ext_at (by rw [List.length_set, accT_len, accT_len]) (fun j hj => ?_)
  rw [accT_len] at hj
  rw [accT_at b f t _ j hj]
  by_cases e : j = i
  · subst e
    rw [getD_set_self _ _ _ (by rw [accT_len]; exact h), if_pos (by omega)]
  · rw [List.getD_eq_getElem?_getD, List.getElem?_set_ne (fun h => e h.symm), ← List.getD_eq_getElem?_getD, accT_at b f t i j hj]
    by_cases h2 : f ≤ j ∧ j < i
    · rw [if_pos h2, if_pos (by omega)]
    · rw [if_neg h2, if_neg (by omega)]
theorem bd_at {n : Nat} {b : List Int} (h : Bd n b) (hn : n ≤ 8) (i : Nat) : -8 ≤ b.getD i 0 ∧ b.getD i 0 ≤ 8 := by
  rcases Nat.lt_or_ge i b.length with hi | hi
  · have := h.2.1 (b.getD i 0) (by rw [getD_at b 0 hi]; exact List.getElem_mem hi)
    omega
  · rw [List.getD_eq_getElem?_getD, List.getElem?_eq_none hi]
    decide
theorem biTurn_l0 {n : Nat} {b : List Int} (hb : Bd n b) (hn : n ≤ 8) (f t : Nat) (hf : f ≤ t) (ht : t < n) : ∀ (d i : Nat), i + d = t + 1 → f ≤ i → Ev (fun k => spec_biTurn.l0 k b (f : Int) (t : Int) (accT b f t i) (i : Int)) (turn b f t) := by
  have hl := hb.1
  intro d
  induction d with
  | zero =>
    intro i hi h1
    obtain rfl : i = t + 1 := by omega
    refine Ev_step (fun k => ?_) (Ev.now _)
    rw [spec_biTurn.l0, if_neg (by omega), accT_end b f t hf (by omega)]
  | succ d ih =>
    intro i hi h1
    have w1 : wrap64 (wrap64 ((f : Int) + (t : Int)) - (i : Int)) = ((f + t - i : Nat) : Int) := by rw [w64 (x := (f : Int) + t) (by omega) (by omega), w64 (by omega) (by omega)]; omega
    have ha := bd_at hb hn (f + t - i)
    refine Ev_step (fun k => ?_) (ih (i + 1) (by omega) (by omega))
    rw [spec_biTurn.l0, w1, if_pos (by omega), if_pos (by omega), if_pos (by omega), if_pos (by omega), if_pos (by rw [accT_len]; omega), nextI i (by omega), Int.toNat_natCast, rd_nat, w64 (x := -(b.getD (f + t - i) 0)) (by omega) (by omega), accT_set b f t i h1 (by omega)]
theorem biTurn_ev {n : Nat} {b : List Int} (hb : Bd n b) (hn : n ≤ 8) (f t : Nat) (hf : f ≤ t) (ht : t < n) : Ev (fun k => spec_biTurn.f k b (f : Int) (t : Int)) (turn b f t) := by
  have hl := hb.1
  simp only [spec_biTurn.f]
  refine Ev_some (a := b) ?_ ?_
  · rw [spec_l1Own.f]
    simp only [Option.bind_some, List.length_nil, List.nil_append]
    rw [if_pos (by omega)]
  · have := biTurn_l0 hb hn f t hf ht (t + 1 - f) f (by omega) (Nat.le_refl _)
    rwa [accT_start] at this
theorem turned_ev {n : Nat} {b : List Int} (hb : Bd n b) (hn : n ≤ 8) (f t : Nat) (hf : f ≤ t) (ht : t < n) : Ev (fun k => impl_turned.f k b (f : Int) (t : Int)) (turn b f t) := by
  have hl := hb.1
  simp only [impl_turned.f]
  refine Ev_some (a := b) ?_ (Ev.congr (fun k => same_l0 k b f t b f) ?_)
  · rw [clone_Int.f, if_pos (by omega)]
  · have := biTurn_l0 hb hn f t hf ht (t + 1 - f) f (by omega) (Nat.le_refl _)
    rwa [accT_start] at this
theorem right_succ (i : Nat) : right (i + 1) = right i ++ [(i : Int) + 1] := by simp [right, List.range_succ]
theorem right_l0 (n : Nat) (hn : n ≤ 8) : ∀ d i : Nat, i + d = n → Ev (fun k => impl_right.l0 k (right i) (n : Int) (i : Int)) (right n) := by
  intro d
  induction d with
  | zero =>
    intro i hi
    obtain rfl : i = n := by omega
    refine Ev_step (fun k => ?_) (Ev.now _)
    rw [impl_right.l0, if_neg (by omega)]
  | succ d ih =>
    intro i hi
    refine Ev_step (fun k => ?_) (ih (i + 1) (by omega))
    have w1 : wrap64 ((i : Int) + 1) = (i : Int) + 1 := w64 (by omega) (by omega)
    rw [impl_right.l0, if_pos (by omega), if_pos (by rw [right_len]; omega), w1, ← right_succ]
    rfl
theorem right_ev (n : Nat) (hn : n ≤ 8) : Ev (fun k => impl_right.f k (n : Int)) (right n) := by
  refine Ev.congr (fun k => ?_) (right_l0 n hn n 0 (by omega))
  rw [impl_right.f]
  rfl
theorem allOf_le {m : Nat} (h : m ≤ 8) : allOf m ≤ 10321920 := by
  rcases (by omega : m = 0 ∨ m = 1 ∨ m = 2 ∨ m = 3 ∨ m = 4 ∨ m = 5 ∨ m = 6 ∨ m = 7 ∨ m = 8) with rfl | rfl | rfl | rfl | rfl | rfl | rfl | rfl | rfl <;> decide
theorem biAll_l0 (n : Nat) (hn : n ≤ 8) : ∀ d m : Nat, m + d = n → Ev (fun k => spec_biAll.l0 k (n : Int) ((allOf m : Nat) : Int) ((m : Int) + 1)) ((allOf n : Nat) : Int) := by
  intro d
  induction d with
  | zero =>
    intro m hm
    obtain rfl : m = n := by omega
    refine Ev_step (fun k => ?_) (Ev.now _)
    rw [spec_biAll.l0, if_neg (by omega)]
  | succ d ih =>
    intro m hm
    refine Ev_step (fun k => ?_) (ih (m + 1) (by omega))
    have h1 := allOf_le (m := m + 1) (by omega)
    have w1 : wrap64 (2 * ((m : Int) + 1)) = ((2 * (m + 1) : Nat) : Int) := by rw [w64 (by omega) (by omega)]; omega
    have w2 : wrap64 (((allOf m : Nat) : Int) * ((2 * (m + 1) : Nat) : Int)) = ((allOf (m + 1) : Nat) : Int) := by
      have e : allOf m * (2 * (m + 1)) = allOf (m + 1) := rfl
      rw [← Int.natCast_mul, e, w64 (by omega) (by omega)]
    rw [spec_biAll.l0, if_pos (by omega), w1, w2, w64 (x := (m : Int) + 1 + 1) (by omega) (by omega)]
    rfl
theorem biAll_ev (n : Nat) (hn : n ≤ 8) : Ev (fun k => spec_biAll.f k (n : Int)) ((allOf n : Nat) : Int) := by
  refine Ev.congr (fun k => ?_) (biAll_l0 n hn n 0 (by omega))
  rw [spec_biAll.f]
  rfl
theorem biRank_l1 {n : Nat} {b : List Int} (hb : Bd n b) (hn : n ≤ 8) {i : Nat} (hi : i < n) (acc : Nat) (r : Int) (ha : acc ≤ 20000000)
    (hnext : Ev (fun k => spec_biRank.l0 k b ((acc * (2 * (n - i)) + digit n (b.take i) (b.getD i 0) : Nat) : Int) b (n : Int) ((i + 1 : Nat) : Int)) r) :
    ∀ d j : Nat, j + d = (b.getD i 0 + n).toNat → Ev (fun k => spec_biRank.l1 k b (acc : Int) (i : Int) (b.getD i 0) ((cnt (free (b.take i)) (-(n : Int)) j : Nat) : Int) (-(n : Int) + (j : Int)) b (n : Int) (i : Int)) r := by
  have hl := hb.1
  have hx := hb.2.1 (b.getD i 0) (by rw [getD_at b 0 (by omega)]; exact List.getElem_mem (by omega))
  have hcj : ∀ j, cnt (free (b.take i)) (-(n : Int)) j ≤ j := by
    intro j
    induction j with
    | zero => exact Nat.le_refl _
    | succ j ih => rw [cnt]; split <;> omega
  have ht : (b.take i).length ≤ 1048576 := by rw [List.length_take]; omega
  intro d
  induction d with
  | zero =>
    intro j hj
    obtain rfl : j = (b.getD i 0 + n).toNat := by omega
    have hd : cnt (free (b.take i)) (-(n : Int)) (b.getD i 0 + n).toNat = digit n (b.take i) (b.getD i 0) := rfl
    have hc := hcj (b.getD i 0 + n).toNat
    rw [hd] at hc ⊢
    have m1 : acc * 2 * (n - i) ≤ 20000000 * 2 * 8 := Nat.mul_le_mul (Nat.mul_le_mul_right _ ha) (by omega)
    have e1 : (((acc : Nat) : Int) * 2 * ((n : Int) - (i : Int))) = ((acc * 2 * (n - i) : Nat) : Int) := by
      rw [Int.natCast_mul, Int.natCast_mul, Int.natCast_sub (by omega)]
      rfl
    refine Ev_step (fun k => ?_) hnext
    rw [spec_biRank.l1, if_neg (by omega), nextI i (by omega), hl, w64 (x := (acc : Int) * 2) (by omega) (by omega), w64 (x := (n : Int) - (i : Int)) (by omega) (by omega), e1, w64 (x := ((acc * 2 * (n - i) : Nat) : Int)) (by omega) (by omega), w64 (by omega) (by omega), Nat.mul_assoc acc 2]
    congr 1
  | succ d ih =>
    intro j hj
    have hnx := ih (j + 1) (by omega)
    have w1 : wrap64 (-(n : Int) + (j : Int) + 1) = -(n : Int) + ((j + 1 : Nat) : Int) := by rw [w64 (by omega) (by omega)]; omega
    have w2 : wrap64 (-(-(n : Int) + (j : Int))) = -(-(n : Int) + (j : Int)) := w64 (by omega) (by omega)
    have hc := hcj j
    have w3 : wrap64 (((cnt (free (b.take i)) (-(n : Int)) j : Nat) : Int) + 1) = ((cnt (free (b.take i)) (-(n : Int)) j + 1 : Nat) : Int) := by rw [w64 (by omega) (by omega)]; omega
    have hs : ∀ k, spec_biRank.l1 (k + 1) b (acc : Int) (i : Int) (b.getD i 0) ((cnt (free (b.take i)) (-(n : Int)) j : Nat) : Int) (-(n : Int) + (j : Int)) b (n : Int) (i : Int) = _ := fun k => by
      rw [spec_biRank.l1, if_pos (by omega), w1, w2, w3, Int.toNat_natCast]
    refine Ev_step hs ?_
    have hf : free (b.take i) (-(n : Int) + (j : Int)) = (-(n : Int) + (j : Int) != 0 && (!(b.take i).contains (-(n : Int) + (j : Int)) && !(b.take i).contains (-(-(n : Int) + (j : Int))))) := rfl
    have hcs : cnt (free (b.take i)) (-(n : Int)) (j + 1) = cnt (free (b.take i)) (-(n : Int)) j + if free (b.take i) (-(n : Int) + (j : Int)) = true then 1 else 0 := rfl
    rw [hf] at hcs
    by_cases h0 : -(n : Int) + (j : Int) = 0
    · rw [show (-(n : Int) + (j : Int) != 0) = false by rw [h0]; rfl, Bool.false_and, if_neg (by decide), Nat.add_zero] at hcs
      rw [hcs] at hnx
      exact Ev_pos h0 hnx
    · rw [show (-(n : Int) + (j : Int) != 0) = true from bne_iff_ne.2 h0, Bool.true_and] at hcs
      refine Ev_neg h0 (Ev_pos (by omega) (Ev_pos (by omega) (Ev_bind (l1Has_ev _ _ ht) ?_)))
      cases h1 : (b.take i).contains (-(n : Int) + (j : Int)) with
      | true =>
        rw [h1, Bool.not_true, Bool.false_and, if_neg (by decide), Nat.add_zero] at hcs
        rw [hcs] at hnx
        exact Ev_pos rfl hnx
      | false =>
        rw [h1, Bool.not_false, Bool.true_and] at hcs
        refine Ev_neg (by decide) (Ev_bind (l1Has_ev _ _ ht) ?_)
        cases h2 : (b.take i).contains (-(-(n : Int) + (j : Int))) with
        | true =>
          rw [h2, Bool.not_true, if_neg (by decide), Nat.add_zero] at hcs
          rw [hcs] at hnx
          exact Ev_pos rfl hnx
        | false =>
          rw [h2, Bool.not_false, if_pos rfl] at hcs
          rw [hcs] at hnx
          exact Ev_neg (by decide) hnx
theorem biRank_l0 {n : Nat} {b : List Int} (hb : Bd n b) (hn : n ≤ 8) : ∀ (rest pre : List Int) (acc : Nat), pre ++ rest = b → rk n pre rest acc ≤ 20000000 → Ev (fun k => spec_biRank.l0 k b (acc : Int) b (n : Int) ((pre.length : Nat) : Int)) ((rk n pre rest acc : Nat) : Int) := by
  have hl := hb.1
  intro rest
  induction rest with
  | nil =>
    intro pre acc hp hr
    rw [List.append_nil] at hp
    refine Ev_step (fun k => ?_) (Ev.now _)
    rw [spec_biRank.l0, if_neg (by rw [hp, hl]; omega), rk]
  | cons x xs ih =>
    intro pre acc hp hr
    have hlen : pre.length + (xs.length + 1) = n := by rw [← hl, ← hp, List.length_append, List.length_cons]
    have hx : b.getD pre.length 0 = x := by rw [← hp, List.getD_eq_getElem?_getD, List.getElem?_append_right (Nat.le_refl _), Nat.sub_self]; rfl
    have htk : b.take pre.length = pre := by rw [← hp, List.take_left']; rfl
    rw [rk] at hr ⊢
    have hacc : acc ≤ 20000000 := by
      have h1 := rk_acc n xs (pre ++ [x]) (acc * (2 * (xs.length + 1)) + digit n pre x)
      have h2 := allOf_pos xs.length
      have h3 : acc * (2 * (xs.length + 1)) ≤ (acc * (2 * (xs.length + 1)) + digit n pre x) * allOf xs.length := Nat.le_trans (Nat.le_add_right _ _) (Nat.le_mul_of_pos_right _ h2)
      have h4 : acc ≤ acc * (2 * (xs.length + 1)) := Nat.le_mul_of_pos_right _ (by omega)
      omega
    have hnx := ih (pre ++ [x]) (acc * (2 * (xs.length + 1)) + digit n pre x) (by rw [List.append_assoc]; exact hp) hr
    rw [List.length_append, List.length_singleton] at hnx
    have hl1 := biRank_l1 hb hn (i := pre.length) (by omega) acc ((rk n (pre ++ [x]) xs (acc * (2 * (xs.length + 1)) + digit n pre x) : Nat) : Int) hacc (by
      rw [hx, htk, show n - pre.length = xs.length + 1 by omega]
      exact hnx) (b.getD pre.length 0 + n).toNat 0 (by omega)
    refine Ev_step (fun k => ?_) hl1
    rw [spec_biRank.l0, if_pos (by omega), if_pos (by omega), if_pos (by omega), rd_nat, hl, w64 (x := -(n : Int)) (by omega) (by omega)]
    rw [show (-(n : Int) + ((0 : Nat) : Int)) = -(n : Int) by omega]
    rfl
theorem biRank_ev {n : Nat} {b : List Int} (hb : Bd n b) (hn : n ≤ 8) : Ev (fun k => spec_biRank.f k b) ((rank b : Nat) : Int) := by
  have hr := rank_lt hb
  have ha := allOf_le hn
  have hl := hb.1
  unfold rank at hr ⊢
  rw [hl] at hr ⊢
  have := biRank_l0 hb hn b [] 0 rfl (by omega)
  refine Ev.congr (fun k => ?_) this
  rw [spec_biRank.f, hl]
  rfl
end Go.Proofs.Ytmdpiagpkocheaa.P
end

/-! The program's search in breadth: for one to five leaves it answers a new map of each binding's least number of turns. -/
section
namespace Go.Proofs.Ytmdpiagpkocheaa.P
open Go.RowKit Go.Proofs.YtmdpiagpkocheaaW.PrintWords Go.Proofs.YtmdpiagpkocheaaW.PrintLast Go.Proofs.YtmdpiagpkocheaaW.PrintMore Go.Proofs.Ytmdpiagpkocheaa.Base Go.Proofs.Ytmdpiagpkocheaa.Order Go.Proofs.Ytmdpiagpkocheaa.Far
set_option linter.unusedVariables false
set_option linter.unusedSimpArgs false

/-- What the search answers. -/
def FarPost (n : Nat) (w : World) (e : Ending) (w' : World) : Prop := ∃ B, e = .returned (.map (some B)) ∧ w.heap.size ≤ B ∧ FarAt w' B (distO n) ∧ Below w.heap.size w w'
/-- The rows that were met, and which block they are not. -/
def Rows (w : World) (base B : Nat) (v : Value) (o : Out) : Prop := Kd.N (Kd.slice 3 (Kd.int .i64)) 22 w base (fun k => k ≠ B) v (o.map (·.1))
theorem Rows.at_ {w : World} {base B : Nat} {ad : Addr} {m c : Nat} {o : Out} (h : Rows w base B (.slice (some ad) m c) o) {i : Nat} {q : List Int} {d : Int} (hi : o[i]? = some (q, d)) :
    m = o.length ∧ ∃ A cc, w.cell? (ad.add i) = some (.slice A q.length cc) ∧ q.length ≤ cc ∧ Kd.C (Kd.int .i64) w A q.length q := by
  have hr := Kd.N_reads' h
  have hil := (List.getElem?_eq_some_iff.1 hi).1
  rw [List.length_map] at hr
  obtain ⟨ad', A, cc, e, hx, hl, hC⟩ := at_L1 hr.2.2 (i : Int) (by omega) (by omega)
  cases e
  have hq : rd_L1 (o.map (·.1)) (i : Int) = q := by
    unfold rd_L1
    rw [Int.toNat_natCast, List.getD_eq_getElem?_getD, List.getElem?_map, hi]
    rfl
  rw [hq] at hx hl hC
  rw [Int.toNat_natCast] at hx
  exact ⟨hr.1, A, cc, hx, hl, hC⟩

theorem Rows.slice {w : World} {base B : Nat} {v : Value} {o : Out} (h : Rows w base B v o) : ∃ A c, v = .slice A o.length c := by
  obtain ⟨A, c, e⟩ := Kd.N_slice h
  rw [List.length_map] at e
  exact ⟨A, c, e⟩
theorem add_nought (a : Addr) : a.add 0 = a := by
  unfold Addr.add
  rw [if_pos rfl]
theorem Rows.addr {w : World} {base B m c : Nat} {A : Option Addr} {o : Out} (h : Rows w base B (.slice A m c) o) (ho : 0 < o.length) : ∃ ad, A = some ad := by
  have hr := Kd.N_reads' h
  rw [List.length_map] at hr
  obtain ⟨ad, _, _, e, _⟩ := at_L1 hr.2.2 0 (by omega) (by omega)
  exact ⟨ad, e⟩
set_option maxHeartbeats 4000000 in
set_option maxRecDepth 100000 in
theorem distances_calls (n : Nat) (h1 : 1 ≤ n) (hn : n ≤ 5) (w : World) : Calls Try.prog 44 #[.int .i64 (n : Int)] w (FarPost n w) := by
  obtain ⟨K1, hK1⟩ := Ev_at (right_ev n (by omega))
  have HR1 := Aside0.mk (hK1 K1 (Nat.le_refl _))
  clear hK1
  have HB := Aside0.mk (Below.refl w.heap.size w)
  have HN := Aside0.mk (And.intro h1 hn)
  clear h1 hn
  go_enter Try.func44, Try.ntmps44
  go_wp2_with (first | (go_at_call 58; (with_reducible refine (impl_right.calls K1 (n : Int) (right n) _ HR1.out).mono ?_); rintro e w1 ⟨v1, rfl, ho, hb⟩; have HO1 := Aside0.mk ho; have HB1 := Aside0.mk hb; clear ho hb; obtain ⟨A1, c1, e1⟩ := Kd.R_slice HO1.out; subst e1) | ((with_reducible refine gate_dst (N := 13) rfl ?_); refine Kd.N_lit (Kd.slice 3 (Kd.int .i64)) _ 22 ?hg (N' := 13) ?hd (xs := ([right n] : List (List Int))) (inner := [.slice A1 (right n).length c1]) (ok := (fun _ => True)) (okp := (fun _ => True)) ?hr ?hp (fun _ hk => hk) trivial (Below.refl _ _) (Nat.le_refl _) (by simp) ?_; (case hd => rfl); (case hg => rfl); (case hr => first | (go_simp; done) | (go_simp; rfl)); (case hp => exact (Reps.one (show Kd.FK (Kd.slice 3 (Kd.int .i64)) _ _ (right n) [.slice A1 (right n).length c1] from (Kd.FK_slice_mk (Kd.R_reads' HO1.out).2.1 (Kd.R_F HO1.out))) (Reps.none _ _))); intro v2 w2 ho2 hb2 hg_ hnew_; clear hg_ hnew_; have HO2 := Aside0.mk ho2; have HB2 := Aside0.mk hb2; clear ho2 hb2; obtain ⟨A2, c2, e2⟩ := Kd.N_slice HO2.out; subst e2) | ((with_reducible refine gate_dst (N := 14) rfl ?_); refine far_event rfl rfl ?_; intro B w3 hB hF hb3; have HB3 := Aside0.mk (below_step (below_step HB1.out HB2.out) hb3); have HF := Aside0.mk hF; have GB := Aside0.mk (show w.heap.size ≤ B from by rw [hB]; exact Nat.le_trans HB1.out.size HB2.out.size); have HO := Aside0.mk (show Rows w3 w.heap.size B (.slice A2 1 c2) [(right n, 0)] from Kd.N_below (Kd.N_mono (Kd.N_elderB (Kd.N_lower HO2.out HB1.out.size) B (by rw [hB]; exact Nat.le_refl _)) (fun k hk => hk.2)) hb3); clear hB hF hb3 HO2 HO1; obtain ⟨ad, ea⟩ := HO.out.addr Nat.zero_lt_one; subst ea; obtain ⟨-, A3, c3, hx3, hl3, hC3⟩ := HO.out.at_ (i := 0) rfl; rw [add_nought] at hx3; have HL3 := Aside0.mk hl3; have HC3 := Aside0.mk hC3; clear hl3 hC3) | (go_at_call 48; (refine (keyOf_calls _ _ (right n) _ HC3.out (by rw [right_len]; have := HN.out; omega)).mono ?_); rintro e w4 ⟨rfl, hb⟩; have HF4 := Aside0.mk (HF.out.below hb); have HO4 := Aside0.mk (show Rows w4 w.heap.size B _ _ from Kd.N_below HO.out hb); have HB4 := Aside0.mk (below_step HB3.out hb); clear hb HF HO) | (refine far_insert rfl (.tmp 14) (.tmp 18) (.const (.int .i64 0)) rfl (n := n) (l := right n) (v := 0) (by rfl) (by rfl) (by rfl) HF4.out (by have := HN.out; omega) (right_bd n) (by decide) (by decide) ?_; intro w5 hF hg; have HF5 := Aside0.mk hF; have HO5 := Aside0.mk (show Rows w5 w.heap.size B _ _ from Kd.N_grown HO4.out hg (fun k hk e => hk (Option.some.inj e))); have HB5 := Aside0.mk (show Below w.heap.size w w5 from pw_below_grown HB4.out (some B) HB4.out.size hg (fun k e => by injection e with e; rw [← e]; exact GB.out)); clear hF hg HF4 HO4))
  have RT := Aside0.mk (dist_all n).2.2
  go_loopg [3, 5] (allOf n + 2) (fun kq v3 v5 w' => ∃ (o : Out) (i : Nat), v5 = .int .i64 (i : Int) ∧ Aside0 (G n o i [] ∧ bfs n kq i o = some (distO n) ∧ i ≤ o.length ∧ Bnd o) ∧ Aside0 (Rows w' w.heap.size B v3 o) ∧ Aside0 (FarAt w' B o) ∧ Aside0 (Below w.heap.size w w'))
  case atStart => exact ⟨[(right n, 0)], 0, rfl, ⟨G.start n, RT.out, Nat.zero_le _, Bnd.start n⟩, HO5, HF5, HB5⟩
  case round =>
    clear hx3 HO5 HF5 HB5 HB1 HB2 HB3 HB4 HL3 HC3 RT
    obtain ⟨o, i, rfl, HG, HO, HF, HB5⟩ := hrel
    cases gk with
    | zero => exact absurd HG.out.2.1 (by simp [bfs])
    | succ kk =>
    obtain ⟨A3, c3, e3⟩ := HO.out.slice
    subst e3
    by_cases hil : i < o.length
    · obtain ⟨q, d, hq⟩ : ∃ q d, o[i]? = some (q, d) := ⟨_, _, List.getElem?_eq_getElem hil⟩
      have HQ := Aside0.mk hq
      clear hq
      have c0 : decide ((i : Int) < (o.length : Int)) = true := decide_eq_true (by omega)
      have c1 : decide (i < o.length) = true := decide_eq_true hil
      clear hil
      go_wp2
      go_loopg [3, 27] n (fun kq v3 v27 w' => ∃ (o2 : Out) (f : Nat), v27 = .int .i64 (f : Int) ∧ Aside0 (f + kq = n) ∧ Aside0 (St n o q d (rowsFrom n f) o2) ∧ Aside0 (Rows w' w.heap.size B v3 o2) ∧ Aside0 (FarAt w' B o2) ∧ Aside0 (Below w.heap.size w w'))
      case atStart => exact ⟨o, 0, rfl, ⟨Nat.zero_add _⟩, ⟨St.start n o q d⟩, HO, HF, HB5⟩
      case round =>
        clear HO HF HB5 c0 c1
        obtain ⟨o2, f, rfl, HK, HS, HO, HF, HB5⟩ := hrel
        obtain rfl : gk = n - f := by have := HK.out; omega
        by_cases hf : f < n
        · have HFN := Aside0.mk hf
          have c0 : decide ((f : Int) < (n : Int)) = true := decide_eq_true (by omega)
          have c1 : decide (f < n) = true := decide_eq_true hf
          have HS2 := Aside0.mk (show St n o q d (restOf n f f) o2 from by rw [← rows_rest hf]; exact HS.out)
          clear hf HS
          go_wp2
          go_loopg [3, 7] (n - f) (fun kq v3 v7 w' => ∃ (o2 : Out) (t : Nat), v7 = .int .i64 (t : Int) ∧ Aside0 (t + kq = n ∧ f ≤ t) ∧ Aside0 (St n o q d (restOf n f t) o2) ∧ Aside0 (Rows w' w.heap.size B v3 o2) ∧ Aside0 (FarAt w' B o2) ∧ Aside0 (Below w.heap.size w w'))
          case atStart => exact ⟨o2, f, rfl, ⟨by have := HFN.out; omega, Nat.le_refl _⟩, HS2, HO, HF, HB5⟩
          case round =>
            clear HO HF HB5 c0 c1 HS2
            obtain ⟨o3, t, rfl, HK2, HS, HO, HF, HB5⟩ := hrel
            obtain rfl : gk = n - t := by have := HK2.out; omega
            obtain ⟨A4, c4, e4⟩ := HO.out.slice
            subst e4
            by_cases ht : t < n
            · have HTN := Aside0.mk ht
              have d0 : decide ((t : Int) < (n : Int)) = true := decide_eq_true (by omega)
              have d1 : decide (t < n) = true := decide_eq_true ht
              obtain ⟨hg3, hq3⟩ := St.good HS.out HG.out.1 HQ.out
              have hil := (List.getElem?_eq_some_iff.1 hq3).1
              obtain ⟨ad4, ea⟩ := HO.out.addr (Nat.lt_of_le_of_lt (Nat.zero_le _) hil)
              subst ea
              obtain ⟨-, A5, c5, hx5, hl5, hC5⟩ := HO.out.at_ hq3
              have HL5 := Aside0.mk hl5
              have HC5 := Aside0.mk hC5
              have d2 : decide ((i : Int) < (o3.length : Int)) = true := decide_eq_true (by omega)
              have d3 := eq_true hil
              have hqb : Bd n q := by
                obtain ⟨dn, g⟩ := hg3
                exact g.bd _ (List.mem_of_getElem? hq3)
              obtain ⟨K2, hK2⟩ := Ev_at (turned_ev hqb (by have := HN.out; omega) f t HK2.out.2 ht)
              have HT := Aside0.mk (hK2 K2 (Nat.le_refl _))
              have HNB := Aside0.mk (turn_bd hqb HK2.out.2 ht)
              have HG3 := Aside0.mk (And.intro hg3 hq3)
              have HQB := Aside0.mk hqb
              clear ht hil hl5 hC5 hqb hK2 hg3 hq3
              cases hl : o3.lookup (turn q f t) with
              | some v =>
                have HL := Aside0.mk hl
                clear hl
                go_wp2_with (first | (go_at_call 38; (with_reducible refine (impl_turned.calls K2 A5 c5 q (f : Int) (t : Int) (turn q f t) _ HC5.out HL5.out HT.out).mono ?_); rintro e w8 ⟨v8, rfl, ho, hb⟩; have HO8 := Aside0.mk ho; have HOb := Aside0.mk (show Rows w8 w.heap.size B _ o3 from Kd.N_below HO.out hb); have HFb := Aside0.mk (HF.out.below hb); have HBb := Aside0.mk (below_step HB5.out hb); clear ho hb HO HF HB5; obtain ⟨A8, c8, e8⟩ := Kd.R_slice HO8.out; subst e8) | (go_at_call 48; (refine (keyOf_calls A8 c8 (turn q f t) _ (Kd.R_reads' HO8.out).2.2 (by have := HN.out; have := HNB.out.1; omega)).mono ?_); rintro e w9 ⟨rfl, hb⟩; have HO := Aside0.mk (show Rows w9 w.heap.size B _ o3 from Kd.N_below HOb.out hb); have HF := Aside0.mk (HFb.out.below hb); have HB5 := Aside0.mk (below_step HBb.out hb); clear hb HOb HFb HBb HO8) | ((with_reducible refine gate_dst (N := 47) rfl ?_); refine far_look_ok rfl (.tmp 44) (.tmp 46) rfl (n := n) (l := turn q f t) (by rfl) (by rfl) HF.out (by have := HN.out; omega) (by obtain ⟨⟨dn, g⟩, _⟩ := HG3.out; exact g.bd) (by obtain ⟨⟨dn, g⟩, _⟩ := HG3.out; exact g.nd) HNB.out ?_; rw [HL.out]))
                go_roundg (n - (t + 1))
                case measure => have := HTN.out; omega
                case rel => exact ⟨o3, t + 1, congrArg (Value.int .i64) (nextI t (by have := HTN.out; have := HN.out; omega)), ⟨by have := HTN.out; omega, by have := HK2.out; omega⟩, ⟨by
                  have h := St.step (p := (f, t)) (by rw [← rest_cons HTN.out]; exact HS.out)
                  unfold put at h
                  rw [HL.out] at h
                  exact h⟩, HO, HF, HB5⟩
              | none =>
                have HL := Aside0.mk hl
                clear hl
                go_wp2_with (first | (go_at_call 38; (with_reducible refine (impl_turned.calls K2 A5 c5 q (f : Int) (t : Int) (turn q f t) _ HC5.out HL5.out HT.out).mono ?_); rintro e w8 ⟨v8, rfl, ho, hb⟩; have HO8 := Aside0.mk (show Kd.R (Kd.int .i64) 3 w8 wr.heap.size (fun k => k ≠ B) v8 (turn q f t) from Kd.R_mono (Kd.R_bound ho) (fun k hk => by have := hk.2.1; have := HF.out.lt; omega)); have HOb := Aside0.mk (show Rows w8 w.heap.size B _ o3 from Kd.N_below HO.out hb); have HFb := Aside0.mk (HF.out.below hb); have HBb := Aside0.mk (below_step HB5.out hb); clear ho hb HO HF HB5; obtain ⟨A8, c8, e8⟩ := Kd.R_slice HO8.out; subst e8) | (go_at_call 48; (refine (keyOf_calls A8 c8 (turn q f t) _ (Kd.R_reads' HO8.out).2.2 (by have := HN.out; have := HNB.out.1; omega)).mono ?_); rintro e w9 ⟨rfl, hb⟩; have HO9 := Aside0.mk (Kd.R_below HO8.out hb); have HO := Aside0.mk (show Rows w9 w.heap.size B _ o3 from Kd.N_below HOb.out hb); have HF := Aside0.mk (HFb.out.below hb); have HB5 := Aside0.mk (below_step HBb.out hb); clear hb HOb HFb HBb HO8; have HO8 := HO9; clear HO9; have hx6 := (HO.out.at_ HG3.out.2); obtain ⟨-, A6, c6, hx6, hl6, hC6⟩ := hx6; have HL6 := Aside0.mk hl6; have HC6 := Aside0.mk hC6; clear hl6 hC6 hx5 HC5 HL5) | ((with_reducible refine gate_dst (N := 47) rfl ?_); refine far_look_ok rfl (.tmp 44) (.tmp 46) rfl (n := n) (l := turn q f t) (by rfl) (by rfl) HF.out (by have := HN.out; omega) (by obtain ⟨⟨dn, g⟩, _⟩ := HG3.out; exact g.bd) (by obtain ⟨⟨dn, g⟩, _⟩ := HG3.out; exact g.nd) HNB.out ?_; rw [HL.out]))
                have HD : 0 ≤ d ∧ d ≤ 4000 ∧ o3.length ≤ 4000 ∧ o3.lookup q = some d := by
                  obtain ⟨⟨dn, g⟩, hq3⟩ := HG3.out
                  have h1 := g.nn _ (List.mem_of_getElem? hq3)
                  have h2 := St.bnd HS.out HG.out.2.2.2 HQ.out i (q, d) hq3
                  have h3 := g.few
                  have h4 : allOf n ≤ 3840 := by
                    have := HN.out
                    rcases (by omega : n = 1 ∨ n = 2 ∨ n = 3 ∨ n = 4 ∨ n = 5) with h | h | h | h | h <;> rw [h] <;> decide
                  have h5 := (List.getElem?_eq_some_iff.1 hq3).1
                  exact ⟨h1, by simp only at h2; omega, by omega, lookup_in g.nd (List.mem_of_getElem? hq3)⟩
                have HD := Aside0.mk HD
                have hw1 : IntKind.i64.wrap (d + 1) = d + 1 := IntWalk.i64_in _ (by have := HD.out; omega)
                have hw2 : wrap64 (d + 1) = d + 1 := w64 (by have := HD.out; omega) (by have := HD.out; omega)
                have HWF := Aside0.mk (show (Lit.int .i64 (d + 1)).wf = true from WalkArith.wf_i64 (by have := HD.out; omega))
                have hlk := far_run HF.out (by have := HN.out; omega) (by obtain ⟨⟨dn, g⟩, _⟩ := HG3.out; exact g.bd) (by obtain ⟨⟨dn, g⟩, _⟩ := HG3.out; exact g.nd) HQB.out
                rw [HD.out.2.2.2] at hlk
                replace hlk : (Instr.lookup 50 (.map (some B)) (keyV q) false).run Try.prog w9 = .ok (.int .i64 d) w9 := hlk
                replace HO := Aside0.mk (show Rows w9.drew w.heap.size B _ o3 from Kd.N_drew HO.out)
                replace HF := Aside0.mk (show FarAt w9.drew B o3 from World.ownsMap.drew HF.out)
                replace HB5 := Aside0.mk (below_drew HB5.out)
                replace HO8 := Aside0.mk (Kd.R_drew HO8.out)
                replace HC6 := Aside0.mk (Kd.C_drew HC6.out)
                go_region_with (first | (go_at_call 48; (first | ((with_reducible refine (keyOf_calls A8 c8 (turn q f t) _ ?x1 ?x2).mono ?_); (case x1 => exact (Kd.R_reads' HO8.out).2.2); (case x2 => have := HN.out; have := HNB.out.1; omega)) | ((with_reducible refine (keyOf_calls A6 c6 q _ ?x1 ?x2).mono ?_); (case x1 => exact HC6.out); (case x2 => have := HN.out; have := HQB.out.1; omega))); rintro e w10 ⟨rfl, hb⟩; replace HO := Aside0.mk (show Rows w10 w.heap.size B _ o3 from Kd.N_below HO.out hb); replace HF := Aside0.mk (HF.out.below hb); replace HB5 := Aside0.mk (below_step HB5.out hb); replace HO8 := Aside0.mk (Kd.R_below HO8.out hb); replace HC6 := Aside0.mk (Kd.C_below HC6.out hb); (first | replace hx6 := (hb.cell (World.block_lt_of_cell? _ _ hx6)).trans hx6 | replace hx6 := (hb.cell (World.block_lt_of_cell? w9.drew _ (show w9.drew.cell? _ = _ from hx6))).trans (show w9.drew.cell? _ = _ from hx6)); clear hb hlk; (try clear hrun HF11 HG11); have hlk := far_run HF.out (by have := HN.out; omega) (by obtain ⟨⟨dn, g⟩, _⟩ := HG3.out; exact g.bd) (by obtain ⟨⟨dn, g⟩, _⟩ := HG3.out; exact g.nd) HQB.out; rw [HD.out.2.2.2] at hlk; replace hlk : (Instr.lookup 50 (.map (some B)) (keyV q) false).run Try.prog w10 = .ok (.int .i64 d) w10 := hlk; obtain ⟨w11, hrun, hF11, hg11⟩ := far_update HF.out (by have := HN.out; omega) HNB.out (by have := HD.out; omega) HWF.out; have HF11 := Aside0.mk hF11; have HG11 := Aside0.mk hg11; clear hF11 hg11))
                all_goals
                  have HOa := Aside0.mk (show Rows w11 w.heap.size B _ o3 from Kd.N_grown HO.out HG11.out (fun k hk e => hk (Option.some.inj e)))
                  have HBa := Aside0.mk (show Below w.heap.size w w11 from pw_below_grown HB5.out (some B) HB5.out.size HG11.out (fun k e => by injection e with e; rw [← e]; exact GB.out))
                  have HRa := Aside0.mk (Kd.R_grown HO8.out HG11.out (fun k hk e => hk (Option.some.inj e)))
                  clear HO HF HB5 HO8 HC6 hx6 hlk hrun HG11 hw1
                  go_wp2_with ((with_reducible refine gate_builtin (b := .append) (xs := #[.tmp 63, .tmp 65]) rfl ?_); at_builtin; refine Kd.N_append (Kd.slice 3 (Kd.int .i64)) (w0 := w) w.heap.size rfl (.tmp 63) (.tmp 65) 23 22 (.slice none 0 0) 24 rfl Try.underlying23 info22 rfl (by decide) (by omega) (.slice (some ad4) o3.length c4) (o3.map (·.1)) (turn q f t) [.slice A8 (turn q f t).length c8] (fun k => k ≠ B) (fun k => k ≠ B ∧ some k ≠ (Value.slice (some ad4) o3.length c4).ownBlock) rfl rfl ?aP (fun _ hk => hk) ?aF ?aO ?aB ?aS ?aL ?_; (case aP => have R8 := Kd.R_apart' HRa.out (Kd.N_typed HOa.out) (by decide); exact Kd.FK_slice_mk (Kd.R_reads' R8).2.1 (Kd.R_F R8)); (case aF => exact fun k hk => by have := HF11.out.lt; omega); (case aO => exact HOa.out); (case aB => exact HBa.out); (case aS => exact HBa.out.size); (case aL => have := HD.out; rw [List.length_map]; omega); intro v12 w12 ho hb hg hat; have HO := Aside0.mk (show Rows w12 w.heap.size B v12 (o3 ++ [(turn q f t, d + 1)]) from by unfold Rows; rw [List.map_append]; exact ho); have HF := Aside0.mk (HF11.out.kept hg (fun e => (HOa.out.1 B e.symm) rfl)); have HB5 := Aside0.mk hb; clear ho hb hg hat HOa HBa HRa HF11)
                  go_roundg (n - (t + 1))
                  case measure => have := HTN.out; omega
                  case rel => exact ⟨o3 ++ [(turn q f t, d + 1)], t + 1, congrArg (Value.int .i64) (nextI t (by have := HTN.out; have := HN.out; omega)), ⟨by have := HTN.out; omega, by have := HK2.out; omega⟩, ⟨by
                    have h := St.step (p := (f, t)) (by rw [← rest_cons HTN.out]; exact HS.out)
                    unfold put at h
                    rw [HL.out] at h
                    exact h⟩, HO, HF, HB5⟩
            · have d0 : decide ((t : Int) < (n : Int)) = false := decide_eq_false (by omega)
              have d1 : decide (t < n) = false := decide_eq_false ht
              obtain rfl : t = n := by have := HK2.out; omega
              clear ht
              go_wp2
              go_roundg (t - (f + 1))
              case measure => have := HFN.out; omega
              case rel => exact ⟨o3, f + 1, congrArg (Value.int .i64) (nextI f (by have := HFN.out; have := HN.out; omega)), ⟨by have := HFN.out; omega⟩, ⟨by rw [← rest_end]; exact HS.out⟩, HO, HF, HB5⟩
        · have d0 : decide ((f : Int) < (n : Int)) = false := decide_eq_false (by omega)
          have d1 : decide (f < n) = false := decide_eq_false hf
          obtain rfl : f = n := by have := HK.out; omega
          clear hf
          go_wp2
          go_roundg kk
          case measure => omega
          case rel =>
            have hx := St.done (by rw [← rows_end f]; exact HS.out)
            subst hx
            obtain ⟨g1, g2, g3, g4⟩ := HG.out
            rw [bfs, HQ.out] at g2
            obtain ⟨g5, s, hs⟩ := g1.expand HQ.out
            have hb := St.bnd HS.out g4 HQ.out
            have hi := (List.getElem?_eq_some_iff.1 HQ.out).1
            exact ⟨expand f (q, d) o, i + 1, congrArg (Value.int .i64) (nextI i (by
              have := g1.few
              have h4 : allOf f ≤ 3840 := by
                have := HN.out
                rcases (by omega : f = 1 ∨ f = 2 ∨ f = 3 ∨ f = 4 ∨ f = 5) with h | h | h | h | h <;> rw [h] <;> decide
              omega)), ⟨g5, g2, by rw [hs, List.length_append]; omega, hb⟩, HO, HF, HB5⟩
    · have c0 : decide ((i : Int) < (o.length : Int)) = false := decide_eq_false (by omega)
      have c1 : decide (i < o.length) = false := decide_eq_false hil
      have hx : o = distO n := by
        have h := HG.out.2.1
        rw [bfs, List.getElem?_eq_none (Nat.le_of_not_lt hil)] at h
        exact Option.some.inj h
      clear hil
      have HX := Aside0.mk hx
      clear hx
      go_wp2
      go_ret
      exact ⟨B, rfl, GB.out, by rw [← HX.out]; exact HF.out, HB5.out⟩
end Go.Proofs.Ytmdpiagpkocheaa.P
end

/-! The program's CountByTurns: how many bindings need just so many turns, by the search; no condition. -/
section
namespace Go.Proofs.Ytmdpiagpkocheaa.P
open Go.RowKit Go.Proofs.YtmdpiagpkocheaaW.PrintWords Go.Proofs.YtmdpiagpkocheaaW.PrintLast Go.Proofs.YtmdpiagpkocheaaW.PrintMore Go.Proofs.Ytmdpiagpkocheaa.Base Go.Proofs.Ytmdpiagpkocheaa.Order Go.Proofs.Ytmdpiagpkocheaa.Far
set_option linter.unusedVariables false
set_option linter.unusedSimpArgs false

def impl_CountByTurns.f (k : Nat) (a0 a1 : Int) : Option (Int × Bool) := if 1 ≤ a0 ∧ a0 ≤ 5 ∧ 0 ≤ a1 then some (((distO a0.toNat).countP (fun e => e.2 == a1) : Nat), true) else some (0, false)
theorem impl_CountByTurns.mono : ∀ a0 a1 k, LeO (impl_CountByTurns.f k a0 a1) (impl_CountByTurns.f (k + 1) a0 a1) := fun _ _ _ => LeO.refl _
theorem small_all {n : Nat} (h1 : 1 ≤ n) (h : n ≤ 5) : (distO n).length ≤ 3840 := by
  refine Nat.le_trans (dist_all n).2.1 ?_
  rcases (by omega : n = 1 ∨ n = 2 ∨ n = 3 ∨ n = 4 ∨ n = 5) with h | h | h | h | h <;> rw [h] <;> decide
set_option maxHeartbeats 4000000 in
set_option maxRecDepth 100000 in
theorem impl_CountByTurns.calls (k : Nat) (a0 a1 : Int) (r1 : Int) (r2 : Bool) (w : World) (h : impl_CountByTurns.f k a0 a1 = some (r1, r2)) :
    Calls Try.prog 22 #[.int .i64 a0, .int .i64 a1] w fun e w' => e = .returned (.tuple #[.int .i64 r1, .bool r2]) ∧ Below w.heap.size w w' := by
  have HB := Aside0.mk (Below.refl w.heap.size w)
  unfold impl_CountByTurns.f at h
  by_cases hc : 1 ≤ a0 ∧ a0 ≤ 5 ∧ 0 ≤ a1
  · rw [if_pos hc] at h
    obtain ⟨h1, rfl⟩ := Prod.mk.inj (Option.some.inj h)
    have H1 := Aside0.mk h1
    obtain ⟨n, rfl⟩ := Int.eq_ofNat_of_zero_le (show 0 ≤ a0 by omega)
    have HN := Aside0.mk (show 1 ≤ n ∧ n ≤ 5 by omega)
    have HW := Aside0.mk (show impl_within.f (n : Int) 1 5 = some true by rw [within_eq]; unfold inB; rw [decide_eq_true (by omega)])
    have d0 : decide (a1 < 0) = false := decide_eq_false (by omega)
    clear h h1 hc
    go_enter Try.func22, Try.ntmps22
    go_wp2_with (first | (go_at_call 40; (with_reducible refine (impl_within.calls (n : Int) 1 5 true _ HW.out).mono ?_); rintro e w1 ⟨rfl, ⟨nd, rfl⟩⟩) | (go_at_call 44; (refine (distances_calls n HN.out.1 HN.out.2 _).mono ?_); rintro e w2 ⟨B, rfl, _, hF, hb⟩; have HFA := Aside0.mk hF; have HB2 := Aside0.mk (show Below w.heap.size w w2 from (pw_below_drewN (Below.refl w.heap.size w) nd).trans hb); clear hF hb) | ((with_reducible refine gate_dst (N := 18) rfl ?_); refine far_range rfl (.tmp 17) rfl (by rfl) HFA.out (n := n) (by have := HN.out; omega) (dist_all _).1.bd (dist_all _).1.nd ?_; intro r w3 hr hI hb; have HI := Aside0.mk hI; have HB3 := Aside0.mk (below_step HB2.out hb); have HR := Aside0.mk (show w.heap.size ≤ r from by rw [hr]; exact HB2.out.size); clear hr hI hb))
    go_frame
    go_loopg [6] (distO n).length (fun kq v6 w' => ∃ (rem : Out) (c : Nat), v6 = .int .i64 (c : Int) ∧ Aside0 (c + rem.countP (fun e => e.2 == a1) = (distO n).countP (fun e => e.2 == a1) ∧ rem.length ≤ kq) ∧ Aside0 (FarIter w' B r (distO n) rem) ∧ Aside0 (Below w.heap.size w w'))
    case atStart => exact ⟨distO n, 0, rfl, ⟨Nat.zero_add _, Nat.le_refl _⟩, HI, HB3⟩
    case round =>
      clear HI HB3
      obtain ⟨rem, c, rfl, HC, HI, HB3⟩ := hrel
      by_cases hr : rem = []
      · have HRM := Aside0.mk hr
        clear hr
        go_wp2_with ((with_reducible refine gate_dst (N := 19) rfl ?_); refine far_next rfl (.tmp 18) rfl (by rfl) HI.out (n := n) (by have := HN.out; omega) (dist_all _).1.bd (dist_all _).1.nd (fun _ => ?_) (fun q d rem' w' hp => absurd hp (by rw [HRM.out]; exact fun h => List.cons_ne_nil _ _ (List.nil_perm.1 h))))
        go_ret2
        have h := HC.out.1
        have h1 := H1.out
        rw [HRM.out, List.countP_nil, Nat.add_zero] at h
        rw [Int.toNat_natCast, ← h] at h1
        exact ⟨by rw [← h1]; rfl, HB3.out⟩
      · have HRM := Aside0.mk hr
        clear hr
        go_wp2_with ((with_reducible refine gate_dst (N := 19) rfl ?_); refine far_next rfl (.tmp 18) rfl (by rfl) HI.out (n := n) (by have := HN.out; omega) (dist_all _).1.bd (dist_all _).1.nd (fun h => absurd h HRM.out) ?_; intro q d rem' w4 hp hm hI hg hsz hen; have HP := Aside0.mk hp; have HI4 := Aside0.mk hI; have HB4 := Aside0.mk (show Below w.heap.size w w4 from pw_below_grown HB3.out (some r) HB3.out.size hg (fun k e => by injection e with e; rw [← e]; exact HR.out)); clear hp hm hI hg hsz)
        all_goals
          rename_i hd
          have HD := Aside0.mk hd
          clear hd hen
          go_roundg (gk - 1)
          case measure =>
            have h := HC.out.2
            have h2 := HP.out.length_eq
            rw [List.length_cons] at h2
            omega
          case rel =>
            have h1 := HC.out
            have h2 := HP.out.length_eq
            have h3 := HP.out.countP_eq (fun e => e.2 == a1)
            have h4 := small_all HN.out.1 HN.out.2
            have h5 : (distO n).countP (fun e => e.2 == a1) ≤ (distO n).length := List.countP_le_length
            rw [List.length_cons] at h2
            rw [List.countP_cons, HD.out] at h3
            first
            | exact ⟨rem', c + 1, congrArg (Value.int .i64) (nextI c (by omega)), ⟨by simp only [if_true] at h3; omega, by omega⟩, HI4, HB4⟩
            | exact ⟨rem', c, rfl, ⟨by simp only [Bool.false_eq_true, if_false] at h3; omega, by omega⟩, HI4, HB4⟩
  · rw [if_neg hc] at h
    obtain ⟨rfl, rfl⟩ := Prod.mk.inj (Option.some.inj h)
    clear h
    by_cases hw : 1 ≤ a0 ∧ a0 ≤ 5
    · have HW := Aside0.mk (show impl_within.f a0 1 5 = some true by rw [within_eq]; unfold inB; rw [decide_eq_true hw])
      have d0 : decide (a1 < 0) = true := decide_eq_true (by omega)
      clear hc hw
      go_enter Try.func22, Try.ntmps22
      go_wp2_with (go_at_call 40; (with_reducible refine (impl_within.calls a0 1 5 true _ HW.out).mono ?_); rintro e w1 ⟨rfl, ⟨nd, rfl⟩⟩)
      go_ret2
      exact ⟨rfl, pw_below_drewN (Below.refl w.heap.size w) nd⟩
    · have HW := Aside0.mk (show impl_within.f a0 1 5 = some false by rw [within_eq]; unfold inB; rw [decide_eq_false hw])
      clear hc hw
      go_enter Try.func22, Try.ntmps22
      go_wp2_with (go_at_call 40; (with_reducible refine (impl_within.calls a0 1 5 false _ HW.out).mono ?_); rintro e w1 ⟨rfl, ⟨nd, rfl⟩⟩)
      go_ret2
      exact ⟨rfl, pw_below_drewN (Below.refl w.heap.size w) nd⟩
end Go.Proofs.Ytmdpiagpkocheaa.P
end

/-! The reference's search in breadth comes to the row of the least numbers of turns, by ranks; for at most eight leaves. -/
section
namespace Go.Proofs.Ytmdpiagpkocheaa.P
open Go.RowKit Go.Proofs.YtmdpiagpkocheaaW.PrintWords Go.Proofs.YtmdpiagpkocheaaW.PrintLast Go.Proofs.YtmdpiagpkocheaaW.PrintMore Go.Proofs.Ytmdpiagpkocheaa.Base Go.Proofs.Ytmdpiagpkocheaa.Order Go.Proofs.Ytmdpiagpkocheaa.Far
set_option linter.unusedVariables false

section
variable {n : Nat} (hn : n ≤ 8) {x48 : List (List Int)} {x50 : Nat} {q : List Int} {d : Nat} {i : Nat} {r : List Int}
include hn
/-- The turns of one, from a first and a last place on. -/
theorem far_l5 (hd : d ≤ 20000000) {f : Nat} (hf : f < n) (hnext : ∀ (o : Out) (X : List (List Int)), (∃ dn, G n o i dn) → o[i]? = some (q, (d : Int)) → X.length ≤ o.length →
      Ev (fun k => spec_biFar.l4 k (n : Int) (arrOf (allOf n) ((rowsFrom n (f + 1)).foldl (put q d) o)) ((d : Int) + 1) (X ++ newsAll q d (rowsFrom n (f + 1)) o) q (n : Int) x48 (x48.length : Int) (x50 : Int)) r →
      Ev (fun k => spec_biFar.l4 k (n : Int) (arrOf (allOf n) o) ((d : Int) + 1) X q ((f + 1 : Nat) : Int) x48 (x48.length : Int) (x50 : Int)) r) :
    ∀ (dt t : Nat) (o : Out) (X : List (List Int)), t + dt = n → f ≤ t → (∃ dn, G n o i dn) → o[i]? = some (q, (d : Int)) → X.length ≤ o.length →
      Ev (fun k => spec_biFar.l4 k (n : Int) (arrOf (allOf n) ((restOf n f t).foldl (put q d) o)) ((d : Int) + 1) (X ++ newsAll q d (restOf n f t) o) q (n : Int) x48 (x48.length : Int) (x50 : Int)) r →
      Ev (fun k => spec_biFar.l5 k (n : Int) (arrOf (allOf n) o) ((d : Int) + 1) X q (f : Int) (t : Int) x48 (x48.length : Int) (x50 : Int)) r := by
  have ha := allOf_le hn
  intro dt
  induction dt with
  | zero =>
    intro t o X ht hft hg hi hX hr
    obtain rfl : t = n := by omega
    rw [rest_end] at hr
    refine Ev_step (fun k => ?_) (hnext o X hg hi hX hr)
    rw [spec_biFar.l5, if_neg (by omega), nextI f (by omega)]
  | succ dt ih =>
    intro t o X ht hft hg hi hX hr
    obtain ⟨dn, g⟩ := hg
    have hq := g.bd _ (List.mem_of_getElem? hi)
    have hb := turn_bd hq hft (by omega : t < n)
    have hlo := g.few
    rw [rest_cons (by omega), List.foldl_cons, newsAll, ← List.append_assoc] at hr
    have hi' : (put q d o (f, t))[i]? = some (q, (d : Int)) := by
      obtain ⟨s, hs⟩ := put_more q d o (f, t)
      rw [hs, List.getElem?_append_left (List.getElem?_eq_some_iff.1 hi).1]
      exact hi
    have hX' : (X ++ news q o (f, t)).length ≤ (put q d o (f, t)).length := by rw [put_news, List.length_append, List.length_append, List.length_map]; omega
    have hnx := ih (t + 1) (put q d o (f, t)) (X ++ news q o (f, t)) (by omega) (by omega) ⟨_, G.put g hi hft (by omega)⟩ hi' hX' hr
    have hrk := rank_lt hb
    have hat := arr_at hb o g.bd g.nd
    have hlen := arr_len (allOf n) o
    refine Ev_step (fun k => by rw [spec_biFar.l5, if_pos (by omega)]) ?_
    refine Ev_bind (biTurn_ev hq hn f t hft (by omega)) (Ev_bind (biRank_ev hb hn) (Ev_pos (by omega) (Ev_pos (by rw [hlen]; omega) ?_)))
    simp only [rd_nat, hat, nextI t (by omega)]
    cases hl : o.lookup (turn q f t) with
    | some v =>
      have hv := g.nn _ (lookup_mem hl)
      have e1 : put q d o (f, t) = o := by unfold put; rw [hl]; rfl
      have e2 : news q o (f, t) = [] := by unfold news; rw [hl]; rfl
      rw [e1, e2, List.append_nil] at hnx
      exact Ev_neg (by show ¬ v < 0; exact Int.not_lt.2 hv) hnx
    | none =>
      have e1 : put q d o (f, t) = o ++ [(turn q f t, (d : Int) + 1)] := by unfold put; rw [hl]; rfl
      have e2 : news q o (f, t) = [turn q f t] := by unfold news; rw [hl]; rfl
      rw [e1, e2, arrOf_snoc] at hnx
      exact Ev_pos (by decide) (Ev_pos (by omega) hnx)
theorem far_l4 (hd : d ≤ 20000000) :
    ∀ (df f : Nat) (o : Out) (X : List (List Int)), f + df = n → (∃ dn, G n o i dn) → o[i]? = some (q, (d : Int)) → X.length ≤ o.length →
      Ev (fun k => spec_biFar.l4 k (n : Int) (arrOf (allOf n) ((rowsFrom n f).foldl (put q d) o)) ((d : Int) + 1) (X ++ newsAll q d (rowsFrom n f) o) q (n : Int) x48 (x48.length : Int) (x50 : Int)) r →
      Ev (fun k => spec_biFar.l4 k (n : Int) (arrOf (allOf n) o) ((d : Int) + 1) X q (f : Int) x48 (x48.length : Int) (x50 : Int)) r := by
  intro df
  induction df with
  | zero =>
    intro f o X hf hg hi hX hr
    obtain rfl : f = n := by omega
    rw [rows_end, List.foldl_nil, newsAll, List.append_nil] at hr
    exact hr
  | succ df ih =>
    intro f o X hf hg hi hX hr
    refine Ev_step (fun k => by rw [spec_biFar.l4, if_pos (by omega)]) ?_
    rw [rows_rest (by omega)] at hr
    exact far_l5 hn hd (by omega) (fun o X hg hi hX hr => ih (f + 1) o X (by omega) hg hi hX hr) (n - f) f o X (by omega) (Nat.le_refl _) hg hi hX hr
end
/-- One row after the other. -/
theorem far_l3 {n : Nat} (hn : n ≤ 8) : ∀ (kk i : Nat) (o P : Out) (R X : List (List Int)) (d : Nat) (x48 : List (List Int)) (x50 : Nat), bfs n kk i o = some (distO n) → G n o i [] →
    o = P ++ (R.map (fun b => (b, (d : Int))) ++ X.map (fun b => (b, (d : Int) + 1))) → P.length = i → R = x48.drop x50 → x50 ≤ x48.length → x48.length ≤ o.length → x50 + d ≤ i → 0 < x48.length →
    Ev (fun k => spec_biFar.l3 k (n : Int) (arrOf (allOf n) o) ((d : Int) + 1) X x48 (x48.length : Int) (x50 : Int)) (arrOf (allOf n) (distO n)) := by
  have ha := allOf_le hn
  intro kk
  induction kk with
  | zero => intro i o P R X d x48 x50 h; cases h
  | succ kk ih =>
    -- a row that isn't at its end
    have one : ∀ (i : Nat) (o P : Out) (R X : List (List Int)) (d : Nat) (x48 : List (List Int)) (x50 : Nat), bfs n (kk + 1) i o = some (distO n) → G n o i [] →
        o = P ++ (R.map (fun b => (b, (d : Int))) ++ X.map (fun b => (b, (d : Int) + 1))) → P.length = i → R = x48.drop x50 → x50 < x48.length → x48.length ≤ o.length → x50 + d ≤ i →
        Ev (fun k => spec_biFar.l3 k (n : Int) (arrOf (allOf n) o) ((d : Int) + 1) X x48 (x48.length : Int) (x50 : Int)) (arrOf (allOf n) (distO n)) := by
      intro i o P R X d x48 x50 hb g ho hP hR hx hlen hd
      have hfew := g.few
      obtain ⟨q, R', rfl, hq, hR'⟩ : ∃ q R', R = q :: R' ∧ x48.getD x50 [] = q ∧ R' = x48.drop (x50 + 1) := by
        rw [List.drop_eq_getElem_cons hx] at hR
        exact ⟨_, _, hR, getD_at x48 [] hx, rfl⟩
      have hi : o[i]? = some (q, (d : Int)) := by
        rw [ho, List.getElem?_append_right (by omega), hP, Nat.sub_self]
        rfl
      have hil : i < o.length := (List.getElem?_eq_some_iff.1 hi).1
      rw [bfs, hi] at hb
      obtain ⟨g', s, hs⟩ := g.expand hi
      have hXl : X.length ≤ o.length := by rw [ho]; simp; omega
      have hlen' : x48.length ≤ (expand n (q, (d : Int)) o).length := by rw [hs, List.length_append]; omega
      have hnx := ih (i + 1) (expand n (q, (d : Int)) o) (P ++ [(q, (d : Int))]) R' (X ++ newsAll q d (pairs n) o) d x48 (x50 + 1) hb g' (by
        show (pairs n).foldl (put q (d : Int)) o = _
        rw [puts_news, ho]
        simp) (by rw [List.length_append, hP]; rfl) hR' (by omega) hlen' (by omega) (by omega)
      refine Ev_step (fun k => by rw [spec_biFar.l3, if_pos (by omega), if_pos (by omega), if_pos (by omega)]) ?_
      rw [show rd_L1 x48 (x50 : Int) = q from by unfold rd_L1; rw [Int.toNat_natCast]; exact hq]
      have e := far_l4 (x48 := x48) (x50 := x50) (r := arrOf (allOf n) (distO n)) hn (by omega : d ≤ 20000000) n 0 o X (by omega) ⟨[], g⟩ hi hXl
      refine e ?_
      rw [← pairs_rows]
      refine Ev_step (fun k => ?_) hnx
      rw [spec_biFar.l4, if_neg (by omega), w64 (x := (x50 : Int) + 1) (by omega) (by omega)]
      rfl
    intro i o P R X d x48 x50 hb g ho hP hR hx hlen hd h0
    rcases Nat.lt_or_ge x50 x48.length with h | h
    · exact one i o P R X d x48 x50 hb g ho hP hR h hlen hd
    · have hfew := g.few
      obtain rfl : R = [] := by rw [hR, List.drop_of_length_le h]
      refine Ev_step (fun k => by rw [spec_biFar.l3, if_neg (by omega)]) ?_
      cases X with
      | nil =>
        have hlo : o.length = i := by rw [ho, ← hP]; simp
        rw [bfs, List.getElem?_eq_none (by omega)] at hb
        refine Ev_step (fun k => by rw [spec_biFar.l2, if_neg (by simp)]) ?_
        rw [← Option.some.inj hb]
        exact Ev.now _
      | cons q X' =>
        have hXl : (q :: X').length ≤ o.length := by rw [ho]; simp
        have hil : i < o.length := by rw [ho, ← hP]; simp
        have e := one i o P (q :: X') [] (d + 1) (q :: X') 0 hb g (by
          rw [ho]
          simp) hP rfl (by simp) hXl (by
          omega)
        refine Ev_step (fun k => by rw [spec_biFar.l2, if_pos (by rw [List.length_cons]; omega), w64 (x := (d : Int) + 1 + 1) (by omega) (by omega)]) ?_
        exact e
theorem fill_l0 {n N : Nat} (hN : N ≤ 20000000) {r : List Int} (hr : Ev (fun k => spec_biFar.l1 k (n : Int) (List.replicate N (-1)) ([] : List Int) 1) r) : ∀ (d i : Nat), i + d = N → Ev (fun k => spec_biFar.l0 k (n : Int) (List.replicate i (-1) ++ List.replicate d 0) (N : Int) (i : Int)) r := by
  intro d
  induction d with
  | zero =>
    intro i hi
    obtain rfl : i = N := by omega
    refine Ev_step (fun k => by rw [spec_biFar.l0, if_neg (by omega)]) ?_
    simp only [List.replicate_zero, List.append_nil]
    exact hr
  | succ d ih =>
    intro i hi
    refine Ev_step (fun k => ?_) (ih (i + 1) (by omega))
    rw [spec_biFar.l0, if_pos (by omega), if_pos (by omega), if_pos (by simp; omega), w64 (x := (i : Int) + 1) (by omega) (by omega), Int.toNat_natCast, List.set_append_right _ _ (by simp), List.length_replicate, Nat.sub_self, List.replicate_succ, List.set_cons_zero, List.replicate_succ', List.append_assoc]
    rfl
theorem far_l1 {n : Nat} (hn : n ≤ 8) (h1 : 1 ≤ n) : ∀ (d i : Nat), i + d = n → Ev (fun k => spec_biFar.l1 k (n : Int) (List.replicate (allOf n) (-1)) (right i) ((i : Int) + 1)) (arrOf (allOf n) (distO n)) := by
  have ha := allOf_le hn
  intro d
  induction d with
  | zero =>
    intro i hi
    obtain rfl : i = n := by omega
    have hb := right_bd i
    have hr := rank_lt hb
    have hs := arrOf_snoc (allOf i) [] (right i, 0)
    have e0 : arrOf (allOf i) [] = List.replicate (allOf i) (-1) := rfl
    rw [e0] at hs
    refine Ev_step (fun k => by rw [spec_biFar.l1, if_neg (by omega)]) ?_
    refine Ev_bind (biRank_ev hb hn) (Ev_pos (by omega) (Ev_pos (by rw [List.length_replicate]; omega) ?_))
    have e := far_l3 hn (allOf i + 2) 0 [(right i, 0)] [] [right i] [] 0 [right i] 0 (dist_all i).2.2 (G.start i) rfl rfl rfl (Nat.zero_le _) (Nat.le_refl _) (Nat.le_refl _) Nat.zero_lt_one
    refine Ev_step (fun k => ?_) e
    rw [spec_biFar.l2, if_pos (by show (0 : Int) < 1; decide), Int.toNat_natCast]
    show spec_biFar.l3 k (i : Int) ((List.replicate (allOf i) (-1)).set (rank (right i)) 0) 1 [] [right i] _ 0 = _
    rw [← hs]
    rfl
  | succ d ih =>
    intro i hi
    refine Ev_step (fun k => ?_) (ih (i + 1) (by omega))
    rw [spec_biFar.l1, if_pos (by omega), if_pos (by rw [right_len]; omega), w64 (x := (i : Int) + 1 + 1) (by omega) (by omega), ← right_succ]
    rfl
theorem biFar_ev {n : Nat} (hn : n ≤ 8) (h1 : 1 ≤ n) : Ev (fun k => spec_biFar.f k (n : Int)) (arrOf (allOf n) (distO n)) := by
  have ha := allOf_le hn
  simp only [spec_biFar.f]
  refine Ev_bind (biAll_ev n hn) (Ev_pos (by omega) (Ev_pos (by omega) ?_))
  simp only [Option.bind_some, Int.toNat_natCast, List.length_replicate]
  have e := far_l1 hn h1 n 0 (by omega)
  have := fill_l0 (N := allOf n) (by omega) e (allOf n) 0 (by omega)
  simp only [List.replicate_zero, List.nil_append] at this
  exact this
end Go.Proofs.Ytmdpiagpkocheaa.P
end
