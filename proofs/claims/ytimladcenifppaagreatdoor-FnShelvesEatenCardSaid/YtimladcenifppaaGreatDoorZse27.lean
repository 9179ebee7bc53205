/- Small facts on wrapped numbers, lists and rounds; no condition. -/
import Derived.Test.YtimladcenifppaaGreatDoorZse0
import Derived.Test.YtimladcenifppaaGreatDoorZse22
import Derived.Test.YtimladcenifppaaGreatDoorZse21
import Derived.Test.YtimladcenifppaaGreatDoorZse23
import Derived.Test.YtimladcenifppaaGreatDoorZse24
import Derived.Laws.BitsLemmas
import Derived.OpenShut
import Derived.Test.YtimladcenifppaaGreatDoorZse25
import Derived.Lib.Split
import Derived.Lib.Join
import Derived.Lib.AtoiTie
import Derived.ProofKit
import Derived.Deep.Slices
import Derived.Lib.SmallJoins
import Derived.WalkKit
section
namespace Go.Proofs.YtimladcenifppaaGreatDoor.Base
open Go.RowKit Go.Proofs.YtimladcenifppaaGreatDoorW.PrintWords
set_option linter.unusedVariables false

theorem w64 {x : Int} (h1 : -4611686018427387904 ≤ x) (h2 : x ≤ 4611686018427387904) : wrap64 x = x := by
  unfold wrap64
  omega
theorem getD_at {α : Type} (l : List α) (z : α) {i : Nat} (h : i < l.length) : l.getD i z = l[i] := by
  rw [List.getD_eq_getElem?_getD, List.getElem?_eq_getElem h]
  rfl
theorem all_drop {α : Type} (p : α → Bool) (l : List α) (z : α) {i : Nat} (h : i < l.length) : (l.drop i).all p = (p (l.getD i z) && (l.drop (i + 1)).all p) := by
  rw [getD_at l z h, List.drop_eq_getElem_cons h, List.all_cons]
theorem Ev_bind {α β : Type} {g : Nat → Option α} {f : Nat → α → Option β} {a : α} {r : β} (h : Ev g a) (k : Ev (fun n => f n a) r) : Ev (fun n => (g n).bind (f n)) r := Ev.bind h k
theorem Ev_some {α β : Type} {x : Option α} {f : Nat → α → Option β} {a : α} {r : β} (h : x = some a) (k : Ev (fun n => f n a) r) : Ev (fun n => x.bind (f n)) r := by
  subst h
  exact k
theorem Ev_pos {α : Type} {c : Prop} [Decidable c] {f g : Nat → Option α} {r : α} (h : c) (k : Ev f r) : Ev (fun n => if c then f n else g n) r := by
  simp only [if_pos h]
  exact k
theorem Ev_neg {α : Type} {c : Prop} [Decidable c] {f g : Nat → Option α} {r : α} (h : ¬ c) (k : Ev g r) : Ev (fun n => if c then f n else g n) r := by
  simp only [if_neg h]
  exact k
theorem getD_set_self {α : Type} (l : List α) (z v : α) {i : Nat} (h : i < l.length) : (l.set i v).getD i z = v := by
  rw [List.getD_eq_getElem?_getD, List.getElem?_set_self h]
  rfl
theorem Ev_step {α : Type} {g f : Nat → Option α} {r : α} (h : ∀ k, g (k + 1) = f k) (k : Ev f r) : Ev g r := Ev.step h k
def inB (n lo hi : Int) : Bool := decide (lo ≤ n ∧ n ≤ hi)
end Go.Proofs.YtimladcenifppaaGreatDoor.Base
end

section
namespace Go.Proofs.YtimladcenifppaaGreatDoor.P
open Go.RowKit Go.Proofs.YtimladcenifppaaGreatDoorW.PrintWords Go.Proofs.YtimladcenifppaaGreatDoorW.PrintLast Go.Proofs.YtimladcenifppaaGreatDoorW.PrintMore Go.Proofs.YtimladcenifppaaGreatDoor.Base

theorem l1In_eq (n lo hi : Int) : spec_l1In.f n lo hi = some (inB n lo hi) := by
  unfold spec_l1In.f inB
  by_cases h : lo ≤ n <;> simp [h]
theorem within_eq (n lo hi : Int) : impl_within.f n lo hi = some (inB n lo hi) := by
  unfold impl_within.f inB
  by_cases h : lo ≤ n <;> simp [h]
end Go.Proofs.YtimladcenifppaaGreatDoor.P
end

section
namespace Go.Proofs.YtimladcenifppaaGreatDoor.P
open Go.RowKit Go.Proofs.YtimladcenifppaaGreatDoorW.PrintWords Go.Proofs.YtimladcenifppaaGreatDoor.Base
set_option linter.unusedVariables false

theorem rd_nat (l : List Int) (i : Nat) : rd l (i : Int) = l.getD i 0 := by unfold rd; rw [Int.toNat_natCast]
theorem nextI (n : Nat) (h : n ≤ 4000000) : wrap64 ((n : Int) + 1) = ((n + 1 : Nat) : Int) := by
  rw [w64 (by omega) (by omega)]; omega
end Go.Proofs.YtimladcenifppaaGreatDoor.P
end

section
namespace Go.Proofs.YtimladcenifppaaGreatDoor.P
open Go.RowKit Go.Proofs.YtimladcenifppaaGreatDoorW.PrintWords Go.Proofs.YtimladcenifppaaGreatDoorW.PrintLast Go.Proofs.YtimladcenifppaaGreatDoorW.PrintMore Go.Proofs.YtimladcenifppaaGreatDoor.Base
set_option linter.unusedVariables false

theorem l1All_l0 (l : List Int) (lo hi : Int) (hn : l.length ≤ 1048576) : ∀ n i : Nat, i + n = l.length → Ev (fun k => spec_l1All.l0 k lo hi l (l.length : Int) (i : Int)) ((l.drop i).all fun x => decide (lo ≤ x ∧ x ≤ hi)) := by
  intro n
  induction n with
  | zero =>
    intro i hi
    refine Ev_step (fun k => ?_) (Ev.now _)
    rw [spec_l1All.l0, if_neg (by omega), List.drop_of_length_le (by omega)]
    rfl
  | succ n ih =>
    intro i hi
    have h : i < l.length := by omega
    refine Ev_step (fun k => by rw [spec_l1All.l0, if_pos (by omega), if_pos (by omega), if_pos (by omega), rd_nat, nextI i (by omega)]) ?_
    refine Ev_some (l1In_eq _ _ _) ?_
    rw [all_drop _ l 0 h]
    unfold inB
    cases decide (lo ≤ l.getD i 0 ∧ l.getD i 0 ≤ _) with
    | true => exact Ev_pos rfl (by rw [Bool.true_and]; exact ih (i + 1) (by omega))
    | false => exact Ev_neg (by decide) (Ev.now _)
theorem l1All_ev (l : List Int) (lo hi : Int) (hn : l.length ≤ 1048576) : Ev (fun k => spec_l1All.f k l lo hi) (l.all fun x => decide (lo ≤ x ∧ x ≤ hi)) :=
  Ev.congr (fun k => by rw [spec_l1All.f]; rfl) (l1All_l0 l lo hi hn l.length 0 (by omega))

theorem allWithin_l0 (l : List Int) (lo hi : Int) (hn : l.length ≤ 1048576) : ∀ n i : Nat, i + n = l.length → Ev (fun k => impl_allWithin.l0 k lo hi l (l.length : Int) (i : Int)) ((l.drop i).all fun x => decide (lo ≤ x ∧ x ≤ hi)) := by
  intro n
  induction n with
  | zero =>
    intro i hi
    refine Ev_step (fun k => ?_) (Ev.now _)
    rw [impl_allWithin.l0, if_neg (by omega), List.drop_of_length_le (by omega)]
    rfl
  | succ n ih =>
    intro i hi
    have h : i < l.length := by omega
    refine Ev_step (fun k => by rw [impl_allWithin.l0, if_pos (by omega), if_pos (by omega), if_pos (by omega), rd_nat, nextI i (by omega)]) ?_
    refine Ev_some (within_eq _ _ _) ?_
    rw [all_drop _ l 0 h]
    unfold inB
    cases decide (lo ≤ l.getD i 0 ∧ l.getD i 0 ≤ _) with
    | true => exact Ev_pos rfl (by rw [Bool.true_and]; exact ih (i + 1) (by omega))
    | false => exact Ev_neg (by decide) (Ev.now _)
theorem allWithin_ev (l : List Int) (lo hi : Int) (hn : l.length ≤ 1048576) : Ev (fun k => impl_allWithin.f k l lo hi) (l.all fun x => decide (lo ≤ x ∧ x ≤ hi)) :=
  Ev.congr (fun k => by rw [impl_allWithin.f]; rfl) (allWithin_l0 l lo hi hn l.length 0 (by omega))
def shelfB (l : List Int) (c : Int) : Bool := inB (l.length : Int) 1 8 && ((l.all fun x => decide (1 ≤ x ∧ x ≤ 100)) && inB c 0 10)
theorem shGood_ev (l : List Int) (c : Int) (hn : l.length ≤ 1048576) : Ev (fun k => spec_shGood.f k l c) (shelfB l c) := by
  simp only [spec_shGood.f]
  refine Ev_some (l1In_eq _ _ _) ?_
  unfold shelfB
  cases inB (l.length : Int) 1 8 with
  | false => exact Ev_neg (by decide) (Ev.now _)
  | true =>
    refine Ev_pos rfl (Ev_bind (l1All_ev l 1 100 hn) ?_)
    cases (l.all fun x => decide (1 ≤ x ∧ x ≤ 100)) with
    | false => exact Ev_neg (by decide) (Ev.now _)
    | true => exact Ev_pos rfl (Ev_some (l1In_eq _ _ _) (Ev.now _))
theorem isShelf_ev (l : List Int) (c : Int) (hn : l.length ≤ 1048576) : Ev (fun k => impl_IsShelf.f k l c) (shelfB l c) := by
  simp only [impl_IsShelf.f]
  refine Ev_some (within_eq _ _ _) ?_
  unfold shelfB
  cases inB (l.length : Int) 1 8 with
  | false => exact Ev_neg (by decide) (Ev.now _)
  | true =>
    refine Ev_pos rfl (Ev_bind (allWithin_ev l 1 100 hn) ?_)
    cases (l.all fun x => decide (1 ≤ x ∧ x ≤ 100)) with
    | false => exact Ev_neg (by decide) (Ev.now _)
    | true => exact Ev_pos rfl (Ev_some (within_eq _ _ _) (Ev.now _))
structure Shf (l : List Int) (c : Int) : Prop where
  n1 : 1 ≤ l.length
  n8 : l.length ≤ 8
  el : ∀ x ∈ l, 1 ≤ x ∧ x ≤ 100
  c0 : 0 ≤ c
  c1 : c ≤ 10
theorem shelfB_iff (l : List Int) (c : Int) : shelfB l c = true ↔ Shf l c := by
  unfold shelfB inB
  rw [Bool.and_eq_true, Bool.and_eq_true, decide_eq_true_iff, decide_eq_true_iff, List.all_eq_true]
  constructor
  · rintro ⟨h1, h2, h3⟩
    exact ⟨by omega, by omega, fun x hx => of_decide_eq_true (h2 x hx), h3.1, h3.2⟩
  · intro h
    exact ⟨⟨by have := h.n1; omega, by have := h.n8; omega⟩, fun x hx => decide_eq_true (h.el x hx), h.c0, h.c1⟩
theorem Shf.at {l : List Int} {c : Int} (h : Shf l c) {i : Nat} (hi : i < l.length) : 1 ≤ l.getD i 0 ∧ l.getD i 0 ≤ 100 := by
  rw [getD_at l 0 hi]
  exact h.el _ (List.getElem_mem hi)

def lft (l : List Int) (c : Int) : Nat → Int
  | 0 => 0
  | n + 1 => lft l c n + (l.getD n 0 + 2 * c)
theorem lft_bound {l : List Int} {c : Int} (h : Shf l c) : ∀ n : Nat, n ≤ l.length → 0 ≤ lft l c n ∧ lft l c n ≤ 120 * n := by
  intro n
  induction n with
  | zero => intro _; exact ⟨by rw [lft]; omega, by rw [lft]; omega⟩
  | succ n ih =>
    intro hn
    have := ih (by omega)
    have a := h.at (i := n) (by omega)
    have b := h.c0
    have d := h.c1
    rw [lft]
    omega
theorem left_l0 {l : List Int} {c : Int} (h : Shf l c) (m : Nat) (hm : m ≤ l.length) : ∀ n i : Nat, i + n = m → Ev (fun k => impl_Shelf_left.l0 k (lft l c i) (m : Int) (i : Int) l c) (lft l c m) := by
  intro n
  have h8 := h.n8
  induction n with
  | zero =>
    intro i hi
    obtain rfl : i = m := by omega
    exact Ev_step (fun k => by rw [impl_Shelf_left.l0, if_neg (by omega)]) (Ev.now _)
  | succ n ih =>
    intro i hi
    have a := h.at (i := i) (by omega)
    have b := h.c0
    have d := h.c1
    have e := lft_bound h i (by omega)
    have w : impl_Shelf_width.f l c (i : Int) = some (l.getD i 0 + 2 * c) := by
      rw [impl_Shelf_width.f, if_pos (by omega), if_pos (by omega), rd_nat, w64 (x := 2 * c) (by omega) (by omega), w64 (by omega) (by omega)]
    refine Ev_step (fun k => by rw [impl_Shelf_left.l0, if_pos (by omega), w, Option.bind_some, nextI i (by omega), w64 (x := lft l c i + (l.getD i 0 + 2 * c)) (by omega) (by omega)]) ?_
    exact ih (i + 1) (by omega)
theorem left_ev {l : List Int} {c : Int} (h : Shf l c) (m : Nat) (hm : m ≤ l.length) : Ev (fun k => impl_Shelf_left.f k l c (m : Int)) (lft l c m) :=
  Ev.congr (fun k => by rw [impl_Shelf_left.f]; rfl) (left_l0 h m hm m 0 (by omega))
theorem shLeft_l0 {l : List Int} {c : Int} (h : Shf l c) (m : Nat) (hm : m ≤ l.length) : ∀ n i : Nat, i + n = m → Ev (fun k => spec_shLeft.l0 k (lft l c i) (l.take m) ((l.take m).length : Int) (i : Int) l c) (lft l c m) := by
  intro n
  have h8 := h.n8
  have hl : (l.take m).length = m := by rw [List.length_take]; omega
  induction n with
  | zero =>
    intro i hi
    obtain rfl : i = m := by omega
    exact Ev_step (fun k => by rw [spec_shLeft.l0, if_neg (by omega)]) (Ev.now _)
  | succ n ih =>
    intro i hi
    have a := h.at (i := i) (by omega)
    have b := h.c0
    have d := h.c1
    have e := lft_bound h i (by omega)
    have g : (l.take m).getD i 0 = l.getD i 0 := by rw [List.getD_eq_getElem?_getD, List.getD_eq_getElem?_getD, List.getElem?_take_of_lt (by omega)]
    refine Ev_step (fun k => by rw [spec_shLeft.l0, if_pos (by omega), if_pos (by omega), if_pos (by omega), rd_nat, g, w64 (x := 2 * c) (by omega) (by omega), w64 (x := l.getD i 0 + 2 * c) (by omega) (by omega), nextI i (by omega), w64 (x := lft l c i + (l.getD i 0 + 2 * c)) (by omega) (by omega)]) ?_
    exact ih (i + 1) (by omega)
theorem shLeft_ev {l : List Int} {c : Int} (h : Shf l c) (m : Nat) (hm : m ≤ l.length) : Ev (fun k => spec_shLeft.f k l c (m : Int)) (lft l c m) :=
  Ev.congr (fun k => by rw [spec_shLeft.f, if_pos (by omega), if_pos (by omega), Int.toNat_natCast]; rfl) (shLeft_l0 h m hm m 0 (by omega))
def ps (a : Nat) (last : Bool) : Nat := if last = true then 2 * a else 2 * a + 1
def fcp (l : List Int) (c : Int) (p : Nat) : Int := lft l c (p / 2) + c + (if p % 2 = 1 then l.getD (p / 2) 0 else 0)
theorem fcp_last (l : List Int) (c : Int) (a : Nat) : fcp l c (2 * a) = lft l c a + c := by
  unfold fcp
  rw [show 2 * a / 2 = a by omega, if_neg (by omega)]
  omega
theorem fcp_first (l : List Int) (c : Int) (a : Nat) : fcp l c (2 * a + 1) = lft l c a + c + l.getD a 0 := by
  unfold fcp
  rw [show (2 * a + 1) / 2 = a by omega, if_pos (by omega)]
theorem fcp_bound {l : List Int} {c : Int} (h : Shf l c) {p : Nat} (hp : p < 2 * l.length) : 0 ≤ fcp l c p ∧ fcp l c p ≤ 1100 := by
  have e := lft_bound h (p / 2) (by omega)
  have a := h.at (i := p / 2) (by omega)
  have b := h.c0
  have d := h.c1
  have h8 := h.n8
  unfold fcp
  split <;> omega
theorem face_ev {l : List Int} {c : Int} (h : Shf l c) {a : Nat} (ha : a < l.length) (last : Bool) : Ev (fun k => impl_Shelf_face.f k l c (a : Int) last) (fcp l c (ps a last)) := by
  have h8 := h.n8
  have b := h.c0
  have d := h.c1
  have z := h.at ha
  have e := lft_bound h a (by omega)
  simp only [impl_Shelf_face.f]
  cases last with
  | true =>
    refine Ev_pos rfl (Ev_bind (left_ev h a (by omega)) ?_)
    rw [w64 (by omega) (by omega), show ps a true = 2 * a from rfl, fcp_last]
    exact Ev.now _
  | false =>
    rw [nextI a (by omega)]
    refine Ev_neg Bool.false_ne_true (Ev_bind (left_ev h (a + 1) (by omega)) ?_)
    rw [lft, w64 (by omega) (by omega), show ps a false = 2 * a + 1 from rfl, fcp_first, show lft l c a + (l.getD a 0 + 2 * c) - c = lft l c a + c + l.getD a 0 by omega]
    exact Ev.now _
theorem shFace_ev {l : List Int} {c : Int} (h : Shf l c) {a : Nat} (ha : a < l.length) (last : Bool) : Ev (fun k => spec_shFace.f k l c (a : Int) last) (fcp l c (ps a last)) := by
  have h8 := h.n8
  have b := h.c0
  have d := h.c1
  have z := h.at ha
  have e := lft_bound h a (by omega)
  simp only [spec_shFace.f]
  refine Ev_bind (shLeft_ev h a (by omega)) ?_
  rw [w64 (x := lft l c a + c) (by omega) (by omega)]
  cases last with
  | true =>
    rw [show ps a true = 2 * a from rfl, fcp_last]
    exact Ev_pos rfl (Ev.now _)
  | false =>
    rw [rd_nat, w64 (by omega) (by omega), show ps a false = 2 * a + 1 from rfl, fcp_first]
    exact Ev_neg Bool.false_ne_true (Ev_pos (by omega) (Ev_pos (by omega) (Ev.now _)))
def volB (l : List Int) (a : Int) : Bool := inB a 0 ((l.length : Int) - 1)
theorem has1_ev (l : List Int) (c a : Int) (hn : l.length ≤ 1048576) : Ev (fun k => impl_Shelf_has.f k l c [a]) (volB l a) := by
  simp only [impl_Shelf_has.f]
  rw [w64 (by omega) (by omega)]
  have := allWithin_ev [a] 0 ((l.length : Int) - 1) (by simp)
  simp only [List.all_cons, List.all_nil, Bool.and_true] at this
  exact Ev_bind this (Ev.now _)
theorem has2_ev (l : List Int) (c a b : Int) (hn : l.length ≤ 1048576) : Ev (fun k => impl_Shelf_has.f k l c [a, b]) (volB l a && volB l b) := by
  simp only [impl_Shelf_has.f]
  rw [w64 (by omega) (by omega)]
  have := allWithin_ev [a, b] 0 ((l.length : Int) - 1) (by simp)
  simp only [List.all_cons, List.all_nil, Bool.and_true] at this
  exact Ev_bind this (Ev.now _)
theorem shBoth_ev (l : List Int) (c a : Int) (hn : l.length ≤ 1048576) : Ev (fun k => spec_shBoth.f k l c a) (shelfB l c && volB l a) := by
  simp only [spec_shBoth.f]
  refine Ev_bind (shGood_ev l c hn) ?_
  cases shelfB l c with
  | false => exact Ev_neg Bool.false_ne_true (Ev.now _)
  | true =>
    rw [w64 (by omega) (by omega), Bool.true_and]
    exact Ev_pos rfl (Ev_some (l1In_eq _ _ _) (Ev.now _))
theorem vol_nat {l : List Int} {a : Int} (h : volB l a = true) : ∃ n : Nat, a = (n : Int) ∧ n < l.length := by
  have := of_decide_eq_true h
  exact ⟨a.toNat, by omega, by omega⟩
theorem volB_nat {l : List Int} {n : Nat} (h : n < l.length) : volB l (n : Int) = true := decide_eq_true ⟨by omega, by omega⟩

def wrm (l : List Int) (c : Int) (p q : Nat) : Int := mx (fcp l c p - fcp l c q) (-(fcp l c p - fcp l c q))
theorem wrm_swap (l : List Int) (c : Int) (p q : Nat) : wrm l c p q = wrm l c q p := by unfold wrm mx; split <;> split <;> omega
theorem wrm_up (l : List Int) (c : Int) (p q : Nat) (h : fcp l c p ≤ fcp l c q) : wrm l c p q = fcp l c q - fcp l c p := by unfold wrm mx; split <;> omega
theorem ps_lt {l : List Int} {a : Nat} (h : a < l.length) (b : Bool) : ps a b < 2 * l.length := by unfold ps; split <;> omega
def okAB (l : List Int) (c a b : Int) : Bool := shelfB l c && (volB l a && volB l b)
theorem okAB_yes {l : List Int} {c : Int} {a b : Nat} (h : Shf l c) (ha : a < l.length) (hb : b < l.length) : okAB l c (a : Int) (b : Int) = true := by
  unfold okAB
  rw [(shelfB_iff l c).2 h, volB_nat ha, volB_nat hb]
  rfl
theorem okAB_of {l : List Int} {c a b : Int} (h : okAB l c a b = true) : Shf l c ∧ ∃ p q : Nat, a = (p : Int) ∧ b = (q : Int) ∧ p < l.length ∧ q < l.length := by
  unfold okAB at h
  rw [Bool.and_eq_true, Bool.and_eq_true] at h
  obtain ⟨p, hp, hp2⟩ := vol_nat h.2.1
  obtain ⟨q, hq, hq2⟩ := vol_nat h.2.2
  exact ⟨(shelfB_iff l c).1 h.1, p, q, hp, hq, hp2, hq2⟩
theorem wormI_no {l : List Int} {c a b : Int} (la lb : Bool) (hn : l.length ≤ 1048576) (h : okAB l c a b = false) : Ev (fun k => impl_WormEats.f k l c a la b lb) (0, false) := by
  have j : Ev (fun k => impl_WormEats.j0 k a la b lb true l c) (0, false) := Ev_step (fun k => by rw [impl_WormEats.j0, if_pos rfl]) (Ev.now _)
  unfold okAB at h
  simp only [impl_WormEats.f]
  refine Ev_bind (isShelf_ev l c hn) ?_
  cases hs : shelfB l c with
  | false => exact Ev_neg Bool.false_ne_true j
  | true =>
    rw [hs, Bool.true_and] at h
    refine Ev_pos rfl (Ev_bind (has2_ev l c a b hn) ?_)
    rw [h]
    exact j
theorem wormS_no {l : List Int} {c a b : Int} (la lb : Bool) (hn : l.length ≤ 1048576) (h : okAB l c a b = false) : Ev (fun k => spec_WormEats.f k l c a la b lb) (0, false) := by
  have j : Ev (fun k => spec_WormEats.j0 k a la b lb true l c) (0, false) := Ev_step (fun k => by rw [spec_WormEats.j0, if_pos rfl]) (Ev.now _)
  unfold okAB at h
  simp only [spec_WormEats.f]
  refine Ev_bind (shBoth_ev l c a hn) ?_
  cases hs : shelfB l c && volB l a with
  | false => exact Ev_neg Bool.false_ne_true j
  | true =>
    rw [← Bool.and_assoc, hs, Bool.true_and] at h
    refine Ev_pos rfl (Ev_bind (shBoth_ev l c b hn) ?_)
    rw [h, Bool.and_false]
    exact j
theorem wormI_yes {l : List Int} {c : Int} (h : Shf l c) {a b : Nat} (ha : a < l.length) (hb : b < l.length) (la lb : Bool) : Ev (fun k => impl_WormEats.f k l c (a : Int) la (b : Int) lb) (wrm l c (ps a la) (ps b lb), true) := by
  have h8 := h.n8
  have x := fcp_bound h (ps_lt ha la)
  have y := fcp_bound h (ps_lt hb lb)
  simp only [impl_WormEats.f]
  refine Ev_bind (isShelf_ev l c (by omega)) (Ev_pos ((shelfB_iff l c).2 h) (Ev_bind (has2_ev l c _ _ (by omega)) ?_))
  rw [volB_nat ha, volB_nat hb]
  refine Ev_step (fun k => by rw [impl_WormEats.j0, if_neg (by decide)]) (Ev_bind (face_ev h ha la) (Ev_bind (face_ev h hb lb) ?_))
  rw [w64 (x := fcp l c (ps a la) - fcp l c (ps b lb)) (by omega) (by omega), w64 (by omega) (by omega)]
  exact Ev.now _
theorem wormS_yes {l : List Int} {c : Int} (h : Shf l c) {a b : Nat} (ha : a < l.length) (hb : b < l.length) (la lb : Bool) : Ev (fun k => spec_WormEats.f k l c (a : Int) la (b : Int) lb) (wrm l c (ps a la) (ps b lb), true) := by
  have h8 := h.n8
  have x := fcp_bound h (ps_lt ha la)
  have y := fcp_bound h (ps_lt hb lb)
  have both : ∀ {n : Nat}, n < l.length → (shelfB l c && volB l (n : Int)) = true := fun hn => by rw [(shelfB_iff l c).2 h, volB_nat hn]; rfl
  simp only [spec_WormEats.f]
  refine Ev_bind (shBoth_ev l c _ (by omega)) (Ev_pos (both ha) (Ev_bind (shBoth_ev l c _ (by omega)) ?_))
  rw [both hb]
  refine Ev_step (fun k => by rw [spec_WormEats.j0, if_neg (by decide)]) (Ev_bind (shFace_ev h ha la) (Ev_bind (shFace_ev h hb lb) ?_))
  refine Ev_some (a := wrm l c (ps a la) (ps b lb)) ?_ (Ev.now _)
  rw [spec_l1Abs.f, spec_l1Most.f, w64 (x := fcp l c (ps a la) - fcp l c (ps b lb)) (by omega) (by omega), w64 (by omega) (by omega)]
  unfold wrm mx
  by_cases g : fcp l c (ps a la) - fcp l c (ps b lb) > -(fcp l c (ps a la) - fcp l c (ps b lb))
  · rw [if_pos g, if_neg (by omega)]; rfl
  rw [if_neg g]
  split
  · rfl
  · show some _ = some _
    congr 1
    omega
def eatR (lo : Nat) : Nat → List Int
  | 0 => []
  | h + 1 => if lo ≤ h ∧ h % 2 = 0 then eatR lo h ++ [((h / 2 : Nat) : Int)] else eatR lo h
def covR (lo : Nat) : Nat → Int
  | 0 => 0
  | h + 1 => if lo ≤ h ∧ h % 2 = 1 then covR lo h + 2 else covR lo h
theorem eaten_fin : ∀ a : Fin 8, ∀ la : Bool, ∀ b : Fin 8, ∀ lb : Bool, impl_eaten.f 40 ((a.val : Nat) : Int) la ((b.val : Nat) : Int) lb = some (covR (min (ps a.val la) (ps b.val lb)) (max (ps a.val la) (ps b.val lb)), eatR (min (ps a.val la) (ps b.val lb)) (max (ps a.val la) (ps b.val lb))) := by decide +kernel
theorem coverS_fin : ∀ a : Fin 8, ∀ la : Bool, ∀ b : Fin 8, ∀ lb : Bool, spec_CoversEaten.j0 40 ((a.val : Nat) : Int) la ((b.val : Nat) : Int) lb false = some (covR (min (ps a.val la) (ps b.val lb)) (max (ps a.val la) (ps b.val lb)), true) := by decide +kernel
def lo2 (a b : Nat) (la lb : Bool) : Nat := min (ps a la) (ps b lb)
def hi2 (a b : Nat) (la lb : Bool) : Nat := max (ps a la) (ps b lb)
theorem eaten_ev {a b : Nat} (ha : a < 8) (hb : b < 8) (la lb : Bool) : Ev (fun k => impl_eaten.f k (a : Int) la (b : Int) lb) (covR (lo2 a b la lb) (hi2 a b la lb), eatR (lo2 a b la lb) (hi2 a b la lb)) :=
  Ev.of (fun k => impl_eaten.mono _ _ _ _ k) (eaten_fin ⟨a, ha⟩ la ⟨b, hb⟩ lb)
theorem coversI_no {l : List Int} {c a b : Int} (la lb : Bool) (hn : l.length ≤ 1048576) (h : okAB l c a b = false) : Ev (fun k => impl_CoversEaten.f k l c a la b lb) (0, false) := by
  unfold okAB at h
  simp only [impl_CoversEaten.f]
  refine Ev_bind (isShelf_ev l c hn) ?_
  cases hs : shelfB l c with
  | false => exact Ev_neg Bool.false_ne_true (Ev.now _)
  | true =>
    rw [hs, Bool.true_and] at h
    refine Ev_pos rfl (Ev_bind (has2_ev l c a b hn) ?_)
    rw [h]
    exact Ev_neg Bool.false_ne_true (Ev.now _)
theorem coversS_no {l : List Int} {c a b : Int} (la lb : Bool) (hn : l.length ≤ 1048576) (h : okAB l c a b = false) : Ev (fun k => spec_CoversEaten.f k l c a la b lb) (0, false) := by
  have j : Ev (fun k => spec_CoversEaten.j0 k a la b lb true) (0, false) := Ev_step (fun k => by rw [spec_CoversEaten.j0, if_pos rfl]) (Ev.now _)
  unfold okAB at h
  simp only [spec_CoversEaten.f]
  refine Ev_bind (shBoth_ev l c a hn) ?_
  cases hs : shelfB l c && volB l a with
  | false => exact Ev_neg Bool.false_ne_true j
  | true =>
    rw [← Bool.and_assoc, hs, Bool.true_and] at h
    refine Ev_pos rfl (Ev_bind (shBoth_ev l c b hn) ?_)
    rw [h, Bool.and_false]
    exact j
theorem coversI_yes {l : List Int} {c : Int} (h : Shf l c) {a b : Nat} (ha : a < l.length) (hb : b < l.length) (la lb : Bool) : Ev (fun k => impl_CoversEaten.f k l c (a : Int) la (b : Int) lb) (covR (lo2 a b la lb) (hi2 a b la lb), true) := by
  have h8 := h.n8
  simp only [impl_CoversEaten.f]
  refine Ev_bind (isShelf_ev l c (by omega)) (Ev_pos ((shelfB_iff l c).2 h) (Ev_bind (has2_ev l c _ _ (by omega)) ?_))
  rw [volB_nat ha, volB_nat hb]
  exact Ev_pos rfl (Ev_bind (eaten_ev (by omega) (by omega) la lb) (Ev.now _))
theorem both_yes {l : List Int} {c : Int} (h : Shf l c) {n : Nat} (hn : n < l.length) : (shelfB l c && volB l (n : Int)) = true := by rw [(shelfB_iff l c).2 h, volB_nat hn]; rfl
theorem coversS_yes {l : List Int} {c : Int} (h : Shf l c) {a b : Nat} (ha : a < l.length) (hb : b < l.length) (la lb : Bool) : Ev (fun k => spec_CoversEaten.f k l c (a : Int) la (b : Int) lb) (covR (lo2 a b la lb) (hi2 a b la lb), true) := by
  have h8 := h.n8
  simp only [spec_CoversEaten.f]
  refine Ev_bind (shBoth_ev l c _ (by omega)) (Ev_pos (both_yes h ha) (Ev_bind (shBoth_ev l c _ (by omega)) ?_))
  rw [both_yes h hb]
  exact Ev.of (fun k => (spec_CoversEaten.mono_l k).1 _ _ _ _ _) (coverS_fin ⟨a, by omega⟩ la ⟨b, by omega⟩ lb)
theorem pagesI_no {l : List Int} {c a b : Int} (la lb : Bool) (hn : l.length ≤ 1048576) (h : okAB l c a b = false) : Ev (fun k => impl_PagesEaten.f k l c a la b lb) ([], false) := by
  unfold okAB at h
  simp only [impl_PagesEaten.f]
  refine Ev_bind (isShelf_ev l c hn) ?_
  cases hs : shelfB l c with
  | false => exact Ev_neg Bool.false_ne_true (Ev.now _)
  | true =>
    rw [hs, Bool.true_and] at h
    refine Ev_pos rfl (Ev_bind (has2_ev l c a b hn) ?_)
    rw [h]
    exact Ev_neg Bool.false_ne_true (Ev.now _)
theorem pagesS_no {l : List Int} {c a b : Int} (la lb : Bool) (hn : l.length ≤ 1048576) (h : okAB l c a b = false) : Ev (fun k => spec_PagesEaten.f k l c a la b lb) ([], false) := by
  have j : Ev (fun k => spec_PagesEaten.j0 k a la b lb true l c) ([], false) := Ev_step (fun k => by rw [spec_PagesEaten.j0, if_pos rfl]) (Ev.now _)
  unfold okAB at h
  simp only [spec_PagesEaten.f]
  refine Ev_bind (shBoth_ev l c a hn) ?_
  cases hs : shelfB l c && volB l a with
  | false => exact Ev_neg Bool.false_ne_true j
  | true =>
    rw [← Bool.and_assoc, hs, Bool.true_and] at h
    refine Ev_pos rfl (Ev_bind (shBoth_ev l c b hn) ?_)
    rw [h, Bool.and_false]
    exact j
theorem pagesI_yes {l : List Int} {c : Int} (h : Shf l c) {a b : Nat} (ha : a < l.length) (hb : b < l.length) (la lb : Bool) : Ev (fun k => impl_PagesEaten.f k l c (a : Int) la (b : Int) lb) (eatR (lo2 a b la lb) (hi2 a b la lb), true) := by
  have h8 := h.n8
  simp only [impl_PagesEaten.f]
  refine Ev_bind (isShelf_ev l c (by omega)) (Ev_pos ((shelfB_iff l c).2 h) (Ev_bind (has2_ev l c _ _ (by omega)) ?_))
  rw [volB_nat ha, volB_nat hb]
  exact Ev_pos rfl (Ev_bind (eaten_ev (by omega) (by omega) la lb) (Ev.now _))
theorem fcp_step {l : List Int} {c : Int} (h : Shf l c) {p : Nat} (hp : p + 1 < 2 * l.length) : (p % 2 = 0 → fcp l c (p + 1) = fcp l c p + l.getD (p / 2) 0) ∧ (p % 2 = 1 → fcp l c (p + 1) = fcp l c p + 2 * c) := by
  constructor
  · intro e
    obtain ⟨a, rfl⟩ : ∃ a, p = 2 * a := ⟨p / 2, by omega⟩
    rw [fcp_first, fcp_last, show 2 * a / 2 = a by omega]
  · intro e
    obtain ⟨a, rfl⟩ : ∃ a, p = 2 * a + 1 := ⟨p / 2, by omega⟩
    rw [show 2 * a + 1 + 1 = 2 * (a + 1) by omega, fcp_first, fcp_last, lft]
    omega
theorem fcp_mono {l : List Int} {c : Int} (h : Shf l c) {p : Nat} : ∀ n : Nat, p + n < 2 * l.length → fcp l c p ≤ fcp l c (p + n) := by
  intro n
  induction n with
  | zero => intro _; exact Int.le_refl _
  | succ n ih =>
    intro hp
    have i := ih (by omega)
    obtain ⟨s0, s1⟩ := fcp_step h (p := p + n) (by omega)
    have z := h.at (i := (p + n) / 2) (by omega)
    have b := h.c0
    rw [show p + (n + 1) = p + n + 1 by omega]
    rcases Nat.mod_two_eq_zero_or_one (p + n) with e | e
    · rw [s0 e]; omega
    · rw [s1 e]; omega
theorem fcp_le {l : List Int} {c : Int} (h : Shf l c) {p q : Nat} (hpq : p ≤ q) (hq : q < 2 * l.length) : fcp l c p ≤ fcp l c q := by
  have := fcp_mono h (p := p) (q - p) (by omega)
  rwa [show p + (q - p) = q by omega] at this
theorem in_lo {l : List Int} {c : Int} (h : Shf l c) {k p : Nat} (hk : k < l.length) (hp : p < 2 * l.length) : fcp l c p ≤ fcp l c (2 * k) ↔ p ≤ 2 * k := by
  constructor
  · intro e
    by_cases g : p ≤ 2 * k
    · exact g
    have a := fcp_le h (p := 2 * k + 1) (q := p) (by omega) hp
    have b := (fcp_step h (p := 2 * k) (by omega)).1 (by omega)
    have z := h.at (i := k) hk
    rw [show 2 * k / 2 = k by omega] at b
    omega
  · exact fun e => fcp_le h e (by omega)
theorem in_hi {l : List Int} {c : Int} (h : Shf l c) {k p : Nat} (hk : k < l.length) (hp : p < 2 * l.length) : fcp l c (2 * k + 1) ≤ fcp l c p ↔ 2 * k + 1 ≤ p := by
  constructor
  · intro e
    by_cases g : 2 * k + 1 ≤ p
    · exact g
    have a := fcp_le h (p := p) (q := 2 * k) (by omega) (by omega)
    have b := (fcp_step h (p := 2 * k) (by omega)).1 (by omega)
    have z := h.at (i := k) hk
    rw [show 2 * k / 2 = k by omega] at b
    omega
  · exact fun e => fcp_le h e hp
def eatS (lo hi : Nat) : Nat → List Int
  | 0 => []
  | n + 1 => if lo ≤ 2 * n ∧ 2 * n + 1 ≤ hi then eatS lo hi n ++ [(n : Int)] else eatS lo hi n
theorem eatS_fin : ∀ lo : Fin 16, ∀ hi : Fin 16, ∀ n : Fin 9, hi.val < 2 * n.val → eatS lo.val hi.val n.val = eatR lo.val hi.val := by decide +kernel
theorem eatS_len (lo hi : Nat) : ∀ n, (eatS lo hi n).length ≤ n := by
  intro n
  induction n with
  | zero => exact Nat.le_refl _
  | succ n ih =>
    rw [eatS]
    split
    · rw [List.length_append, List.length_singleton]; omega
    · omega
theorem pagesS_l0 {l : List Int} {c : Int} (h : Shf l c) {lo hi : Nat} (hlo : lo < 2 * l.length) (hhi : hi < 2 * l.length) : ∀ n i : Nat, i + n = l.length → Ev (fun k => spec_PagesEaten.l0 k (fcp l c lo) (fcp l c hi) (eatS lo hi i) (l.length : Int) (i : Int) l c) (eatS lo hi l.length, true) := by
  have h8 := h.n8
  intro n
  induction n with
  | zero =>
    intro i hi
    obtain rfl : i = l.length := by omega
    exact Ev_step (fun k => by rw [spec_PagesEaten.l0, if_neg (by omega)]) (Ev.now _)
  | succ n ih =>
    intro i hi2
    have hi3 : i < l.length := by omega
    have nx := ih (i + 1) (by omega)
    have el := eatS_len lo hi i
    refine Ev_step (fun k => by rw [spec_PagesEaten.l0, if_pos (by omega), nextI i (by omega)]) (Ev_bind (shFace_ev h hi3 true) ?_)
    rw [show ps i true = 2 * i from rfl]
    rw [eatS] at nx
    by_cases g : lo ≤ 2 * i; rotate_left
    · rw [if_neg (fun e => g e.1)] at nx
      exact Ev_neg (fun e => g ((in_lo h hi3 hlo).1 e)) nx
    refine Ev_pos ((in_lo h hi3 hlo).2 g) (Ev_bind (shFace_ev h hi3 false) ?_)
    rw [show ps i false = 2 * i + 1 from rfl]
    by_cases g2 : 2 * i + 1 ≤ hi; rotate_left
    · rw [if_neg (fun e => g2 e.2)] at nx
      exact Ev_neg (fun e => g2 ((in_hi h hi3 hhi).1 e)) nx
    rw [if_pos ⟨g, g2⟩] at nx
    exact Ev_pos ((in_hi h hi3 hhi).2 g2) (Ev_pos (by omega) nx)
theorem span_ev {l : List Int} {c : Int} (h : Shf l c) {a b : Nat} (ha : a < l.length) (hb : b < l.length) (la lb : Bool) : Ev (fun k => spec_shSpan.f k l c (a : Int) la (b : Int) lb) (fcp l c (lo2 a b la lb), fcp l c (hi2 a b la lb)) := by
  simp only [spec_shSpan.f]
  refine Ev_bind (shFace_ev h ha la) (Ev_bind (shFace_ev h hb lb) ?_)
  have pa := ps_lt ha la
  have pb := ps_lt hb lb
  unfold lo2 hi2
  generalize ps a la = p at *
  generalize ps b lb = q at *
  rcases Nat.le_total p q with e | e
  · have m := fcp_le h e pb
    rw [Nat.min_eq_left e, Nat.max_eq_right e]
    refine Ev_some (a := fcp l c p) ?_ (Ev_some (a := fcp l c q) ?_ (Ev.now _))
    · rw [spec_l1Least.f]; split
      · rfl
      · rw [show fcp l c q = fcp l c p by omega]
    · rw [spec_l1Most.f]; split
      · rw [show fcp l c q = fcp l c p by omega]
      · rfl
  · have m := fcp_le h e pa
    rw [Nat.min_eq_right e, Nat.max_eq_left e]
    refine Ev_some (a := fcp l c q) ?_ (Ev_some (a := fcp l c p) ?_ (Ev.now _))
    · rw [spec_l1Least.f]; split
      · rw [show fcp l c q = fcp l c p by omega]
      · rfl
    · rw [spec_l1Most.f]; split
      · rfl
      · rw [show fcp l c q = fcp l c p by omega]
theorem pagesS_yes {l : List Int} {c : Int} (h : Shf l c) {a b : Nat} (ha : a < l.length) (hb : b < l.length) (la lb : Bool) : Ev (fun k => spec_PagesEaten.f k l c (a : Int) la (b : Int) lb) (eatR (lo2 a b la lb) (hi2 a b la lb), true) := by
  have h8 := h.n8
  have pa := ps_lt ha la
  have pb := ps_lt hb lb
  have e1 : lo2 a b la lb < 2 * l.length := by unfold lo2; omega
  have e2 : hi2 a b la lb < 2 * l.length := by unfold hi2; omega
  simp only [spec_PagesEaten.f]
  refine Ev_bind (shBoth_ev l c _ (by omega)) (Ev_pos (both_yes h ha) (Ev_bind (shBoth_ev l c _ (by omega)) ?_))
  rw [both_yes h hb]
  refine Ev_step (fun k => by rw [spec_PagesEaten.j0, if_neg (by decide)]) (Ev_bind (span_ev h ha hb la lb) ?_)
  have := pagesS_l0 h e1 e2 l.length 0 (by omega)
  rw [← eatS_fin ⟨lo2 a b la lb, by omega⟩ ⟨hi2 a b la lb, by omega⟩ ⟨l.length, by omega⟩ e2]
  exact this
def sumE (l : List Int) (e : List Int) : Int := (e.map fun x => l.getD x.toNat 0).foldl (· + ·) 0
theorem sumE_snoc (l e : List Int) (n : Nat) : sumE l (e ++ [(n : Int)]) = sumE l e + l.getD n 0 := by
  unfold sumE
  rw [List.map_append, List.foldl_append]
  simp
theorem way_sum {l : List Int} {c : Int} (h : Shf l c) (lo : Nat) : ∀ n : Nat, lo + n < 2 * l.length → fcp l c (lo + n) - fcp l c lo = covR lo (lo + n) * c + sumE l (eatR lo (lo + n)) := by
  intro n
  have none_ : ∀ m, m ≤ lo → covR lo m = 0 ∧ eatR lo m = [] := by
    intro m
    induction m with
    | zero => intro _; exact ⟨rfl, rfl⟩
    | succ m ih =>
      intro hm
      obtain ⟨i, j⟩ := ih (by omega)
      rw [covR, eatR, if_neg (fun e => by omega), if_neg (fun e => by omega)]
      exact ⟨i, j⟩
  induction n with
  | zero =>
    intro _
    obtain ⟨i, j⟩ := none_ lo (Nat.le_refl _)
    rw [Nat.add_zero, i, j]
    show _ = 0 * c + 0
    omega
  | succ n ih =>
    intro hp
    have i := ih (by omega)
    obtain ⟨s0, s1⟩ := fcp_step h (p := lo + n) (by omega)
    rw [show lo + (n + 1) = lo + n + 1 by omega, covR, eatR]
    rcases Nat.mod_two_eq_zero_or_one (lo + n) with e | e
    · rw [s0 e, if_neg (fun g => by omega), if_pos ⟨by omega, e⟩, sumE_snoc]
      omega
    · rw [s1 e, if_pos ⟨by omega, e⟩, if_neg (fun g => by omega), Int.add_mul]
      omega
theorem way_eq {l : List Int} {c : Int} (h : Shf l c) {a b : Nat} (ha : a < l.length) (hb : b < l.length) (la lb : Bool) : wrm l c (ps a la) (ps b lb) = covR (lo2 a b la lb) (hi2 a b la lb) * c + sumE l (eatR (lo2 a b la lb) (hi2 a b la lb)) := by
  have pa := ps_lt ha la
  have pb := ps_lt hb lb
  unfold lo2 hi2
  generalize ps a la = p at *
  generalize ps b lb = q at *
  rcases Nat.le_total p q with e | e
  · rw [Nat.min_eq_left e, Nat.max_eq_right e, wrm_up l c p q (fcp_le h e pb)]
    have := way_sum h p (q - p) (by omega)
    rwa [show p + (q - p) = q by omega] at this
  · rw [Nat.min_eq_right e, Nat.max_eq_left e, wrm_swap, wrm_up l c q p (fcp_le h e pa)]
    have := way_sum h q (p - q) (by omega)
    rwa [show q + (p - q) = p by omega] at this
theorem lo2_swap (a b : Nat) (la lb : Bool) : lo2 a b la lb = lo2 b a lb la := Nat.min_comm _ _
theorem hi2_swap (a b : Nat) (la lb : Bool) : hi2 a b la lb = hi2 b a lb la := Nat.max_comm _ _
theorem faceOf_yes {l : List Int} {c : Int} (h : Shf l c) {a : Nat} (ha : a < l.length) (last : Bool) : Ev (fun k => impl_FaceOf.f k l c (a : Int) last) (fcp l c (ps a last), true) := by
  have h8 := h.n8
  simp only [impl_FaceOf.f]
  refine Ev_bind (isShelf_ev l c (by omega)) (Ev_pos ((shelfB_iff l c).2 h) (Ev_bind (has1_ev l c _ (by omega)) ?_))
  rw [volB_nat ha]
  exact Ev_pos rfl (Ev_bind (face_ev h ha last) (Ev.now _))
theorem placeOf_yes {l : List Int} {c : Int} (h : Shf l c) {a : Nat} (ha : a < l.length) : Ev (fun k => impl_PlaceOfVolume.f k l c (a : Int)) (lft l c a, lft l c (a + 1), true) := by
  have h8 := h.n8
  simp only [impl_PlaceOfVolume.f]
  refine Ev_bind (isShelf_ev l c (by omega)) (Ev_pos ((shelfB_iff l c).2 h) (Ev_bind (has1_ev l c _ (by omega)) ?_))
  rw [volB_nat ha]
  refine Ev_step (fun k => by rw [impl_PlaceOfVolume.j0, if_neg (by decide), nextI a (by omega)]) (Ev_bind (left_ev h a (by omega)) ?_)
  exact Ev_bind (f := fun _ t => some (lft l c a, t, true)) (left_ev h (a + 1) (by omega)) (Ev.now _)

def way (l : List Int) (c : Int) (a b : Nat) : Int := wrm l c (ps a false) (ps b true)
theorem way_pos (l : List Int) (c : Int) (a b : Nat) : 0 ≤ way l c a b := by unfold way wrm mx; split <;> omega
def lwS (l : List Int) (c : Int) (a b : Nat) (s : Int × Int × Int) : Int × Int × Int := if a = b then s else if way l c a b > s.2.2 then ((a : Int), (b : Int), way l c a b) else s
def lwR (l : List Int) (c : Int) (a : Nat) (s : Int × Int × Int) : Nat → Int × Int × Int
  | 0 => s
  | b + 1 => lwS l c a b (lwR l c a s b)
def lwA (l : List Int) (c : Int) : Nat → Int × Int × Int
  | 0 => (0, 0, -1)
  | a + 1 => lwR l c a (lwA l c a) l.length
def isPair (l : List Int) (a b : Nat) : Prop := a < l.length ∧ b < l.length ∧ a ≠ b
def before (a b x y : Nat) : Prop := a < x ∨ a = x ∧ b < y
def Held (l : List Int) (c : Int) (a b : Nat) (s : Int × Int × Int) : Prop :=
  (s = (0, 0, -1) ∧ ∀ x y, isPair l x y → ¬ before x y a b) ∨
  ∃ x y : Nat, s = ((x : Int), (y : Int), way l c x y) ∧ isPair l x y ∧ before x y a b ∧ (∀ u v, isPair l u v → before u v a b → way l c u v ≤ way l c x y) ∧ (∀ u v, isPair l u v → before u v x y → way l c u v < way l c x y)
theorem held_step {l : List Int} {c : Int} {a b : Nat} {s : Int × Int × Int} (ha : a < l.length) (hb : b < l.length) (h : Held l c a b s) : Held l c a (b + 1) (lwS l c a b s) := by
  have wp := way_pos l c a b
  have nx : ∀ {u v}, before u v a (b + 1) → before u v a b ∨ (u = a ∧ v = b) := fun {u v} e => by unfold before at e ⊢; omega
  unfold lwS
  by_cases e : a = b
  · rw [if_pos e]
    rcases h with ⟨hs, hn⟩ | ⟨x, y, hs, hp, hb2, h1, h2⟩
    · refine Or.inl ⟨hs, fun x y hp hb2 => ?_⟩
      rcases nx hb2 with g | ⟨rfl, rfl⟩
      · exact hn x y hp g
      · exact hp.2.2 e
    · refine Or.inr ⟨x, y, hs, hp, by unfold before at hb2 ⊢; omega, fun u v hp2 hb3 => ?_, h2⟩
      rcases nx hb3 with g | ⟨rfl, rfl⟩
      · exact h1 u v hp2 g
      · exact absurd e hp2.2.2
  rw [if_neg e]
  rcases h with ⟨rfl, hn⟩ | ⟨x, y, rfl, hp, hb2, h1, h2⟩
  · rw [if_pos (show way l c a b > -1 by omega)]
    refine Or.inr ⟨a, b, rfl, ⟨ha, hb, e⟩, by unfold before; omega, fun u v hp2 hb3 => ?_, fun u v hp2 hb3 => absurd hb3 (hn u v hp2)⟩
    rcases nx hb3 with g | ⟨rfl, rfl⟩
    · exact absurd g (hn u v hp2)
    · exact Int.le_refl _
  · by_cases g : way l c a b > way l c x y
    · rw [if_pos g]
      refine Or.inr ⟨a, b, rfl, ⟨ha, hb, e⟩, by unfold before; omega, fun u v hp2 hb3 => ?_, fun u v hp2 hb3 => ?_⟩
      · rcases nx hb3 with g2 | ⟨rfl, rfl⟩
        · have := h1 u v hp2 g2; omega
        · exact Int.le_refl _
      · have := h1 u v hp2 hb3; omega
    · rw [if_neg g]
      refine Or.inr ⟨x, y, rfl, hp, by unfold before at hb2 ⊢; omega, fun u v hp2 hb3 => ?_, h2⟩
      rcases nx hb3 with g2 | ⟨rfl, rfl⟩
      · exact h1 u v hp2 g2
      · omega
theorem held_row {l : List Int} {c : Int} {a : Nat} {s : Int × Int × Int} (ha : a < l.length) (h : Held l c a 0 s) : ∀ b : Nat, b ≤ l.length → Held l c a b (lwR l c a s b) := by
  intro b
  induction b with
  | zero => intro _; exact h
  | succ b ih => intro hb; exact held_step ha (by omega) (ih (by omega))
theorem held_all (l : List Int) (c : Int) : ∀ a : Nat, a ≤ l.length → Held l c a 0 (lwA l c a) := by
  intro a
  induction a with
  | zero => intro _; exact Or.inl ⟨rfl, fun x y hp hb => by unfold before at hb; omega⟩
  | succ a ih =>
    intro ha
    have h := held_row (a := a) (by omega) (ih (by omega)) l.length (Nat.le_refl _)
    have same : ∀ {u v}, isPair l u v → (before u v (a + 1) 0 ↔ before u v a l.length) := fun {u v} hp => by have := hp.2.1; unfold before; omega
    show Held l c (a + 1) 0 (lwR l c a (lwA l c a) l.length)
    rcases h with ⟨hs, hn⟩ | ⟨x, y, hs, hp, hb2, h1, h2⟩
    · exact Or.inl ⟨hs, fun x y hp hb => hn x y hp ((same hp).1 hb)⟩
    · exact Or.inr ⟨x, y, hs, hp, (same hp).2 hb2, fun u v hp2 hb3 => h1 u v hp2 ((same hp2).1 hb3), h2⟩
theorem longest {l : List Int} {c : Int} (h2 : 2 ≤ l.length) : ∃ x y : Nat, lwA l c l.length = ((x : Int), (y : Int), way l c x y) ∧ isPair l x y ∧ ∀ u v, isPair l u v → way l c u v ≤ way l c x y ∧ (way l c u v = way l c x y → ¬ before u v x y) := by
  rcases held_all l c l.length (Nat.le_refl _) with ⟨_, hn⟩ | ⟨x, y, hs, hp, _, h1, h3⟩
  · exact absurd (show before 0 1 l.length 0 by unfold before; omega) (hn 0 1 ⟨by omega, by omega, by omega⟩)
  · refine ⟨x, y, hs, hp, fun u v hp2 => ⟨h1 u v hp2 (by have := hp2.1; unfold before; omega), fun e hb => ?_⟩⟩
    have := h3 u v hp2 hb
    omega
theorem longI_l1 {l : List Int} {c : Int} (h : Shf l c) {a : Nat} (ha : a < l.length) {s : Int × Int × Int} {r : Int × Int × Bool}
    (nx : Ev (fun k => impl_LongestWorm.l0 k (lwR l c a s l.length).1 (lwR l c a s l.length).2.1 (lwR l c a s l.length).2.2 (l.length : Int) ((a + 1 : Nat) : Int) l c) r) :
    ∀ n b : Nat, b + n = l.length → Ev (fun k => impl_LongestWorm.l1 k (lwR l c a s b).1 (lwR l c a s b).2.1 (lwR l c a s b).2.2 (a : Int) (l.length : Int) (a : Int) (l.length : Int) (b : Int) l c) r := by
  have h8 := h.n8
  intro n
  induction n with
  | zero =>
    intro b hb
    obtain rfl : b = l.length := by omega
    exact Ev_step (fun k => by rw [impl_LongestWorm.l1, if_neg (by omega), nextI a (by omega)]) nx
  | succ n ih =>
    intro b hb
    have hb2 : b < l.length := by omega
    have i := ih (b + 1) (by omega)
    rw [show lwR l c a s (b + 1) = lwS l c a b (lwR l c a s b) from rfl] at i
    generalize lwR l c a s b = t at i ⊢
    refine Ev_step (fun k => by rw [impl_LongestWorm.l1, if_pos (by omega), nextI b (by omega)]) (Ev_bind (wormI_yes h ha hb2 false true) ?_)
    unfold lwS at i
    by_cases e : a = b
    · rw [if_pos e] at i
      exact Ev_pos (by omega) i
    rw [if_neg e] at i
    by_cases g : way l c a b > t.2.2; rotate_left
    · rw [if_neg g] at i
      exact Ev_neg (by omega) (Ev_neg g i)
    rw [if_pos g] at i
    exact Ev_neg (by omega) (Ev_pos g i)
theorem longI_l0 {l : List Int} {c : Int} (h : Shf l c) : ∀ n a : Nat, a + n = l.length → Ev (fun k => impl_LongestWorm.l0 k (lwA l c a).1 (lwA l c a).2.1 (lwA l c a).2.2 (l.length : Int) (a : Int) l c) ((lwA l c l.length).1, (lwA l c l.length).2.1, true) := by
  intro n
  induction n with
  | zero =>
    intro a ha
    obtain rfl : a = l.length := by omega
    exact Ev_step (fun k => by rw [impl_LongestWorm.l0, if_neg (by omega)]) (Ev.now _)
  | succ n ih =>
    intro a ha
    refine Ev_step (fun k => by rw [impl_LongestWorm.l0, if_pos (by omega)]) ?_
    exact longI_l1 h (by omega) (s := lwA l c a) (ih (a + 1) (by omega)) l.length 0 (by omega)
theorem longS_l1 {l : List Int} {c : Int} (h : Shf l c) {a : Nat} (ha : a < l.length) {s : Int × Int × Int} {r : Int × Int × Bool}
    (nx : Ev (fun k => spec_LongestWorm.l0 k (lwR l c a s l.length).1 (lwR l c a s l.length).2.1 (lwR l c a s l.length).2.2 (l.length : Int) ((a + 1 : Nat) : Int) l c) r) :
    ∀ n b : Nat, b + n = l.length → Ev (fun k => spec_LongestWorm.l1 k (lwR l c a s b).1 (lwR l c a s b).2.1 (lwR l c a s b).2.2 (a : Int) (l.length : Int) (a : Int) (l.length : Int) (b : Int) l c) r := by
  have h8 := h.n8
  intro n
  induction n with
  | zero =>
    intro b hb
    obtain rfl : b = l.length := by omega
    exact Ev_step (fun k => by rw [spec_LongestWorm.l1, if_neg (by omega), nextI a (by omega)]) nx
  | succ n ih =>
    intro b hb
    have hb2 : b < l.length := by omega
    have i := ih (b + 1) (by omega)
    rw [show lwR l c a s (b + 1) = lwS l c a b (lwR l c a s b) from rfl] at i
    generalize lwR l c a s b = t at i ⊢
    have x := fcp_bound h (ps_lt ha false)
    have y := fcp_bound h (ps_lt hb2 true)
    refine Ev_step (fun k => by rw [spec_LongestWorm.l1, if_pos (by omega), nextI b (by omega)]) (Ev_bind (shFace_ev h ha false) (Ev_bind (shFace_ev h hb2 true) (Ev_some (a := way l c a b) ?_ ?_)))
    · rw [spec_l1Abs.f, spec_l1Most.f, w64 (x := fcp l c (ps a false) - fcp l c (ps b true)) (by omega) (by omega), w64 (by omega) (by omega)]
      unfold way wrm mx
      by_cases g : fcp l c (ps a false) - fcp l c (ps b true) > -(fcp l c (ps a false) - fcp l c (ps b true))
      · rw [if_pos g, if_neg (by omega)]; rfl
      rw [if_neg g]
      split
      · rfl
      · show some _ = some _
        congr 1
        omega
    · unfold lwS at i
      by_cases e : a = b
      · rw [if_pos e] at i
        exact Ev_pos (by omega) i
      rw [if_neg e] at i
      by_cases g : way l c a b > t.2.2; rotate_left
      · rw [if_neg g] at i
        exact Ev_neg (by omega) (Ev_neg g i)
      rw [if_pos g] at i
      exact Ev_neg (by omega) (Ev_pos g i)
theorem longS_l0 {l : List Int} {c : Int} (h : Shf l c) : ∀ n a : Nat, a + n = l.length → Ev (fun k => spec_LongestWorm.l0 k (lwA l c a).1 (lwA l c a).2.1 (lwA l c a).2.2 (l.length : Int) (a : Int) l c) ((lwA l c l.length).1, (lwA l c l.length).2.1, true) := by
  intro n
  induction n with
  | zero =>
    intro a ha
    obtain rfl : a = l.length := by omega
    exact Ev_step (fun k => by rw [spec_LongestWorm.l0, if_neg (by omega)]) (Ev.now _)
  | succ n ih =>
    intro a ha
    refine Ev_step (fun k => by rw [spec_LongestWorm.l0, if_pos (by omega)]) ?_
    exact longS_l1 h (by omega) (s := lwA l c a) (ih (a + 1) (by omega)) l.length 0 (by omega)
def longR (l : List Int) (c : Int) : Int × Int × Bool := if shelfB l c = true ∧ l.length ≠ 1 then ((lwA l c l.length).1, (lwA l c l.length).2.1, true) else (0, 0, false)
theorem longI_ev (l : List Int) (c : Int) (hn : l.length ≤ 1048576) : Ev (fun k => impl_LongestWorm.f k l c) (longR l c) := by
  have j : Ev (fun k => impl_LongestWorm.j0 k true l c) (0, 0, false) := Ev_step (fun k => by rw [impl_LongestWorm.j0, if_pos rfl]) (Ev.now _)
  unfold longR
  simp only [impl_LongestWorm.f]
  refine Ev_bind (isShelf_ev l c hn) ?_
  cases hs : shelfB l c with
  | false =>
    rw [if_neg (fun e => Bool.false_ne_true e.1)]
    exact Ev_neg Bool.false_ne_true j
  | true =>
    refine Ev_pos rfl ?_
    by_cases e : l.length = 1; rotate_left
    · rw [if_pos ⟨rfl, e⟩, show ((l.length : Int) == 1) = false from beq_eq_false_iff_ne.2 (by omega)]
      exact Ev_step (fun k => by rw [impl_LongestWorm.j0, if_neg Bool.false_ne_true]; rfl) (longI_l0 ((shelfB_iff l c).1 hs) l.length 0 (by omega))
    rw [if_neg (fun g => g.2 e), show ((l.length : Int) == 1) = true from beq_iff_eq.2 (by omega)]
    exact j
theorem longS_ev2 (l : List Int) (c : Int) (hn : l.length ≤ 1048576) : Ev (fun k => spec_LongestWorm.f k l c) (longR l c) := by
  have j : Ev (fun k => spec_LongestWorm.j0 k true l c) (0, 0, false) := Ev_step (fun k => by rw [spec_LongestWorm.j0, if_pos rfl]) (Ev.now _)
  unfold longR
  simp only [spec_LongestWorm.f]
  refine Ev_bind (shGood_ev l c hn) ?_
  cases hs : shelfB l c with
  | false =>
    rw [if_neg (fun e => Bool.false_ne_true e.1)]
    exact Ev_neg Bool.false_ne_true j
  | true =>
    refine Ev_pos rfl ?_
    by_cases e : l.length = 1; rotate_left
    · rw [if_pos ⟨rfl, e⟩, show ((l.length : Int) == 1) = false from beq_eq_false_iff_ne.2 (by omega)]
      exact Ev_step (fun k => by rw [spec_LongestWorm.j0, if_neg Bool.false_ne_true]; rfl) (longS_l0 ((shelfB_iff l c).1 hs) l.length 0 (by omega))
    rw [if_neg (fun g => g.2 e), show ((l.length : Int) == 1) = true from beq_iff_eq.2 (by omega)]
    exact j

theorem fSame_l0 (a : List Int) (hn : a.length ≤ 1048576) : ∀ n i : Nat, i + n = a.length → Ev (fun k => laws_fSame.l0 k a a (a.length : Int) (i : Int)) true := by
  intro n
  induction n with
  | zero =>
    intro i hi
    refine Ev_step (fun k => ?_) (Ev.now _)
    rw [laws_fSame.l0, if_neg (by omega)]
  | succ n ih =>
    intro i hi
    refine Ev_step (fun k => ?_) (ih (i + 1) (by omega))
    rw [laws_fSame.l0, if_pos (by omega), if_pos (by omega), if_pos (by omega), if_pos (by omega), if_pos rfl, nextI i (by omega)]
theorem fSame_ev (a : List Int) (hn : a.length ≤ 1048576) : Ev (fun k => laws_fSame.f k a a) true := by
  refine Ev.congr (f := fun k => laws_fSame.l0 k a a (a.length : Int) 0) (fun k => by rw [laws_fSame.f, if_pos rfl]) ?_
  exact fSame_l0 a hn a.length 0 (by omega)
theorem bne_self {α : Type} [BEq α] [LawfulBEq α] (x : α) : ¬ (x != x) = true := by simp

def sw (l : List Int) (a b : Nat) : List Int := (l.set a (l.getD b 0)).set b (l.getD a 0)
theorem sw_length (l : List Int) (a b : Nat) : (sw l a b).length = l.length := by unfold sw; rw [List.length_set, List.length_set]
theorem sw_at (l : List Int) {a b i : Nat} (ha : a < l.length) (hb : b < l.length) (hi : i < l.length) : (sw l a b).getD i 0 = if b = i then l.getD a 0 else if a = i then l.getD b 0 else l.getD i 0 := by
  rw [getD_at _ 0 (by rw [sw_length]; exact hi)]
  unfold sw
  rw [List.getElem_set]
  split
  · rfl
  · rw [List.getElem_set]
    split
    · rfl
    · rw [getD_at l 0 hi]
theorem sw_sw {l : List Int} {a b : Nat} (ha : a < l.length) (hb : b < l.length) : sw (sw l a b) a b = l := by
  have hl : (sw l a b).length = l.length := sw_length l a b
  apply List.ext_getElem
  · rw [sw_length, sw_length]
  · intro i h1 h2
    rw [← getD_at _ 0 h1, ← getD_at l 0 h2, sw_at (sw l a b) (by omega) (by omega) (by omega), sw_at l ha hb ha, sw_at l ha hb hb, sw_at l ha hb h2]
    by_cases e1 : b = i; rotate_left
    · rw [if_neg e1, if_neg e1]
      by_cases e2 : a = i; rotate_left
      · rw [if_neg e2, if_neg e2]
      subst e2
      rw [if_pos rfl, if_pos rfl]
    subst e1
    rw [if_pos rfl]
    by_cases e2 : b = a; rotate_left
    · rw [if_neg e2, if_pos rfl]
    rw [if_pos e2, e2]
def sm (l : List Int) : Nat → Int
  | 0 => 0
  | n + 1 => sm l n + l.getD n 0
theorem lft_sm (l : List Int) (c : Int) : ∀ n, lft l c n = sm l n + 2 * c * n := by
  intro n
  induction n with
  | zero => rw [lft, sm]; simp
  | succ n ih =>
    rw [lft, sm, ih, show 2 * c * ((n + 1 : Nat) : Int) = 2 * c * (n : Int) + 2 * c by rw [Int.natCast_add, Int.mul_add]; simp]
    omega
theorem sm_set (l : List Int) (a : Nat) (v : Int) (ha : a < l.length) : ∀ n, sm (l.set a v) n = if a < n then sm l n - l.getD a 0 + v else sm l n := by
  intro n
  induction n with
  | zero => rfl
  | succ n ih =>
    rw [sm, sm, ih]
    by_cases e : a = n
    · subst e
      rw [if_neg (by omega), if_pos (by omega), getD_set_self l 0 v ha]
      omega
    have g : (l.set a v).getD n 0 = l.getD n 0 := by
      rw [List.getD_eq_getElem?_getD, List.getElem?_set_ne e, List.getD_eq_getElem?_getD]
    rw [g]
    by_cases h : a < n; rotate_left
    · rw [if_neg h, if_neg (by omega)]
    rw [if_pos h, if_pos (by omega)]; omega
theorem sm_sw {l : List Int} {a b : Nat} (ha : a < l.length) (hb : b < l.length) : sm (sw l a b) l.length = sm l l.length := by
  unfold sw
  rw [sm_set _ b _ (by rw [List.length_set]; exact hb), sm_set l a _ ha, if_pos hb, if_pos ha]
  by_cases e : a = b
  · subst e
    rw [getD_set_self l 0 _ ha]
    omega
  have g : (l.set a (l.getD b 0)).getD b 0 = l.getD b 0 := by
    rw [List.getD_eq_getElem?_getD, List.getElem?_set_ne e, List.getD_eq_getElem?_getD]
  rw [g]
  omega
theorem lft_sw {l : List Int} {a b : Nat} (c : Int) (ha : a < l.length) (hb : b < l.length) : lft (sw l a b) c l.length = lft l c l.length := by rw [lft_sm, lft_sm, sm_sw ha hb]
theorem shf_sw {l : List Int} {c : Int} (h : Shf l c) {a b : Nat} (ha : a < l.length) (hb : b < l.length) : Shf (sw l a b) c := by
  refine ⟨by rw [sw_length]; exact h.n1, by rw [sw_length]; exact h.n8, fun x hx => ?_, h.c0, h.c1⟩
  obtain ⟨i, hi, rfl⟩ := List.mem_iff_getElem.1 hx
  rw [sw_length] at hi
  rw [← getD_at _ 0 (by rw [sw_length]; exact hi), sw_at l ha hb hi]
  split
  · exact h.at ha
  · split
    · exact h.at hb
    · exact h.at hi
def swR (l : List Int) (c a b : Int) : List Int × Int × Bool := if okAB l c a b = true then (sw l a.toNat b.toNat, c, true) else ([], 0, false)
theorem swapI_ev (l : List Int) (c a b : Int) (hn : l.length ≤ 1048576) : Ev (fun k => impl_SwapVolumes.f k l c a b) (swR l c a b) := by
  unfold swR
  by_cases hk : okAB l c a b = true
  · rw [if_pos hk]
    obtain ⟨h, p, q, rfl, rfl, hp, hq⟩ := okAB_of hk
    have h8 := h.n8
    simp only [impl_SwapVolumes.f]
    refine Ev_bind (isShelf_ev l c hn) (Ev_pos ((shelfB_iff l c).2 h) (Ev_bind (has2_ev l c _ _ hn) ?_))
    rw [volB_nat hp, volB_nat hq]
    refine Ev_pos rfl (Ev_some (a := l) (by unfold clone_Int.f; rw [if_pos (by omega)]) ?_)
    rw [rd_nat, rd_nat, Int.toNat_natCast, Int.toNat_natCast]
    exact Ev_pos (by omega) (Ev_pos (by omega) (Ev_pos (by omega) (Ev_pos (by omega) (Ev.now _))))
  rw [if_neg hk]
  have hk2 : okAB l c a b = false := by simpa using hk
  unfold okAB at hk2
  simp only [impl_SwapVolumes.f]
  refine Ev_bind (isShelf_ev l c hn) ?_
  cases hs : shelfB l c with
  | false => exact Ev_neg Bool.false_ne_true (Ev.now _)
  | true =>
    rw [hs, Bool.true_and] at hk2
    refine Ev_pos rfl (Ev_bind (has2_ev l c a b hn) ?_)
    rw [hk2]
    exact Ev_neg Bool.false_ne_true (Ev.now _)
theorem own_eq (l : List Int) (hn : l.length ≤ 1048576) : spec_l1Own.f l = some l := by
  rw [spec_l1Own.f, Option.bind_some, if_pos (by simp; omega), List.nil_append]
theorem swapS_ev (l : List Int) (c a b : Int) (hn : l.length ≤ 1048576) : Ev (fun k => spec_SwapVolumes.f k l c a b) (swR l c a b) := by
  unfold swR
  by_cases hk : okAB l c a b = true
  · rw [if_pos hk]
    obtain ⟨h, p, q, rfl, rfl, hp, hq⟩ := okAB_of hk
    have h8 := h.n8
    simp only [spec_SwapVolumes.f]
    refine Ev_bind (shBoth_ev l c _ hn) (Ev_pos (both_yes h hp) (Ev_bind (shBoth_ev l c _ hn) (Ev_pos (both_yes h hq) (Ev_some (own_eq l hn) ?_))))
    rw [rd_nat, rd_nat, Int.toNat_natCast, Int.toNat_natCast]
    exact Ev_pos (by omega) (Ev_pos (by omega) (Ev_pos (by omega) (Ev_pos (by omega) (Ev_pos (by omega) (Ev_pos (by omega) (Ev.now _))))))
  rw [if_neg hk]
  have hk2 : okAB l c a b = false := by simpa using hk
  unfold okAB at hk2
  simp only [spec_SwapVolumes.f]
  refine Ev_bind (shBoth_ev l c a hn) ?_
  cases hs : shelfB l c && volB l a with
  | false => exact Ev_neg Bool.false_ne_true (Ev.now _)
  | true =>
    rw [← Bool.and_assoc, hs, Bool.true_and] at hk2
    refine Ev_pos rfl (Ev_bind (shBoth_ev l c b hn) ?_)
    rw [hk2, Bool.and_false]
    exact Ev_neg Bool.false_ne_true (Ev.now _)
def widR (l : List Int) (c : Int) : Int × Bool := if shelfB l c = true then (lft l c l.length, true) else (0, false)
theorem widthI_ev (l : List Int) (c : Int) (hn : l.length ≤ 1048576) : Ev (fun k => impl_WidthOf.f k l c) (widR l c) := by
  simp only [impl_WidthOf.f]
  refine Ev_bind (isShelf_ev l c hn) ?_
  unfold widR
  cases hs : shelfB l c with
  | false => exact Ev_neg Bool.false_ne_true (Ev.now _)
  | true => exact Ev_pos rfl (Ev_bind (left_ev ((shelfB_iff l c).1 hs) l.length (Nat.le_refl _)) (Ev.now _))
theorem widthS_ev (l : List Int) (c : Int) (hn : l.length ≤ 1048576) : Ev (fun k => spec_WidthOf.f k l c) (widR l c) := by
  simp only [spec_WidthOf.f]
  refine Ev_bind (shGood_ev l c hn) ?_
  unfold widR
  cases hs : shelfB l c with
  | false => exact Ev_neg Bool.false_ne_true (Ev.now _)
  | true => exact Ev_pos rfl (Ev_bind (shLeft_ev ((shelfB_iff l c).1 hs) l.length (Nat.le_refl _)) (Ev.now _))
theorem fSum_ev {l : List Int} {c : Int} (h : Shf l c) : Ev (fun k => laws_fSum.f k l) (sm l l.length) := by
  have h8 := h.n8
  have b : ∀ n, n ≤ l.length → 0 ≤ sm l n ∧ sm l n ≤ 100 * n := by
    intro n
    induction n with
    | zero => intro _; exact ⟨by rw [sm]; omega, by rw [sm]; omega⟩
    | succ n ih =>
      intro hn
      have := ih (by omega)
      have a := h.at (i := n) (by omega)
      rw [sm]
      omega
  have l0 : ∀ n i : Nat, i + n = l.length → Ev (fun k => laws_fSum.l0 k (sm l i) l (l.length : Int) (i : Int)) (sm l l.length) := by
    intro n
    induction n with
    | zero =>
      intro i hi
      obtain rfl : i = l.length := by omega
      exact Ev_step (fun k => by rw [laws_fSum.l0, if_neg (by omega)]) (Ev.now _)
    | succ n ih =>
      intro i hi
      have g := b i (by omega)
      have a := h.at (i := i) (by omega)
      refine Ev_step (fun k => by rw [laws_fSum.l0, if_pos (by omega), if_pos (by omega), if_pos (by omega), rd_nat, nextI i (by omega), w64 (x := sm l i + l.getD i 0) (by omega) (by omega)]; rfl) (ih (i + 1) (by omega))
  exact Ev.congr (fun k => by rw [laws_fSum.f]; rfl) (l0 l.length 0 (by omega))
theorem fShelf_ev (l : List Int) (c : Int) (hn : l.length ≤ 1048576) : Ev (fun k => laws_fShelf.f k l c l c) true := by
  simp only [laws_fShelf.f, if_true]
  exact Ev_bind (fSame_ev l hn) (Ev.now _)

def Bytes (c : List Int) : Prop := ∀ x ∈ c, 0 ≤ x ∧ x ≤ 255
theorem Bytes.of {c : List Int} (h : ∀ x ∈ c, (Lit.int .u8 x).wf = true) : Bytes c := fun x hx => bounds_u8 (h x hx)
theorem Bytes.at {c : List Int} (h : Bytes c) (i : Int) : 0 ≤ rd c i ∧ rd c i ≤ 255 := by
  unfold rd
  rw [List.getD_eq_getElem?_getD]
  cases e : c[i.toNat]? with
  | none => exact ⟨by decide, by decide⟩
  | some x => exact h x (List.mem_of_getElem? e)
theorem wrap_u64 (n : Int) : IntKind.u64.wrap n = n % 18446744073709551616 := by simp [IntKind.wrap, IntKind.bits, IntKind.signed]
theorem low8 (n : Int) : 0 ≤ wrap64 (Go.bits .and .u64 (IntKind.u64.wrap n / 1099511627776) 255) ∧ wrap64 (Go.bits .and .u64 (IntKind.u64.wrap n / 1099511627776) 255) ≤ 255 := by
  have hn := wrap_u64 n
  have e : Go.bits .and .u64 (IntKind.u64.wrap n / 1099511627776) 255 = (IntKind.u64.wrap n / 1099511627776) % 256 :=
    Go.bits_mask .u64 24 (by decide) (fun m h0 h1 => by rw [wrap_u64]; omega) 8 (by decide) _ (by omega) (by rw [hn]; omega)
  rw [e, w64 (by omega) (by omega)]
  omega
theorem next_ok {c : List Int} (hc : Bytes c) {a : Int} (s : Int) (h0 : 0 ≤ a) (h1 : a ≤ 1000000) :
    ∃ x s', spec_l1Cur_next.f c a s = some (x, a + 1, s') ∧ 0 ≤ x ∧ x ≤ 255 := by
  have hr := hc.at a
  have w1 : wrap64 (a + 1) = a + 1 := w64 (by omega) (by omega)
  have w2 : wrap64 (rd c a) = rd c a := w64 (by omega) (by omega)
  rw [spec_l1Cur_next.f, w1, w2]
  by_cases h : a < (c.length : Int); rotate_left
  · rw [if_neg h]
    by_cases h2 : a + 1 ≤ (c.length : Int); rotate_left
    · rw [if_neg h2]
      exact ⟨_, _, rfl, (low8 _).1, (low8 _).2⟩
    rw [if_pos h2]
    exact ⟨_, _, rfl, by decide, by decide⟩
  rw [if_pos h, if_pos h0]
  by_cases h2 : a + 1 ≤ (c.length : Int); rotate_left
  · rw [if_neg h2]
    exact ⟨_, _, rfl, (low8 _).1, (low8 _).2⟩
  rw [if_pos h2]
  exact ⟨_, _, rfl, hr.1, hr.2⟩
theorem pick_ok {c : List Int} (hc : Bytes c) {a : Int} (s n : Int) (h0 : 0 ≤ a) (h1 : a ≤ 999990) (hn : n ≤ 1000000) :
    ∃ x a' s', spec_l1Cur_pick.f c a s n = some (x, a', s') ∧ 0 ≤ x ∧ (x < n ∨ x = 0) ∧ a ≤ a' ∧ a' ≤ a + 2 := by
  rw [spec_l1Cur_pick.f]
  by_cases hs : n ≤ 1
  · rw [if_pos hs]
    exact ⟨0, a, s, rfl, by decide, .inr rfl, by omega, by omega⟩
  rw [if_neg hs]
  obtain ⟨x, s1, e1, hx0, hx1⟩ := next_ok hc s h0 (by omega)
  simp only [e1, Option.bind_some]
  by_cases hb : n > 200; rotate_left
  · rw [if_neg hb, if_neg (by omega), Int.tmod_eq_emod_of_nonneg (by omega)]
    exact ⟨_, _, _, rfl, Int.emod_nonneg _ (by omega), .inl (Int.emod_lt_of_pos _ (by omega)), by omega, by omega⟩
  rw [if_pos hb]
  obtain ⟨y, s2, e2, hy0, hy1⟩ := next_ok hc (a := a + 1) s1 (by omega) (by omega)
  simp only [e2, Option.bind_some]
  rw [if_neg (by omega), w64 (x := x * 256) (by omega) (by omega), w64 (x := x * 256 + y) (by omega) (by omega), Int.tmod_eq_emod_of_nonneg (by omega)]
  exact ⟨_, _, _, rfl, Int.emod_nonneg _ (by omega), .inl (Int.emod_lt_of_pos _ (by omega)), by omega, by omega⟩
theorem one_ok {c : List Int} (hc : Bytes c) {a : Int} (s n : Int) (h0 : 0 ≤ a) (h1 : a ≤ 999990) (hn : n ≤ 1000000) :
    ∃ b a' s', spec_l1Cur_one.f c a s n = some (b, a', s') ∧ a ≤ a' ∧ a' ≤ a + 2 := by
  obtain ⟨x, a', s', e, _, _, h2, h3⟩ := pick_ok hc s n h0 h1 hn
  refine ⟨x == 0, a', s', ?_, h2, h3⟩
  rw [spec_l1Cur_one.f, e]
  rfl

theorem among_ok {c : List Int} (hc : Bytes c) {a : Int} (s : Int) (l : List Int) (h0 : 0 ≤ a) (h1 : a ≤ 999990) (hl : 1 ≤ l.length ∧ l.length ≤ 1000) :
    ∃ x a' s', spec_l1Cur_among.f c a s l = some (x, a', s') ∧ x ∈ l ∧ a ≤ a' ∧ a' ≤ a + 2 := by
  obtain ⟨x, a', s', e, g0, g1, g2, g3⟩ := pick_ok hc s (l.length : Int) h0 h1 (by omega)
  have hx : x < (l.length : Int) := by omega
  refine ⟨rd l x, a', s', ?_, ?_, g2, g3⟩
  · rw [spec_l1Cur_among.f, e]
    simp only [Option.bind_some]
    rw [if_pos g0, if_pos hx]
  · unfold rd
    rw [List.getD_eq_getElem?_getD, List.getElem?_eq_getElem (by omega)]
    exact List.getElem_mem _

theorem one_size (b : Int) : (strOfNums [b]).size = 1 := rfl
theorem spoilt_j1 {c : List Int} {w t : ByteArray} {n : Nat} {a s j a1 s1 a2 s2 q a3 s3 : Int} {i : Nat} {r : ByteArray × Int × Int} (hn : n ≤ 2) (hz : (t.size : Int) > 0) (ht : t.size ≤ 500000) (hi : i < t.size)
    (e1 : spec_l1Cur_pick.f c a s (t.size : Int) = some ((i : Int), a1, s1)) (e2 : spec_l1Cur_pick.f c a1 s1 (w.size : Int) = some (j, a2, s2)) (e3 : spec_l1Cur_pick.f c a2 s2 3 = some (q, a3, s3)) (j0 : 0 ≤ j) (j1 : j < (w.size : Int))
    (h : ∃ u : ByteArray, (q = 0 ∧ u = ((t.extract 0 i) ++ (strOfNums [bt w j])) ++ (t.extract i t.size) ∨ q = 1 ∧ u = ((t.extract 0 i) ++ (strOfNums [bt w j])) ++ (t.extract (i + 1) t.size) ∨ q ≠ 0 ∧ q ≠ 1 ∧ u = (t.extract 0 i) ++ (t.extract (i + 1) t.size)) ∧ Ev (fun k => spec_l1Cur_spoilt.l0 k u w (n : Int) c a3 s3) r) :
    Ev (fun k => spec_l1Cur_spoilt.j1 k t w ((n + 1 : Nat) : Int) true c a s) r := by
  have w1 : wrap64 ((i : Int) + 1) = ((i + 1 : Nat) : Int) := by rw [w64 (by omega) (by omega)]; omega
  have w2 : wrap64 (((n + 1 : Nat) : Int) - 1) = (n : Int) := by rw [w64 (by omega) (by omega)]; omega
  have z1 : (t.extract 0 i).size = i := by rw [ByteArray.size_extract]; omega
  have z2 : (t.extract i t.size).size = t.size - i := by rw [ByteArray.size_extract]; omega
  have z3 : (t.extract (i + 1) t.size).size = t.size - (i + 1) := by rw [ByteArray.size_extract]; omega
  have z4 := one_size (bt w j)
  have b1 : (t.extract 0 i).size + (strOfNums [bt w j]).size ≤ 9223372036854775807 := by rw [z1, z4]; omega
  have b2 : ((t.extract 0 i) ++ (strOfNums [bt w j])).size + (t.extract i t.size).size ≤ 9223372036854775807 := by rw [ByteArray.size_append, z1, z4, z2]; omega
  have b3 : ((t.extract 0 i) ++ (strOfNums [bt w j])).size + (t.extract (i + 1) t.size).size ≤ 9223372036854775807 := by rw [ByteArray.size_append, z1, z4, z3]; omega
  have b4 : (t.extract 0 i).size + (t.extract (i + 1) t.size).size ≤ 9223372036854775807 := by rw [z1, z3]; omega
  have p0 : 0 ≤ (i : Int) := by omega
  have p1 : (i : Int) ≤ (t.size : Int) := by omega
  have p2 : 0 ≤ ((i + 1 : Nat) : Int) := by omega
  have p3 : ((i + 1 : Nat) : Int) ≤ (t.size : Int) := by omega
  clear z1 z2 z3 z4 hi ht hz hn
  refine Ev_step (fun k => by rw [spec_l1Cur_spoilt.j1, if_pos rfl, e1]) ?_
  simp only [Option.bind_some, e2, if_pos j0, if_pos j1, e3, w1, w2, Int.toNat_natCast]
  clear e1 e2 e3 w1 w2
  obtain ⟨u, hu, hev⟩ := h
  rcases hu with ⟨h0, rfl⟩ | ⟨h1, rfl⟩ | ⟨h0, h1, rfl⟩
  · simp only [if_pos h0, if_pos p0, if_pos p1, if_pos b1, if_pos b2]
    exact hev
  · have h0 : ¬ q = 0 := by omega
    simp only [if_neg h0, if_pos h1, if_pos p0, if_pos p1, if_pos p2, if_pos p3, if_pos b1, if_pos b3]
    exact hev
  · simp only [if_neg h0, if_neg h1, if_pos p0, if_pos p1, if_pos p2, if_pos p3, if_pos b4]
    exact hev
theorem spoilt_l0 {c : List Int} (hc : Bytes c) (w : ByteArray) (hw : 1 ≤ w.size ∧ w.size ≤ 200) : ∀ (n : Nat) (t : ByteArray) (a s : Int), n ≤ 2 → 0 ≤ a → a + 6 * n ≤ 999900 → t.size + n ≤ 500000 →
    ∃ t' a' s', Ev (fun k => spec_l1Cur_spoilt.l0 k t w (n : Int) c a s) (t', a', s') ∧ t'.size ≤ t.size + n ∧ a ≤ a' ∧ a' ≤ a + 6 * n := by
  intro n
  induction n with
  | zero =>
    intro t a s hn h0 h1 ht
    refine ⟨t, a, s, Ev_step (fun k => by rw [spec_l1Cur_spoilt.l0, if_neg (by omega)]) (Ev_step (fun k => by rw [spec_l1Cur_spoilt.j1]) (Ev_neg (by decide) (Ev.now _))), by omega, by omega, by omega⟩
  | succ n ih =>
    intro t a s hn h0 h1 ht
    have hp : ((n + 1 : Nat) : Int) > 0 := by omega
    by_cases hz : (t.size : Int) > 0; rotate_left
    · refine ⟨t, a, s, Ev_step (fun k => by rw [spec_l1Cur_spoilt.l0, if_pos hp, decide_eq_false hz]) (Ev_step (fun k => by rw [spec_l1Cur_spoilt.j1]) (Ev_neg (by decide) (Ev.now _))), by omega, by omega, by omega⟩
    obtain ⟨i, a1, s1, e1, i0, i1, g1, g2⟩ := pick_ok hc s (t.size : Int) h0 (by omega) (by omega)
    obtain ⟨j, a2, s2, e2, j0, j1, g3, g4⟩ := pick_ok hc (a := a1) s1 (w.size : Int) (by omega) (by omega) (by omega)
    obtain ⟨q, a3, s3, e3, q0, q1, g5, g6⟩ := pick_ok hc (a := a2) s2 3 (by omega) (by omega) (by omega)
    obtain ⟨i, rfl⟩ := Int.eq_ofNat_of_zero_le i0
    have hi : i < t.size := by omega
    have z1 : (t.extract 0 i).size = i := by rw [ByteArray.size_extract]; omega
    have z2 : (t.extract i t.size).size = t.size - i := by rw [ByteArray.size_extract]; omega
    have z3 : (t.extract (i + 1) t.size).size = t.size - (i + 1) := by rw [ByteArray.size_extract]; omega
    have z4 := one_size (bt w j)
    have hu : ∃ u : ByteArray, u.size ≤ t.size + 1 ∧ (q = 0 ∧ u = ((t.extract 0 i) ++ (strOfNums [bt w j])) ++ (t.extract i t.size) ∨ q = 1 ∧ u = ((t.extract 0 i) ++ (strOfNums [bt w j])) ++ (t.extract (i + 1) t.size) ∨ q ≠ 0 ∧ q ≠ 1 ∧ u = (t.extract 0 i) ++ (t.extract (i + 1) t.size)) := by
      by_cases h0q : q = 0
      · exact ⟨_, by rw [ByteArray.size_append, ByteArray.size_append, z1, z2, z4]; omega, .inl ⟨h0q, rfl⟩⟩
      by_cases h1q : q = 1; rotate_left
      · exact ⟨_, by rw [ByteArray.size_append, z1, z3]; omega, .inr (.inr ⟨h0q, h1q, rfl⟩)⟩
      exact ⟨_, by rw [ByteArray.size_append, ByteArray.size_append, z1, z3, z4]; omega, .inr (.inl ⟨h1q, rfl⟩)⟩
    obtain ⟨u, hus, hq⟩ := hu
    obtain ⟨t', a', s', e, r1, r2, r3⟩ := ih u a3 s3 (by omega) (by omega) (by omega) (by omega)
    refine ⟨t', a', s', ?_, by omega, by omega, by omega⟩
    have := spoilt_j1 (by omega) hz (by omega) hi e1 e2 e3 j0 (by omega) ⟨u, hq, e⟩
    exact Ev_step (fun k => by rw [spec_l1Cur_spoilt.l0, if_pos hp, decide_eq_true hz]) this
theorem spoilt_ok {c : List Int} (hc : Bytes c) {a : Int} (s : Int) (t w : ByteArray) (h0 : 0 ≤ a) (h1 : a ≤ 999800) (hw : 1 ≤ w.size ∧ w.size ≤ 200) (ht : t.size ≤ 400000) :
    ∃ t' a' s', Ev (fun k => spec_l1Cur_spoilt.f k c a s t w) (t', a', s') ∧ t'.size ≤ t.size + 2 ∧ a ≤ a' ∧ a' ≤ a + 14 := by
  obtain ⟨x, a1, s1, e1, x0, x1, g1, g2⟩ := pick_ok hc s 2 h0 (by omega) (by omega)
  obtain ⟨x, rfl⟩ := Int.eq_ofNat_of_zero_le x0
  obtain ⟨t', a', s', e, r1, r2, r3⟩ := spoilt_l0 hc w hw (x + 1) t a1 s1 (by omega) (by omega) (by omega) (by omega)
  refine ⟨t', a', s', ?_, by omega, by omega, by omega⟩
  have w1 : wrap64 (1 + (x : Int)) = ((x + 1 : Nat) : Int) := by rw [w64 (by omega) (by omega)]; omega
  simp only [spec_l1Cur_spoilt.f, e1, Option.bind_some, w1]
  exact e

def num (n : Nat) : ByteArray := ⟨(Lib.decDigits n).toArray⟩
theorem num_data (n : Nat) : (num n).data.toList = Lib.decDigits n := rfl
theorem mk_app (a b : List UInt8) : (⟨a.toArray⟩ : ByteArray) ++ (⟨b.toArray⟩ : ByteArray) = ⟨(a ++ b).toArray⟩ := by
  apply ByteArray.ext
  rw [ByteArray.data_append]
  simp
theorem mk_data (a : ByteArray) : (⟨a.data.toList.toArray⟩ : ByteArray) = a := by
  apply ByteArray.ext
  simp
theorem ten (a : Nat) (h : a < 10) : a = 0 ∨ a = 1 ∨ a = 2 ∨ a = 3 ∨ a = 4 ∨ a = 5 ∨ a = 6 ∨ a = 7 ∨ a = 8 ∨ a = 9 := by omega
theorem digitP (a : Nat) (h : a < 10) : strOfNums [wrap64 (48 + (a : Int)) % 256] = (⟨[UInt8.ofNat (48 + a)].toArray⟩ : ByteArray) := by
  rw [w64 (by omega) (by omega)]
  rcases ten a h with rfl | rfl | rfl | rfl | rfl | rfl | rfl | rfl | rfl | rfl <;> rfl
theorem num_small (a : Nat) (h : a < 10) : num a = ⟨[UInt8.ofNat (48 + a)].toArray⟩ := by unfold num; rw [Lib.decDigits_one h]
theorem num_big (a : Nat) (h : ¬ a < 10) : num a = num (a / 10) ++ (⟨[UInt8.ofNat (48 + a % 10)].toArray⟩ : ByteArray) := by
  unfold num
  rw [mk_app, Lib.decDigits, dif_neg h]
theorem num_size1 (a : Nat) (h : a < 10) : (num a).size = 1 := by rw [num_small a h]; rfl
theorem num_size : ∀ (n a : Nat), a < 10 ^ (n + 1) → (num a).size ≤ n + 1 := by
  intro n
  induction n with
  | zero => intro a h; rw [num_size1 a (by omega)]; omega
  | succ n ih =>
    intro a h
    by_cases h1 : a < 10
    · rw [num_size1 a h1]; omega
    rw [num_big a h1, ByteArray.size_append]
    have := ih (a / 10) (by rw [Nat.pow_succ] at h; omega)
    have e : (⟨[UInt8.ofNat (48 + a % 10)].toArray⟩ : ByteArray).size = 1 := rfl
    omega
theorem num_ev (n : Nat) : ∀ (a : Nat), a < 10 ^ (n + 1) → a ≤ 1000000 → Ev (fun k => spec_l1Num.f k (a : Int)) (num a) := by
  induction n with
  | zero =>
    intro a h h2
    refine Ev_step (fun k => by rw [spec_l1Num.f, if_pos (by omega), digitP a (by omega), ← num_small a (by omega)]) (Ev.now _)
  | succ n ih =>
    intro a h h2
    by_cases h1 : a < 10
    · exact Ev_step (fun k => by rw [spec_l1Num.f, if_pos (by omega), digitP a (by omega), ← num_small a (by omega)]) (Ev.now _)
    have e1 : wrap64 (Int.tdiv (a : Int) 10) = ((a / 10 : Nat) : Int) := by
      have : Int.tdiv (a : Int) 10 = ((a / 10 : Nat) : Int) := rfl
      rw [this, w64 (by omega) (by omega)]
    have e2 : Int.tmod (a : Int) 10 = ((a % 10 : Nat) : Int) := rfl
    refine Ev_step (fun k => by rw [spec_l1Num.f, if_neg (by omega), e1, e2]) ?_
    refine Ev_bind (ih (a / 10) (by rw [Nat.pow_succ] at h; omega) (by omega)) ?_
    refine Ev_some rfl ?_
    rw [digitP (a % 10) (by omega)]
    have := num_size 6 (a / 10) (by omega)
    have e : (⟨[UInt8.ofNat (48 + a % 10)].toArray⟩ : ByteArray).size = 1 := rfl
    refine Ev_pos (by omega) ?_
    rw [← num_big a h1]
    exact Ev.now _
theorem itoaP (a : Nat) (h : a ≤ 1000000) : itoa.f (a : Int) = some (num a) := by
  unfold itoa.f
  rw [if_pos (by omega)]
  unfold Lib.itoa
  rw [if_neg (by omega)]
  rfl
theorem app_data (a b : ByteArray) : (a ++ b).data.toList = a.data.toList ++ b.data.toList := by
  rw [ByteArray.data_append]
  simp
theorem size_list (a : ByteArray) : a.data.toList.length = a.size := by rw [Array.length_toList]; rfl
def J (l : List ByteArray) : ByteArray := ⟨(joinB l (⟨#[44]⟩ : ByteArray)).toArray⟩
theorem J_one (y : ByteArray) : J [y] = y := by
  unfold J joinB
  rw [List.map_cons, List.map_nil, Lib.join_one, mk_data]
theorem J_snoc (x : ByteArray) (l : List ByteArray) (y : ByteArray) : J ((x :: l) ++ [y]) = (J (x :: l) ++ (⟨#[44]⟩ : ByteArray)) ++ y := by
  apply ByteArray.ext
  apply Array.toList_inj.1
  rw [app_data, app_data]
  unfold J joinB
  simp only [List.cons_append, List.map_cons, List.map_append, List.map_nil, Lib.join_cons, Lib.joinTail, List.flatten_append, List.flatten_cons, List.flatten_nil, List.append_nil, List.append_assoc]

def mkB (l : List UInt8) : ByteArray := ⟨l.toArray⟩
def cut (b : UInt8) : List UInt8 → List UInt8 → List (List UInt8)
  | acc, [] => [acc]
  | acc, c :: r => if c = b then acc :: cut b [] r else cut b (acc ++ [c]) r
theorem cut_free (b : UInt8) : ∀ (l acc : List UInt8), b ∉ l → cut b acc l = [acc ++ l] := by
  intro l
  induction l with
  | nil => intro acc _; rw [cut, List.append_nil]
  | cons c r ih =>
    intro acc h
    rw [List.mem_cons, not_or] at h
    rw [cut, if_neg (fun e => h.1 e.symm), ih _ h.2, List.append_assoc, List.singleton_append]
theorem cut_sep (b : UInt8) (r : List UInt8) : ∀ (l acc : List UInt8), b ∉ l → cut b acc (l ++ b :: r) = (acc ++ l) :: cut b [] r := by
  intro l
  induction l with
  | nil => intro acc _; rw [List.nil_append, cut, if_pos rfl, List.append_nil]
  | cons c l ih =>
    intro acc h
    rw [List.mem_cons, not_or] at h
    rw [List.cons_append, cut, if_neg (fun e => h.1 e.symm), ih _ h.2, List.append_assoc, List.singleton_append]
theorem cut_pos (b : UInt8) : ∀ (l acc : List UInt8), 0 < (cut b acc l).length := by
  intro l
  induction l with
  | nil => intro acc; rw [cut]; exact Nat.one_pos
  | cons c r ih =>
    intro acc
    rw [cut]
    split
    · exact Nat.succ_pos _
    · exact ih _
theorem mkB_data (s : ByteArray) : mkB s.data.toList = s := mk_data s
theorem bt_list (s : ByteArray) (i : Nat) : bt s (i : Int) = (((s.data.toList[i]?).getD 0).toNat : Int) := by
  unfold bt
  rw [Int.toNat_natCast]
  by_cases h : i < s.size; rotate_left
  · rw [dif_neg h, List.getElem?_eq_none (by simpa using h)]
    rfl
  rw [dif_pos h, List.getElem?_eq_getElem (by simpa using h)]
  rfl
theorem split_l0 (s : ByteArray) (b : UInt8) (hs : s.size ≤ 1000) : ∀ (n i f : Nat) (out : List ByteArray), i + n = s.size → f ≤ i → out.length ≤ i →
    Ev (fun k => spec_l1Split.l0 k s ((b.toNat : Nat) : Int) out (f : Int) (i : Int)) (out ++ (cut b ((s.data.toList.take i).drop f) (s.data.toList.drop i)).map mkB) := by
  have hz : s.size = s.data.toList.length := Lib.size_eq s
  intro n
  induction n with
  | zero =>
    intro i f out hi hf ho
    refine Ev_step (fun k => by rw [spec_l1Split.l0, if_neg (by omega), if_pos (by omega), if_pos (by omega), if_pos (by omega), Int.toNat_natCast]) ?_
    have e : (cut b ((s.data.toList.take i).drop f) (s.data.toList.drop i)).map mkB = [s.extract f s.size] := by
      have ed : s.data.toList.drop i = [] := List.drop_of_length_le (by omega)
      rw [ed, cut, List.map_cons, List.map_nil]
      congr 1
      rw [← mkB_data (s.extract f s.size), Lib.extract_data, List.drop_take, show i = s.size by omega]
    rw [e]
    exact Ev.now _
  | succ n ih =>
    intro i f out hi hf ho
    have h : i < s.data.toList.length := by omega
    have w : wrap64 ((i : Int) + 1) = ((i + 1 : Nat) : Int) := by rw [w64 (by omega) (by omega)]; omega
    have hd : s.data.toList.drop i = s.data.toList[i] :: s.data.toList.drop (i + 1) := List.drop_eq_getElem_cons h
    have hb : bt s (i : Int) = ((s.data.toList[i].toNat : Nat) : Int) := by rw [bt_list, List.getElem?_eq_getElem h]; rfl
    refine Ev_step (fun k => by rw [spec_l1Split.l0, if_pos (by omega), if_pos (by omega), hb, w, Int.toNat_natCast, Int.toNat_natCast]) ?_
    rw [hd, cut]
    by_cases hc : s.data.toList[i] = b; rotate_left
    · rw [if_neg hc]
      refine Ev_neg (fun e => hc (UInt8.toNat_inj.1 (by omega))) ?_
      have hi2 := ih (i + 1) f out (by omega) (by omega) (by omega)
      have e : (s.data.toList.take (i + 1)).drop f = (s.data.toList.take i).drop f ++ [s.data.toList[i]] := by
        rw [List.take_succ_eq_append_getElem h, List.drop_append_of_le_length (by rw [List.length_take]; omega)]
      rw [e] at hi2
      exact hi2
    rw [if_pos hc]
    refine Ev_pos (by rw [hc]) (Ev_pos (by omega) (Ev_pos (by omega) (Ev_pos (by omega) (Ev_pos (by omega) ?_))))
    have hi2 := ih (i + 1) (i + 1) (out ++ [s.extract f i]) (by omega) (by omega) (by rw [List.length_append]; simp only [List.length_cons, List.length_nil]; omega)
    rw [List.drop_of_length_le (by rw [List.length_take]; omega), List.append_assoc, List.singleton_append] at hi2
    rw [List.map_cons]
    have e : mkB ((s.data.toList.take i).drop f) = s.extract f i := by rw [← mkB_data (s.extract f i), Lib.extract_data, List.drop_take]
    rw [e]
    exact hi2
theorem split_ev (s : ByteArray) (b : UInt8) (hs : s.size ≤ 1000) : Ev (fun k => spec_l1Split.f k s ((b.toNat : Nat) : Int)) ((cut b [] s.data.toList).map mkB) := by
  have := split_l0 s b hs s.size 0 0 [] (by omega) (by omega) (by simp)
  exact Ev.congr (fun k => by rw [spec_l1Split.f]; rfl) this
theorem split_or (b : UInt8) : ∀ l : List UInt8, b ∉ l ∨ ∃ a r, l = a ++ b :: r ∧ b ∉ a := by
  intro l
  induction l with
  | nil => exact .inl (by simp)
  | cons c l ih =>
    by_cases h : c = b
    · exact .inr ⟨[], l, by rw [h]; rfl, by simp⟩
    rcases ih with h1 | ⟨a, r, h1, h2⟩
    · exact .inl (by rw [List.mem_cons, not_or]; exact ⟨fun e => h e.symm, h1⟩)
    · exact .inr ⟨c :: a, r, by rw [h1]; rfl, by rw [List.mem_cons, not_or]; exact ⟨fun e => h e.symm, h2⟩⟩
theorem index_free (b : UInt8) : ∀ l : List UInt8, b ∉ l → Lib.index l [b] = -1 := by
  intro l
  induction l with
  | nil => intro _; rfl
  | cons c l ih =>
    intro h
    rw [List.mem_cons, not_or] at h
    have h1 : (b == c) = false := beq_eq_false_iff_ne.2 h.1
    rw [Lib.index, ih h.2]
    simp [List.isPrefixOf, h1]
theorem index_sep (b : UInt8) (r : List UInt8) : ∀ a : List UInt8, b ∉ a → Lib.index (a ++ b :: r) [b] = (a.length : Int) := by
  intro a
  induction a with
  | nil => intro _; rw [List.nil_append, Lib.index]; simp [List.isPrefixOf]
  | cons c a ih =>
    intro h
    rw [List.mem_cons, not_or] at h
    have h1 : (b == c) = false := beq_eq_false_iff_ne.2 h.1
    rw [List.cons_append, Lib.index, ih h.2]
    have h2 : ((a.length : Int) == -1) = false := beq_eq_false_iff_ne.2 (by omega)
    simp [List.isPrefixOf, h1, h2]
theorem splitK_cut (b : UInt8) : ∀ (k : Nat) (l : List UInt8), (cut b [] l).length ≤ k + 1 → Lib.splitK [b] 0 k l = cut b [] l := by
  intro k
  induction k with
  | zero =>
    intro l h
    rcases split_or b l with h1 | ⟨a, r, rfl, h2⟩
    · rw [cut_free b l [] h1]; rfl
    · rw [cut_sep b r a [] h2, List.length_cons] at h
      have := cut_pos b r []
      omega
  | succ k ih =>
    intro l h
    rcases split_or b l with h1 | ⟨a, r, rfl, h2⟩
    · rw [cut_free b l [] h1, Lib.splitK, index_free b l h1]
      rfl
    · rw [cut_sep b r a [] h2, List.length_cons] at h
      have hm : ((a.length : Int) == -1) = false := beq_eq_false_iff_ne.2 (by omega)
      rw [cut_sep b r a [] h2, Lib.splitK, index_sep b r a h2, if_neg (by rw [hm]; exact Bool.false_ne_true), Int.toNat_natCast, List.nil_append, Nat.add_zero, List.take_left' rfl]
      congr 1
      have e : (a ++ b :: r).drop (a.length + [b].length) = r := by
        rw [show a ++ b :: r = (a ++ [b]) ++ r by simp, List.drop_left' (by simp)]
      rw [e]
      exact ih r (by omega)
theorem splitB_cut (b : UInt8) (k : Nat) (s : ByteArray) (h : (cut b [] s.data.toList).length ≤ k + 1) : Lib.splitB (mkB [b]) 0 k s = (cut b [] s.data.toList).map mkB := by
  have e := Lib.splitB_data (mkB [b]) 0 k s
  have e2 : (mkB [b]).data.toList = [b] := rfl
  rw [e2, splitK_cut b k _ h] at e
  rw [← e, List.map_map]
  have : (mkB ∘ fun x : ByteArray => x.data.toList) = id := funext fun x => mkB_data x
  rw [this, List.map_id]
theorem cut_join (b : UInt8) : ∀ (r : List (List UInt8)) (x : List UInt8), b ∉ x → (∀ y ∈ r, b ∉ y) → cut b [] (Lib.join (x :: r) [b]) = x :: r := by
  intro r
  induction r with
  | nil => intro x hx _; rw [Lib.join_one, cut_free b x [] hx]; rfl
  | cons y r ih =>
    intro x hx hr
    have e : Lib.join (x :: y :: r) [b] = x ++ b :: Lib.join (y :: r) [b] := by
      rw [Lib.join_cons, Lib.join_cons, Lib.joinTail, List.map_cons, List.flatten_cons, Lib.joinTail]
      simp
    rw [e, cut_sep b _ x [] hx, List.nil_append, ih y (hr y (by simp)) (fun z hz => hr z (by simp [hz]))]
theorem dig_in : ∀ (n : Nat), ∀ c ∈ Lib.decDigits n, 48 ≤ c.toNat ∧ c.toNat ≤ 57 := by
  intro n
  induction n using Nat.strongRecOn with
  | ind n ih =>
    intro c hc
    have one : ∀ d, d < 10 → c = UInt8.ofNat (48 + d) → 48 ≤ c.toNat ∧ c.toNat ≤ 57 := by
      intro d hd e
      rw [e, UInt8.toNat_ofNat']
      omega
    by_cases h : n < 10
    · rw [Lib.decDigits_one h, List.mem_singleton] at hc
      exact one n h hc
    rw [Lib.decDigits, dif_neg h, List.mem_append, List.mem_singleton] at hc
    rcases hc with hc | hc
    · exact ih (n / 10) (by omega) c hc
    · exact one _ (by omega) hc
theorem dig_free (n : Nat) (b : UInt8) (hb : b.toNat < 48) : b ∉ Lib.decDigits n := fun h => by have := dig_in n b h; omega
theorem digitVal_of (d : Nat) (h : d < 10) : Lib.digitVal (UInt8.ofNat (48 + d)) = some d := by
  rcases ten d h with rfl | rfl | rfl | rfl | rfl | rfl | rfl | rfl | rfl | rfl <;> rfl
theorem decFrom_app : ∀ (l r : List UInt8) (a : Nat), Lib.decFrom a (l ++ r) = (Lib.decFrom a l).bind (Lib.decFrom · r) := by
  intro l
  induction l with
  | nil => intro r a; rfl
  | cons c l ih =>
    intro r a
    rw [List.cons_append, Lib.decFrom, Lib.decFrom]
    cases Lib.digitVal c with
    | none => rfl
    | some d => exact ih r _
theorem decFrom_dig : ∀ (n : Nat), Lib.decFrom 0 (Lib.decDigits n) = some n := by
  intro n
  induction n using Nat.strongRecOn with
  | ind n ih =>
    by_cases h : n < 10
    · rw [Lib.decDigits_one h, Lib.decFrom, digitVal_of n h]
      simp [Lib.decFrom]
    rw [Lib.decDigits, dif_neg h, decFrom_app, ih (n / 10) (by omega), Option.bind_some, Lib.decFrom, digitVal_of _ (by omega)]
    simp only [Lib.decFrom]
    congr 1
    omega
theorem dig_len (n : Nat) (h : n ≤ 1000000) : (Lib.decDigits n).length ≤ 7 := by
  have := num_size 6 n (by omega)
  rw [← size_list, num_data] at this
  exact this
theorem atoiAll_dig (n : Nat) (h : n ≤ 1000000) : Lib.atoiAll (Lib.decDigits n) = .ok (n : Int) := by
  rw [Lib.atoiAll_short _ (by have := dig_len n h; omega)]
  have hp : Lib.decDigits n ≠ [] := by
    by_cases h1 : n < 10; rotate_left
    · rw [Lib.decDigits, dif_neg h1]; simp
    rw [Lib.decDigits_one h1]; simp
  have hd := decFrom_dig n
  have hi := dig_in n
  rcases hc : Lib.decDigits n with _ | ⟨c, r⟩
  · exact absurd hc hp
  · rw [hc] at hd hi
    have h0 := hi c (by simp)
    have h1 : (c == 45) = false := beq_eq_false_iff_ne.2 (fun e => by rw [e] at h0; have : (45 : UInt8).toNat = 45 := rfl; omega)
    have h2 : (c == 43) = false := beq_eq_false_iff_ne.2 (fun e => by rw [e] at h0; have : (43 : UInt8).toNat = 43 := rfl; omega)
    have e : Lib.atoi (c :: r) = some (n : Int) := by
      simp [Lib.atoi, Lib.decNat, hd, h1, h2]
    rw [e]
    rfl

def rdL : Int → List UInt8 → Int
  | x, [] => x
  | x, c :: r => if c.toNat < 48 then -1 else if c.toNat > 57 then -1 else rdL (10 * x + ((c.toNat : Int) - 48)) r
theorem pow6 (i : Nat) (h : i ≤ 5) : (10 : Int) ^ i ≤ 100000 := by
  have : i = 0 ∨ i = 1 ∨ i = 2 ∨ i = 3 ∨ i = 4 ∨ i = 5 := by omega
  rcases this with rfl | rfl | rfl | rfl | rfl | rfl <;> decide
theorem read_l0 (s : ByteArray) (hs : s.size ≤ 6) : ∀ (n i : Nat) (x : Int), i + n = s.size → 0 ≤ x → x < (10 : Int) ^ i → Ev (fun k => spec_l1Read.l0 k s x (i : Int)) (rdL x (s.data.toList.drop i)) := by
  have hz : s.size = s.data.toList.length := Lib.size_eq s
  intro n
  induction n with
  | zero =>
    intro i x hi h0 hx
    rw [List.drop_of_length_le (by omega), rdL]
    exact Ev_step (fun k => by rw [spec_l1Read.l0, if_neg (by omega)]) (Ev.now _)
  | succ n ih =>
    intro i x hi h0 hx
    have h : i < s.data.toList.length := by omega
    have hp := pow6 i (by omega)
    have w : wrap64 ((i : Int) + 1) = ((i + 1 : Nat) : Int) := by rw [w64 (by omega) (by omega)]; omega
    have hb : bt s (i : Int) = ((s.data.toList[i].toNat : Nat) : Int) := by rw [bt_list, List.getElem?_eq_getElem h]; rfl
    rw [List.drop_eq_getElem_cons h, rdL]
    refine Ev_step (fun k => by rw [spec_l1Read.l0, if_pos (by omega), if_pos (by omega), hb, w]) ?_
    generalize s.data.toList[i].toNat = c
    by_cases h1 : c < 48
    · rw [if_pos h1]
      exact Ev_pos (by omega) (Ev.now _)
    rw [if_neg h1]
    by_cases h2 : c > 57
    · rw [if_pos h2]
      exact Ev_neg (by omega) (Ev_pos (by omega) (Ev.now _))
    rw [if_neg h2]
    refine Ev_neg (by omega) (Ev_neg (by omega) ?_)
    have e : wrap64 (wrap64 (10 * x) + ((c : Int) - 48) % 256) = 10 * x + ((c : Int) - 48) := by
      rw [w64 (x := 10 * x) (by omega) (by omega), w64 (by omega) (by omega)]
      omega
    rw [e]
    exact ih (i + 1) _ (by omega) (by omega) (by rw [Int.pow_succ]; omega)
theorem read_any (s : ByteArray) : ∃ v, Ev (fun k => spec_l1Read.f k s) v := by
  simp only [spec_l1Read.f, l1In_eq, Option.bind_some]
  have jt : Ev (fun k => spec_l1Read.j0 k s true) (-1) := Ev_step (fun k => by rw [spec_l1Read.j0, if_pos rfl]) (Ev.now _)
  by_cases h : inB (s.size : Int) 1 6 = true; rotate_left
  · exact ⟨_, Ev_neg h jt⟩
  have h2 := of_decide_eq_true h
  have jf : Ev (fun k => spec_l1Read.j0 k s false) (rdL 0 s.data.toList) := by
    refine Ev_step (fun k => by rw [spec_l1Read.j0, if_neg (by decide)]) ?_
    exact read_l0 s (by omega) s.size 0 0 (by omega) (by omega) (by decide)
  by_cases h0 : bt s 0 = 48; rotate_left
  · exact ⟨_, Ev_pos h (Ev_pos (by omega) (Ev_neg h0 jf))⟩
  by_cases h3 : (s.size : Int) > 1; rotate_left
  · exact ⟨_, Ev_pos h (Ev_pos (by omega) (Ev_pos h0 (by rw [decide_eq_false h3]; exact jf)))⟩
  exact ⟨_, Ev_pos h (Ev_pos (by omega) (Ev_pos h0 (by rw [decide_eq_true h3]; exact jt)))⟩
theorem rdL_app : ∀ (l r : List UInt8) (x : Int), (∀ c ∈ l, 48 ≤ c.toNat ∧ c.toNat ≤ 57) → rdL x (l ++ r) = rdL (rdL x l) r := by
  intro l
  induction l with
  | nil => intro r x _; rfl
  | cons c l ih =>
    intro r x h
    have hc := h c (by simp)
    rw [List.cons_append, rdL, rdL, if_neg (by omega), if_neg (by omega), if_neg (by omega), if_neg (by omega)]
    exact ih r _ (fun d hd => h d (by simp [hd]))
theorem rdL_dig : ∀ (n : Nat), rdL 0 (Lib.decDigits n) = (n : Int) := by
  intro n
  induction n using Nat.strongRecOn with
  | ind n ih =>
    have one : ∀ d, d < 10 → ∀ x, rdL x [UInt8.ofNat (48 + d)] = 10 * x + (d : Int) := by
      intro d hd x
      have e : (UInt8.ofNat (48 + d)).toNat = 48 + d := by rw [UInt8.toNat_ofNat']; omega
      rw [rdL, rdL, e, if_neg (by omega), if_neg (by omega)]
      omega
    by_cases h : n < 10; rotate_left
    · rw [Lib.decDigits, dif_neg h, rdL_app _ _ _ (dig_in _), ih (n / 10) (by omega), one _ (by omega)]
      omega
    rw [Lib.decDigits_one h, one n h]
    omega
theorem dig_head : ∀ (n : Nat), 0 < n → (Lib.decDigits n)[0]? ≠ some 48 := by
  intro n
  induction n using Nat.strongRecOn with
  | ind n ih =>
    intro hn
    by_cases h : n < 10
    · rw [Lib.decDigits_one h]
      rcases ten n h with rfl | rfl | rfl | rfl | rfl | rfl | rfl | rfl | rfl | rfl
      · omega
      all_goals decide
    rw [Lib.decDigits, dif_neg h]
    have h2 := ih (n / 10) (by omega) (by omega)
    rcases hc : Lib.decDigits (n / 10) with _ | ⟨c, r⟩
    · have hd := decFrom_dig (n / 10)
      rw [hc] at hd
      simp only [Lib.decFrom, Option.some.injEq] at hd
      omega
    · rw [hc] at h2
      exact h2
theorem read_num (a : Nat) (h : a ≤ 2000) : Ev (fun k => spec_l1Read.f k (num a)) (a : Int) := by
  have hs := num_size 3 a (by omega)
  have hp : 1 ≤ (num a).size := by
    by_cases h1 : a < 10
    · rw [num_size1 a h1]; omega
    rw [num_big a h1, ByteArray.size_append]
    have e : (⟨[UInt8.ofNat (48 + a % 10)].toArray⟩ : ByteArray).size = 1 := rfl
    omega
  simp only [spec_l1Read.f, l1In_eq, Option.bind_some]
  have hi : inB ((num a).size : Int) 1 6 = true := decide_eq_true ⟨by omega, by omega⟩
  have jf : Ev (fun k => spec_l1Read.j0 k (num a) false) (a : Int) := by
    refine Ev_step (fun k => by rw [spec_l1Read.j0, if_neg (by decide)]) ?_
    have := read_l0 (num a) (by omega) (num a).size 0 0 (by omega) (by omega) (by decide)
    rw [List.drop_zero, num_data, rdL_dig] at this
    exact this
  by_cases h0 : bt (num a) 0 = 48; rotate_left
  · exact Ev_pos hi (Ev_pos (by omega) (Ev_neg h0 jf))
  have ha : a = 0 := by
    rcases Nat.eq_zero_or_pos a with h1 | h1
    · exact h1
    · exfalso
      have hb := bt_list (num a) 0
      rw [num_data] at hb
      have h2 := dig_head a h1
      have h3 : (((Lib.decDigits a)[0]?).getD 0).toNat = 48 := by have : ((0 : Nat) : Int) = 0 := rfl; rw [this] at hb; omega
      rcases hc : (Lib.decDigits a)[0]? with _ | c
      · rw [hc] at h3; exact absurd h3 (by decide)
      · rw [hc] at h3 h2
        exact h2 (congrArg some (UInt8.toNat_inj.1 h3))
  have h3 : ¬ ((num a).size : Int) > 1 := by rw [ha, num_size1 0 (by omega)]; omega
  exact Ev_pos hi (Ev_pos (by omega) (Ev_pos h0 (by rw [decide_eq_false h3]; exact jf)))
theorem atoi_num (a : Nat) (h : a ≤ 2000) : atoi.f (num a) = some ((a : Int), none) := by
  have hs := num_size 3 a (by omega)
  unfold atoi.f
  rw [if_pos (by omega), num_data, atoiAll_dig a (by omega)]
theorem atoi_any (s : ByteArray) (h : s.size ≤ 281474976710656) : ∃ v e, atoi.f s = some (v, e) := by
  unfold atoi.f
  rw [if_pos h]
  cases Lib.atoiAll s.data.toList <;> exact ⟨_, _, rfl⟩

theorem rdB (l : List ByteArray) (i : Nat) (h : i < l.length) : rdOf ByteArray.empty l (i : Int) = l[i] := by unfold rdOf; rw [Int.toNat_natCast, getD_at l _ h]
theorem cut_le (b : UInt8) : ∀ (l acc : List UInt8), (cut b acc l).length ≤ l.length + 1 := by
  intro l
  induction l with
  | nil => intro acc; rw [cut]; simp
  | cons c r ih =>
    intro acc
    rw [cut, List.length_cons]
    split
    · have := ih []
      rw [List.length_cons]
      omega
    · have := ih (acc ++ [c])
      omega
theorem splitK_len (b : UInt8) : ∀ (k : Nat) (l : List UInt8), k + 1 ≤ (cut b [] l).length → (Lib.splitK [b] 0 k l).length = k + 1 := by
  intro k
  induction k with
  | zero => intro l _; rfl
  | succ k ih =>
    intro l h
    rcases split_or b l with h1 | ⟨a, r, rfl, h2⟩
    · rw [cut_free b l [] h1] at h
      simp at h
    · rw [cut_sep b r a [] h2, List.length_cons] at h
      have hm : ((a.length : Int) == -1) = false := beq_eq_false_iff_ne.2 (by omega)
      have e : (a ++ b :: r).drop (a.length + [b].length) = r := by
        rw [show a ++ b :: r = (a ++ [b]) ++ r by simp, List.drop_left' (by simp)]
      rw [Lib.splitK, index_sep b r a h2, if_neg (by rw [hm]; exact Bool.false_ne_true), Int.toNat_natCast, List.length_cons, e, ih r (by omega)]
theorem join_cut (b : UInt8) : ∀ (n : Nat) (l : List UInt8), l.length ≤ n → Lib.join (cut b [] l) [b] = l := by
  intro n
  induction n with
  | zero =>
    intro l h
    obtain rfl : l = [] := List.eq_nil_of_length_eq_zero (by omega)
    rw [cut, Lib.join_one]
  | succ n ih =>
    intro l h
    rcases split_or b l with h1 | ⟨a, r, rfl, h2⟩
    · rw [cut_free b l [] h1, Lib.join_one, List.nil_append]
    · rw [List.length_append, List.length_cons] at h
      have hr := ih r (by omega)
      rw [cut_sep b r a [] h2, List.nil_append]
      rcases hc : cut b [] r with _ | ⟨y, ys⟩
      · have := cut_pos b r []
        rw [hc] at this
        simp at this
      · rw [hc] at hr
        have e : Lib.join (a :: y :: ys) [b] = a ++ b :: Lib.join (y :: ys) [b] := by
          rw [Lib.join_cons, Lib.join_cons, Lib.joinTail, List.map_cons, List.flatten_cons, Lib.joinTail]
          simp
        rw [e, hr]
theorem split_size (sep : ByteArray) : ∀ (k : Nat) (s : ByteArray), ∀ x ∈ Lib.splitB sep 0 k s, x.size ≤ s.size := by
  intro k
  induction k with
  | zero => intro s x hx; rw [Lib.splitB, List.mem_singleton] at hx; rw [hx]; exact Nat.le_refl _
  | succ k ih =>
    intro s x hx
    rw [Lib.splitB] at hx
    split at hx
    · rw [List.mem_singleton] at hx; rw [hx]; exact Nat.le_refl _
    · rw [List.mem_cons] at hx
      rcases hx with rfl | hx
      · rw [ByteArray.size_extract]; omega
      · have := ih _ x hx
        rw [ByteArray.size_extract] at this
        omega
theorem data_mkB (l : List UInt8) : (mkB l).data.toList = l := rfl
theorem mkB_size (l : List UInt8) : (mkB l).size = l.length := by rw [← size_list, data_mkB]
theorem Ev_one {α : Type} {g : Nat → Option α} {a b : α} (h1 : Ev g a) (h2 : Ev g b) : a = b := by
  obtain ⟨K, hK⟩ := h1
  obtain ⟨M, hM⟩ := h2
  have x := hK (max K M) (Nat.le_max_left _ _)
  have y := hM (max K M) (Nat.le_max_right _ _)
  rw [x] at y
  exact Option.some.inj y
theorem rdL_neg : ∀ (l : List UInt8) (x : Int), 0 ≤ rdL x l → 0 ≤ x → ∀ c ∈ l, 48 ≤ c.toNat ∧ c.toNat ≤ 57 := by
  intro l
  induction l with
  | nil => intro x _ _ c hc; cases hc
  | cons d l ih =>
    intro x h h0 c hc
    rw [rdL] at h
    by_cases h1 : d.toNat < 48
    · rw [if_pos h1] at h; omega
    rw [if_neg h1] at h
    by_cases h2 : d.toNat > 57
    · rw [if_pos h2] at h; omega
    rw [if_neg h2] at h
    rcases List.mem_cons.1 hc with rfl | hc
    · omega
    · exact ih _ h (by omega) c hc
theorem rdL_pos : ∀ (l : List UInt8) (x : Int), 0 ≤ x → (∀ c ∈ l, 48 ≤ c.toNat ∧ c.toNat ≤ 57) → 0 ≤ rdL x l := by
  intro l
  induction l with
  | nil => intro x h _; exact h
  | cons d l ih =>
    intro x h0 h
    have hd := h d (by simp)
    rw [rdL, if_neg (by omega), if_neg (by omega)]
    exact ih _ (by omega) (fun c hc => h c (by simp [hc]))
theorem digit_back (c : UInt8) (h : 48 ≤ c.toNat ∧ c.toNat ≤ 57) : UInt8.ofNat (48 + (c.toNat - 48)) = c := by
  apply UInt8.toNat_inj.1
  rw [UInt8.toNat_ofNat']
  omega
theorem dig_back : ∀ (n : Nat) (l : List UInt8), l.length = n + 1 → (∀ c ∈ l, 48 ≤ c.toNat ∧ c.toNat ≤ 57) → (l.length = 1 ∨ l[0]? ≠ some 48) → Lib.decDigits (rdL 0 l).toNat = l := by
  intro n
  induction n with
  | zero =>
    intro l hl hd _
    rcases l with _ | ⟨c, _ | ⟨d, l⟩⟩
    · simp at hl
    · have hc := hd c (by simp)
      rw [rdL, if_neg (by omega), if_neg (by omega), rdL]
      have e : (10 * 0 + ((c.toNat : Int) - 48)).toNat = c.toNat - 48 := by omega
      rw [e, Lib.decDigits_one (by omega), digit_back c hc]
    · simp at hl
  | succ n ih =>
    intro l hl hd hh
    have hne : l ≠ [] := fun e => by rw [e] at hl; simp at hl
    have e := List.dropLast_concat_getLast hne
    have hlen : l.dropLast.length = n + 1 := by rw [List.length_dropLast]; omega
    have hc := hd _ (List.getLast_mem hne)
    have hd2 : ∀ c ∈ l.dropLast, 48 ≤ c.toNat ∧ c.toNat ≤ 57 := fun c hc => hd c (List.dropLast_subset _ hc)
    have h0 : l.dropLast[0]? = l[0]? := by
      rw [List.getElem?_dropLast, if_pos (by omega)]
    have hh2 : l[0]? ≠ some 48 := by rcases hh with g | g; · omega
                                     · exact g
    have i := ih l.dropLast hlen hd2 (Or.inr (by rw [h0]; exact hh2))
    have p := rdL_pos l.dropLast 0 (by omega) hd2
    generalize l.getLast hne = c at e hc
    have m1 : 1 ≤ (rdL 0 l.dropLast).toNat := by
      rcases Nat.eq_zero_or_pos (rdL 0 l.dropLast).toNat with g | g
      · rw [g, Lib.decDigits_one (by omega)] at i
        exfalso
        apply hh2
        rw [← h0, ← i]
        rfl
      · exact g
    have s : rdL 0 l = 10 * rdL 0 l.dropLast + ((c.toNat : Int) - 48) := by
      rw [← e, rdL_app _ _ _ hd2, rdL, if_neg (by omega), if_neg (by omega), rdL, List.dropLast_concat]
    have q : (rdL 0 l).toNat = 10 * (rdL 0 l.dropLast).toNat + (c.toNat - 48) := by omega
    rw [q, Lib.decDigits, dif_neg (by omega), show (10 * (rdL 0 l.dropLast).toNat + (c.toNat - 48)) / 10 = (rdL 0 l.dropLast).toNat by omega, show (10 * (rdL 0 l.dropLast).toNat + (c.toNat - 48)) % 10 = c.toNat - 48 by omega, i, digit_back c hc]
    exact e
theorem read_back {s : ByteArray} {v : Int} (h : Ev (fun k => spec_l1Read.f k s) v) (h0 : 0 ≤ v) : s = num v.toNat := by
  simp only [spec_l1Read.f, l1In_eq, Option.bind_some] at h
  have jt : Ev (fun k => spec_l1Read.j0 k s true) (-1) := Ev_step (fun k => by rw [spec_l1Read.j0, if_pos rfl]) (Ev.now _)
  by_cases hi : inB (s.size : Int) 1 6 = true; rotate_left
  · have := Ev_one h (Ev_neg hi jt)
    omega
  have h2 := of_decide_eq_true hi
  have hz : s.size = s.data.toList.length := Lib.size_eq s
  have jf : Ev (fun k => spec_l1Read.j0 k s false) (rdL 0 s.data.toList) := by
    refine Ev_step (fun k => by rw [spec_l1Read.j0, if_neg (by decide)]) ?_
    exact read_l0 s (by omega) s.size 0 0 (by omega) (by omega) (by decide)
  have fin : v = rdL 0 s.data.toList → (s.data.toList.length = 1 ∨ s.data.toList[0]? ≠ some 48) → s = num v.toNat := fun e hh => by
    have hd := rdL_neg s.data.toList 0 (by omega) (by omega)
    have := dig_back (s.data.toList.length - 1) s.data.toList (by omega) hd hh
    rw [← e] at this
    unfold num
    rw [this, mk_data]
  by_cases h3 : bt s 0 = 48; rotate_left
  · refine fin (Ev_one h (Ev_pos hi (Ev_pos (by omega) (Ev_neg h3 jf)))) (Or.inr (fun e => h3 ?_))
    have hb := bt_list s 0
    rw [e] at hb
    exact hb
  by_cases h4 : (s.size : Int) > 1; rotate_left
  · exact fin (Ev_one h (Ev_pos hi (Ev_pos (by omega) (Ev_pos h3 (by rw [decide_eq_false h4]; exact jf))))) (Or.inl (by omega))
  have := Ev_one h (Ev_pos hi (Ev_pos (by omega) (Ev_pos h3 (by rw [decide_eq_true h4]; exact jt))))
  omega

def wd (x : Int) : ByteArray := num x.toNat
def jt (l : List Int) : ByteArray := J (l.map wd)
def txt (l : List Int) (c : Int) : ByteArray := (jt l ++ (⟨#[99]⟩ : ByteArray)) ++ wd c
theorem com44 : (⟨#[44]⟩ : ByteArray).size = 1 := rfl
theorem com99 : (⟨#[99]⟩ : ByteArray).size = 1 := rfl
theorem wd_size {x : Int} (h : x ≤ 999) : (wd x).size ≤ 3 := num_size 2 _ (by omega)
theorem J_next4 (l : List ByteArray) (y : ByteArray) (m : Nat) (hm : l.length = m) (hy : y.size ≤ 3) (h : (J l).size ≤ 4 * m - 1) : (J (l ++ [y])).size ≤ 4 * (m + 1) - 1 := by
  rcases l with _ | ⟨x, l⟩
  · rw [List.nil_append, J_one]; omega
  · have : 1 ≤ m := by rw [← hm]; simp
    rw [J_snoc, ByteArray.size_append, ByteArray.size_append, com44]
    omega
theorem J_nil : J [] = ⟨#[]⟩ := rfl
theorem text_l0 (l : List Int) (c : Int) (hn : l.length ≤ 1000) (hl : ∀ x ∈ l, 0 ≤ x ∧ x ≤ 999) {r : ByteArray} (nxS : Ev (fun k => spec_shText.l0 k (jt l) l (l.length : Int) (l.length : Int) l c) r) : ∀ (n i : Nat), i + n = l.length → (J ((l.take i).map wd)).size ≤ 4 * i - 1 →
    (jt l).size ≤ 4 * l.length - 1 ∧ Ev (fun k => spec_shText.l0 k (J ((l.take i).map wd)) l (l.length : Int) (i : Int) l c) r ∧ Ev (fun k => impl_joined.l0 k (⟨#[44]⟩ : ByteArray) ((l.take i).map wd) l (l.length : Int) (i : Int)) (jt l) := by
  intro n
  induction n with
  | zero =>
    intro i hi hs
    obtain rfl : i = l.length := by omega
    rw [List.take_length] at hs ⊢
    refine ⟨hs, nxS, Ev_step (fun k => by rw [impl_joined.l0, if_neg (by omega)]) ?_⟩
    refine Ev_some (a := J (l.map wd)) ?_ (Ev.now _)
    unfold strjoin.f
    have hz : (joinB (l.map wd) ⟨#[44]⟩).length ≤ 4 * l.length - 1 := hs
    rw [if_pos ⟨by omega, by rw [List.length_map]; omega⟩]
    rfl
  | succ n ih =>
    intro i hi hs
    have h : i < l.length := by omega
    have ht : (l.take (i + 1)).map wd = (l.take i).map wd ++ [wd l[i]] := by rw [List.take_succ_eq_append_getElem h, List.map_append]; rfl
    have hr : rd l (i : Int) = l[i] := by unfold rd; rw [Int.toNat_natCast, getD_at l _ h]
    obtain ⟨v1, v2⟩ := hl _ (List.getElem_mem h)
    have hwz := wd_size v2
    have hlt : ((l.take i).map wd).length = i := by rw [List.length_map, List.length_take]; omega
    have hnx : (J ((l.take (i + 1)).map wd)).size ≤ 4 * (i + 1) - 1 := by rw [ht]; exact J_next4 _ _ i hlt hwz hs
    obtain ⟨e0, e1, e2⟩ := ih (i + 1) (by omega) hnx
    have sv : Ev (fun k => spec_l1Num.f k l[i]) (wd l[i]) := by
      have := num_ev 2 l[i].toNat (by omega) (by omega)
      rw [Int.toNat_of_nonneg v1] at this
      exact this
    have iv : itoa.f l[i] = some (wd l[i]) := by
      have := itoaP l[i].toNat (by omega)
      rw [Int.toNat_of_nonneg v1] at this
      exact this
    refine ⟨e0, Ev_step (fun k => by rw [spec_shText.l0, if_pos (by omega), if_pos (by omega), if_pos (by omega), hr, nextI i (by omega)]) ?_, Ev_step (fun k => by rw [impl_joined.l0, if_pos (by omega), if_pos (by omega), if_pos (by omega), hr, nextI i (by omega)]) ?_⟩
    · by_cases h0 : (i : Int) > 0
      · have hjn : J ((l.take (i + 1)).map wd) = (J ((l.take i).map wd) ++ (⟨#[44]⟩ : ByteArray)) ++ wd l[i] := by
          rw [ht]
          rcases hc : (l.take i).map wd with _ | ⟨y, ys⟩
          · rw [hc] at hlt
            simp only [List.length_nil] at hlt
            omega
          · rw [J_snoc]
        rw [hjn] at e1
        refine Ev_pos h0 (Ev_pos (by omega) (Ev_bind sv (Ev_pos ?_ e1)))
        simp only [ByteArray.size_append, com44]
        omega
      · have hjn : J ((l.take (i + 1)).map wd) = J ((l.take i).map wd) ++ wd l[i] := by
          rw [ht]
          have hc : (l.take i).map wd = [] := List.eq_nil_of_length_eq_zero (by omega)
          rw [hc, List.nil_append, J_one, J_nil]
          apply ByteArray.ext
          rw [ByteArray.data_append]
          simp
        rw [hjn] at e1
        exact Ev_neg h0 (Ev_bind sv (Ev_pos (by omega) e1))
    · refine Ev_some iv (Ev_pos (by omega) ?_)
      rw [← ht]
      exact e2
theorem shelf_nums {l : List Int} {c : Int} (h : Shf l c) : ∀ x ∈ l, 0 ≤ x ∧ x ≤ 999 := fun x hx => by have := h.el x hx; omega
theorem txt_size {l : List Int} {c : Int} (h : Shf l c) (hj : (jt l).size ≤ 4 * l.length - 1) : (txt l c).size ≤ 34 := by
  have h8 := h.n8
  have hc : (wd c).size ≤ 2 := num_size 1 _ (by have := h.c1; omega)
  unfold txt
  rw [ByteArray.size_append, ByteArray.size_append, com99]
  omega
theorem text_all {l : List Int} {c : Int} (h : Shf l c) : (txt l c).size ≤ 34 ∧ Ev (fun k => spec_shText.f k l c) (txt l c) ∧ Ev (fun k => impl_shelfText.f k l c) (txt l c) := by
  have h8 := h.n8
  have h0 := h.c0
  have h1 := h.c1
  have hwc : (wd c).size ≤ 3 := wd_size (by omega)
  have sc : Ev (fun k => spec_l1Num.f k c) (wd c) := by
    have := num_ev 2 c.toNat (by omega) (by omega)
    rw [Int.toNat_of_nonneg h0] at this
    exact this
  have ic : itoa.f c = some (wd c) := by
    have := itoaP c.toNat (by omega)
    rw [Int.toNat_of_nonneg h0] at this
    exact this
  have sz : (jt l).size ≤ 4 * l.length - 1 → (jt l).size + 1 ≤ 9223372036854775807 ∧ (jt l ++ (⟨#[99]⟩ : ByteArray)).size + (wd c).size ≤ 9223372036854775807 := fun hj => by
    rw [ByteArray.size_append, com99]
    omega
  have key : (jt l).size ≤ 4 * l.length - 1 := by
    clear sz ic sc hwc
    have : ∀ n i : Nat, i + n = l.length → (J ((l.take i).map wd)).size ≤ 4 * i - 1 → (jt l).size ≤ 4 * l.length - 1 := by
      intro n
      induction n with
      | zero =>
        intro i hi hs
        obtain rfl : i = l.length := by omega
        rw [List.take_length] at hs
        exact hs
      | succ n ih =>
        intro i hi hs
        have hh : i < l.length := by omega
        have ht : (l.take (i + 1)).map wd = (l.take i).map wd ++ [wd l[i]] := by rw [List.take_succ_eq_append_getElem hh, List.map_append]; rfl
        have hlt : ((l.take i).map wd).length = i := by rw [List.length_map, List.length_take]; omega
        refine ih (i + 1) (by omega) ?_
        rw [ht]
        exact J_next4 _ _ i hlt (wd_size (shelf_nums h _ (List.getElem_mem hh)).2) hs
    exact this l.length 0 (by omega) (Nat.le_refl _)
  obtain ⟨z1, z2⟩ := sz key
  have nx : Ev (fun k => spec_shText.l0 k (jt l) l (l.length : Int) (l.length : Int) l c) (txt l c) :=
    Ev_step (fun k => by rw [spec_shText.l0, if_neg (by omega)]) (Ev_pos z1 (Ev_bind sc (Ev_pos z2 (Ev.now _))))
  obtain ⟨hj, a, b⟩ := text_l0 l c (by omega) (shelf_nums h) nx l.length 0 (by omega) (Nat.le_refl _)
  refine ⟨txt_size h hj, Ev.congr (fun k => by rw [spec_shText.f]; rfl) a, ?_⟩
  simp only [impl_shelfText.f, impl_joined.f]
  exact Ev_bind b (Ev_pos z1 (Ev_some ic (Ev_pos z2 (Ev.now _))))
def txtR (l : List Int) (c : Int) : ByteArray × Bool := if shelfB l c = true then (txt l c, true) else (⟨#[]⟩, false)
theorem textI_ev (l : List Int) (c : Int) (hn : l.length ≤ 1048576) : Ev (fun k => impl_ShelfText.f k l c) (txtR l c) := by
  simp only [impl_ShelfText.f]
  refine Ev_bind (isShelf_ev l c hn) ?_
  unfold txtR
  cases hs : shelfB l c with
  | false => exact Ev_neg Bool.false_ne_true (Ev.now _)
  | true => exact Ev_pos rfl (Ev_bind (text_all ((shelfB_iff l c).1 hs)).2.2 (Ev.now _))
theorem textS_ev (l : List Int) (c : Int) (hn : l.length ≤ 1048576) : Ev (fun k => spec_ShelfText.f k l c) (txtR l c) := by
  simp only [spec_ShelfText.f]
  refine Ev_bind (shGood_ev l c hn) ?_
  unfold txtR
  cases hs : shelfB l c with
  | false => exact Ev_neg Bool.false_ne_true (Ev.now _)
  | true => exact Ev_pos rfl (Ev_bind (text_all ((shelfB_iff l c).1 hs)).2.1 (Ev.now _))
theorem wd_free (x : Int) (b : UInt8) (hb : b.toNat < 48) : b ∉ (wd x).data.toList := dig_free _ _ hb
theorem wd_free99 (x : Int) : (99 : UInt8) ∉ (wd x).data.toList := fun h => by have := (dig_in _ _ h).2; exact absurd this (by decide)
theorem jt_data (x : Int) (l : List Int) : (jt (x :: l)).data.toList = Lib.join (((x :: l).map wd).map (·.data.toList)) [44] := rfl
theorem jt_cut (x : Int) (l : List Int) : (cut 44 [] (jt (x :: l)).data.toList).map mkB = (x :: l).map wd := by
  rw [jt_data, List.map_cons, List.map_cons, cut_join 44 _ _ (wd_free x 44 (by decide)) (by intro y hy; rw [List.map_map, List.mem_map] at hy; obtain ⟨z, _, rfl⟩ := hy; exact wd_free z 44 (by decide))]
  have hm : ∀ z : List ByteArray, (z.map (·.data.toList)).map mkB = z := fun z => by
    have : (mkB ∘ fun x : ByteArray => x.data.toList) = id := funext fun x => mkB_data x
    rw [List.map_map, this, List.map_id]
  exact hm ((x :: l).map wd)
theorem join_mem (b : UInt8) : ∀ (r : List (List UInt8)) (x : List UInt8), ∀ c ∈ Lib.join (x :: r) [b], c = b ∨ ∃ w ∈ x :: r, c ∈ w := by
  intro r x c hc
  rw [Lib.join_cons, List.mem_append, Lib.joinTail, List.mem_flatten] at hc
  rcases hc with hc | ⟨w, hw, hc⟩
  · exact Or.inr ⟨x, by simp, hc⟩
  · rw [List.mem_map] at hw
    obtain ⟨v, hv, rfl⟩ := hw
    rcases List.mem_append.1 hc with hc | hc
    · exact Or.inl (List.mem_singleton.1 hc)
    · exact Or.inr ⟨v, List.mem_cons_of_mem _ hv, hc⟩
theorem jt_free99 (l : List Int) : (99 : UInt8) ∉ (jt l).data.toList := by
  intro h
  cases l with
  | nil => exact absurd h (by decide)
  | cons x l =>
    rw [jt_data, List.map_cons, List.map_cons] at h
    rcases join_mem 44 _ _ _ h with h | ⟨w, hw, hc⟩
    · exact absurd h (by decide)
    · have hw2 : w ∈ ((x :: l).map wd).map (·.data.toList) := hw
      rw [List.map_map, List.mem_map] at hw2
      obtain ⟨z, _, rfl⟩ := hw2
      exact wd_free99 z hc
theorem txt_data (l : List Int) (c : Int) : (txt l c).data.toList = (jt l).data.toList ++ 99 :: (wd c).data.toList := by
  unfold txt
  rw [app_data, app_data, List.append_assoc]
  rfl
theorem txt_cut (l : List Int) (c : Int) : (cut 99 [] (txt l c).data.toList).map mkB = [jt l, wd c] := by
  rw [txt_data, cut_sep 99 _ _ [] (jt_free99 l), cut_free 99 _ [] (wd_free99 c), List.nil_append, List.nil_append, List.map_cons, List.map_cons, List.map_nil, mkB_data, mkB_data]
theorem strcut99 (s : ByteArray) (hs : s.size ≤ 1000) {a r : List UInt8} (he : s.data.toList = a ++ 99 :: r) (h : (99 : UInt8) ∉ a) : strcut.f s (⟨#[99]⟩ : ByteArray) = some (mkB a, mkB r, true) := by
  have e : Lib.cut s.data.toList (⟨#[99]⟩ : ByteArray).data.toList = (a, r, true) := by
    have : (⟨#[99]⟩ : ByteArray).data.toList = [99] := rfl
    rw [this, he]
    unfold Lib.cut
    rw [index_sep 99 r a h, if_pos (by omega), Int.toNat_natCast, List.take_left' rfl]
    have e : (a ++ 99 :: r).drop (a.length + [(99 : UInt8)].length) = r := by
      rw [show a ++ 99 :: r = (a ++ [99]) ++ r by simp, List.drop_left' (by simp)]
    rw [e]
  unfold strcut.f
  rw [if_pos (by omega), e]
  rfl
theorem cut_any (s : ByteArray) (hs : s.size ≤ 1000) : ∃ a b f, strcut.f s (⟨#[99]⟩ : ByteArray) = some (a, b, f) ∧ a.size ≤ 1000 ∧ b.size ≤ 1000 := by
  have hz := size_list s
  rcases split_or 99 s.data.toList with h | ⟨a, r, he, h⟩
  · have e : Lib.cut s.data.toList (⟨#[99]⟩ : ByteArray).data.toList = (s.data.toList, [], false) := by
      have : (⟨#[99]⟩ : ByteArray).data.toList = [99] := rfl
      rw [this]
      unfold Lib.cut
      rw [index_free 99 _ h, if_neg (by decide)]
    refine ⟨s, mkB [], false, ?_, hs, by decide⟩
    unfold strcut.f
    rw [if_pos (by omega), e]
    show some (mkB s.data.toList, mkB [], false) = _
    rw [mkB_data]
  · have hl := congrArg List.length he
    rw [size_list, List.length_append, List.length_cons] at hl
    exact ⟨mkB a, mkB r, true, strcut99 s hs he h, by rw [mkB_size]; omega, by rw [mkB_size]; omega⟩
theorem numbers_l0 (ws : List ByteArray) (hl : ws.length ≤ 9) (hw : ∀ x ∈ ws, x.size ≤ 1000) : ∀ (n i : Nat) (acc : List Int), i + n = ws.length → acc.length ≤ i → ∃ m b, m.length ≤ 9 ∧ Ev (fun k => impl_numbersOf.l0 k acc ws (ws.length : Int) (i : Int)) (m, b) := by
  intro n
  induction n with
  | zero =>
    intro i acc hi ha
    exact ⟨acc, true, by omega, Ev_step (fun k => by rw [impl_numbersOf.l0, if_neg (by omega)]) (Ev.now _)⟩
  | succ n ih =>
    intro i acc hi ha
    have h : i < ws.length := by omega
    obtain ⟨v, e, he⟩ := atoi_any ws[i] (by have := hw _ (List.getElem_mem h); omega)
    have s1 : ∀ k, impl_numbersOf.l0 (k + 1) acc ws (ws.length : Int) (i : Int) = (if e.isNone = true then (if acc.length < 17592186044416 then (impl_numbersOf.l0 k (acc ++ [v]) ws (ws.length : Int) ((i + 1 : Nat) : Int)) else (none)) else (some (([] : List Int), false))) := fun k => by
      rw [impl_numbersOf.l0, if_pos (by omega), if_pos (by omega), if_pos (by omega), rdB ws i h, nextI i (by omega), he]
      rfl
    cases e with
    | some x => exact ⟨[], false, by simp, Ev_step s1 (Ev_neg (by simp) (Ev.now _))⟩
    | none =>
      obtain ⟨m, b, hm, he2⟩ := ih (i + 1) (acc ++ [v]) (by omega) (by rw [List.length_append, List.length_singleton]; omega)
      exact ⟨m, b, hm, Ev_step s1 (Ev_pos rfl (Ev_pos (by omega) he2))⟩
theorem splitn_ev (s : ByteArray) (hs : s.size ≤ 1000) : splitn.f s (⟨#[44]⟩ : ByteArray) 9 = some (Lib.splitB (mkB [44]) 0 (min 9 (s.size + 1) - 1) s) := by
  unfold splitn.f
  rw [if_pos ⟨by omega, by rw [com44]; exact Nat.le_refl _, by omega, by omega⟩]
  rfl
theorem splitB_len (b : UInt8) (k : Nat) (s : ByteArray) : (Lib.splitB (mkB [b]) 0 k s).length ≤ k + 1 := by
  have e3 := congrArg List.length (Lib.splitB_data (mkB [b]) 0 k s)
  rw [List.length_map] at e3
  rw [e3]
  by_cases h : k + 1 ≤ (cut b [] s.data.toList).length
  · exact Nat.le_of_eq (splitK_len b k _ h)
  show (Lib.splitK [b] 0 k s.data.toList).length ≤ _
  rw [splitK_cut b k _ (by omega)]
  omega
theorem numbers_any (s : ByteArray) (hs : s.size ≤ 1000) : ∃ m b, m.length ≤ 9 ∧ Ev (fun k => impl_numbersOf.f k s (⟨#[44]⟩ : ByteArray) 8) (m, b) := by
  have w : wrap64 ((8 : Int) + 1) = 9 := by rw [w64 (by omega) (by omega)]; rfl
  have hl := splitB_len 44 (min 9 (s.size + 1) - 1) s
  simp only [impl_numbersOf.f, w, splitn_ev s hs, Option.bind_some]
  by_cases hc : ((Lib.splitB (mkB [44]) 0 (min 9 (s.size + 1) - 1) s).length : Int) > 8
  · exact ⟨[], false, by simp, Ev_pos hc (Ev.now _)⟩
  obtain ⟨m, b, hm, he⟩ := numbers_l0 (Lib.splitB (mkB [44]) 0 (min 9 (s.size + 1) - 1) s) (by omega) (fun x hx => by have := split_size _ _ _ x hx; omega) _ 0 [] (Nat.zero_add _) (Nat.le_refl _)
  exact ⟨m, b, hm, Ev_neg hc he⟩
theorem numbers_yes_l0 (l : List Int) (hl : l.length ≤ 8) (hv : ∀ x ∈ l, 0 ≤ x ∧ x ≤ 999) : ∀ (n i : Nat), i + n = l.length → Ev (fun k => impl_numbersOf.l0 k (l.take i) (l.map wd) ((l.map wd).length : Int) (i : Int)) (l, true) := by
  have hm : (l.map wd).length = l.length := List.length_map _
  intro n
  induction n with
  | zero =>
    intro i hi
    rw [List.take_of_length_le (by omega)]
    exact Ev_step (fun k => by rw [impl_numbersOf.l0, if_neg (by omega)]) (Ev.now _)
  | succ n ih =>
    intro i hi
    have h : i < l.length := by omega
    obtain ⟨v1, v2⟩ := hv _ (List.getElem_mem h)
    have ha : atoi.f (wd l[i]) = some (l[i], none) := by
      have := atoi_num l[i].toNat (by omega)
      rw [Int.toNat_of_nonneg v1] at this
      exact this
    have nx := ih (i + 1) (by omega)
    rw [List.take_succ_eq_append_getElem h] at nx
    refine Ev_step (fun k => by rw [impl_numbersOf.l0, if_pos (by omega), if_pos (by omega), if_pos (by omega), rdB _ i (by omega), nextI i (by omega), List.getElem_map, ha, Option.bind_some]) ?_
    refine Ev_pos rfl (Ev_pos ?_ nx)
    rw [List.length_take]
    omega
theorem numbers_yes {l : List Int} {c : Int} (h : Shf l c) : Ev (fun k => impl_numbersOf.f k (jt l) (⟨#[44]⟩ : ByteArray) 8) (l, true) := by
  have h8 := h.n8
  have h1 := h.n1
  have hz := (text_all h).1
  have hz2 : (jt l).size ≤ 1000 := by
    unfold txt at hz
    rw [ByteArray.size_append, ByteArray.size_append] at hz
    omega
  have w : wrap64 ((8 : Int) + 1) = 9 := by rw [w64 (by omega) (by omega)]; rfl
  have hc : (cut 44 [] (jt l).data.toList).map mkB = l.map wd := by
    cases l with
    | nil => simp at h1
    | cons x l => exact jt_cut x l
  have hcl : (cut 44 [] (jt l).data.toList).length = l.length := by
    have := congrArg List.length hc
    rwa [List.length_map, List.length_map] at this
  have hle := cut_le 44 (jt l).data.toList []
  rw [size_list] at hle
  have e : Lib.splitB (mkB [44]) 0 (min 9 ((jt l).size + 1) - 1) (jt l) = l.map wd := by
    rw [splitB_cut 44 _ _ (by omega), hc]
  simp only [impl_numbersOf.f, w, splitn_ev _ hz2, Option.bind_some, e]
  refine Ev_neg (by rw [List.length_map]; omega) ?_
  exact numbers_yes_l0 l h8 (shelf_nums h) l.length 0 (by omega)
def ShP (s : ByteArray) (r : List Int × Int × Bool) : Prop := (∃ l c, Shf l c ∧ txt l c = s ∧ r = (l, c, true)) ∨ ((∀ l c, Shf l c → txt l c ≠ s) ∧ r = ([], 0, false))
theorem same_text {a b : ByteArray} (h : a.toList = b.toList) : a = b := by
  rw [ByteArray.toList_eq, ByteArray.toList_eq] at h
  rw [← mkB_data a, ← mkB_data b, h]
theorem parseI_yes {l : List Int} {c : Int} (h : Shf l c) : Ev (fun k => impl_ParseShelf.f k (txt l c)) (l, c, true) := by
  have h8 := h.n8
  obtain ⟨hz, _, ht⟩ := text_all h
  have h0 := h.c0
  have h1 := h.c1
  have ha : atoi.f (wd c) = some (c, none) := by
    have := atoi_num c.toNat (by omega)
    rw [Int.toNat_of_nonneg h0] at this
    exact this
  have e := strcut99 (txt l c) (by omega) (txt_data l c) (jt_free99 l)
  rw [mkB_data, mkB_data] at e
  simp only [impl_ParseShelf.f, e, Option.bind_some]
  refine Ev_bind (numbers_yes h) ?_
  simp only [ha, Option.bind_some]
  refine Ev_pos (by simp) ?_
  refine Ev_pos (by simp) ?_
  exact Ev_bind (isShelf_ev l c (by omega)) (Ev_pos ((shelfB_iff l c).2 h) (Ev_bind ht (Ev_pos rfl (Ev.now _))))
theorem parseI_no (s : ByteArray) (hs : s.size ≤ 1000) (h : ∀ l c, Shf l c → txt l c ≠ s) : Ev (fun k => impl_ParseShelf.f k s) ([], 0, false) := by
  obtain ⟨a, b, f, e, ha, hb⟩ := cut_any s hs
  obtain ⟨m, g, hm, he⟩ := numbers_any a ha
  obtain ⟨v, q, hq⟩ := atoi_any b (by omega)
  simp only [impl_ParseShelf.f, e, Option.bind_some]
  refine Ev_bind he ?_
  simp only [hq, Option.bind_some]
  cases g with
  | false => exact Ev_neg Bool.false_ne_true (Ev.now _)
  | true =>
    refine Ev_pos rfl ?_
    cases q with
    | some x => exact Ev_neg (by simp) (Ev.now _)
    | none =>
      refine Ev_pos rfl (Ev_bind (isShelf_ev m v (by omega)) ?_)
      cases hb2 : shelfB m v with
      | false => exact Ev_neg Bool.false_ne_true (Ev.now _)
      | true =>
        have hS := (shelfB_iff m v).1 hb2
        exact Ev_pos rfl (Ev_bind (text_all hS).2.2 (Ev_neg (fun e => h m v hS (same_text e)) (Ev.now _)))
theorem parseS_yes_l0 {l : List Int} {c : Int} (h : Shf l c) : ∀ (n i : Nat), i + n = l.length → Ev (fun k => spec_shParse.l0 k (l.map wd) ((l.map wd).length : Int) (i : Int) (l.take i) c) (l, c, true) := by
  have h8 := h.n8
  have hm : (l.map wd).length = l.length := List.length_map _
  intro n
  induction n with
  | zero =>
    intro i hi
    rw [List.take_of_length_le (by omega)]
    refine Ev_step (fun k => by rw [spec_shParse.l0, if_neg (by omega)]) (Ev_bind (shGood_ev l c (by omega)) ?_)
    exact Ev_pos ((shelfB_iff l c).2 h) (Ev.now _)
  | succ n ih =>
    intro i hi
    have hi2 : i < l.length := by omega
    obtain ⟨v1, v2⟩ := shelf_nums h _ (List.getElem_mem hi2)
    have ha : Ev (fun k => spec_l1Read.f k (wd l[i])) l[i] := by
      have := read_num l[i].toNat (by omega)
      rw [Int.toNat_of_nonneg v1] at this
      exact this
    have nx := ih (i + 1) (by omega)
    rw [List.take_succ_eq_append_getElem hi2] at nx
    refine Ev_step (fun k => by rw [spec_shParse.l0, if_pos (by omega), if_pos (by omega), if_pos (by omega), rdB _ i (by omega), nextI i (by omega), List.getElem_map]) ?_
    refine Ev_bind ha (Ev_pos ?_ nx)
    rw [List.length_take]
    omega
theorem parseS_yes {l : List Int} {c : Int} (h : Shf l c) : Ev (fun k => spec_ParseShelf.f k (txt l c)) (l, c, true) := by
  have h8 := h.n8
  have h1 := h.n1
  obtain ⟨hz, _, _⟩ := text_all h
  have sp : Ev (fun k => spec_l1Split.f k (txt l c) 99) [jt l, wd c] := by
    have := split_ev (txt l c) 99 (by omega)
    rw [txt_cut] at this
    exact this
  have hz2 : (jt l).size ≤ 1000 := by
    unfold txt at hz
    rw [ByteArray.size_append, ByteArray.size_append] at hz
    omega
  have sp2 : Ev (fun k => spec_l1Split.f k (jt l) 44) (l.map wd) := by
    have := split_ev (jt l) 44 hz2
    have hc : (cut 44 [] (jt l).data.toList).map mkB = l.map wd := by
      cases l with
      | nil => simp at h1
      | cons x l => exact jt_cut x l
    rw [hc] at this
    exact this
  have rc : Ev (fun k => spec_l1Read.f k (wd c)) c := by
    have h0 := h.c0
    have h2 := h.c1
    have := read_num c.toNat (by omega)
    rw [Int.toNat_of_nonneg h0] at this
    exact this
  simp only [spec_ParseShelf.f]
  refine Ev_bind (a := (l, c, true)) ?_ (Ev.now _)
  simp only [spec_shParse.f]
  refine Ev_bind sp (Ev_neg (by omega) ?_)
  refine Ev_step (fun k => by rw [spec_shParse.j0, if_neg (by simp), if_pos (by simp), show rdOf ByteArray.empty [jt l, wd c] 1 = wd c from rfl, show rdOf ByteArray.empty [jt l, wd c] 0 = jt l from rfl]) ?_
  refine Ev_bind rc (Ev_pos (by simp) ?_)
  exact Ev_bind sp2 (parseS_yes_l0 h l.length 0 (by omega))
theorem parseS_l0 (ws : List ByteArray) (hl : ws.length ≤ 2000) (v : Int) : ∀ (n i : Nat) (acc : List Int), i + n = ws.length → acc.length = i → (∀ j (h : j < acc.length) (h2 : j < ws.length), Ev (fun k => spec_l1Read.f k ws[j]) acc[j]) →
    ∃ m, m.length = ws.length ∧ (∀ j (h : j < m.length) (h2 : j < ws.length), Ev (fun k => spec_l1Read.f k ws[j]) m[j]) ∧ Ev (fun k => spec_shParse.l0 k ws (ws.length : Int) (i : Int) acc v) (if shelfB m v = true then (m, v, true) else ([], 0, false)) := by
  intro n
  induction n with
  | zero =>
    intro i acc hi ha hr
    refine ⟨acc, by omega, hr, Ev_step (fun k => by rw [spec_shParse.l0, if_neg (by omega)]) (Ev_bind (shGood_ev acc v (by omega)) ?_)⟩
    cases shelfB acc v with
    | true => exact Ev_pos rfl (Ev.now _)
    | false => exact Ev_neg Bool.false_ne_true (Ev.now _)
  | succ n ih =>
    intro i acc hi ha hr
    have h : i < ws.length := by omega
    obtain ⟨x, hx⟩ := read_any ws[i]
    obtain ⟨m, h1, h2, h3⟩ := ih (i + 1) (acc ++ [x]) (by omega) (by rw [List.length_append, List.length_singleton]; omega) (fun j hj hj2 => by
      rw [List.length_append, List.length_singleton] at hj
      by_cases g : j < acc.length
      · rw [List.getElem_append_left g]
        exact hr j g hj2
      · have e : j = i := by omega
        subst e
        rw [List.getElem_append_right (by omega)]
        simp only [ha, Nat.sub_self, List.getElem_cons_zero]
        exact hx)
    refine ⟨m, h1, h2, Ev_step (fun k => by rw [spec_shParse.l0, if_pos (by omega), if_pos (by omega), if_pos (by omega), rdB ws i h, nextI i (by omega)]) (Ev_bind hx ?_)⟩
    exact Ev_pos (by omega) h3
theorem words_back {ws : List ByteArray} {m : List Int} (hl : m.length = ws.length) (hp : ∀ x ∈ m, 0 ≤ x) (h : ∀ j (h : j < m.length) (h2 : j < ws.length), Ev (fun k => spec_l1Read.f k ws[j]) m[j]) : ws = m.map wd := by
  apply List.ext_getElem
  · rw [List.length_map, hl]
  · intro j h1 h2
    rw [List.length_map] at h2
    rw [List.getElem_map]
    exact read_back (h j h2 h1) (hp _ (List.getElem_mem h2))
theorem parseS_no (s : ByteArray) (hs : s.size ≤ 1000) (h : ∀ l c, Shf l c → txt l c ≠ s) : Ev (fun k => spec_ParseShelf.f k s) ([], 0, false) := by
  have hz := size_list s
  have sp : Ev (fun k => spec_l1Split.f k s 99) ((cut 99 [] s.data.toList).map mkB) := split_ev s 99 hs
  have j : ∀ ws, Ev (fun k => spec_shParse.j0 k ws true) ([], 0, false) := fun ws => Ev_step (fun k => by rw [spec_shParse.j0, if_pos rfl]) (Ev.now _)
  simp only [spec_ParseShelf.f]
  refine Ev_bind (a := ([], 0, false)) ?_ (Ev.now _)
  simp only [spec_shParse.f]
  refine Ev_bind sp ?_
  by_cases h34 : (s.size : Int) > 34
  · exact Ev_pos h34 (j _)
  refine Ev_neg h34 ?_
  rcases split_or 99 s.data.toList with hf | ⟨a, b, he, hf⟩
  · rw [cut_free 99 _ [] hf]
    exact j _
  · rcases split_or 99 b with hb | ⟨c, d, hbe, hc⟩
    · rw [he, cut_sep 99 b a [] hf, cut_free 99 b [] hb, List.nil_append, List.nil_append]
      have hl := congrArg List.length he
      rw [size_list, List.length_append, List.length_cons] at hl
      obtain ⟨v, hv⟩ := read_any (mkB b)
      have sp2 : Ev (fun k => spec_l1Split.f k (mkB a) 44) ((cut 44 [] a).map mkB) := split_ev (mkB a) 44 (by rw [mkB_size]; omega)
      have hcl := cut_le 44 a []
      obtain ⟨m, h1, h2, h3⟩ := parseS_l0 ((cut 44 [] a).map mkB) (by rw [List.length_map]; omega) v _ 0 [] (Nat.zero_add _) rfl (fun j hj _ => by simp at hj)
      refine Ev_step (fun k => by rw [spec_shParse.j0, if_neg (by simp), if_pos (by simp), show rdOf ByteArray.empty (List.map mkB [a, b]) 1 = mkB b from rfl, show rdOf ByteArray.empty (List.map mkB [a, b]) 0 = mkB a from rfl]) ?_
      refine Ev_bind hv (Ev_pos (by simp) ?_)
      refine Ev_bind sp2 ?_
      cases hg : shelfB m v with
      | false =>
        rw [hg, if_neg Bool.false_ne_true] at h3
        exact h3
      | true =>
        exfalso
        have hS := (shelfB_iff m v).1 hg
        have hw := words_back h1 (fun x hx => by have := hS.el x hx; omega) h2
        have hbv := read_back hv hS.c0
        refine h m v hS ?_
        have e3 : (m.map wd).map (·.data.toList) = cut 44 [] a := by
          rw [← hw, List.map_map]
          exact List.map_id _
        have e4 : (jt m).data.toList = a := by
          show Lib.join ((m.map wd).map (·.data.toList)) [44] = a
          rw [e3]
          exact join_cut 44 _ _ (Nat.le_refl _)
        have e5 : (wd v).data.toList = b := by
          show (num v.toNat).data.toList = b
          rw [← hbv]
          rfl
        rw [← mkB_data s, ← mkB_data (txt m v), txt_data, e4, e5, he]
    · rw [he, hbe, cut_sep 99 _ a [] hf, cut_sep 99 d c [] hc]
      have hp := cut_pos 99 d []
      have e : ((((([] : List UInt8) ++ a) :: (([] : List UInt8) ++ c) :: cut 99 [] d).map mkB).length : Int) != 2 := by
        rw [List.length_map, List.length_cons, List.length_cons]
        exact bne_iff_ne.2 (by omega)
      rw [e]
      exact j _
theorem parseSh_ev (s : ByteArray) (hs : s.size ≤ 1000) : ∃ r, Ev (fun k => impl_ParseShelf.f k s) r ∧ Ev (fun k => spec_ParseShelf.f k s) r ∧ ShP s r := by
  by_cases h : ∃ l c, Shf l c ∧ txt l c = s; rotate_left
  · have h2 : ∀ l c, Shf l c → txt l c ≠ s := fun l c a b => h ⟨l, c, a, b⟩
    exact ⟨([], 0, false), parseI_no s hs h2, parseS_no s hs h2, Or.inr ⟨h2, rfl⟩⟩
  obtain ⟨l, c, hS, rfl⟩ := h
  exact ⟨(l, c, true), parseI_yes hS, parseS_yes hS, Or.inl ⟨l, c, hS, rfl, rfl⟩⟩

theorem sureSh_l0 {c : List Int} (hc : Bytes c) (v : Int) : ∀ (n : Nat) (acc : List Int) (a s : Int), n ≤ 5 → acc.length + n ≤ 5 → (∀ x ∈ acc, 1 ≤ x ∧ x ≤ 100) → 0 ≤ a → a + 10 * n ≤ 999900 →
    ∃ l a' s', Ev (fun k => spec_l1Cur_sureShelf.l0 k (n : Int) c a s acc v) (l, v, a', s') ∧ l.length = acc.length + n ∧ (∀ x ∈ l, 1 ≤ x ∧ x ≤ 100) ∧ a ≤ a' ∧ a' ≤ a + 10 * n := by
  intro n
  induction n with
  | zero =>
    intro acc a s hn hl hp ha ha2
    exact ⟨acc, a, s, Ev_step (fun k => by rw [spec_l1Cur_sureShelf.l0, if_neg (by omega)]) (Ev.now _), by omega, hp, by omega, by omega⟩
  | succ n ih =>
    intro acc a s hn hl hp ha ha2
    obtain ⟨w, a2, s2, e2, hw, g4, g5⟩ := among_ok (a := a) hc s [1, 5, 10, 20, 30, 40] (by omega) (by omega) (by decide)
    have hw2 : 1 ≤ w ∧ w ≤ 40 := by
      simp only [List.mem_cons, List.not_mem_nil, or_false] at hw
      omega
    have w5 : wrap64 (((n + 1 : Nat) : Int) - 1) = (n : Int) := by rw [w64 (by omega) (by omega)]; omega
    obtain ⟨l, a', s', e3, ll, gl, b1, b2⟩ := ih (acc ++ [w]) a2 s2 (by omega) (by rw [List.length_append, List.length_singleton]; omega) (fun x hx => by
      rcases List.mem_append.1 hx with h | h
      · exact hp x h
      · rw [List.mem_singleton.1 h]; omega) (by omega) (by omega)
    refine ⟨l, a', s', Ev_step (fun k => ?_) e3, by rw [ll, List.length_append, List.length_singleton]; omega, gl, by omega, by omega⟩
    rw [spec_l1Cur_sureShelf.l0, if_pos (by omega), e2, Option.bind_some, if_pos (by omega), w5]
theorem sureSh_ok {c : List Int} (hc : Bytes c) {a : Int} (s : Int) (h0 : 0 ≤ a) (h1 : a ≤ 900000) :
    ∃ l v a' s', Ev (fun k => spec_l1Cur_sureShelf.f k c a s) (l, v, a', s') ∧ Shf l v ∧ l.length ≤ 5 ∧ a ≤ a' ∧ a' ≤ a + 100 := by
  obtain ⟨w, a2, s2, e2, hw, g4, g5⟩ := among_ok hc s [0, 1, 2, 3] h0 (by omega) (by decide)
  have hw2 : 0 ≤ w ∧ w ≤ 3 := by
    simp only [List.mem_cons, List.not_mem_nil, or_false] at hw
    omega
  obtain ⟨v, a1, s1, e1, g0, g1, g2, g3⟩ := pick_ok (a := a2) hc s2 5 (by omega) (by omega) (by omega)
  obtain ⟨n, rfl⟩ := Int.eq_ofNat_of_zero_le g0
  have w1 : wrap64 (1 + (n : Int)) = ((n + 1 : Nat) : Int) := by rw [w64 (by omega) (by omega)]; omega
  obtain ⟨l, a', s', e3, ll, gl, b1, b2⟩ := sureSh_l0 hc w (n + 1) [] a1 s1 (by omega) (by simp; omega) (fun x hx => by cases hx) (by omega) (by omega)
  rw [List.length_nil] at ll
  refine ⟨l, w, a', s', ?_, ⟨by omega, by omega, gl, hw2.1, by omega⟩, by omega, by omega, by omega⟩
  refine Ev.congr (fun k => ?_) e3
  rw [spec_l1Cur_sureShelf.f, e2, Option.bind_some, e1, Option.bind_some, w1]
theorem shelf_ok {c : List Int} (hc : Bytes c) {a : Int} (s : Int) (h0 : 0 ≤ a) (h1 : a ≤ 900000) :
    ∃ l v a' s', Ev (fun k => spec_l1Cur_shelf.f k c a s) (l, v, a', s') ∧ l.length ≤ 9 ∧ a ≤ a' ∧ a' ≤ a + 200 := by
  obtain ⟨l, v, a1, s1, e1, hS, hl, g1, g2⟩ := sureSh_ok hc s h0 h1
  have hn := hS.n1
  obtain ⟨q, a2, s2, e2, q0, q1, g3, g4⟩ := pick_ok (a := a1) hc s1 14 (by omega) (by omega) (by omega)
  by_cases hq0 : q = 0
  · obtain ⟨w, a3, s3, e3, hw, g5, g6⟩ := among_ok (a := a2) hc s2 [(-1), 10, 11, 4611686018427387904] (by omega) (by omega) (by decide)
    refine ⟨l, w, a3, s3, ?_, by omega, by omega, by omega⟩
    simp only [spec_l1Cur_shelf.f]
    refine Ev_bind e1 ?_
    simp only [e2, Option.bind_some]
    refine Ev_pos hq0 ?_
    simp only [e3, Option.bind_some]
    exact Ev.now _
  by_cases hq1 : q = 1
  · obtain ⟨w, a3, s3, e3, hw, g5, g6⟩ := among_ok (a := a2) hc s2 [0, (-1), 100, 101, 4611686018427387904] (by omega) (by omega) (by decide)
    refine ⟨l.set (0 : Int).toNat w, v, a3, s3, ?_, by rw [List.length_set]; omega, by omega, by omega⟩
    simp only [spec_l1Cur_shelf.f]
    refine Ev_bind e1 ?_
    simp only [e2, Option.bind_some]
    refine Ev_neg hq0 (Ev_pos hq1 ?_)
    simp only [e3, Option.bind_some]
    exact Ev_pos (by omega) (Ev.now _)
  by_cases hq2 : q = 2; rotate_left
  · refine ⟨l, v, a2, s2, ?_, by omega, by omega, by omega⟩
    simp only [spec_l1Cur_shelf.f]
    refine Ev_bind e1 ?_
    simp only [e2, Option.bind_some]
    exact Ev_neg hq0 (Ev_neg hq1 (Ev_neg hq2 (Ev.now _)))
  obtain ⟨x, a3, s3, e3, x0, x1, g5, g6⟩ := pick_ok (a := a2) hc s2 3 (by omega) (by omega) (by omega)
  refine ⟨rd_L2 ([[], [1, 2, 3, 4, 5, 6, 7, 8], [1, 2, 3, 4, 5, 6, 7, 8, 9]] : List (List Int)) x, v, a3, s3, ?_, ?_, by omega, by omega⟩
  · simp only [spec_l1Cur_shelf.f]
    refine Ev_bind e1 ?_
    simp only [e2, Option.bind_some]
    refine Ev_neg hq0 (Ev_neg hq1 (Ev_pos hq2 ?_))
    simp only [e3, Option.bind_some]
    exact Ev_pos x0 (Ev_pos (by simp; omega) (Ev.now _))
  · have : x = 0 ∨ x = 1 ∨ x = 2 := by omega
    rcases this with rfl | rfl | rfl <;> decide
theorem volume_ok {c : List Int} (hc : Bytes c) {a : Int} (s : Int) (l : List Int) (v : Int) (hl : l.length ≤ 9) (h0 : 0 ≤ a) (h1 : a ≤ 900000) :
    ∃ x a' s', spec_l1Cur_volume.f c a s l v = some (x, a', s') ∧ a ≤ a' ∧ a' ≤ a + 10 := by
  have w1 : wrap64 ((l.length : Int) + 1) = (l.length : Int) + 1 := w64 (by omega) (by omega)
  obtain ⟨q, a1, s1, e1, q0, q1, g1, g2⟩ := pick_ok hc s ((l.length : Int) + 1) h0 (by omega) (by omega)
  obtain ⟨p, a2, s2, e2, p0, p1, g3, g4⟩ := pick_ok (a := a1) hc s1 16 (by omega) (by omega) (by omega)
  refine ⟨wrap64 (q - wrap64 (Int.tdiv p 15)), a2, s2, ?_, by omega, by omega⟩
  rw [spec_l1Cur_volume.f, w1, e1, Option.bind_some, e2, Option.bind_some]
theorem drawWorm_ok {c : List Int} (hc : Bytes c) : ∃ l v a la b lb, Ev (fun k => spec_DrawWormEats.f k c) (l, v, a, la, b, lb) ∧ l.length ≤ 9 := by
  obtain ⟨l, v, a1, s1, e1, hl, g1, g2⟩ := shelf_ok hc (a := 0) 0 (by omega) (by omega)
  obtain ⟨x, a2, s2, e2, g3, g4⟩ := volume_ok hc (a := a1) s1 l v hl (by omega) (by omega)
  obtain ⟨p, a3, s3, e3, g5, g6⟩ := one_ok (a := a2) hc s2 2 (by omega) (by omega) (by omega)
  obtain ⟨y, a4, s4, e4, g7, g8⟩ := volume_ok hc (a := a3) s3 l v hl (by omega) (by omega)
  obtain ⟨q, a5, s5, e5, g9, g10⟩ := one_ok (a := a4) hc s4 2 (by omega) (by omega) (by omega)
  clear g1 g2 g3 g4 g5 g6 g7 g8 g9 g10
  refine ⟨l, v, x, p, y, q, ?_, hl⟩
  simp only [spec_DrawWormEats.f]
  refine Ev_bind e1 ?_
  exact Ev_some e2 (Ev_some e3 (Ev_some e4 (Ev_some e5 (Ev.now _))))
theorem drawSwap_ok {c : List Int} (hc : Bytes c) : ∃ l v a b, Ev (fun k => spec_DrawSwapVolumes.f k c) (l, v, a, b) ∧ l.length ≤ 9 := by
  obtain ⟨l, v, a1, s1, e1, hl, g1, g2⟩ := shelf_ok hc (a := 0) 0 (by omega) (by omega)
  obtain ⟨x, a2, s2, e2, g3, g4⟩ := volume_ok hc (a := a1) s1 l v hl (by omega) (by omega)
  obtain ⟨y, a4, s4, e4, g7, g8⟩ := volume_ok hc (a := a2) s2 l v hl (by omega) (by omega)
  clear g1 g2 g3 g4 g7 g8
  refine ⟨l, v, x, y, ?_, hl⟩
  simp only [spec_DrawSwapVolumes.f]
  refine Ev_bind e1 ?_
  exact Ev_some e2 (Ev_some e4 (Ev.now _))
theorem drawText_ok {c : List Int} (hc : Bytes c) : ∃ t : ByteArray, Ev (fun k => spec_DrawParseShelf.f k c) t ∧ t.size ≤ 200 := by
  obtain ⟨l, v, a1, s1, e1, hS, hl, g1, g2⟩ := sureSh_ok hc (a := 0) 0 (by omega) (by omega)
  obtain ⟨hz, e2, _⟩ := text_all hS
  obtain ⟨b, a2, s2, e3, g3, g4⟩ := one_ok (a := a1) hc s1 3 (by omega) (by omega) (by omega)
  by_cases hb : b = true; rotate_left
  · refine ⟨txt l v, ?_, by omega⟩
    simp only [spec_DrawParseShelf.f]
    refine Ev_bind e1 (Ev_bind e2 ?_)
    simp only [e3, Option.bind_some]
    exact Ev_neg hb (Ev.now _)
  obtain ⟨t', a', s', e4, h4, _, _⟩ := spoilt_ok hc (a := a2) s2 (txt l v) (⟨#[48, 49, 50, 51, 44, 99, 120]⟩ : ByteArray) (by omega) (by omega) (by decide) (by omega)
  refine ⟨t', ?_, by omega⟩
  simp only [spec_DrawParseShelf.f]
  refine Ev_bind e1 (Ev_bind e2 ?_)
  simp only [e3, Option.bind_some]
  exact Ev_pos hb (Ev_bind e4 (Ev.now _))
end Go.Proofs.YtimladcenifppaaGreatDoor.P
end

section
set_option linter.unusedVariables false
namespace Go.Proofs.YtimladcenifppaaGreatDoor.Pure
open Go.RowKit Go.Proofs.YtimladcenifppaaGreatDoorW.PrintWords Go.Proofs.YtimladcenifppaaGreatDoorW.PrintLast Go.Proofs.YtimladcenifppaaGreatDoorW.PrintMore Go.Proofs.YtimladcenifppaaGreatDoor.P Go.Proofs.YtimladcenifppaaGreatDoor.Base

theorem tail_ev {s : ByteArray} {m : List Int} {v : Int} {ok : Bool} (h : ShP s (m, v, ok)) : Ev (fun k => if ok = true then ((impl_ShelfText.f k m v).bind fun bt621 => (if bt621.2 = true then (some (bt621.1.toList == s.toList)) else (some false))) else (some true)) true := by
  rcases h with ⟨l, c, hS, rfl, e⟩ | ⟨_, e⟩
  · simp only [Prod.mk.injEq] at e
    obtain ⟨rfl, rfl, rfl⟩ := e
    have t := textI_ev m v (by have := hS.n8; omega)
    unfold txtR at t
    rw [if_pos ((shelfB_iff m v).2 hS)] at t
    refine Ev_pos rfl (Ev_bind t (Ev_pos rfl ?_))
    rw [beq_self_eq_true]
    exact Ev.now _
  · simp only [Prod.mk.injEq] at e
    obtain ⟨_, _, rfl⟩ := e
    exact Ev_neg Bool.false_ne_true (Ev.now _)
theorem j11_ev {s : ByteArray} {m : List Int} {v : Int} {ok : Bool} (h : ShP s (m, v, ok)) : Ev (fun k => laws_FnShelvesEaten.j11 k s ok false m v) true :=
  Ev_step (fun k => by rw [laws_FnShelvesEaten.j11]) (Ev_neg Bool.false_ne_true (tail_ev h))
theorem swR_len {l : List Int} {c a b : Int} (hl : l.length ≤ 9) : (swR l c a b).1.length ≤ 9 := by
  unfold swR
  split
  · show (sw _ _ _).length ≤ 9
    rw [sw_length]; exact hl
  · exact Nat.zero_le _
theorem j10_ev {s : ByteArray} {m : List Int} {v : Int} {ok : Bool} (h : ShP s (m, v, ok)) (l : List Int) (c a b : Int) (hl : l.length ≤ 9) : Ev (fun k => laws_FnShelvesEaten.j10 k a b (swR l c a b).2.2 s ok false l c (swR l c a b).1 (swR l c a b).2.1 m v) true := by
  unfold swR
  by_cases hk : okAB l c a b = true; rotate_left
  · rw [if_neg hk]
    exact Ev_step (fun k => by rw [laws_FnShelvesEaten.j10]) (Ev_neg Bool.false_ne_true (Ev_neg Bool.false_ne_true (tail_ev h)))
  rw [if_pos hk]
  obtain ⟨hS, p, q, rfl, rfl, hp, hq⟩ := okAB_of hk
  have hS2 := shf_sw hS hp hq
  have hl2 : (sw l p q).length = l.length := sw_length l p q
  have e1 := swapI_ev (sw l p q) c (p : Int) (q : Int) (by omega)
  unfold swR at e1
  rw [if_pos (okAB_yes hS2 (by omega) (by omega)), Int.toNat_natCast, Int.toNat_natCast, sw_sw hp hq] at e1
  have e2 := widthI_ev l c (by omega)
  unfold widR at e2
  rw [if_pos ((shelfB_iff l c).2 hS)] at e2
  have e3 := widthI_ev (sw l p q) c (by omega)
  unfold widR at e3
  rw [if_pos ((shelfB_iff _ c).2 hS2), hl2, lft_sw c hp hq] at e3
  rw [Int.toNat_natCast, Int.toNat_natCast]
  refine Ev_step (fun k => by rw [laws_FnShelvesEaten.j10]) (Ev_neg Bool.false_ne_true (Ev_pos rfl (Ev_bind e1 (Ev_bind e2 (Ev_bind e3 (Ev_pos rfl (Ev_bind (fShelf_ev l c (by omega)) (Ev_pos rfl (Ev_pos rfl (Ev_pos rfl ?_))))))))))
  show Ev (fun k => laws_FnShelvesEaten.j11 k s ok (lft l c l.length != lft l c l.length) m v) true
  rw [bne_self_eq_false]
  exact j11_ev h
theorem ShP_len {s : ByteArray} {m : List Int} {v : Int} {ok : Bool} (h : ShP s (m, v, ok)) : m.length ≤ 8 := by
  rcases h with ⟨l, c, hS, rfl, e⟩ | ⟨_, e⟩
  · simp only [Prod.mk.injEq] at e
    obtain ⟨rfl, rfl, rfl⟩ := e
    exact hS.n8
  · simp only [Prod.mk.injEq] at e
    obtain ⟨rfl, _, _⟩ := e
    exact Nat.zero_le _
theorem j9_ev {d : List Int} (hd : Bytes d) : Ev (fun k => laws_FnShelvesEaten.j9 k d) true := by
  obtain ⟨l, c, a, b, e0, hl⟩ := drawSwap_ok hd
  obtain ⟨t, e1, ht⟩ := drawText_ok hd
  obtain ⟨⟨m, v, ok⟩, p1, p2, hp⟩ := parseSh_ev t (by omega)
  have hm := ShP_len hp
  have hs := swR_len (l := l) (c := c) (a := a) (b := b) hl
  refine Ev_step (fun k => by rw [laws_FnShelvesEaten.j9]) (Ev_bind e0 (Ev_bind (swapI_ev l c a b (by omega)) (Ev_bind (swapS_ev l c a b (by omega)) (Ev_bind e1 (Ev_bind p1 (Ev_bind p2 ?_))))))
  refine Ev_neg (bne_self _) (Ev_bind (fShelf_ev _ _ (by omega)) (Ev_pos rfl (Ev_neg (bne_self _) (Ev_bind (fShelf_ev m v (by omega)) ?_))))
  exact j10_ev hp l c a b hl
theorem l3_ev {d l : List Int} {c : Int} (h : Shf l c) {x y : Nat} (hm : ∀ u v, isPair l u v → way l c u v ≤ way l c x y ∧ (way l c u v = way l c x y → ¬ before u v x y)) {a : Nat} (ha : a < l.length)
    (nx : Ev (fun k => laws_FnShelvesEaten.l2 k d (x : Int) (y : Int) (way l c x y) (l.length : Int) ((a + 1 : Nat) : Int) l c) true) :
    ∀ n b : Nat, b + n = l.length → Ev (fun k => laws_FnShelvesEaten.l3 k d (x : Int) (y : Int) (way l c x y) (a : Int) (l.length : Int) (a : Int) (l.length : Int) (b : Int) l c) true := by
  have h8 := h.n8
  intro n
  induction n with
  | zero =>
    intro b hb
    exact Ev_step (fun k => by rw [laws_FnShelvesEaten.l3, if_neg (by omega), nextI a (by omega)]) nx
  | succ n ih =>
    intro b hb
    have hb2 : b < l.length := by omega
    have i := ih (b + 1) (by omega)
    refine Ev_step (fun k => by rw [laws_FnShelvesEaten.l3, if_pos (by omega), nextI b (by omega)]) (Ev_bind (wormI_yes h ha hb2 false true) ?_)
    by_cases e : a = b
    · exact Ev_pos (by omega) i
    obtain ⟨m1, m2⟩ := hm a b ⟨ha, hb2, e⟩
    have m1' : ¬ wrm l c (ps a false) (ps b true) > way l c x y := by have : wrm l c (ps a false) (ps b true) = way l c a b := rfl; omega
    refine Ev_neg (by omega) (Ev_pos rfl (Ev_neg m1' ?_))
    by_cases g : wrm l c (ps a false) (ps b true) = way l c x y; rotate_left
    · exact Ev_neg g i
    have nb := m2 g
    unfold before at nb
    refine Ev_pos g (Ev_neg (by omega) ?_)
    by_cases g2 : a = x; rotate_left
    · exact Ev_neg (by omega) i
    exact Ev_pos (by omega) (Ev_neg (by omega) i)
theorem l2_ev {d l : List Int} (hd : Bytes d) {c : Int} (h : Shf l c) {x y : Nat} (hm : ∀ u v, isPair l u v → way l c u v ≤ way l c x y ∧ (way l c u v = way l c x y → ¬ before u v x y)) :
    ∀ n a : Nat, a + n = l.length → Ev (fun k => laws_FnShelvesEaten.l2 k d (x : Int) (y : Int) (way l c x y) (l.length : Int) (a : Int) l c) true := by
  intro n
  induction n with
  | zero =>
    intro a ha
    exact Ev_step (fun k => by rw [laws_FnShelvesEaten.l2, if_neg (by omega)]) (j9_ev hd)
  | succ n ih =>
    intro a ha
    exact Ev_step (fun k => by rw [laws_FnShelvesEaten.l2, if_pos (by omega)]; rfl) (l3_ev h hm (by omega) (ih (a + 1) (by omega)) l.length 0 (by omega))
theorem j5_ev {d l : List Int} (hd : Bytes d) (c : Int) : Ev (fun k => laws_FnShelvesEaten.j5 k d (longR l c).1 (longR l c).2.1 (longR l c).2.2 l c) true := by
  unfold longR
  by_cases hk : shelfB l c = true ∧ l.length ≠ 1; rotate_left
  · rw [if_neg hk]
    exact Ev_step (fun k => by rw [laws_FnShelvesEaten.j5]) (Ev_neg Bool.false_ne_true (j9_ev hd))
  rw [if_pos hk]
  have h := (shelfB_iff l c).1 hk.1
  have h1 := h.n1
  obtain ⟨x, y, hs, hp, hm⟩ := longest (l := l) (c := c) (by have := hk.2; omega)
  rw [hs]
  refine Ev_step (fun k => by rw [laws_FnShelvesEaten.j5]) (Ev_pos rfl (Ev_bind (wormI_yes h hp.1 hp.2.1 false true) (Ev_pos rfl ?_)))
  show Ev (fun k => laws_FnShelvesEaten.j6 k d (x : Int) (y : Int) (way l c x y) ((x : Int) == (y : Int)) l c) true
  rw [show ((x : Int) == (y : Int)) = false from beq_eq_false_iff_ne.2 (by have := hp.2.2; omega)]
  exact Ev_step (fun k => by rw [laws_FnShelvesEaten.j6, if_neg Bool.false_ne_true]; rfl) (l2_ev hd h hm l.length 0 (by omega))
theorem l1_ev {d l : List Int} (hd : Bytes d) {c : Int} (h : Shf l c) : ∀ n i : Nat, i + n = l.length → Ev (fun k => laws_FnShelvesEaten.l1 k d (lft l c l.length) (longR l c).1 (longR l c).2.1 (longR l c).2.2 (lft l c i) l (l.length : Int) (i : Int) l c) true := by
  have h8 := h.n8
  have c0 := h.c0
  have c1 := h.c1
  intro n
  induction n with
  | zero =>
    intro i hi
    obtain rfl : i = l.length := by omega
    exact Ev_step (fun k => by rw [laws_FnShelvesEaten.l1, if_neg (by omega), if_pos rfl]) (j5_ev hd c)
  | succ n ih =>
    intro i hi
    have hi2 : i < l.length := by omega
    have b := lft_bound h i (by omega)
    have z := h.at hi2
    have nx := ih (i + 1) (by omega)
    have p1 := faceOf_yes h hi2 false
    have p2 := faceOf_yes h hi2 true
    rw [show ps i false = 2 * i + 1 from rfl, fcp_first] at p1
    rw [show ps i true = 2 * i from rfl, fcp_last] at p2
    have pl := placeOf_yes h hi2
    rw [lft] at pl nx
    have w1 : wrap64 (wrap64 (lft l c i + rd l (i : Int)) + wrap64 (2 * c)) = lft l c i + (l.getD i 0 + 2 * c) := by
      rw [rd_nat, w64 (x := 2 * c) (by omega) (by omega), w64 (x := lft l c i + l.getD i 0) (by omega) (by omega), w64 (by omega) (by omega)]
      omega
    have w2 : wrap64 (lft l c i + (l.getD i 0 + 2 * c) - c) = lft l c i + c + l.getD i 0 := by rw [w64 (by omega) (by omega)]; omega
    have w3 : wrap64 (lft l c i + c) = lft l c i + c := w64 (by omega) (by omega)
    refine Ev_step (fun k => by rw [laws_FnShelvesEaten.l1, if_pos (by omega), if_pos (by omega), if_pos (by omega), nextI i (by omega)]) (Ev_bind pl (Ev_bind p1 (Ev_bind p2 ?_)))
    exact Ev_pos rfl (Ev_pos rfl (Ev_pos w1.symm (Ev_pos rfl (Ev_pos w2.symm (Ev_pos rfl (Ev_pos w3.symm nx))))))
theorem longR_seven {l : List Int} {c : Int} (h : Shf l c) : (longR l c).2.2 = decide ((l.length : Int) > 1) := by
  have h1 := h.n1
  unfold longR
  by_cases e : l.length = 1; rotate_left
  · rw [if_pos ⟨(shelfB_iff l c).2 h, e⟩, decide_eq_true (by omega)]
  rw [if_neg (fun g => g.2 e), decide_eq_false (by omega)]
theorem sm_bound {l : List Int} {c : Int} (h : Shf l c) : ∀ n, n ≤ l.length → 0 ≤ sm l n ∧ sm l n ≤ 100 * n := by
  intro n
  induction n with
  | zero => intro _; exact ⟨by rw [sm]; omega, by rw [sm]; omega⟩
  | succ n ih =>
    intro hn
    have := ih (by omega)
    have a := h.at (i := n) (by omega)
    rw [sm]
    omega
theorem j2_ev {d l : List Int} (hd : Bytes d) (c : Int) (hl : l.length ≤ 9) : Ev (fun k => laws_FnShelvesEaten.j2 k d (widR l c).1 (widR l c).2 (longR l c).1 (longR l c).2.1 (longR l c).2.2 (txtR l c).1 l c) true := by
  unfold widR txtR
  by_cases hk : shelfB l c = true; rotate_left
  · rw [if_neg hk, if_neg hk]
    exact Ev_step (fun k => by rw [laws_FnShelvesEaten.j2]) (Ev_neg Bool.false_ne_true (j5_ev hd c))
  rw [if_pos hk, if_pos hk]
  have h := (shelfB_iff l c).1 hk
  have h8 := h.n8
  have c0 := h.c0
  have c1 := h.c1
  have b := sm_bound h l.length (Nat.le_refl _)
  have m : 0 ≤ 2 * c * (l.length : Int) ∧ 2 * c * (l.length : Int) ≤ 160 := by
    have e : 2 * c * (l.length : Int) ≤ 20 * (l.length : Int) := Int.mul_le_mul_of_nonneg_right (by omega) (by omega)
    have e2 : 0 ≤ 2 * c * (l.length : Int) := Int.mul_nonneg (by omega) (by omega)
    omega
  have w : lft l c l.length = wrap64 (sm l l.length + wrap64 (wrap64 (2 * c) * (l.length : Int))) := by
    rw [w64 (x := 2 * c) (by omega) (by omega), w64 (x := 2 * c * (l.length : Int)) (by omega) (by omega), w64 (by omega) (by omega), lft_sm]
  refine Ev_step (fun k => by rw [laws_FnShelvesEaten.j2]) (Ev_pos rfl (Ev_bind (parseI_yes h) (Ev_bind (fSum_ev h) (Ev_pos w (Ev_pos rfl (Ev_bind (fShelf_ev l c (by omega)) (Ev_pos rfl ?_)))))))
  have e7 : ((longR l c).2.2 != decide ((l.length : Int) > 1)) = false := by rw [longR_seven h, bne_self_eq_false]
  rw [e7]
  refine Ev_step (fun k => by rw [laws_FnShelvesEaten.j3, if_neg Bool.false_ne_true]) ?_
  exact l1_ev hd h l.length 0 (by omega)
theorem eatR_mem (lo : Nat) : ∀ h : Nat, ∀ x ∈ eatR lo h, ∃ k : Nat, x = (k : Int) ∧ 2 * k < h := by
  intro h
  induction h with
  | zero => intro x hx; cases hx
  | succ h ih =>
    intro x hx
    rw [eatR] at hx
    split at hx
    · rcases List.mem_append.1 hx with hx | hx
      · obtain ⟨k, e, hk⟩ := ih x hx
        exact ⟨k, e, by omega⟩
      · exact ⟨h / 2, List.mem_singleton.1 hx, by omega⟩
    · obtain ⟨k, e, hk⟩ := ih x hx
      exact ⟨k, e, by omega⟩
theorem eatR_len (lo : Nat) : ∀ h : Nat, (eatR lo h).length ≤ h := by
  intro h
  induction h with
  | zero => exact Nat.le_refl _
  | succ h ih =>
    rw [eatR]
    split
    · rw [List.length_append, List.length_singleton]; omega
    · omega
theorem covR_even (lo : Nat) : ∀ h : Nat, ∃ m : Nat, covR lo h = 2 * (m : Int) ∧ m ≤ h := by
  intro h
  induction h with
  | zero => exact ⟨0, rfl, Nat.le_refl _⟩
  | succ h ih =>
    obtain ⟨m, e, hm⟩ := ih
    rw [covR]
    split
    · exact ⟨m + 1, by omega, by omega⟩
    · exact ⟨m, e, by omega⟩
theorem rises_fin : ∀ lo : Fin 16, ∀ hi : Fin 16, laws_fRises.f 40 (eatR lo.val hi.val) = some true := by decide +kernel
theorem sumE_take {l : List Int} {e : List Int} {i : Nat} (hi : i < e.length) : sumE l (e.take (i + 1)) = sumE l (e.take i) + l.getD (e[i]).toNat 0 := by
  rw [List.take_succ_eq_append_getElem hi]
  unfold sumE
  rw [List.map_append, List.foldl_append]
  simp
theorem l0_ev {d l : List Int} (hd : Bytes d) {c : Int} (h : Shf l c) {a b : Nat} (ha : a < l.length) (hb : b < l.length) (la lb : Bool) : ∀ n i : Nat, i + n = (eatR (lo2 a b la lb) (hi2 a b la lb)).length → 0 ≤ sumE l ((eatR (lo2 a b la lb) (hi2 a b la lb)).take i) → sumE l ((eatR (lo2 a b la lb) (hi2 a b la lb)).take i) ≤ 100 * i →
    Ev (fun k => laws_FnShelvesEaten.l0 k d (wrm l c (ps a la) (ps b lb)) (covR (lo2 a b la lb) (hi2 a b la lb)) (eatR (lo2 a b la lb) (hi2 a b la lb)) (widR l c).1 (widR l c).2 (longR l c).1 (longR l c).2.1 (longR l c).2.2 (txtR l c).1 (fcp l c (ps a la)) true (fcp l c (ps b lb)) true (wrm l c (ps b lb) (ps a la)) true (covR (lo2 b a lb la) (hi2 b a lb la)) true
      (covR (lo2 a b la lb) (hi2 a b la lb) * c + sumE l ((eatR (lo2 a b la lb) (hi2 a b la lb)).take i)) (eatR (lo2 a b la lb) (hi2 a b la lb)) ((eatR (lo2 a b la lb) (hi2 a b la lb)).length : Int) (i : Int) l c) true := by
  have h8 := h.n8
  have c0 := h.c0
  have c1 := h.c1
  have pa := ps_lt ha la
  have pb := ps_lt hb lb
  have e1 : lo2 a b la lb < 16 := by unfold lo2; omega
  have e2 : hi2 a b la lb < 16 := by unfold hi2; omega
  have e3 : hi2 a b la lb < 2 * l.length := by unfold hi2; omega
  have hw := way_eq h ha hb la lb
  have hr := rises_fin ⟨lo2 a b la lb, e1⟩ ⟨hi2 a b la lb, e2⟩
  have hmem := eatR_mem (lo2 a b la lb) (hi2 a b la lb)
  have hlen := eatR_len (lo2 a b la lb) (hi2 a b la lb)
  obtain ⟨m, hm, hm2⟩ := covR_even (lo2 a b la lb) (hi2 a b la lb)
  have fa := fcp_bound h pa
  have fb := fcp_bound h pb
  rw [lo2_swap b a lb la, hi2_swap b a lb la, wrm_swap l c (ps b lb) (ps a la)]
  dsimp only at hr
  generalize eatR (lo2 a b la lb) (hi2 a b la lb) = e at *
  generalize covR (lo2 a b la lb) (hi2 a b la lb) = cv at *
  have mc : 0 ≤ cv * c ∧ cv * c ≤ 400 := by
    have x1 : cv * c ≤ cv * 10 := Int.mul_le_mul_of_nonneg_left c1 (by omega)
    have x2 : 0 ≤ cv * c := Int.mul_nonneg (by omega) c0
    omega
  intro n
  induction n with
  | zero =>
    intro i hi s0 s1
    obtain rfl : i = e.length := by omega
    rw [List.take_length] at s0 s1 ⊢
    have ht : Int.tmod cv 2 = 0 := by rw [hm, Int.mul_comm]; exact Int.mul_tmod_left _ _
    have fin : Ev (fun k => (laws_fRises.f k e).bind fun t552 => (if t552 = true then (laws_FnShelvesEaten.j2 k d (widR l c).1 (widR l c).2 (longR l c).1 (longR l c).2.1 (longR l c).2.2 (txtR l c).1 l c) else (some false))) true :=
      Ev_bind (Ev.of (fun k => laws_fRises.mono _ k) hr) (Ev_pos rfl (j2_ev hd c (by omega)))
    refine Ev_step (fun k => by rw [laws_FnShelvesEaten.l0, if_neg (by omega)]) (Ev_pos rfl (Ev_pos rfl ?_))
    have w1 : wrap64 (fcp l c (ps a la) - fcp l c (ps b lb)) = fcp l c (ps a la) - fcp l c (ps b lb) := w64 (by omega) (by omega)
    have w2 : wrap64 (fcp l c (ps b lb) - fcp l c (ps a la)) = fcp l c (ps b lb) - fcp l c (ps a la) := w64 (by omega) (by omega)
    by_cases g : wrm l c (ps a la) (ps b lb) = wrap64 (fcp l c (ps a la) - fcp l c (ps b lb))
    · exact Ev_pos g (Ev_pos rfl (Ev_pos rfl (Ev_pos rfl (Ev_pos rfl (Ev_pos hw.symm (Ev_pos ht fin))))))
    have g2 : wrm l c (ps a la) (ps b lb) = wrap64 (fcp l c (ps b lb) - fcp l c (ps a la)) := by
      rw [w1] at g
      rw [w2]
      unfold wrm mx at g ⊢
      split at g <;> omega
    exact Ev_neg g (Ev_pos g2 (Ev_pos rfl (Ev_pos rfl (Ev_pos rfl (Ev_pos rfl (Ev_pos hw.symm (Ev_pos ht fin)))))))
  | succ n ih =>
    intro i hi s0 s1
    have hi2 : i < e.length := by omega
    obtain ⟨k0, ek, hk⟩ := hmem _ (List.getElem_mem hi2)
    have hr2 : rd e (i : Int) = e[i] := by unfold rd; rw [Int.toNat_natCast, getD_at e _ hi2]
    have z := h.at (i := k0) (by omega)
    have st := sumE_take (l := l) hi2
    rw [ek, Int.toNat_natCast] at st
    have nx := ih (i + 1) (by omega) (by omega) (by omega)
    refine Ev_step (fun k => by rw [laws_FnShelvesEaten.l0, if_pos (by omega), if_pos (by omega), if_pos (by omega), hr2, ek, if_pos (by omega), if_pos (by omega), rd_nat, nextI i (by omega), w64 (x := cv * c + sumE l (e.take i) + l.getD k0 0) (by omega) (by omega), show cv * c + sumE l (e.take i) + l.getD k0 0 = cv * c + sumE l (e.take (i + 1)) by omega]) nx
theorem j0_yes {d l : List Int} (hd : Bytes d) {c : Int} (h : Shf l c) {a b : Nat} (ha : a < l.length) (hb : b < l.length) (la lb : Bool) :
    Ev (fun k => laws_FnShelvesEaten.j0 k d (a : Int) la (b : Int) lb (wrm l c (ps a la) (ps b lb)) true (covR (lo2 a b la lb) (hi2 a b la lb)) (eatR (lo2 a b la lb) (hi2 a b la lb)) (widR l c).1 (widR l c).2 (longR l c).1 (longR l c).2.1 (longR l c).2.2 (txtR l c).1 false l c) true := by
  have c0 := h.c0
  have c1 := h.c1
  have h8 := h.n8
  have e2 : hi2 a b la lb ≤ 16 := by have := ps_lt ha la; have := ps_lt hb lb; unfold hi2; omega
  obtain ⟨m, hm, hm2⟩ := covR_even (lo2 a b la lb) (hi2 a b la lb)
  have mc : 0 ≤ covR (lo2 a b la lb) (hi2 a b la lb) * c ∧ covR (lo2 a b la lb) (hi2 a b la lb) * c ≤ 400 := by
    have x1 : covR (lo2 a b la lb) (hi2 a b la lb) * c ≤ covR (lo2 a b la lb) (hi2 a b la lb) * 10 := Int.mul_le_mul_of_nonneg_left c1 (by omega)
    have x2 : 0 ≤ covR (lo2 a b la lb) (hi2 a b la lb) * c := Int.mul_nonneg (by omega) c0
    omega
  have l0 := l0_ev hd h ha hb la lb _ 0 (Nat.zero_add _) (Int.le_refl _) (by show (0 : Int) ≤ _; omega)
  rw [List.take_zero, show sumE l [] = 0 from rfl, Int.add_zero] at l0
  refine Ev_step (fun k => by rw [laws_FnShelvesEaten.j0]) (Ev_neg Bool.false_ne_true (Ev_pos rfl (Ev_bind (faceOf_yes h ha la) (Ev_bind (faceOf_yes h hb lb) (Ev_bind (wormI_yes h hb ha lb la) (Ev_bind (coversI_yes h hb ha lb la) ?_))))))
  rw [w64 (x := covR (lo2 a b la lb) (hi2 a b la lb) * c) (by omega) (by omega)]
  exact l0
theorem j0_no {d l : List Int} (hd : Bytes d) (c a b : Int) (la lb : Bool) (w v : Int) (e : List Int) (hl : l.length ≤ 9) :
    Ev (fun k => laws_FnShelvesEaten.j0 k d a la b lb w false v e (widR l c).1 (widR l c).2 (longR l c).1 (longR l c).2.1 (longR l c).2.2 (txtR l c).1 false l c) true :=
  Ev_step (fun k => by rw [laws_FnShelvesEaten.j0]) (Ev_neg Bool.false_ne_true (Ev_neg Bool.false_ne_true (j2_ev hd c hl)))
theorem f_ev {b0 d l : List Int} (hB : laws_big.f b0 d = some false) {c a b : Int} {la lb : Bool} (hl : l.length ≤ 9) {w v : Int} {e : List Int} (he : e.length ≤ 100) {ok : Bool}
    (e0 : Ev (fun k => spec_DrawWormEats.f k b0) (l, c, a, la, b, lb))
    (w1 : Ev (fun k => impl_WormEats.f k l c a la b lb) (w, ok)) (w2 : Ev (fun k => spec_WormEats.f k l c a la b lb) (w, ok))
    (v1 : Ev (fun k => impl_CoversEaten.f k l c a la b lb) (v, ok)) (v2 : Ev (fun k => spec_CoversEaten.f k l c a la b lb) (v, ok))
    (p1 : Ev (fun k => impl_PagesEaten.f k l c a la b lb) (e, ok)) (p2 : Ev (fun k => spec_PagesEaten.f k l c a la b lb) (e, ok))
    (hok : ok = true → shelfB l c = true)
    (nx : Ev (fun k => laws_FnShelvesEaten.j0 k d a la b lb w ok v e (widR l c).1 (widR l c).2 (longR l c).1 (longR l c).2.1 (longR l c).2.2 (txtR l c).1 false l c) true) : Ev (fun k => laws_FnShelvesEaten.f k b0 d) true := by
  have iS := isShelf_ev l c (by omega)
  have sS : Ev (fun k => spec_IsShelf.f k l c) (shelfB l c) := by
    simp only [spec_IsShelf.f]
    exact Ev_bind (shGood_ev l c (by omega)) (Ev.now _)
  have q1 : (widR l c).2 = shelfB l c := by unfold widR; cases shelfB l c <;> rfl
  have q2 : (txtR l c).2 = shelfB l c := by unfold txtR; cases shelfB l c <;> rfl
  have q3 : (longR l c).2.2 = true → shelfB l c = true := fun h => by
    unfold longR at h
    split at h
    · next g => exact g.1
    · cases h
  simp only [laws_FnShelvesEaten.f]
  refine Ev_some hB (Ev_neg Bool.false_ne_true (Ev_bind e0 (Ev_bind w1 (Ev_bind w2 (Ev_bind v1 (Ev_bind v2 (Ev_bind p1 (Ev_bind p2 (Ev_bind (widthI_ev l c (by omega)) (Ev_bind (widthS_ev l c (by omega)) (Ev_bind (longI_ev l c (by omega)) (Ev_bind (longS_ev2 l c (by omega)) (Ev_bind (textI_ev l c (by omega)) (Ev_bind (textS_ev l c (by omega)) ?_))))))))))))))
  refine Ev_neg (bne_self _) (Ev_pos rfl (Ev_neg (bne_self _) (Ev_pos rfl (Ev_neg (bne_self _) (Ev_bind (fSame_ev e (by omega)) (Ev_pos rfl (Ev_neg (bne_self _) (Ev_pos rfl (Ev_neg (bne_self _) (Ev_pos rfl (Ev_pos rfl (Ev_neg (bne_self _) (Ev_pos rfl (Ev_neg (bne_self _) (Ev_neg (bne_self _) ?_)))))))))))))))
  have fin : ∀ X Y, (X = false) → (Y = false) → Ev (fun k => if (longR l c).2.2 = true then (laws_FnShelvesEaten.j0 k d a la b lb w ok v e (widR l c).1 (widR l c).2 (longR l c).1 (longR l c).2.1 (longR l c).2.2 (txtR l c).1 X l c) else (laws_FnShelvesEaten.j0 k d a la b lb w ok v e (widR l c).1 (widR l c).2 (longR l c).1 (longR l c).2.1 (longR l c).2.2 (txtR l c).1 Y l c)) true := fun X Y hx hy => by
    subst hx hy
    by_cases h7 : (longR l c).2.2 = true; rotate_left
    · exact Ev_neg h7 nx
    exact Ev_pos h7 nx
  have b1 : ¬ ((widR l c).2 != shelfB l c) = true := by rw [q1]; exact bne_self _
  have b2 : ¬ ((txtR l c).2 != (widR l c).2) = true := by rw [q1, q2]; exact bne_self _
  cases ok with
  | true =>
    have hs := hok rfl
    refine Ev_pos rfl (Ev_pos (q1.trans hs) (Ev_bind iS (Ev_neg b1 (Ev_bind iS (Ev_bind sS (Ev_neg (bne_self _) (Ev_neg b2 ?_)))))))
    exact fin _ _ (by rw [q1, hs]; rfl) rfl
  | false =>
    refine Ev_neg Bool.false_ne_true (Ev_bind iS (Ev_neg b1 (Ev_bind iS (Ev_bind sS (Ev_neg (bne_self _) (Ev_neg b2 ?_))))))
    by_cases h7 : (longR l c).2.2 = true
    · exact fin _ _ (by rw [q1, q3 h7]; rfl) rfl
    refine Ev_neg h7 ?_
    exact nx
theorem FnShelvesEaten : laws_FnShelvesEaten.Pure := by
  intro l0 l1 ⟨hm0, hw0⟩ ⟨hm1, hw1⟩
  refine Ev.rounds (g := fun k => laws_FnShelvesEaten.f k l0 l1) ?_
  have hbg : ∃ B, laws_big.f l0 l1 = some B := by
    unfold laws_big.f
    split
    · exact ⟨_, rfl⟩
    · exact ⟨_, rfl⟩
  obtain ⟨B, hB⟩ := hbg
  cases B with
  | true =>
    simp only [laws_FnShelvesEaten.f]
    exact Ev_some hB (Ev_pos rfl (Ev.now _))
  | false =>
    obtain ⟨l, c, a, la, b, lb, e0, hl⟩ := drawWorm_ok (Bytes.of hw0)
    have hd := Bytes.of hw1
    cases hk : okAB l c a b with
    | false =>
      exact f_ev hB hl (Nat.zero_le _) e0 (wormI_no la lb (by omega) hk) (wormS_no la lb (by omega) hk) (coversI_no la lb (by omega) hk) (coversS_no la lb (by omega) hk) (pagesI_no la lb (by omega) hk) (pagesS_no la lb (by omega) hk) (fun h => by cases h) (j0_no hd c a b la lb 0 0 [] hl)
    | true =>
      obtain ⟨h, p, q, rfl, rfl, hp, hq⟩ := okAB_of hk
      have h8 := h.n8
      have e2 : hi2 p q la lb ≤ 16 := by have := ps_lt hp la; have := ps_lt hq lb; unfold hi2; omega
      have hlen := eatR_len (lo2 p q la lb) (hi2 p q la lb)
      exact f_ev hB hl (by omega) e0 (wormI_yes h hp hq la lb) (wormS_yes h hp hq la lb) (coversI_yes h hp hq la lb) (coversS_yes h hp hq la lb) (pagesI_yes h hp hq la lb) (pagesS_yes h hp hq la lb) (fun _ => (shelfB_iff l c).2 h) (j0_yes hd h hp hq la lb)
end Go.Proofs.YtimladcenifppaaGreatDoor.Pure
end

section
namespace Go.Proofs.YtimladcenifppaaGreatDoor.Open
open Go.ChangeShapes Go.WideShapes Go.ChangeAt Go.RowKit Go.Proofs.YtimladcenifppaaGreatDoorW.PrintWords
set_option linter.unusedVariables false

structure Opens {α : Type} (P : Program) (t : TypeId) (d : Kd α) (fit : α → Prop) : Prop where
  out : ∀ {H : Type} (enc : TypeId × Value → H) (w : World) (fuel : Nat) (cs : List Value) (x : DataW H × List MemPlace), DataW.trod enc P w 0 (fun _ => true) true fuel t cs = some x → ∃ y, d.K w y cs ∧ fit y
theorem opens_int {P : Program} {t : TypeId} {k : IntKind} (ht : P.underlying t = some (.int k)) : Opens P t (Kd.int k) (fun x => (Lit.int k x).wf = true) := by
  refine ⟨fun {H} enc w fuel cs x h => ?_⟩
  obtain ⟨n, rfl, _, hw⟩ := DataW.trod_int ht h
  exact ⟨n, rfl, hw⟩
theorem cells_at {w : World} {base n : Nat} {a : Addr} {cs : List Value} (h : w.cells? base a n = some cs) : cs.length = n ∧ ∀ i u, cs[i]? = some u → w.cell? (a.add i) = some u := by
  unfold World.cells? at h
  split at h
  · have hl := mapM_some_length h
    rw [List.length_range] at hl
    refine ⟨hl, fun i u hu => ?_⟩
    have hi : i < n := by have := (List.getElem?_eq_some_iff.1 hu).1; omega
    have := mapM_some_get h i i (by simp [hi])
    rw [this, hu]
  · cases h

theorem list_of {α : Type} {n : Nat} {p : Nat → α → Prop} (h : ∀ i, i < n → ∃ x, p i x) : ∃ xs : List α, xs.length = n ∧ ∀ i x, xs[i]? = some x → p i x := by
  induction n with
  | zero => exact ⟨[], rfl, by simp⟩
  | succ n ih =>
    obtain ⟨xs, hl, hx⟩ := ih (fun i hi => h i (by omega))
    obtain ⟨y, hy⟩ := h n (by omega)
    refine ⟨xs ++ [y], by simp [hl], fun i x hi => ?_⟩
    rcases Nat.lt_trichotomy i n with hlt | rfl | hgt
    · rw [List.getElem?_append_left (by omega)] at hi
      exact hx i x hi
    · rw [List.getElem?_append_right (by omega), hl] at hi
      simp at hi
      exact hi ▸ hy
    · rw [List.getElem?_eq_none (by simp; omega)] at hi
      cases hi

theorem opens_slice {α : Type} {P : Program} {t e : TypeId} {d : Kd α} {fit : α → Prop} (ht : P.underlying t = some (.slice e)) (hc : P.cellsOf e = d.sz) (h : Opens P e d fit) :
    Opens P t (Kd.slice e d) (fun xs => xs.length ≤ maxLen ∧ ∀ x, x ∈ xs → fit x) := by
  refine ⟨fun {H} enc w fuel cs x hx => ?_⟩
  rcases Go.Deep.open_slice ht hx with ⟨rfl, _⟩ | ⟨a, len, cap, m, n, D, Pl, rfl, _, hl, hm, hmm, _, hel⟩
  · exact ⟨[], ⟨none, 0, rfl, Nat.le_refl _, rfl, by simp, fun h0 => absurd h0 (by simp)⟩, by simp, by simp⟩
  · have hm' : m = cap := by simpa using hmm
    subst hm'
    obtain ⟨xs, hlen, hxs⟩ := list_of (n := len) (p := fun i y => ∃ c, c.length = d.sz ∧ d.K w y c ∧ fit y ∧ ∀ j u, c[j]? = some u → w.cell? (a.add (i * d.sz + j)) = some u) (fun i hi => by
      obtain ⟨cs', hcs, htr⟩ := hel i (by omega)
      obtain ⟨y, hK, hf⟩ := h.out enc w n cs' _ htr
      obtain ⟨hlc, hcell⟩ := cells_at hcs
      refine ⟨y, cs', d.K_len hK, hK, hf, fun j u hu => ?_⟩
      have := hcell j u hu
      rw [Go.Deep.add_add, hc] at this
      exact this)
    subst hlen
    refine ⟨xs, ⟨some a, m, rfl, hl, rfl, by unfold maxLen at hm; omega, fun _ => ⟨a, rfl, fun j p hj => ?_⟩⟩, by omega, fun x hmem => ?_⟩
    · obtain ⟨c, h1, h2, _, h3⟩ := hxs j p hj
      exact ⟨c, h1, h2, h3⟩
    · obtain ⟨i, hi, rfl⟩ := List.mem_iff_getElem.1 hmem
      obtain ⟨_, _, _, hf, _⟩ := hxs i _ (List.getElem?_eq_getElem hi)
      exact hf

theorem arg_slice {α : Type} {P : Program} {t e : TypeId} {d : Kd α} {fit : List α → Prop} {H : Type} {enc : TypeId × Value → H} {w : World} {v : Value} {x : DataW H} {ps : List MemPlace} (ho : Opens P t (Kd.slice e d) fit) (h : DataW.Trod enc P w 0 (fun _ => true) true t v x ps) (hv : ∃ a n c, v = .slice a n c) :
    ∃ (A : Option Addr) (c : Nat) (l : List α), v = .slice A l.length c ∧ Kd.C d w A l.length l ∧ l.length ≤ c ∧ fit l := by
  obtain ⟨fuel, hf⟩ := h
  obtain ⟨a, n, c, rfl⟩ := hv
  obtain ⟨l, ⟨A, c', hcs, hlc, hC⟩, hfit⟩ := ho.out enc w fuel _ _ hf
  simp [Value.cells] at hcs
  obtain ⟨rfl, rfl, rfl⟩ := hcs
  exact ⟨a, c, l, rfl, hC, hlc, hfit⟩
end Go.Proofs.YtimladcenifppaaGreatDoor.Open
end
