/- Lean functions with the answers of the program's Go functions, and for each the proof that the Go code comes to these answers; no condition. -/
import Derived.Test.YtppbpefehpbejaaZbt21
import Derived.Test.YtppbpefehpbejaaZbt23
import Derived.Test.YtppbpefehpbejaaZbt0
import Derived.Laws.CopyOwn
import Derived.Maps.OwnSet
import Derived.Maps.RangeWalk
import Derived.DeepKeys4
import Derived.Carry
import Derived.IntWalk
import Derived.Test.YtppbpefehpbejaaZbt22
section
namespace Go.Proofs.Ytppbpefehpbejaa.P
open Go.RowKit Go.Proofs.YtppbpefehpbejaaW.PrintWords Go.Proofs.YtppbpefehpbejaaW.PrintLast Go.Proofs.YtppbpefehpbejaaW.PrintMore
attribute [local go_sem] max2_int min2_int max_two min_two max_three min_three max_four min_four   -- for this text's walks alone
set_option linter.unusedVariables false
set_option linter.unusedSimpArgs false

/-! ### spec_TurnParts: function 52 -/
mutual
def spec_TurnParts.j0 : Nat → List Int → List (List Int) → Bool → Option (List Int × Bool)
 | 0, _, _, _ => none
 | k + 1, x0, x1, x16 => if x16 = true then (some (([] : List Int), false)) else ((spec_l1Own.f x0).bind fun t449 => (spec_TurnParts.l0 k t449 x1 (x1.length : Int) 0))
def spec_TurnParts.l0 : Nat → List Int → List (List Int) → Int → Int → Option (List Int × Bool)
 | 0, _, _, _, _ => none
 | k + 1, x6, x19, x20, x21 => if x21 < x20 then (if 0 ≤ x21 then (if x21 < (x19.length : Int) then (if ((rd_L2 x19 x21).length : Int) = 2 then (if 0 < ((rd_L2 x19 x21).length : Int) then (if 1 < ((rd_L2 x19 x21).length : Int) then ((spec_biPart.f k x6 (rd (rd_L2 x19 x21) 0) (rd (rd_L2 x19 x21) 1)).bind fun t455 => (if t455 = true then ((spec_biTurn.f k x6 (rd (rd_L2 x19 x21) 0) (rd (rd_L2 x19 x21) 1)).bind fun t458 => (spec_TurnParts.l0 k t458 x19 x20 (wrap64 (x21 + 1)))) else (some (([] : List Int), false)))) else (none)) else (none)) else (some (([] : List Int), false))) else (none)) else (none)) else (some (x6, true))
end
def spec_TurnParts.f (k : Nat) (l0 : List Int) (l1 : List (List Int)) : Option (List Int × Bool) := (spec_biGood.f k l0).bind fun t448 => (if t448 = true then (spec_TurnParts.j0 k l0 l1 (decide ((l1.length : Int) > 40))) else (spec_TurnParts.j0 k l0 l1 true))
def spec_TurnParts.T7 : Bool × List (List Nat × List Nat) := (true, [([], []), ([0], [0]), ([1], [1]), ([2], [2]), ([3], [3]), ([3], [3]), ([5, 3], [3, 5]), ([6, 3], [3, 6]), ([3], [3]), ([8, 3], [3, 8]), ([9, 3], [3, 9]), ([4, 7, 10, 3, 3], [3, 4, 7, 10]), ([11, 3], [3, 11]), ([3, 12], [3, 12])])
def spec_TurnParts.B7 : List Nat := [0, 1, 3, 7, 15, 15, 47, 111, 15, 271, 783, 2047, 4095, 8191]
theorem spec_TurnParts.tab7 : rtab .any (opsOf Try.f52 7) = spec_TurnParts.T7 := by kernel_rfl
theorem spec_TurnParts.bits7 : waitsOk spec_TurnParts.T7.2 spec_TurnParts.B7 = true := by kernel_rfl
def spec_TurnParts.T9 : Bool × List (List Nat × List Nat) := (true, [([], []), ([], []), ([1], [1]), ([2], [2]), ([], []), ([4], [4]), ([5], [5]), ([0, 3, 6], [0, 3, 6]), ([7, 7, 0, 1, 2, 3, 4, 5, 6, 7], [0, 7])])
def spec_TurnParts.B9 : List Nat := [0, 0, 2, 6, 0, 16, 48, 127, 255]
theorem spec_TurnParts.tab9 : rtab .any (opsOf Try.f52 9) = spec_TurnParts.T9 := by kernel_rfl
theorem spec_TurnParts.bits9 : waitsOk spec_TurnParts.T9.2 spec_TurnParts.B9 = true := by kernel_rfl
set_option maxHeartbeats 8000000 in
set_option maxRecDepth 100000 in
theorem spec_TurnParts.calls (k : Nat) (A0 : Option Addr) (c0 : Nat) (l0 : List Int) (A1 : Option Addr) (c1 : Nat) (l1 : List (List Int)) (r1 : List Int) (r2 : Bool) (w : World) (hr0 : Kd.C (Kd.int .i64) w A0 l0.length l0) (hc0 : l0.length ≤ c0) (hr1 : Kd.C (Kd.slice 3 (Kd.int .i64)) w A1 l1.length l1) (hc1 : l1.length ≤ c1) (h : spec_TurnParts.f k l0 l1 = some (r1, r2)) :
  Calls Try.prog 52 #[.slice A0 l0.length c0, .slice A1 l1.length c1] w fun e w' => ∃ v0_ : Value, e = .returned (.tuple #[v0_, .bool r2]) ∧ Kd.R (Kd.int .i64) 3 w' w.heap.size (fun _ => True) v0_ r1 ∧ Below w.heap.size w w' := by
 have HR0 := Az_ hr0
 have HC0 := Az_ hc0
 clear hr0 hc0
 have HR1 := Az_ hr1
 have HC1 := Az_ hc1
 clear hr1 hc1
 have HB := Az_ (Below.refl w.heap.size w)
 have H : ((spec_biGood.f k l0).bind fun t448 => (if t448 = true then (j0 k l0 l1 (decide ((l1.length : Int) > 40))) else (j0 k l0 l1 true))) = some (r1, r2) := h
 clear h
 have HC3 := Az_ H
 clear H
 go_enter Try.func52, Try.ntmps52
 go_upto_region 1 with (fail)
 go_cut [16] (fun v16 wc => ∃ (kq : Nat) (x16_2 : Bool), v16 = .bool x16_2 ∧ Aside0 (j0 kq l0 l1 x16_2 = some (r1, r2)) ∧ Aside0 (kq ≤ k) ∧ Aside0 (Below w.heap.size w wc))
 case first =>
  have H := HC3.out
  clear HC3
  replace H := Option.bind_eq_some_iff.mp H
  obtain ⟨t448, A40, H⟩ := H
  replace H : (if t448 = true then (j0 k l0 l1 (decide ((l1.length : Int) > 40))) else (j0 k l0 l1 true)) = some (r1, r2) := H
  have A4 := Az_ A40
  clear A40
  by_cases c5 : t448 = true
  ·subst c5
   have H1 : (j0 k l0 l1 (decide ((l1.length : Int) > 40))) = some (r1, r2) := by rw [if_pos rfl] at H; exact H
   clear H
   have H := H1
   clear H1
   have H' := Az_ H
   clear H
   go_wp2_with (first | ((with_reducible refine gate_callee (f := 83) rfl ?_); refine goesL_ (some 10) rfl rfl Try.func83 (by kernel_rfl) rfl #[.slice A0 l0.length c0] rfl maz_ ?_; (with_reducible refine (spec_biGood.calls k _ _ l0 true _ ?side1 ?side2 A4.out).mono ?_); (case side1 => exact ucz_ ((Kd.C_below HR0.out HB.out))); (case side2 => first | exact HC0.out | (rw [List.length_take]; have := HC0.out; omega)); rintro e w' ⟨rfl, ⟨nd, rfl⟩⟩; refine ⟨_, rfl, ?_⟩))
   go_meet
   case rel => exact ⟨_, (decide ((l1.length : Int) > 40)), qaz_, H', ⟨by first | omega | exact Nat.le_refl _⟩, ⟨by exact ubz_ HB.out⟩⟩
  ·replace c5 := Bool.eq_false_iff.mpr c5
   subst c5
   have H1 : (j0 k l0 l1 true) = some (r1, r2) := by rw [if_neg (show ¬ (false = true) by decide)] at H; exact H
   clear H
   have H := H1
   clear H1
   have H' := Az_ H
   clear H
   go_wp2_with (first | ((with_reducible refine gate_callee (f := 83) rfl ?_); refine goesL_ (some 10) rfl rfl Try.func83 (by kernel_rfl) rfl #[.slice A0 l0.length c0] rfl maz_ ?_; (with_reducible refine (spec_biGood.calls k _ _ l0 false _ ?side1 ?side2 A4.out).mono ?_); (case side1 => exact ucz_ ((Kd.C_below HR0.out HB.out))); (case side2 => first | exact HC0.out | (rw [List.length_take]; have := HC0.out; omega)); rintro e w' ⟨rfl, ⟨nd, rfl⟩⟩; refine ⟨_, rfl, ?_⟩))
   go_meet
   case rel => exact ⟨_, (true), qaz_, H', ⟨by first | omega | exact Nat.le_refl _⟩, ⟨by exact ubz_ HB.out⟩⟩
 case rest =>
  clear HC3
  (try clear c1); (try clear p2); (try clear c5)
  obtain ⟨kq, x16_2, rfl, HA, HJ2, HB⟩ := hcut
  cases kq with
  | zero => exact absurd HA.out (by simp [j0])
  | succ kj2 =>
   have H := HA.out
   clear HA
   simp only [j0] at H
   by_cases c6 : x16_2 = true
   ·subst c6
    have H1 : (some (([] : List Int), false)) = some (r1, r2) := by rw [if_pos rfl] at H; exact H
    clear H
    have H := H1
    clear H1
    simp only [Option.some.injEq, Prod.mk.injEq] at H
    obtain ⟨rfl, rfl⟩ := H
    go_wp2
    go_ret2
    exact ⟨_, by first | rfl | (simp [errW_none, errW_some] <;> rfl) | (simp [*, errW_none, errW_some] <;> rfl), by first | exact Kd.R_nil _ _ _ _ _ | exact Kd.N_nil _ _ _ _ _ | exact Kd.V_nil _ _ _ _ _ | exact Kd.Q_nil _ _ _ _ _ | exact Kd.S_nil _ _ _ _ _, by exact ubz_ HB.out⟩
   ·replace c6 := Bool.eq_false_iff.mpr c6
    subst c6
    have H1 : ((spec_l1Own.f l0).bind fun t449 => (spec_TurnParts.l0 kj2 t449 l1 (l1.length : Int) 0)) = some (r1, r2) := by rw [if_neg (show ¬ (false = true) by decide)] at H; exact H
    clear H
    have H := H1
    clear H1
    replace H := Option.bind_eq_some_iff.mp H
    obtain ⟨t449, A70, H⟩ := H
    replace H : (spec_TurnParts.l0 kj2 t449 l1 (l1.length : Int) 0) = some (r1, r2) := H
    have A7 := Az_ A70
    clear A70
    have H' := Az_ H
    clear H
    go_wp2_with (first | ((with_reducible refine gate_callee (f := 58) rfl ?_); refine goesL_ (some 18) rfl rfl Try.func58 (by kernel_rfl) rfl #[.slice A0 l0.length c0] rfl maz_ ?_; (with_reducible refine (spec_l1Own.calls _ _ l0 t449 _ ?side1 ?side2 A7.out).mono ?_); (case side1 => exact ucz_ ((Kd.C_below HR0.out HB.out))); (case side2 => exact HC0.out); rintro e w8 ⟨v450, rfl, ho0, hb⟩; refine ⟨_, rfl, ?_⟩; have n0_ := Az_ (Kd.R_lower ho0 (below_size (ubz_ HB.out))); have n1_ := Az_ (btz_ (ubz_ HB.out) hb); clear HB; have HO451 := n0_; have HB := n1_; clear n0_ n1_; (try clear hb); (try clear hb2); (try clear hk); (try clear hi); (try clear ho0)))
    go_loopg [6, 21] kj2 (fun kq v6 v21 w' => ∃ (x6_2 : List Int) (x21_2 : Int), v21 = .int .i64 x21_2 ∧ Aside0 (spec_TurnParts.l0 kq x6_2 l1 (l1.length : Int) x21_2 = some (r1, r2)) ∧ Aside0 (kq ≤ kj2) ∧ Aside0 (Kd.R (Kd.int .i64) 3 w' w.heap.size (fun _ => True) v6 x6_2) ∧ Aside0 (Below w.heap.size w w'))
    case atStart => exact ⟨(t449), (0), qaz_, H', ⟨Nat.le_refl _⟩, ⟨by (with_reducible repeat (first | apply raz_ | apply rnz_ | apply rdz_)); exact HO451.out⟩, ⟨by exact ubz_ HB.out⟩⟩
    case round =>
     clear H'
     (try clear c1); (try clear p2); (try clear c5); (try clear c6); (try clear c8); (try clear p2)
     obtain ⟨x6_2, x21_2, rfl, HA, HK2, HO_6, HB⟩ := hrel
     cases gk with
     | zero => exact absurd HA.out (by simp [spec_TurnParts.l0])
     | succ k2 =>
      have H := HA.out
      clear HA
      simp only [spec_TurnParts.l0] at H
      by_cases c9 : x21_2 < (l1.length : Int)
      ·rw [if_pos c9] at H
       have c9b0 := decide_eq_true c9
       clear c9
       by_cases c10 : 0 ≤ x21_2
       ·rw [if_pos c10] at H
        have c10b0 := decide_eq_true c10
        clear c10
        by_cases c11 : x21_2 < (l1.length : Int)
        ·rw [if_pos c11] at H
         have c11b0 := decide_eq_true c11
         clear c11
         by_cases c12 : ((rd_L2 l1 x21_2).length : Int) = 2
         ·rw [if_pos c12] at H
          have c12b0 : (((rd_L2 l1 x21_2).length : Int) == 2) = true := beq_iff_eq.mpr c12
          have c12b1 : (((rd_L2 l1 x21_2).length : Int) != 2) = false := bne_eq_false_iff_eq.mpr c12
          clear c12
          by_cases c13 : 0 < ((rd_L2 l1 x21_2).length : Int)
          ·rw [if_pos c13] at H
           have c13b0 := decide_eq_true c13
           have c13b1 : decide (0 < (rd_L2 l1 x21_2).length) = true := decide_eq_true (by omega)
           clear c13
           by_cases c14 : 1 < ((rd_L2 l1 x21_2).length : Int)
           ·rw [if_pos c14] at H
            have c14b0 := decide_eq_true c14
            have c14b1 : decide (1 < (rd_L2 l1 x21_2).length) = true := decide_eq_true (by omega)
            clear c14
            replace H := Option.bind_eq_some_iff.mp H
            obtain ⟨t455, A150, H⟩ := H
            replace H : (if t455 = true then ((spec_biTurn.f k2 x6_2 (rd (rd_L2 l1 x21_2) 0) (rd (rd_L2 l1 x21_2) 1)).bind fun t458 => (spec_TurnParts.l0 k2 t458 l1 (l1.length : Int) (wrap64 (x21_2 + 1)))) else (some (([] : List Int), false))) = some (r1, r2) := H
            have A15 := Az_ A150
            clear A150
            by_cases c16 : t455 = true
            ·subst c16
             have H1 : ((spec_biTurn.f k2 x6_2 (rd (rd_L2 l1 x21_2) 0) (rd (rd_L2 l1 x21_2) 1)).bind fun t458 => (spec_TurnParts.l0 k2 t458 l1 (l1.length : Int) (wrap64 (x21_2 + 1)))) = some (r1, r2) := by rw [if_pos rfl] at H; exact H
             clear H
             have H := H1
             clear H1
             replace H := Option.bind_eq_some_iff.mp H
             obtain ⟨t458, A170, H⟩ := H
             replace H : (spec_TurnParts.l0 k2 t458 l1 (l1.length : Int) (wrap64 (x21_2 + 1))) = some (r1, r2) := H
             have A17 := Az_ A170
             clear A170
             have H' := Az_ H
             clear H
             have p452 : 0 ≤ (x21_2 : Int) := of_decide_eq_true asz_
             have q452 : x21_2 < (l1.length : Int) := of_decide_eq_true asz_
             obtain ⟨ad452, A452_0, c452_0, e452, hx452_0, hl452_0, hi452_0⟩ := at_L2 HR1.out x21_2 p452 q452
             cases e452
             replace hx452_0 := (HB.out.cell (World.block_lt_of_cell? w _ hx452_0)).trans hx452_0
             have HR452_0 := Az_ hi452_0
             have HC452_0 := Az_ hl452_0
             clear hi452_0 hl452_0
             replace p452 := eq_true p452
             replace q452 := eq_true q452
             try go_wp2
             have n0_ := Az_ (rdz_ HO_6.out)
             have n1_ := Az_ (bdz_ HB.out)
             clear HO_6 HB
             have HO_6 := n0_
             have HB := n1_
             clear n0_ n1_
             have p453 : 0 ≤ (0 : Int) := (by omega)
             have q453 : 0 < ((rd_L2 l1 x21_2).length : Int) := of_decide_eq_true asz_
             obtain ⟨ad453, e453, hx453_0⟩ := Kd.at_int HR452_0.out 0 p453 q453
             have hw453_0 := hx453_0
             (try rw [show ((0 : Int)).toNat = 0 from rfl] at hw453_0)
             (try rw [show 0 * 1 = 0 from rfl] at hw453_0)
             (try rw [Addr.add_zero'] at hw453_0)
             cases e453
             have qi453 : (0 < (rd_L2 l1 x21_2).length) = True := eq_true (by omega)
             (try rw [show ((0 : Int)).toNat = 0 from rfl] at hx453_0)
             (try rw [Addr.add_zero'] at hx453_0)
             replace hx453_0 := (HB.out.cell (World.block_lt_of_cell? w _ hx453_0)).trans hx453_0
             replace p453 := eq_true p453
             replace q453 := eq_true q453
             have p454 : 0 ≤ (1 : Int) := (by omega)
             have q454 : 1 < ((rd_L2 l1 x21_2).length : Int) := of_decide_eq_true asz_
             obtain ⟨ad454, e454, hx454_0⟩ := Kd.at_int HR452_0.out 1 p454 q454
             have hw454_0 := hx454_0
             (try rw [show ((1 : Int)).toNat = 1 from rfl] at hw454_0)
             (try rw [show 1 * 1 = 1 from rfl] at hw454_0)
             (try simp only [Nat.reduceMul, Nat.reduceEqDiff, Go.Addr.add, ↓reduceIte] at hw454_0)
             obtain rfl : ad453 = ad454 := (by injection e454)
             (try simp only [show (1 : Int).toNat = 1 from rfl, Nat.reduceMul, Nat.reduceEqDiff, Go.Addr.add, ↓reduceIte] at hx454_0)
             have qi454 : (1 < (rd_L2 l1 x21_2).length) = True := eq_true (by omega)
             (try rw [show ((1 : Int)).toNat = 1 from rfl] at hx454_0)
             replace hx454_0 := (HB.out.cell (World.block_lt_of_cell? w _ hx454_0)).trans hx454_0
             replace p454 := eq_true p454
             replace q454 := eq_true q454
             obtain ⟨Ao19, co19, eo19⟩ := Kd.R_slice HO_6.out
             (first | subst eo19 | (injection eo19 with f1_ f2_ f3_; have f4_ := f1_.symm; have f5_ := f3_.symm; clear f1_ f2_ f3_; subst f4_; subst f5_))
             refine start_ (n := 14) (S := fun w' => w'.cell? ad453 = some (.int .i64 (rd (rd_L2 l1 x21_2) 0)) ∧ w'.cell? ⟨ad453.block, ad453.off + 1, none⟩ = some (.int .i64 (rd (rd_L2 l1 x21_2) 1))) (ds := []) #[false, false, false, false, false, false, false, false, false, false, false, false, false, false] (by kernel_rfl) rfl rfl ⟨((HB.out.cell (World.block_lt_of_cell? w _ hw453_0)).trans hw453_0), ((HB.out.cell (World.block_lt_of_cell? w _ hw454_0)).trans hw454_0)⟩ (fun hHeld => ?_); refine with_tabW spec_TurnParts.tab7 spec_TurnParts.bits7 (fun HT_ HW_ => ?_)
             generalize wr.drew = w18 at HO_6 HB hx453_0 hx454_0 hHeld ⊢
             refine pure_ (i := 0) (N := some 25) (v := ?_) (a' := ?_) #[true, false, false, false, false, false, false, false, false, false, false, false, false, false] rfl rfl (any_of HT_.out (by kernel_rfl)) (fun _ _ _ h => h) (Or.inl ⟨by rfl, ?_⟩) ?_ ?_
             rotate_left
             ·intro w'
              go_simp
              with_reducible rfl
             rotate_left
             ·simp only [Act.put, usz_, utz_, uvz_, i64_w, i32_w]
              rfl
             refine pure_ (i := 1) (N := some 26) (v := ?_) (a' := ?_) #[true, true, false, false, false, false, false, false, false, false, false, false, false, false] rfl rfl (any_of HT_.out (by kernel_rfl)) (fun _ _ _ h => h) (Or.inl ⟨by rfl, ?_⟩) ?_ ?_
             rotate_left
             ·intro w'
              go_simp
              with_reducible rfl
             rotate_left
             ·simp only [Act.put, usz_, utz_, uvz_, i64_w, i32_w]
              rfl
             refine pure_ (i := 2) (N := some 27) (v := ?_) (a' := ?_) #[true, true, true, false, false, false, false, false, false, false, false, false, false, false] rfl rfl (any_of HT_.out (by kernel_rfl)) (fun _ _ _ h => h) (Or.inl ⟨by rfl, ?_⟩) ?_ ?_
             rotate_left
             ·intro w'
              go_simp
              with_reducible rfl
             rotate_left
             ·simp only [Act.put, usz_, utz_, uvz_, i64_w, i32_w]
              rfl
             refine pure_ (i := 3) (N := some 28) (v := ?_) (a' := ?_) #[true, true, true, true, false, false, false, false, false, false, false, false, false, false] rfl rfl (any_of HT_.out (by kernel_rfl)) (fun _ _ _ h => h) (Or.inl ⟨by rfl, ?_⟩) ?_ ?_
             rotate_left
             ·intro w'
              go_simp
              with_reducible rfl
             rotate_left
             ·simp only [Act.put, usz_, utz_, uvz_, i64_w, i32_w]
              rfl
             refine pure_ (i := 4) (N := some 29) (v := ?_) (a' := ?_) #[true, true, true, true, true, false, false, false, false, false, false, false, false, false] rfl rfl (any_of HT_.out (by kernel_rfl)) (fun _ _ _ h => h) (Or.inl ⟨by rfl, ?_⟩) ?_ ?_
             rotate_left
             ·intro w'
              go_simp
              with_reducible rfl
             rotate_left
             ·simp only [Act.put, usz_, utz_, uvz_, i64_w, i32_w]
              rfl
             refine pure_ (i := 5) (N := some 30) (v := ?_) (a' := ?_) #[true, true, true, true, true, true, false, false, false, false, false, false, false, false] rfl rfl (any_of HT_.out (by kernel_rfl)) (fun _ _ _ h => h) (Or.inl ⟨by rfl, ?_⟩) ?_ ?_
             rotate_left
             ·intro w'
              go_simp
              with_reducible rfl
             rotate_left
             ·simp only [Act.put, usz_, utz_, uvz_, i64_w, i32_w]
              rfl
             refine pure_ (i := 6) (N := some 31) (v := ?_) (a' := ?_) #[true, true, true, true, true, true, true, false, false, false, false, false, false, false] rfl rfl (any_of HT_.out (by kernel_rfl)) (fun _ _ _ h => h) (Or.inl ⟨by rfl, ?_⟩) ?_ ?_
             rotate_left
             ·intro w'
              go_simp
              with_reducible rfl
             rotate_left
             ·simp only [Act.put, usz_, utz_, uvz_, i64_w, i32_w]
              rfl
             refine pure_ (i := 8) (N := some 33) (v := ?_) (a' := ?_) #[true, true, true, true, true, true, true, false, true, false, false, false, false, false] rfl rfl (any_of HT_.out (by kernel_rfl)) (fun _ _ _ h => h) (Or.inl ⟨by rfl, ?_⟩) ?_ ?_
             rotate_left
             ·intro w'
              go_simp
              with_reducible rfl
             rotate_left
             ·simp only [Act.put, usz_, utz_, uvz_, i64_w, i32_w]
              rfl
             refine pure_ (i := 9) (N := some 34) (v := ?_) (a' := ?_) #[true, true, true, true, true, true, true, false, true, true, false, false, false, false] rfl rfl (any_of HT_.out (by kernel_rfl)) (fun _ _ _ h => h) (Or.inl ⟨by rfl, ?_⟩) ?_ ?_
             rotate_left
             ·intro w'
              go_simp
              with_reducible rfl
             rotate_left
             ·simp only [Act.put, usz_, utz_, uvz_, i64_w, i32_w]
              rfl
             refine take_ (i := 7) (N := some 32) (v := ?_) (a' := ?_) #[true, true, true, true, true, true, true, true, true, true, false, false, false, false] rfl rfl (take_ofW HT_.out HW_.out (by kernel_rfl)) (fun _ _ _ h => h) (Or.inl ⟨by rfl, ?_⟩) hHeld ?_ ?_
             rotate_left
             ·rintro w' ⟨s0, s1⟩
              go_simp
              with_reducible rfl
             rotate_left
             ·simp only [Act.put, usz_, utz_, uvz_, i64_w, i32_w]
              rfl
             refine take_ (i := 10) (N := some 35) (v := ?_) (a' := ?_) #[true, true, true, true, true, true, true, true, true, true, true, false, false, false] rfl rfl (take_ofW HT_.out HW_.out (by kernel_rfl)) (fun _ _ _ h => h) (Or.inl ⟨by rfl, ?_⟩) hHeld ?_ ?_
             rotate_left
             ·rintro w' ⟨s0, s1⟩
              go_simp
              with_reducible rfl
             rotate_left
             ·simp only [Act.put, usz_, utz_, uvz_, i64_w, i32_w]
              rfl
             refine one_ (i := 11) (N := some 36) #[true, true, true, true, true, true, true, true, true, true, true, true, false, false] rfl rfl (one_of HT_.out (by kernel_rfl)) (by decide) (fun K hK => ?_)
             refine goes_ Try.func92 (by kernel_rfl) rfl #[.slice Ao19 x6_2.length co19, .int .i64 (rd (rd_L2 l1 x21_2) 0), .int .i64 (rd (rd_L2 l1 x21_2) 1)] (by rfl) rfl rfl maz_ ?_
             with_reducible refine (spec_biPart.calls k2 _ _ x6_2 (rd (rd_L2 l1 x21_2) 0) (rd (rd_L2 l1 x21_2) 1) true _ ?side1 ?side2 A15.out).mono ?_
             (case side1 => repeat (first | exact (Kd.R_reads' HO_6.out).2.2 | (with_reducible refine Kd.C_alloc ?_ _) | (with_reducible refine Kd.C_drewN ?_ _) | (with_reducible refine Kd.C_drew ?_)))
             (case side2 => exact (Kd.R_reads' HO_6.out).2.1)
             rintro e w' ⟨rfl, ⟨nd, rfl⟩⟩
             refine ⟨_, rfl, ?_⟩
             refine hK.out _ _ ⟨((HB.out.cell (World.block_lt_of_cell? w _ hw453_0)).trans hw453_0), ((HB.out.cell (World.block_lt_of_cell? w _ hw454_0)).trans hw454_0)⟩ (fun hHeld => ?_)
             clear hK K
             refine norm_ (a' := ?_) ?_ ?_
             rotate_left
             ·show Act.put _ (some 36) _ = _
              simp only [Act.put, usz_, utz_, uvz_, i64_w, i32_w]
              rfl
             refine pure_ (i := 12) (N := some 37) (v := ?_) (a' := ?_) #[true, true, true, true, true, true, true, true, true, true, true, true, true, false] rfl rfl (any_of HT_.out (by kernel_rfl)) (fun _ _ _ h => h) (Or.inl ⟨by rfl, ?_⟩) ?_ ?_
             rotate_left
             ·intro w'
              go_simp
              with_reducible rfl
             rotate_left
             ·simp only [Act.put, usz_, utz_, uvz_, i64_w, i32_w]
              rfl
             refine pure_ (i := 13) (N := some 38) (v := ?_) (a' := ?_) #[true, true, true, true, true, true, true, true, true, true, true, true, true, true] rfl rfl (any_of HT_.out (by kernel_rfl)) (fun _ _ _ h => h) (Or.inl ⟨by rfl, ?_⟩) ?_ ?_
             rotate_left
             ·intro w'
              go_simp
              with_reducible rfl
             rotate_left
             ·simp only [Act.put, usz_, utz_, uvz_, i64_w, i32_w]
              rfl
             refine done_ (done_of HT_.out (by kernel_rfl)) ?_
             try go_wp2
             (try (rw [drewN_self w18]; generalize hq_ : World.drewN w18 _ = w18; have n0_ : Aside0 (Kd.R (Kd.int .i64) 3 w18 w.heap.size (fun _ => True) (.slice Ao19 x6_2.length co19) x6_2) := ⟨by rw [← hq_]; exact (by exact urz_ HO_6.out)⟩; have n1_ : Aside0 (Below w.heap.size w w18) := ⟨by rw [← hq_]; exact (ubz_ HB.out)⟩; clear HO_6 HB hq_; have HO_6 := n0_; have HB := n1_; clear n0_ n1_))
             have n0_ := Az_ (rdz_ HO_6.out)
             have n1_ := Az_ (bdz_ HB.out)
             clear HO_6 HB
             have HO_6 := n0_
             have HB := n1_
             clear n0_ n1_
             have p456 : 0 ≤ (0 : Int) := (by omega)
             have q456 : 0 < ((rd_L2 l1 x21_2).length : Int) := of_decide_eq_true asz_
             obtain ⟨ad456, e456, hx456_0⟩ := Kd.at_int HR452_0.out 0 p456 q456
             have hw456_0 := hx456_0
             (try rw [show ((0 : Int)).toNat = 0 from rfl] at hw456_0)
             (try rw [show 0 * 1 = 0 from rfl] at hw456_0)
             (try rw [Addr.add_zero'] at hw456_0)
             obtain rfl : ad453 = ad456 := (by injection e456)
             have qi456 : (0 < (rd_L2 l1 x21_2).length) = True := eq_true (by omega)
             (try rw [show ((0 : Int)).toNat = 0 from rfl] at hx456_0)
             (try rw [Addr.add_zero'] at hx456_0)
             replace hx456_0 := (HB.out.cell (World.block_lt_of_cell? w _ hx456_0)).trans hx456_0
             replace p456 := eq_true p456
             replace q456 := eq_true q456
             have p457 : 0 ≤ (1 : Int) := (by omega)
             have q457 : 1 < ((rd_L2 l1 x21_2).length : Int) := of_decide_eq_true asz_
             obtain ⟨ad457, e457, hx457_0⟩ := Kd.at_int HR452_0.out 1 p457 q457
             have hw457_0 := hx457_0
             (try rw [show ((1 : Int)).toNat = 1 from rfl] at hw457_0)
             (try rw [show 1 * 1 = 1 from rfl] at hw457_0)
             (try simp only [Nat.reduceMul, Nat.reduceEqDiff, Go.Addr.add, ↓reduceIte] at hw457_0)
             obtain rfl : ad453 = ad457 := (by injection e457)
             (try simp only [show (1 : Int).toNat = 1 from rfl, Nat.reduceMul, Nat.reduceEqDiff, Go.Addr.add, ↓reduceIte] at hx457_0)
             have qi457 : (1 < (rd_L2 l1 x21_2).length) = True := eq_true (by omega)
             (try rw [show ((1 : Int)).toNat = 1 from rfl] at hx457_0)
             replace hx457_0 := (HB.out.cell (World.block_lt_of_cell? w _ hx457_0)).trans hx457_0
             replace p457 := eq_true p457
             replace q457 := eq_true q457
             refine start_ (n := 9) (S := fun w' => w'.cell? ad453 = some (.int .i64 (rd (rd_L2 l1 x21_2) 0)) ∧ w'.cell? ⟨ad453.block, ad453.off + 1, none⟩ = some (.int .i64 (rd (rd_L2 l1 x21_2) 1))) (ds := []) #[false, false, false, false, false, false, false, false, false] (by kernel_rfl) rfl rfl ⟨((HB.out.cell (World.block_lt_of_cell? w _ hw456_0)).trans hw456_0), ((HB.out.cell (World.block_lt_of_cell? w _ hw457_0)).trans hw457_0)⟩ (fun hHeld => ?_); refine with_tabW spec_TurnParts.tab9 spec_TurnParts.bits9 (fun HT_ HW_ => ?_)
             generalize w18.drew = w20 at HO_6 HB hx456_0 hx457_0 hHeld ⊢
             refine pure_ (i := 0) (N := some 39) (v := ?_) (a' := ?_) #[true, false, false, false, false, false, false, false, false] rfl rfl (any_of HT_.out (by kernel_rfl)) (fun _ _ _ h => h) (Or.inl ⟨by rfl, ?_⟩) ?_ ?_
             rotate_left
             ·intro w'
              go_simp
              with_reducible rfl
             rotate_left
             ·simp only [Act.put, usz_, utz_, uvz_, i64_w, i32_w]
              rfl
             refine pure_ (i := 1) (N := some 40) (v := ?_) (a' := ?_) #[true, true, false, false, false, false, false, false, false] rfl rfl (any_of HT_.out (by kernel_rfl)) (fun _ _ _ h => h) (Or.inl ⟨by rfl, ?_⟩) ?_ ?_
             rotate_left
             ·intro w'
              go_simp
              with_reducible rfl
             rotate_left
             ·simp only [Act.put, usz_, utz_, uvz_, i64_w, i32_w]
              rfl
             refine pure_ (i := 2) (N := some 41) (v := ?_) (a' := ?_) #[true, true, true, false, false, false, false, false, false] rfl rfl (any_of HT_.out (by kernel_rfl)) (fun _ _ _ h => h) (Or.inl ⟨by rfl, ?_⟩) ?_ ?_
             rotate_left
             ·intro w'
              go_simp
              with_reducible rfl
             rotate_left
             ·simp only [Act.put, usz_, utz_, uvz_, i64_w, i32_w]
              rfl
             refine pure_ (i := 4) (N := some 43) (v := ?_) (a' := ?_) #[true, true, true, false, true, false, false, false, false] rfl rfl (any_of HT_.out (by kernel_rfl)) (fun _ _ _ h => h) (Or.inl ⟨by rfl, ?_⟩) ?_ ?_
             rotate_left
             ·intro w'
              go_simp
              with_reducible rfl
             rotate_left
             ·simp only [Act.put, usz_, utz_, uvz_, i64_w, i32_w]
              rfl
             refine pure_ (i := 5) (N := some 44) (v := ?_) (a' := ?_) #[true, true, true, false, true, true, false, false, false] rfl rfl (any_of HT_.out (by kernel_rfl)) (fun _ _ _ h => h) (Or.inl ⟨by rfl, ?_⟩) ?_ ?_
             rotate_left
             ·intro w'
              go_simp
              with_reducible rfl
             rotate_left
             ·simp only [Act.put, usz_, utz_, uvz_, i64_w, i32_w]
              rfl
             refine take_ (i := 3) (N := some 42) (v := ?_) (a' := ?_) #[true, true, true, true, true, true, false, false, false] rfl rfl (take_ofW HT_.out HW_.out (by kernel_rfl)) (fun _ _ _ h => h) (Or.inl ⟨by rfl, ?_⟩) hHeld ?_ ?_
             rotate_left
             ·rintro w' ⟨s0, s1⟩
              go_simp
              with_reducible rfl
             rotate_left
             ·simp only [Act.put, usz_, utz_, uvz_, i64_w, i32_w]
              rfl
             refine take_ (i := 6) (N := some 45) (v := ?_) (a' := ?_) #[true, true, true, true, true, true, true, false, false] rfl rfl (take_ofW HT_.out HW_.out (by kernel_rfl)) (fun _ _ _ h => h) (Or.inl ⟨by rfl, ?_⟩) hHeld ?_ ?_
             rotate_left
             ·rintro w' ⟨s0, s1⟩
              go_simp
              with_reducible rfl
             rotate_left
             ·simp only [Act.put, usz_, utz_, uvz_, i64_w, i32_w]
              rfl
             refine one_ (i := 7) (N := some 46) #[true, true, true, true, true, true, true, true, false] rfl rfl (one_of HT_.out (by kernel_rfl)) (by decide) (fun K hK => ?_)
             refine goes_ Try.func81 (by kernel_rfl) rfl #[.slice Ao19 x6_2.length co19, .int .i64 (rd (rd_L2 l1 x21_2) 0), .int .i64 (rd (rd_L2 l1 x21_2) 1)] (by rfl) rfl rfl maz_ ?_
             with_reducible refine (spec_biTurn.calls k2 _ _ x6_2 (rd (rd_L2 l1 x21_2) 0) (rd (rd_L2 l1 x21_2) 1) t458 _ ?side1 ?side2 A17.out).mono ?_
             (case side1 => repeat (first | exact (Kd.R_reads' HO_6.out).2.2 | (with_reducible refine Kd.C_alloc ?_ _) | (with_reducible refine Kd.C_drewN ?_ _) | (with_reducible refine Kd.C_drew ?_)))
             (case side2 => exact (Kd.R_reads' HO_6.out).2.1)
             rintro e w21 ⟨v459, rfl, ho0, hb⟩
             refine ⟨_, rfl, ?_⟩
             have n0_ := Az_ (rez_ (by exact urz_ HO_6.out) (Kd.R_base ho0) hb)
             have n1_ := Az_ (Kd.R_lower (Kd.R_new' ho0 (Kd.R_lt (by exact urz_ HO_6.out))) (below_size (ubz_ HB.out)))
             have n2_ := Az_ (btz_ (ubz_ HB.out) hb)
             clear HO_6 HB
             have HO_6 := n0_
             have HO460 := n1_
             have HB := n2_
             clear n0_ n1_ n2_
             (try clear hb)
             (try clear hb2)
             (try clear hk)
             (try clear hi)
             (try clear ho0)
             refine hK.out _ _ ⟨((HB.out.cell (World.block_lt_of_cell? w _ hw456_0)).trans hw456_0), ((HB.out.cell (World.block_lt_of_cell? w _ hw457_0)).trans hw457_0)⟩ (fun hHeld => ?_)
             clear hK K
             refine norm_ (a' := ?_) ?_ ?_
             rotate_left
             ·show Act.put _ (some 46) _ = _
              simp only [Act.put, usz_, utz_, uvz_, i64_w, i32_w]
              rfl
             refine pure_ (i := 8) (N := some 6) (v := ?_) (a' := ?_) #[true, true, true, true, true, true, true, true, true] rfl rfl (any_of HT_.out (by kernel_rfl)) (fun _ _ _ h => h) (Or.inl ⟨by rfl, ?_⟩) ?_ ?_
             rotate_left
             ·intro w'
              go_simp
              with_reducible rfl
             rotate_left
             ·simp only [Act.put, usz_, utz_, uvz_, i64_w, i32_w]
              rfl
             refine done_ (done_of HT_.out (by kernel_rfl)) ?_
             try go_wp2
             go_roundg k2
             case measure => have := HJ2.out; have := HK2.out; omega
             case rel => exact ⟨(t458), (wrap64 (x21_2 + 1)), qaz_, H', ⟨by have := HJ2.out; have := HK2.out; omega⟩, ⟨by (with_reducible repeat (first | apply raz_ | apply rnz_ | apply rdz_)); exact Kd.R_mono HO460.out (fun _ hk => trivial)⟩, ⟨by exact ubz_ HB.out⟩⟩
            ·replace c16 := Bool.eq_false_iff.mpr c16
             subst c16
             have H1 : (some (([] : List Int), false)) = some (r1, r2) := by rw [if_neg (show ¬ (false = true) by decide)] at H; exact H
             clear H
             have H := H1
             clear H1
             simp only [Option.some.injEq, Prod.mk.injEq] at H
             obtain ⟨rfl, rfl⟩ := H
             have p452 : 0 ≤ (x21_2 : Int) := of_decide_eq_true asz_
             have q452 : x21_2 < (l1.length : Int) := of_decide_eq_true asz_
             obtain ⟨ad452, A452_0, c452_0, e452, hx452_0, hl452_0, hi452_0⟩ := at_L2 HR1.out x21_2 p452 q452
             cases e452
             replace hx452_0 := (HB.out.cell (World.block_lt_of_cell? w _ hx452_0)).trans hx452_0
             have HR452_0 := Az_ hi452_0
             have HC452_0 := Az_ hl452_0
             clear hi452_0 hl452_0
             replace p452 := eq_true p452
             replace q452 := eq_true q452
             try go_wp2
             have n0_ := Az_ (rdz_ HO_6.out)
             have n1_ := Az_ (bdz_ HB.out)
             clear HO_6 HB
             have HO_6 := n0_
             have HB := n1_
             clear n0_ n1_
             have p453 : 0 ≤ (0 : Int) := (by omega)
             have q453 : 0 < ((rd_L2 l1 x21_2).length : Int) := of_decide_eq_true asz_
             obtain ⟨ad453, e453, hx453_0⟩ := Kd.at_int HR452_0.out 0 p453 q453
             have hw453_0 := hx453_0
             (try rw [show ((0 : Int)).toNat = 0 from rfl] at hw453_0)
             (try rw [show 0 * 1 = 0 from rfl] at hw453_0)
             (try rw [Addr.add_zero'] at hw453_0)
             cases e453
             have qi453 : (0 < (rd_L2 l1 x21_2).length) = True := eq_true (by omega)
             (try rw [show ((0 : Int)).toNat = 0 from rfl] at hx453_0)
             (try rw [Addr.add_zero'] at hx453_0)
             replace hx453_0 := (HB.out.cell (World.block_lt_of_cell? w _ hx453_0)).trans hx453_0
             replace p453 := eq_true p453
             replace q453 := eq_true q453
             have p454 : 0 ≤ (1 : Int) := (by omega)
             have q454 : 1 < ((rd_L2 l1 x21_2).length : Int) := of_decide_eq_true asz_
             obtain ⟨ad454, e454, hx454_0⟩ := Kd.at_int HR452_0.out 1 p454 q454
             have hw454_0 := hx454_0
             (try rw [show ((1 : Int)).toNat = 1 from rfl] at hw454_0)
             (try rw [show 1 * 1 = 1 from rfl] at hw454_0)
             (try simp only [Nat.reduceMul, Nat.reduceEqDiff, Go.Addr.add, ↓reduceIte] at hw454_0)
             obtain rfl : ad453 = ad454 := (by injection e454)
             (try simp only [show (1 : Int).toNat = 1 from rfl, Nat.reduceMul, Nat.reduceEqDiff, Go.Addr.add, ↓reduceIte] at hx454_0)
             have qi454 : (1 < (rd_L2 l1 x21_2).length) = True := eq_true (by omega)
             (try rw [show ((1 : Int)).toNat = 1 from rfl] at hx454_0)
             replace hx454_0 := (HB.out.cell (World.block_lt_of_cell? w _ hx454_0)).trans hx454_0
             replace p454 := eq_true p454
             replace q454 := eq_true q454
             obtain ⟨Ao23, co23, eo23⟩ := Kd.R_slice HO_6.out
             (first | subst eo23 | (injection eo23 with f1_ f2_ f3_; have f4_ := f1_.symm; have f5_ := f3_.symm; clear f1_ f2_ f3_; subst f4_; subst f5_))
             refine start_ (n := 14) (S := fun w' => w'.cell? ad453 = some (.int .i64 (rd (rd_L2 l1 x21_2) 0)) ∧ w'.cell? ⟨ad453.block, ad453.off + 1, none⟩ = some (.int .i64 (rd (rd_L2 l1 x21_2) 1))) (ds := []) #[false, false, false, false, false, false, false, false, false, false, false, false, false, false] (by kernel_rfl) rfl rfl ⟨((HB.out.cell (World.block_lt_of_cell? w _ hw453_0)).trans hw453_0), ((HB.out.cell (World.block_lt_of_cell? w _ hw454_0)).trans hw454_0)⟩ (fun hHeld => ?_); refine with_tabW spec_TurnParts.tab7 spec_TurnParts.bits7 (fun HT_ HW_ => ?_)
             generalize wr.drew = w22 at HO_6 HB hx453_0 hx454_0 hHeld ⊢
             refine pure_ (i := 0) (N := some 25) (v := ?_) (a' := ?_) #[true, false, false, false, false, false, false, false, false, false, false, false, false, false] rfl rfl (any_of HT_.out (by kernel_rfl)) (fun _ _ _ h => h) (Or.inl ⟨by rfl, ?_⟩) ?_ ?_
             rotate_left
             ·intro w'
              go_simp
              with_reducible rfl
             rotate_left
             ·simp only [Act.put, usz_, utz_, uvz_, i64_w, i32_w]
              rfl
             refine pure_ (i := 1) (N := some 26) (v := ?_) (a' := ?_) #[true, true, false, false, false, false, false, false, false, false, false, false, false, false] rfl rfl (any_of HT_.out (by kernel_rfl)) (fun _ _ _ h => h) (Or.inl ⟨by rfl, ?_⟩) ?_ ?_
             rotate_left
             ·intro w'
              go_simp
              with_reducible rfl
             rotate_left
             ·simp only [Act.put, usz_, utz_, uvz_, i64_w, i32_w]
              rfl
             refine pure_ (i := 2) (N := some 27) (v := ?_) (a' := ?_) #[true, true, true, false, false, false, false, false, false, false, false, false, false, false] rfl rfl (any_of HT_.out (by kernel_rfl)) (fun _ _ _ h => h) (Or.inl ⟨by rfl, ?_⟩) ?_ ?_
             rotate_left
             ·intro w'
              go_simp
              with_reducible rfl
             rotate_left
             ·simp only [Act.put, usz_, utz_, uvz_, i64_w, i32_w]
              rfl
             refine pure_ (i := 3) (N := some 28) (v := ?_) (a' := ?_) #[true, true, true, true, false, false, false, false, false, false, false, false, false, false] rfl rfl (any_of HT_.out (by kernel_rfl)) (fun _ _ _ h => h) (Or.inl ⟨by rfl, ?_⟩) ?_ ?_
             rotate_left
             ·intro w'
              go_simp
              with_reducible rfl
             rotate_left
             ·simp only [Act.put, usz_, utz_, uvz_, i64_w, i32_w]
              rfl
             refine pure_ (i := 4) (N := some 29) (v := ?_) (a' := ?_) #[true, true, true, true, true, false, false, false, false, false, false, false, false, false] rfl rfl (any_of HT_.out (by kernel_rfl)) (fun _ _ _ h => h) (Or.inl ⟨by rfl, ?_⟩) ?_ ?_
             rotate_left
             ·intro w'
              go_simp
              with_reducible rfl
             rotate_left
             ·simp only [Act.put, usz_, utz_, uvz_, i64_w, i32_w]
              rfl
             refine pure_ (i := 5) (N := some 30) (v := ?_) (a' := ?_) #[true, true, true, true, true, true, false, false, false, false, false, false, false, false] rfl rfl (any_of HT_.out (by kernel_rfl)) (fun _ _ _ h => h) (Or.inl ⟨by rfl, ?_⟩) ?_ ?_
             rotate_left
             ·intro w'
              go_simp
              with_reducible rfl
             rotate_left
             ·simp only [Act.put, usz_, utz_, uvz_, i64_w, i32_w]
              rfl
             refine pure_ (i := 6) (N := some 31) (v := ?_) (a' := ?_) #[true, true, true, true, true, true, true, false, false, false, false, false, false, false] rfl rfl (any_of HT_.out (by kernel_rfl)) (fun _ _ _ h => h) (Or.inl ⟨by rfl, ?_⟩) ?_ ?_
             rotate_left
             ·intro w'
              go_simp
              with_reducible rfl
             rotate_left
             ·simp only [Act.put, usz_, utz_, uvz_, i64_w, i32_w]
              rfl
             refine pure_ (i := 8) (N := some 33) (v := ?_) (a' := ?_) #[true, true, true, true, true, true, true, false, true, false, false, false, false, false] rfl rfl (any_of HT_.out (by kernel_rfl)) (fun _ _ _ h => h) (Or.inl ⟨by rfl, ?_⟩) ?_ ?_
             rotate_left
             ·intro w'
              go_simp
              with_reducible rfl
             rotate_left
             ·simp only [Act.put, usz_, utz_, uvz_, i64_w, i32_w]
              rfl
             refine pure_ (i := 9) (N := some 34) (v := ?_) (a' := ?_) #[true, true, true, true, true, true, true, false, true, true, false, false, false, false] rfl rfl (any_of HT_.out (by kernel_rfl)) (fun _ _ _ h => h) (Or.inl ⟨by rfl, ?_⟩) ?_ ?_
             rotate_left
             ·intro w'
              go_simp
              with_reducible rfl
             rotate_left
             ·simp only [Act.put, usz_, utz_, uvz_, i64_w, i32_w]
              rfl
             refine take_ (i := 7) (N := some 32) (v := ?_) (a' := ?_) #[true, true, true, true, true, true, true, true, true, true, false, false, false, false] rfl rfl (take_ofW HT_.out HW_.out (by kernel_rfl)) (fun _ _ _ h => h) (Or.inl ⟨by rfl, ?_⟩) hHeld ?_ ?_
             rotate_left
             ·rintro w' ⟨s0, s1⟩
              go_simp
              with_reducible rfl
             rotate_left
             ·simp only [Act.put, usz_, utz_, uvz_, i64_w, i32_w]
              rfl
             refine take_ (i := 10) (N := some 35) (v := ?_) (a' := ?_) #[true, true, true, true, true, true, true, true, true, true, true, false, false, false] rfl rfl (take_ofW HT_.out HW_.out (by kernel_rfl)) (fun _ _ _ h => h) (Or.inl ⟨by rfl, ?_⟩) hHeld ?_ ?_
             rotate_left
             ·rintro w' ⟨s0, s1⟩
              go_simp
              with_reducible rfl
             rotate_left
             ·simp only [Act.put, usz_, utz_, uvz_, i64_w, i32_w]
              rfl
             refine one_ (i := 11) (N := some 36) #[true, true, true, true, true, true, true, true, true, true, true, true, false, false] rfl rfl (one_of HT_.out (by kernel_rfl)) (by decide) (fun K hK => ?_)
             refine goes_ Try.func92 (by kernel_rfl) rfl #[.slice Ao23 x6_2.length co23, .int .i64 (rd (rd_L2 l1 x21_2) 0), .int .i64 (rd (rd_L2 l1 x21_2) 1)] (by rfl) rfl rfl maz_ ?_
             with_reducible refine (spec_biPart.calls k2 _ _ x6_2 (rd (rd_L2 l1 x21_2) 0) (rd (rd_L2 l1 x21_2) 1) false _ ?side1 ?side2 A15.out).mono ?_
             (case side1 => repeat (first | exact (Kd.R_reads' HO_6.out).2.2 | (with_reducible refine Kd.C_alloc ?_ _) | (with_reducible refine Kd.C_drewN ?_ _) | (with_reducible refine Kd.C_drew ?_)))
             (case side2 => exact (Kd.R_reads' HO_6.out).2.1)
             rintro e w' ⟨rfl, ⟨nd, rfl⟩⟩
             refine ⟨_, rfl, ?_⟩
             refine hK.out _ _ ⟨((HB.out.cell (World.block_lt_of_cell? w _ hw453_0)).trans hw453_0), ((HB.out.cell (World.block_lt_of_cell? w _ hw454_0)).trans hw454_0)⟩ (fun hHeld => ?_)
             clear hK K
             refine norm_ (a' := ?_) ?_ ?_
             rotate_left
             ·show Act.put _ (some 36) _ = _
              simp only [Act.put, usz_, utz_, uvz_, i64_w, i32_w]
              rfl
             refine pure_ (i := 12) (N := some 37) (v := ?_) (a' := ?_) #[true, true, true, true, true, true, true, true, true, true, true, true, true, false] rfl rfl (any_of HT_.out (by kernel_rfl)) (fun _ _ _ h => h) (Or.inl ⟨by rfl, ?_⟩) ?_ ?_
             rotate_left
             ·intro w'
              go_simp
              with_reducible rfl
             rotate_left
             ·simp only [Act.put, usz_, utz_, uvz_, i64_w, i32_w]
              rfl
             refine pure_ (i := 13) (N := some 38) (v := ?_) (a' := ?_) #[true, true, true, true, true, true, true, true, true, true, true, true, true, true] rfl rfl (any_of HT_.out (by kernel_rfl)) (fun _ _ _ h => h) (Or.inl ⟨by rfl, ?_⟩) ?_ ?_
             rotate_left
             ·intro w'
              go_simp
              with_reducible rfl
             rotate_left
             ·simp only [Act.put, usz_, utz_, uvz_, i64_w, i32_w]
              rfl
             refine done_ (done_of HT_.out (by kernel_rfl)) ?_
             try go_wp2
             go_ret2
             exact ⟨_, by first | rfl | (simp [errW_none, errW_some] <;> rfl) | (simp [*, errW_none, errW_some] <;> rfl), by first | exact Kd.R_nil _ _ _ _ _ | exact Kd.N_nil _ _ _ _ _ | exact Kd.V_nil _ _ _ _ _ | exact Kd.Q_nil _ _ _ _ _ | exact Kd.S_nil _ _ _ _ _, by exact ubz_ HB.out⟩
           ·rw [if_neg c14] at H
            exact absurd H (by simp)
          ·rw [if_neg c13] at H
           exact absurd H (by simp)
         ·rw [if_neg c12] at H
          have c12b0 : (((rd_L2 l1 x21_2).length : Int) == 2) = false := beq_eq_false_iff_ne.mpr c12
          have c12b1 : (((rd_L2 l1 x21_2).length : Int) != 2) = true := bne_iff_ne.mpr c12
          simp only [Option.some.injEq, Prod.mk.injEq] at H
          obtain ⟨rfl, rfl⟩ := H
          have p452 : 0 ≤ (x21_2 : Int) := of_decide_eq_true asz_
          have q452 : x21_2 < (l1.length : Int) := of_decide_eq_true asz_
          obtain ⟨ad452, A452_0, c452_0, e452, hx452_0, hl452_0, hi452_0⟩ := at_L2 HR1.out x21_2 p452 q452
          cases e452
          replace hx452_0 := (HB.out.cell (World.block_lt_of_cell? w _ hx452_0)).trans hx452_0
          have HR452_0 := Az_ hi452_0
          have HC452_0 := Az_ hl452_0
          clear hi452_0 hl452_0
          replace p452 := eq_true p452
          replace q452 := eq_true q452
          try go_wp2
          have n0_ := Az_ (rdz_ HO_6.out)
          have n1_ := Az_ (bdz_ HB.out)
          clear HO_6 HB
          have HO_6 := n0_
          have HB := n1_
          clear n0_ n1_
          refine start_ (n := 14) (S := fun w' => True) (ds := []) #[false, false, false, false, false, false, false, false, false, false, false, false, false, false] (by kernel_rfl) rfl rfl trivial (fun hHeld => ?_); refine with_tabW spec_TurnParts.tab7 spec_TurnParts.bits7 (fun HT_ HW_ => ?_)
          generalize wr.drew = w24 at HO_6 HB hHeld ⊢
          refine pure_ (i := 0) (N := some 25) (v := ?_) (a' := ?_) #[true, false, false, false, false, false, false, false, false, false, false, false, false, false] rfl rfl (any_of HT_.out (by kernel_rfl)) (fun _ _ _ h => h) (Or.inl ⟨by rfl, ?_⟩) ?_ ?_
          rotate_left
          ·intro w'
           go_simp
           with_reducible rfl
          rotate_left
          ·simp only [Act.put, usz_, utz_, uvz_, i64_w, i32_w]
           rfl
          refine pure_ (i := 1) (N := some 26) (v := ?_) (a' := ?_) #[true, true, false, false, false, false, false, false, false, false, false, false, false, false] rfl rfl (any_of HT_.out (by kernel_rfl)) (fun _ _ _ h => h) (Or.inl ⟨by rfl, ?_⟩) ?_ ?_
          rotate_left
          ·intro w'
           go_simp
           with_reducible rfl
          rotate_left
          ·simp only [Act.put, usz_, utz_, uvz_, i64_w, i32_w]
           rfl
          refine pure_ (i := 2) (N := some 27) (v := ?_) (a' := ?_) #[true, true, true, false, false, false, false, false, false, false, false, false, false, false] rfl rfl (any_of HT_.out (by kernel_rfl)) (fun _ _ _ h => h) (Or.inl ⟨by rfl, ?_⟩) ?_ ?_
          rotate_left
          ·intro w'
           go_simp
           with_reducible rfl
          rotate_left
          ·simp only [Act.put, usz_, utz_, uvz_, i64_w, i32_w]
           rfl
          refine pure_ (i := 3) (N := some 28) (v := ?_) (a' := ?_) #[true, true, true, true, false, false, false, false, false, false, false, false, false, false] rfl rfl (any_of HT_.out (by kernel_rfl)) (fun _ _ _ h => h) (Or.inl ⟨by rfl, ?_⟩) ?_ ?_
          rotate_left
          ·intro w'
           go_simp
           with_reducible rfl
          rotate_left
          ·simp only [Act.put, usz_, utz_, uvz_, i64_w, i32_w]
           rfl
          refine pure_ (i := 4) (N := some 29) (v := undef) (a' := ?_) #[true, true, true, true, true, false, false, false, false, false, false, false, false, false] rfl rfl (any_of HT_.out (by kernel_rfl)) (fun _ _ _ h => h) (Or.inr ⟨by rfl, rfl⟩) ?_ ?_
          rotate_left
          ·simp only [Act.put, usz_, utz_, uvz_, i64_w, i32_w]
           rfl
          refine pure_ (i := 5) (N := some 30) (v := undef) (a' := ?_) #[true, true, true, true, true, true, false, false, false, false, false, false, false, false] rfl rfl (any_of HT_.out (by kernel_rfl)) (fun _ _ _ h => h) (Or.inr ⟨by rfl, rfl⟩) ?_ ?_
          rotate_left
          ·simp only [Act.put, usz_, utz_, uvz_, i64_w, i32_w]
           rfl
          refine pure_ (i := 6) (N := some 31) (v := undef) (a' := ?_) #[true, true, true, true, true, true, true, false, false, false, false, false, false, false] rfl rfl (any_of HT_.out (by kernel_rfl)) (fun _ _ _ h => h) (Or.inr ⟨by rfl, rfl⟩) ?_ ?_
          rotate_left
          ·simp only [Act.put, usz_, utz_, uvz_, i64_w, i32_w]
           rfl
          refine pure_ (i := 7) (N := some 32) (v := undef) (a' := ?_) #[true, true, true, true, true, true, true, true, false, false, false, false, false, false] rfl rfl (any_of HT_.out (by kernel_rfl)) (fun _ _ _ h => h) (Or.inr ⟨by rfl, rfl⟩) ?_ ?_
          rotate_left
          ·simp only [Act.put, usz_, utz_, uvz_, i64_w, i32_w]
           rfl
          refine pure_ (i := 8) (N := some 33) (v := undef) (a' := ?_) #[true, true, true, true, true, true, true, true, true, false, false, false, false, false] rfl rfl (any_of HT_.out (by kernel_rfl)) (fun _ _ _ h => h) (Or.inr ⟨by rfl, rfl⟩) ?_ ?_
          rotate_left
          ·simp only [Act.put, usz_, utz_, uvz_, i64_w, i32_w]
           rfl
          refine pure_ (i := 9) (N := some 34) (v := undef) (a' := ?_) #[true, true, true, true, true, true, true, true, true, true, false, false, false, false] rfl rfl (any_of HT_.out (by kernel_rfl)) (fun _ _ _ h => h) (Or.inr ⟨by rfl, rfl⟩) ?_ ?_
          rotate_left
          ·simp only [Act.put, usz_, utz_, uvz_, i64_w, i32_w]
           rfl
          refine pure_ (i := 10) (N := some 35) (v := undef) (a' := ?_) #[true, true, true, true, true, true, true, true, true, true, true, false, false, false] rfl rfl (any_of HT_.out (by kernel_rfl)) (fun _ _ _ h => h) (Or.inr ⟨by rfl, rfl⟩) ?_ ?_
          rotate_left
          ·simp only [Act.put, usz_, utz_, uvz_, i64_w, i32_w]
           rfl
          refine pure_ (i := 11) (N := some 36) (v := undef) (a' := ?_) #[true, true, true, true, true, true, true, true, true, true, true, true, false, false] rfl rfl (any_of HT_.out (by kernel_rfl)) (fun _ _ _ h => h) (Or.inr ⟨by rfl, rfl⟩) ?_ ?_
          rotate_left
          ·simp only [Act.put, usz_, utz_, uvz_, i64_w, i32_w]
           rfl
          refine pure_ (i := 12) (N := some 37) (v := undef) (a' := ?_) #[true, true, true, true, true, true, true, true, true, true, true, true, true, false] rfl rfl (any_of HT_.out (by kernel_rfl)) (fun _ _ _ h => h) (Or.inr ⟨by rfl, rfl⟩) ?_ ?_
          rotate_left
          ·simp only [Act.put, usz_, utz_, uvz_, i64_w, i32_w]
           rfl
          refine pure_ (i := 13) (N := some 38) (v := ?_) (a' := ?_) #[true, true, true, true, true, true, true, true, true, true, true, true, true, true] rfl rfl (any_of HT_.out (by kernel_rfl)) (fun _ _ _ h => h) (Or.inl ⟨by rfl, ?_⟩) ?_ ?_
          rotate_left
          ·intro w'
           go_simp
           with_reducible rfl
          rotate_left
          ·simp only [Act.put, usz_, utz_, uvz_, i64_w, i32_w]
           rfl
          refine done_ (done_of HT_.out (by kernel_rfl)) ?_
          try go_wp2
          go_ret2
          exact ⟨_, by first | rfl | (simp [errW_none, errW_some] <;> rfl) | (simp [*, errW_none, errW_some] <;> rfl), by first | exact Kd.R_nil _ _ _ _ _ | exact Kd.N_nil _ _ _ _ _ | exact Kd.V_nil _ _ _ _ _ | exact Kd.Q_nil _ _ _ _ _ | exact Kd.S_nil _ _ _ _ _, by exact ubz_ HB.out⟩
        ·rw [if_neg c11] at H
         exact absurd H (by simp)
       ·rw [if_neg c10] at H
        exact absurd H (by simp)
      ·rw [if_neg c9] at H
       have c9b0 := decide_eq_false c9
       clear c9
       simp only [Option.some.injEq, Prod.mk.injEq] at H
       obtain ⟨rfl, rfl⟩ := H
       go_wp2
       go_ret2
       exact ⟨_, by first | rfl | (simp [errW_none, errW_some] <;> rfl) | (simp [*, errW_none, errW_some] <;> rfl), by (with_reducible repeat (first | apply raz_ | apply rnz_ | apply rdz_)); exact HO_6.out, by exact ubz_ HB.out⟩

end Go.Proofs.Ytppbpefehpbejaa.P
end

section
namespace Go.Proofs.Ytppbpefehpbejaa.Base
open Go.RowKit Go.Proofs.YtppbpefehpbejaaW.PrintWords
set_option linter.unusedVariables false

theorem w64 {x : Int} (h1 : -4611686018427387904 ≤ x) (h2 : x ≤ 4611686018427387904) : wrap64 x = x := by
  unfold wrap64
  omega
theorem getD_at {α : Type} (l : List α) (z : α) {i : Nat} (h : i < l.length) : l.getD i z = l[i] := by
  rw [List.getD_eq_getElem?_getD, List.getElem?_eq_getElem h]
  rfl
theorem all_drop {α : Type} (p : α → Bool) (l : List α) (z : α) {i : Nat} (h : i < l.length) : (l.drop i).all p = (p (l.getD i z) && (l.drop (i + 1)).all p) := by
  rw [getD_at l z h, List.drop_eq_getElem_cons h, List.all_cons]
theorem Ev_at {α : Type} {g : Nat → Option α} {r : α} (h : Ev g r) : ∃ K, ∀ k, K ≤ k → g k = some r := h
/-- Two that answer, answer together. -/
theorem Ev_bind {α β : Type} {g : Nat → Option α} {f : Nat → α → Option β} {a : α} {r : β} (h : Ev g a) (k : Ev (fun n => f n a) r) : Ev (fun n => (g n).bind (f n)) r := Ev.bind h k
theorem Ev_some {α β : Type} {x : Option α} {f : Nat → α → Option β} {a : α} {r : β} (h : x = some a) (k : Ev (fun n => f n a) r) : Ev (fun n => x.bind (f n)) r := by
  subst h
  exact k
theorem Ev_pos {α : Type} {c : Prop} [Decidable c] {f g : Nat → Option α} {r : α} (h : c) (k : Ev f r) : Ev (fun n => if c then f n else g n) r := by
  simp only [if_pos h]
  exact k
theorem Ev_neg {α : Type} {c : Prop} [Decidable c] {f g : Nat → Option α} {r : α} (h : ¬ c) (k : Ev g r) : Ev (fun n => if c then f n else g n) r := by
  simp only [if_neg h]
  exact k
theorem getD_set_self {α : Type} (l : List α) (z v : α) {i : Nat} (h : i < l.length) : (l.set i v).getD i z = v := by
  rw [List.getD_eq_getElem?_getD, List.getElem?_set_self h]
  rfl
/-- One round, by the function's own equation. -/
theorem Ev_step {α : Type} {g f : Nat → Option α} {r : α} (h : ∀ k, g (k + 1) = f k) (k : Ev f r) : Ev g r := Ev.step h k
def inB (n lo hi : Int) : Bool := decide (lo ≤ n ∧ n ≤ hi)
end Go.Proofs.Ytppbpefehpbejaa.Base
end

section
namespace Go.Proofs.Ytppbpefehpbejaa.Order
set_option linter.unusedVariables false

/-- The leaf of a number, from 0 on. -/
def leaf (x : Int) : Int := (if x < 0 then -x else x) - 1
theorem leaf_eq (x y : Int) : leaf x = leaf y ↔ x = y ∨ x = -y := by
  unfold leaf
  split <;> split <;> omega
/-- None is 0 nor stands before, turned or not. -/
def fresh : List Int → List Int → Bool
  | _, [] => true
  | pre, x :: xs => x != 0 && (!pre.contains x && (!pre.contains (-x) && fresh (pre ++ [x]) xs))
theorem fresh_iff : ∀ (rest pre : List Int), fresh pre rest = true ↔ ((∀ x ∈ rest, x ≠ 0) ∧ (rest.map leaf).Nodup ∧ ∀ x ∈ rest, ∀ y ∈ pre, leaf x ≠ leaf y) := by
  intro rest
  induction rest with
  | nil => intro pre; simp [fresh]
  | cons a rest ih =>
    intro pre
    simp only [fresh, Bool.and_eq_true, bne_iff_ne, ne_eq, Bool.not_eq_true', ih (pre ++ [a])]
    have hc : ∀ z : Int, pre.contains z = false ↔ z ∉ pre := fun z => by
      rw [← Bool.not_eq_true, List.contains_iff_mem]
    rw [hc, hc]
    constructor
    · rintro ⟨h0, h1, h2, h3, h4, h5⟩
      refine ⟨fun x hx => ?_, ?_, fun x hx y hy => ?_⟩
      · rcases List.mem_cons.1 hx with rfl | hx
        · exact h0
        · exact h3 x hx
      · rw [List.map_cons, List.nodup_cons]
        refine ⟨fun hm => ?_, h4⟩
        obtain ⟨x, hx, e⟩ := List.mem_map.1 hm
        exact h5 x hx a (by simp) e
      · rcases List.mem_cons.1 hx with rfl | hx
        · intro e
          rcases (leaf_eq x y).1 e with rfl | e
          · exact h1 hy
          · exact h2 (by rw [e, Int.neg_neg]; exact hy)
        · exact h5 x hx y (List.mem_append_left _ hy)
    · rintro ⟨h1, h2, h3⟩
      rw [List.map_cons, List.nodup_cons] at h2
      refine ⟨h1 a (by simp), fun hm => h3 a (by simp) a hm rfl, fun hm => h3 a (by simp) (-a) hm ((leaf_eq a (-a)).2 (.inr (by omega))), fun x hx => h1 x (List.mem_cons_of_mem _ hx), h2.2, fun x hx y hy => ?_⟩
      rcases List.mem_append.1 hy with hy | hy
      · exact h3 x (List.mem_cons_of_mem _ hx) y hy
      · obtain rfl : y = a := by simpa using hy
        intro e
        exact h2.1 (List.mem_map.2 ⟨x, hx, e⟩)
/-- A list that has each number below n has at least n, and if it has just n, each stands once and no other does. -/
theorem has_all : ∀ (n : Nat) (ls : List Int), (∀ i : Nat, i < n → (i : Int) ∈ ls) → n ≤ ls.length ∧ (ls.length = n → ls.Nodup ∧ ∀ x ∈ ls, 0 ≤ x ∧ x < n) := by
  intro n
  induction n with
  | zero =>
    intro ls _
    refine ⟨Nat.zero_le _, fun h => ?_⟩
    obtain rfl := List.length_eq_zero_iff.1 h
    simp
  | succ n ih =>
    intro ls h
    have hm := h n (by omega)
    have hl := List.length_erase_of_mem hm
    have hp := List.length_pos_of_mem hm
    obtain ⟨h1, h2⟩ := ih (ls.erase (n : Int)) (fun i hi => (List.mem_erase_of_ne (by omega)).2 (h i (by omega)))
    refine ⟨by omega, fun e => ?_⟩
    obtain ⟨h3, h4⟩ := h2 (by omega)
    have perm := List.perm_cons_erase hm
    have nd : ((n : Int) :: ls.erase (n : Int)).Nodup := by
      rw [List.nodup_cons]
      exact ⟨fun hx => by have := (h4 _ hx).2; omega, h3⟩
    refine ⟨perm.nodup_iff.2 nd, fun x hx => ?_⟩
    rcases List.mem_cons.1 (perm.mem_iff.1 hx) with rfl | hx
    · omega
    · have := h4 x hx
      omega
/-- A list of numbers below n, each once, has at most n, and if it has just n, each is there. -/
theorem all_once : ∀ (n : Nat) (ls : List Int), ls.Nodup → (∀ x ∈ ls, 0 ≤ x ∧ x < n) → ls.length ≤ n ∧ (ls.length = n → ∀ i : Nat, i < n → (i : Int) ∈ ls) := by
  intro n
  induction n with
  | zero =>
    intro ls _ h
    cases ls with
    | nil => exact ⟨Nat.le_refl _, fun _ i hi => absurd hi (by omega)⟩
    | cons x xs => have := h x (by simp); omega
  | succ n ih =>
    intro ls nd h
    by_cases hm : (n : Int) ∈ ls
    · have hl := List.length_erase_of_mem hm
      have hp := List.length_pos_of_mem hm
      have perm := List.perm_cons_erase hm
      have nd2 := List.nodup_cons.1 (perm.nodup_iff.1 nd)
      obtain ⟨h1, h2⟩ := ih (ls.erase (n : Int)) nd2.2 (fun x hx => by
        have a := h x (List.mem_of_mem_erase hx)
        have b : x ≠ (n : Int) := fun e => nd2.1 (e ▸ hx)
        omega)
      refine ⟨by omega, fun e i hi => ?_⟩
      by_cases hi' : i = n
      · subst hi'; exact hm
      · exact List.mem_of_mem_erase (h2 (by omega) i (by omega))
    · obtain ⟨h1, h2⟩ := ih ls nd (fun x hx => by
        have a := h x hx
        have b : x ≠ (n : Int) := fun e => hm (e ▸ hx)
        omega)
      exact ⟨by omega, fun e => by omega⟩
/-- Each number below n is there. -/
def hasAll (ls : List Int) : Nat → Nat → Bool
  | 0, _ => true
  | n + 1, i => ls.contains (i : Int) && hasAll ls n (i + 1)
theorem hasAll_iff (ls : List Int) : ∀ n i : Nat, hasAll ls n i = true ↔ ∀ j : Nat, i ≤ j → j < i + n → (j : Int) ∈ ls := by
  intro n
  induction n with
  | zero => intro i; simp [hasAll]; intro j h1 h2; omega
  | succ n ih =>
    intro i
    simp only [hasAll, Bool.and_eq_true, ih (i + 1), List.contains_iff_mem]
    constructor
    · rintro ⟨h1, h2⟩ j h3 h4
      by_cases e : j = i
      · subst e; exact h1
      · exact h2 j (by omega) (by omega)
    · intro h
      exact ⟨h i (by omega) (by omega), fun j h3 h4 => h j (by omega) (by omega)⟩
/-- The reference's test of a binding. -/
def bindS (b : List Int) : Bool := decide (1 ≤ b.length ∧ b.length ≤ 8) && (b.all (fun x => decide (-(b.length : Int) ≤ x ∧ x ≤ b.length)) && fresh [] b)
/-- The program's. -/
def bindP (b : List Int) : Bool := b.all (fun x => decide (-8 ≤ x ∧ x ≤ 8)) && (decide (1 ≤ b.length ∧ b.length ≤ 8) && hasAll (b.map leaf) b.length 0)
theorem bind_eq (b : List Int) : bindP b = bindS b := by
  rw [Bool.eq_iff_iff]
  unfold bindP bindS
  simp only [Bool.and_eq_true, decide_eq_true_eq, List.all_eq_true, fresh_iff, hasAll_iff]
  constructor
  · rintro ⟨h1, h2, h3⟩
    obtain ⟨_, h4⟩ := has_all b.length (b.map leaf) (fun i hi => h3 i (by omega) (by omega))
    obtain ⟨h5, h6⟩ := h4 (by simp)
    refine ⟨h2, fun x hx => ?_, fun x hx => ?_, h5, fun x hx y hy => by cases hy⟩
    · have := h6 (leaf x) (List.mem_map_of_mem hx)
      unfold leaf at this
      split at this <;> omega
    · have := h6 (leaf x) (List.mem_map_of_mem hx)
      unfold leaf at this
      split at this <;> omega
  · rintro ⟨h1, h2, h3, h4, _⟩
    refine ⟨fun x hx => by have := h2 x hx; omega, h1, ?_⟩
    obtain ⟨_, h5⟩ := all_once b.length (b.map leaf) h4 (fun y hy => by
      obtain ⟨x, hx, rfl⟩ := List.mem_map.1 hy
      have a := h2 x hx
      have c := h3 x hx
      unfold leaf
      split <;> omega)
    exact fun j _ hj => h5 (by simp) j (by omega)
end Go.Proofs.Ytppbpefehpbejaa.Order
end

section
set_option linter.unusedVariables false
namespace Go.Proofs.Ytppbpefehpbejaa.Far
open Go.Proofs.Ytppbpefehpbejaa.Order

/-- A part turned. -/
def turn (b : List Int) (f t : Nat) : List Int := b.take f ++ (((b.drop f).take (t + 1 - f)).reverse.map (fun x => -x) ++ b.drop (t + 1))
theorem turn_len {b : List Int} {f t : Nat} (hf : f ≤ t) (ht : t < b.length) : (turn b f t).length = b.length := by
  unfold turn
  simp only [List.length_append, List.length_map, List.length_reverse, List.length_take, List.length_drop]
  omega
theorem turn_at {b : List Int} {f t : Nat} (hf : f ≤ t) (ht : t < b.length) (i : Nat) : (turn b f t).getD i 0 = if f ≤ i ∧ i ≤ t then -(b.getD (f + t - i) 0) else b.getD i 0 := by
  unfold turn
  simp only [List.getD_eq_getElem?_getD]
  by_cases h1 : i < f
  · rw [if_neg (by omega), List.getElem?_append_left (by rw [List.length_take]; omega), List.getElem?_take_of_lt h1]
  · have hl : (b.take f).length = f := by rw [List.length_take]; omega
    rw [List.getElem?_append_right (by omega), hl]
    by_cases h2 : i ≤ t
    · rw [if_pos (by omega), List.getElem?_append_left (by simp; omega), List.getElem?_map, List.getElem?_reverse (by simp; omega), List.length_take, List.length_drop]
      rw [List.getElem?_take_of_lt (by omega), List.getElem?_drop, show f + (min (t + 1 - f) (b.length - f) - 1 - (i - f)) = f + t - i by omega, List.getElem?_eq_getElem (by omega)]
      rfl
    · have hm : (((b.drop f).take (t + 1 - f)).reverse.map (fun x : Int => -x)).length = t + 1 - f := by simp; omega
      rw [if_neg (by omega), List.getElem?_append_right (by omega), hm, List.getElem?_drop, show t + 1 + (i - f - (t + 1 - f)) = i by omega]
theorem ext_at {a b : List Int} (hl : a.length = b.length) (h : ∀ i, i < b.length → a.getD i 0 = b.getD i 0) : a = b := by
  refine List.ext_getElem hl (fun i h1 h2 => ?_)
  have := h i h2
  rwa [Base.getD_at a 0 h1, Base.getD_at b 0 h2] at this
theorem turn_turn {b : List Int} {f t : Nat} (hf : f ≤ t) (ht : t < b.length) : turn (turn b f t) f t = b := by
  have hl := turn_len hf ht
  refine ext_at (by rw [turn_len hf (by omega), hl]) (fun i hi => ?_)
  rw [turn_at hf (by omega)]
  by_cases h : f ≤ i ∧ i ≤ t
  · rw [if_pos h, turn_at hf ht, if_pos (by omega), show f + t - (f + t - i) = i by omega, Int.neg_neg]
  · rw [if_neg h, turn_at hf ht, if_neg h]
/-- A binding of n leaves. -/
def Bd (n : Nat) (b : List Int) : Prop := b.length = n ∧ (∀ x ∈ b, x ≠ 0 ∧ -(n : Int) ≤ x ∧ x ≤ n) ∧ (b.map leaf).Nodup
theorem turn_perm {b : List Int} {f t : Nat} (hf : f ≤ t) : ((turn b f t).map leaf).Perm (b.map leaf) := by
  have e : b = b.take f ++ ((b.drop f).take (t + 1 - f) ++ b.drop (t + 1)) := by
    have : b.drop (t + 1) = (b.drop f).drop (t + 1 - f) := by rw [List.drop_drop]; congr 1; omega
    rw [this, List.take_append_drop, List.take_append_drop]
  conv => rhs; rw [e]
  unfold turn
  simp only [List.map_append, List.map_map]
  refine List.Perm.append_left _ (List.Perm.append_right _ ?_)
  have : (leaf ∘ fun x : Int => -x) = leaf := by
    funext x
    show leaf (-x) = leaf x
    exact (leaf_eq _ _).2 (by omega)
  rw [this]
  exact (List.reverse_perm _).map leaf
theorem turn_mem {b : List Int} {f t : Nat} {x : Int} (h : x ∈ turn b f t) : x ∈ b ∨ -x ∈ b := by
  unfold turn at h
  simp only [List.mem_append, List.mem_map, List.mem_reverse] at h
  rcases h with h | ⟨y, h, rfl⟩ | h
  · exact .inl (List.mem_of_mem_take h)
  · exact .inr (by rw [Int.neg_neg]; exact List.mem_of_mem_drop (List.mem_of_mem_take h))
  · exact .inl (List.mem_of_mem_drop h)
theorem turn_bd {n : Nat} {b : List Int} {f t : Nat} (h : Bd n b) (hf : f ≤ t) (ht : t < n) : Bd n (turn b f t) := by
  obtain ⟨h1, h2, h3⟩ := h
  refine ⟨by rw [turn_len hf (by omega), h1], fun x hx => ?_, (turn_perm hf).nodup_iff.2 h3⟩
  rcases turn_mem hx with hx | hx
  · exact h2 x hx
  · have := h2 _ hx
    omega
theorem bd_iff (b : List Int) : bindS b = true ↔ Bd b.length b ∧ 1 ≤ b.length ∧ b.length ≤ 8 := by
  unfold bindS Bd
  simp only [Bool.and_eq_true, decide_eq_true_eq, List.all_eq_true, fresh_iff]
  constructor
  · rintro ⟨h1, h2, h3, h4, _⟩
    exact ⟨⟨trivial, fun x hx => ⟨h3 x hx, h2 x hx⟩, h4⟩, h1⟩
  · rintro ⟨⟨_, h2, h4⟩, h1⟩
    exact ⟨h1, fun x hx => (h2 x hx).2, fun x hx => (h2 x hx).1, h4, fun x hx y hy => by cases hy⟩
theorem bind_of_bd {n : Nat} {b : List Int} (h : Bd n b) (h1 : 1 ≤ n) (h8 : n ≤ 8) : bindS b = true := by
  have hl := h.1
  subst hl
  exact (bd_iff b).2 ⟨h, h1, h8⟩
/-- The right binding. -/
def right (n : Nat) : List Int := (List.range n).map fun (k : Nat) => (k : Int) + 1
theorem right_len (n : Nat) : (right n).length = n := by simp [right]
theorem right_at (n i : Nat) (h : i < n) : (right n).getD i 0 = (i : Int) + 1 := by
  rw [List.getD_eq_getElem?_getD]
  simp [right, h]
theorem right_bd (n : Nat) : Bd n (right n) := by
  refine ⟨right_len n, fun x hx => ?_, ?_⟩
  · simp only [right, List.mem_map, List.mem_range] at hx
    obtain ⟨k, hk, rfl⟩ := hx
    omega
  · have e : (right n).map leaf = (List.range n).map (fun (k : Nat) => (k : Int)) := by
      unfold right
      rw [List.map_map]
      refine List.map_congr_left (fun k _ => ?_)
      simp only [Function.comp, leaf]
      rw [if_neg (by omega)]
      omega
    rw [e]
    refine List.Pairwise.map _ (fun a b h => ?_) List.nodup_range
    omega
/-- Where a leaf lies. -/
theorem find_leaf {n : Nat} {b : List Int} (h : Bd n b) {m : Nat} (hm : m < n) : ∃ p, p < n ∧ (b.getD p 0 = (m : Int) + 1 ∨ b.getD p 0 = -((m : Int) + 1)) := by
  obtain ⟨h1, h2, h3⟩ := h
  obtain ⟨_, hall⟩ := all_once n (b.map leaf) h3 (fun x hx => by
    obtain ⟨y, hy, rfl⟩ := List.mem_map.1 hx
    have := h2 y hy
    unfold leaf
    split <;> omega)
  have hin := hall (by rw [List.length_map, h1]) m hm
  obtain ⟨y, hy, e⟩ := List.mem_map.1 hin
  obtain ⟨p, hp, rfl⟩ := List.mem_iff_getElem.1 hy
  refine ⟨p, by omega, ?_⟩
  rw [Base.getD_at b 0 hp]
  unfold leaf at e
  split at e <;> omega
/-- What is closed under turns and holds the right one holds each. -/
theorem all_in {n : Nat} (S : List Int → Prop) (h0 : S (right n)) (hc : ∀ b f t, S b → Bd n b → f ≤ t → t < n → S (turn b f t)) : ∀ b, Bd n b → S b := by
  have key : ∀ d m, m + d = n → ∀ b, Bd n b → (∀ i, i < m → b.getD i 0 = (i : Int) + 1) → S b := by
    intro d
    induction d with
    | zero =>
      intro m hm b hb ha
      obtain rfl : m = n := by omega
      have : b = right m := ext_at (by rw [hb.1, right_len]) (fun i hi => by rw [right_len] at hi; rw [ha i hi, right_at m i hi])
      rw [this]
      exact h0
    | succ d ih =>
      intro m hm b hb ha
      have hl := hb.1
      obtain ⟨p, hp, hv⟩ := find_leaf hb (m := m) (by omega)
      have hpm : m ≤ p := by
        rcases Nat.lt_or_ge p m with h | h
        · have := ha p h
          omega
        · exact h
      have b1 := turn_bd hb hpm hp
      have at1 : ∀ i, i < m → (turn b m p).getD i 0 = (i : Int) + 1 := fun i hi => by rw [turn_at hpm (by omega), if_neg (by omega), ha i hi]
      have atm : (turn b m p).getD m 0 = -(b.getD p 0) := by rw [turn_at hpm (by omega), if_pos (by omega), show m + p - m = p by omega]
      have back : S (turn b m p) → S b := fun hs => by
        have := hc _ m p hs b1 hpm hp
        rwa [turn_turn hpm (by omega)] at this
      rcases hv with hv | hv
      · have b2 := turn_bd b1 (Nat.le_refl m) (by omega)
        have hl1 := b1.1
        have hs := ih (m + 1) (by omega) _ b2 (fun i hi => by
          rw [turn_at (Nat.le_refl m) (by omega)]
          by_cases e : i = m
          · subst e
            rw [if_pos (by omega), show i + i - i = i by omega, atm, hv, Int.neg_neg]
          · rw [if_neg (by omega)]
            exact at1 i (by omega))
        have := hc _ m m hs b2 (Nat.le_refl m) (by omega)
        rw [turn_turn (Nat.le_refl m) (by omega)] at this
        exact back this
      · refine back (ih (m + 1) (by omega) _ b1 (fun i hi => ?_))
        by_cases e : i = m
        · subst e
          rw [atm, hv, Int.neg_neg]
        · exact at1 i (by omega)
  exact fun b hb => key n 0 (by omega) b hb (fun i hi => absurd hi (by omega))
end Go.Proofs.Ytppbpefehpbejaa.Far
end

section
set_option linter.unusedVariables false
namespace Go.Proofs.Ytppbpefehpbejaa.Far
open Go.Proofs.Ytppbpefehpbejaa.Order

/-- How many of the m numbers from lo on are so. -/
def cnt (p : Int → Bool) (lo : Int) : Nat → Nat
  | 0 => 0
  | m + 1 => cnt p lo m + if p (lo + (m : Int)) = true then 1 else 0
theorem cnt_le (p : Int → Bool) (lo : Int) {a b : Nat} (h : a ≤ b) : cnt p lo a ≤ cnt p lo b := by
  induction b with
  | zero => obtain rfl : a = 0 := by omega
            exact Nat.le_refl _
  | succ b ih =>
    rcases Nat.lt_or_ge b a with h' | h'
    · obtain rfl : a = b + 1 := by omega
      exact Nat.le_refl _
    · exact Nat.le_trans (ih h') (Nat.le_add_right _ _)
theorem cnt_lt (p : Int → Bool) (lo : Int) {a b : Nat} (h : a < b) (hp : p (lo + (a : Int)) = true) : cnt p lo a < cnt p lo b := by
  have := cnt_le p lo (a := a + 1) (b := b) h
  rw [cnt, if_pos hp] at this
  omega
theorem cnt_congr {p q : Int → Bool} (lo : Int) (m : Nat) (h : ∀ x, p x = q x) : cnt p lo m = cnt q lo m := by
  have : p = q := funext h
  rw [this]
/-- One number less. -/
theorem cnt_but (p : Int → Bool) (lo : Int) (c : Nat) (m : Nat) (hp : p (lo + (c : Int)) = true) : cnt (fun x => p x && x != lo + (c : Int)) lo m + (if c < m then 1 else 0) = cnt p lo m := by
  induction m with
  | zero => rfl
  | succ m ih =>
    rw [cnt, cnt]
    show cnt (fun x => p x && x != lo + (c : Int)) lo m + (if (p (lo + (m : Int)) && lo + (m : Int) != lo + (c : Int)) = true then 1 else 0) + _ = _
    by_cases e : m = c
    · subst e
      rw [if_neg (by omega)] at ih
      rw [if_pos hp, if_neg (by simp), if_pos (by omega)]
      omega
    · have hb : (lo + (m : Int) != lo + (c : Int)) = true := bne_iff_ne.2 (by omega)
      rw [hb, Bool.and_true]
      by_cases h2 : c < m
      · rw [if_pos h2] at ih
        rw [if_pos (show c < m + 1 by omega)]
        omega
      · rw [if_neg h2] at ih
        rw [if_neg (show ¬ c < m + 1 by omega)]
        omega
theorem cnt_true (lo : Int) (m : Nat) : cnt (fun _ => true) lo m = m := by
  induction m with
  | zero => rfl
  | succ m ih => rw [cnt, ih, if_pos rfl]
/-- Can a number come next? -/
def free (pre : List Int) (x : Int) : Bool := x != 0 && (!pre.contains x && !pre.contains (-x))
theorem free_iff (pre : List Int) (x : Int) : free pre x = true ↔ x ≠ 0 ∧ x ∉ pre ∧ -x ∉ pre := by
  unfold free
  simp
/-- How many can come next before x. -/
def digit (n : Nat) (pre : List Int) (x : Int) : Nat := cnt (free pre) (-(n : Int)) (x + n).toNat
theorem free_cons (pre : List Int) (a x : Int) : free (a :: pre) x = ((free pre x && x != a) && x != -a) := by
  rw [Bool.eq_iff_iff]
  simp only [Bool.and_eq_true, free_iff, bne_iff_ne, List.mem_cons, not_or]
  constructor
  · rintro ⟨h0, ⟨h1, h2⟩, h3, h4⟩
    exact ⟨⟨⟨h0, h2, h4⟩, h1⟩, fun e => h3 (by omega)⟩
  · rintro ⟨⟨⟨h0, h1, h3⟩, h2⟩, h4⟩
    exact ⟨h0, ⟨h2, h1⟩, fun e => h4 (by omega), h3⟩
/-- All that can come next. -/
theorem free_all {n : Nat} : ∀ (pre : List Int), (∀ x ∈ pre, x ≠ 0 ∧ -(n : Int) ≤ x ∧ x ≤ n) → (pre.map leaf).Nodup → cnt (free pre) (-(n : Int)) (2 * n + 1) + 2 * pre.length = 2 * n := by
  intro pre
  induction pre with
  | nil =>
    intro _ _
    have e : ∀ x, free [] x = ((fun _ : Int => true) x && x != -(n : Int) + ((n : Nat) : Int)) := fun x => by
      unfold free
      rw [show -(n : Int) + (n : Int) = 0 by omega]
      simp
    have := cnt_but (fun _ => true) (-(n : Int)) n (2 * n + 1) rfl
    rw [cnt_congr _ _ e]
    rw [cnt_true, if_pos (by omega)] at this
    simp only [List.length_nil]
    omega
  | cons a pre ih =>
    intro hb hn
    rw [List.map_cons, List.nodup_cons] at hn
    obtain ⟨hn2, hn1⟩ := hn
    have ha := hb a (by simp)
    have hi := ih (fun x hx => hb x (by simp [hx])) hn1
    have hna : ∀ y ∈ pre, y ≠ a ∧ y ≠ -a := fun y hy => by
      have h := mt (leaf_eq y a).2 (fun e => hn2 (e ▸ List.mem_map_of_mem hy))
      exact ⟨fun e => h (.inl e), fun e => h (.inr e)⟩
    have fa : free pre a = true := (free_iff _ _).2 ⟨ha.1, fun h => (hna _ h).1 rfl, fun h => (hna _ h).2 rfl⟩
    have fna : free pre (-a) = true := (free_iff _ _).2 ⟨by omega, fun h => (hna _ h).2 rfl, fun h => (hna _ h).1 (by omega)⟩
    have c1 := cnt_but (free pre) (-(n : Int)) (a + n).toNat (2 * n + 1) (by rw [show -(n : Int) + (((a + n).toNat : Nat) : Int) = a by omega]; exact fa)
    rw [show -(n : Int) + (((a + n).toNat : Nat) : Int) = a by omega, if_pos (by omega)] at c1
    have c2 := cnt_but (fun x => free pre x && x != a) (-(n : Int)) (-a + n).toNat (2 * n + 1) (by
      rw [show -(n : Int) + (((-a + n).toNat : Nat) : Int) = -a by omega, fna]
      simp
      omega)
    rw [show -(n : Int) + (((-a + n).toNat : Nat) : Int) = -a by omega, if_pos (by omega)] at c2
    rw [cnt_congr _ _ (free_cons pre a)]
    simp only [List.length_cons]
    omega
/-- How many bindings of so many leaves there are. -/
def allOf : Nat → Nat
  | 0 => 1
  | m + 1 => allOf m * (2 * (m + 1))
theorem allOf_pos : ∀ m, 1 ≤ allOf m
  | 0 => Nat.le_refl _
  | m + 1 => by rw [allOf]; exact Nat.mul_pos (allOf_pos m) (by omega)
/-- The rank, digit by digit. -/
def rk (n : Nat) : List Int → List Int → Nat → Nat
  | _, [], acc => acc
  | pre, x :: xs, acc => rk n (pre ++ [x]) xs (acc * (2 * (xs.length + 1)) + digit n pre x)
def rank (b : List Int) : Nat := rk b.length [] b 0
theorem rk_acc (n : Nat) : ∀ (rest pre : List Int) (acc : Nat), rk n pre rest acc = acc * allOf rest.length + rk n pre rest 0 := by
  intro rest
  induction rest with
  | nil => intro pre acc; simp [rk, allOf]
  | cons x xs ih =>
    intro pre acc
    rw [rk, ih, rk, ih (pre ++ [x]) (0 * _ + _), List.length_cons, allOf, Nat.zero_mul, Nat.zero_add, Nat.add_mul, Nat.add_assoc, Nat.mul_assoc, Nat.mul_comm (allOf _)]
/-- What may stand: a whole binding, cut in two. -/
def Cut (n : Nat) (pre rest : List Int) : Prop := Bd n (pre ++ rest)
theorem Cut.next {n : Nat} {pre xs : List Int} {x : Int} (h : Cut n pre (x :: xs)) : Cut n (pre ++ [x]) xs := by
  unfold Cut at *
  rw [List.append_assoc]
  exact h
theorem Cut.head {n : Nat} {pre xs : List Int} {x : Int} (h : Cut n pre (x :: xs)) : free pre x = true ∧ -(n : Int) ≤ x ∧ x ≤ n ∧ cnt (free pre) (-(n : Int)) (2 * n + 1) = 2 * (xs.length + 1) := by
  obtain ⟨h1, h2, h3⟩ := h
  rw [List.map_append, List.nodup_append] at h3
  obtain ⟨h4, h5, h6⟩ := h3
  have hx := h2 x (by simp)
  have hna : ∀ y ∈ pre, y ≠ x ∧ y ≠ -x := fun y hy => by
    have := h6 (leaf y) (List.mem_map_of_mem hy) (leaf x) (by simp)
    have h := mt (leaf_eq y x).2 this
    exact ⟨fun e => h (.inl e), fun e => h (.inr e)⟩
  have hc := free_all pre (fun y hy => h2 y (by simp [hy])) h4
  refine ⟨(free_iff _ _).2 ⟨hx.1, fun h => (hna _ h).1 rfl, fun h => (hna _ h).2 rfl⟩, hx.2.1, hx.2.2, ?_⟩
  rw [List.length_append, List.length_cons] at h1
  omega
theorem digit_lt {n : Nat} {pre xs : List Int} {x : Int} (h : Cut n pre (x :: xs)) : digit n pre x < 2 * (xs.length + 1) := by
  obtain ⟨h1, h2, h3, h4⟩ := h.head
  rw [← h4]
  exact cnt_lt _ _ (by omega) (by rw [show -(n : Int) + (((x + n).toNat : Nat) : Int) = x by omega]; exact h1)
theorem rk_lt {n : Nat} : ∀ (rest pre : List Int), Cut n pre rest → rk n pre rest 0 < allOf rest.length := by
  intro rest
  induction rest with
  | nil => intro pre _; exact Nat.zero_lt_one
  | cons x xs ih =>
    intro pre h
    have hd := digit_lt h
    have := ih (pre ++ [x]) h.next
    rw [rk, rk_acc, Nat.zero_mul, Nat.zero_add, List.length_cons, allOf]
    have h2 : (digit n pre x + 1) * allOf xs.length ≤ 2 * (xs.length + 1) * allOf xs.length := Nat.mul_le_mul_right _ hd
    rw [Nat.add_mul, Nat.one_mul] at h2
    rw [Nat.mul_comm (allOf xs.length)]
    omega
theorem rank_lt {n : Nat} {b : List Int} (h : Bd n b) : rank b < allOf n := by
  have := rk_lt b [] (n := n) h
  unfold rank
  rwa [h.1] at this ⊢
/-- Before, number by number. -/
def lexlt : List Int → List Int → Bool
  | [], [] => false
  | [], _ :: _ => true
  | _ :: _, [] => false
  | a :: r, b :: s => decide (a < b) || (a == b && lexlt r s)
theorem digit_mono {n : Nat} {pre xs ys : List Int} {x y : Int} (hx : Cut n pre (x :: xs)) (hy : Cut n pre (y :: ys)) (h : x < y) : digit n pre x < digit n pre y := by
  obtain ⟨h1, h2, h3, h4⟩ := hx.head
  exact cnt_lt _ _ (by omega) (by rw [show -(n : Int) + (((x + n).toNat : Nat) : Int) = x by omega]; exact h1)
theorem rk_lex {n : Nat} : ∀ (rest rest' pre : List Int), Cut n pre rest → Cut n pre rest' → lexlt rest rest' = true → rk n pre rest 0 < rk n pre rest' 0 := by
  intro rest
  induction rest with
  | nil =>
    intro rest' pre h h' hl
    cases rest' with
    | nil => cases hl
    | cons y ys =>
      have := h.1
      have := h'.1
      rw [List.length_append] at *
      simp at *
      omega
  | cons x xs ih =>
    intro rest' pre h h' hl
    cases rest' with
    | nil => cases hl
    | cons y ys =>
      have hlen : xs.length = ys.length := by
        have a := h.1
        have b := h'.1
        simp only [List.length_append, List.length_cons] at a b
        omega
      rw [lexlt, Bool.or_eq_true, decide_eq_true_eq, Bool.and_eq_true, beq_iff_eq] at hl
      rw [rk, rk, rk_acc, rk_acc n ys, Nat.zero_mul, Nat.zero_add, Nat.zero_mul, Nat.zero_add]
      rcases hl with hl | ⟨rfl, hl⟩
      · have h1 := digit_mono h h' hl
        have h2 := rk_lt xs _ h.next
        have h3 : (digit n pre x + 1) * allOf xs.length ≤ digit n pre y * allOf xs.length := Nat.mul_le_mul_right _ h1
        rw [Nat.add_mul, Nat.one_mul] at h3
        rw [← hlen]
        omega
      · have := ih ys _ h.next h'.next hl
        rw [← hlen]
        omega
theorem lex_total : ∀ (a b : List Int), a.length = b.length → lexlt a b = true ∨ a = b ∨ lexlt b a = true := by
  intro a
  induction a with
  | nil => intro b h; cases b with
    | nil => exact .inr (.inl rfl)
    | cons _ _ => cases h
  | cons x xs ih =>
    intro b h
    cases b with
    | nil => cases h
    | cons y ys =>
      simp only [lexlt, Bool.or_eq_true, decide_eq_true_eq, Bool.and_eq_true, beq_iff_eq]
      rcases Int.lt_trichotomy x y with h1 | rfl | h1
      · exact .inl (.inl h1)
      · rcases ih ys (by simpa using h) with h2 | rfl | h2
        · exact .inl (.inr ⟨rfl, h2⟩)
        · exact .inr (.inl rfl)
        · exact .inr (.inr (.inr ⟨rfl, h2⟩))
      · exact .inr (.inr (.inl h1))
theorem rank_lex {n : Nat} {b c : List Int} (hb : Bd n b) (hc : Bd n c) (h : lexlt b c = true) : rank b < rank c := by
  have := rk_lex b c [] (n := n) hb hc h
  unfold rank
  rwa [hb.1, hc.1]
theorem rank_inj {n : Nat} {b c : List Int} (hb : Bd n b) (hc : Bd n c) (h : rank b = rank c) : b = c := by
  rcases lex_total b c (by rw [hb.1, hc.1]) with h1 | h1 | h1
  · have := rank_lex hb hc h1
    omega
  · exact h1
  · have := rank_lex hc hb h1
    omega
end Go.Proofs.Ytppbpefehpbejaa.Far
end

section
set_option linter.unusedVariables false
namespace Go.Proofs.Ytppbpefehpbejaa.Far
open Go.Proofs.Ytppbpefehpbejaa.Order

/-- The parts, in order. -/
def pairs (n : Nat) : List (Nat × Nat) := (List.range n).flatMap fun f => (List.range' f (n - f)).map fun t => (f, t)
theorem mem_pairs {n : Nat} {p : Nat × Nat} : p ∈ pairs n ↔ p.1 ≤ p.2 ∧ p.2 < n := by
  unfold pairs
  simp only [List.mem_flatMap, List.mem_range, List.mem_map, List.mem_range'_1]
  constructor
  · rintro ⟨f, h1, t, h2, rfl⟩
    exact ⟨h2.1, by show t < n; omega⟩
  · intro ⟨h1, h2⟩
    exact ⟨p.1, by omega, p.2, ⟨h1, by omega⟩, rfl⟩
abbrev Out := List (List Int × Int)
theorem lookup_in {o : Out} (nd : (o.map (·.1)).Nodup) {e : List Int × Int} (h : e ∈ o) : o.lookup e.1 = some e.2 := by
  induction o with
  | nil => cases h
  | cons a o ih =>
    rw [List.map_cons, List.nodup_cons] at nd
    rw [List.lookup_cons]
    rcases List.mem_cons.1 h with rfl | h
    · rw [beq_self_eq_true]
    · have : (e.1 == a.1) = false := beq_eq_false_iff_ne.2 (fun e1 => nd.1 (e1 ▸ List.mem_map_of_mem h))
      rw [this]
      exact ih nd.2 h
theorem lookup_mem {o : Out} {b : List Int} {v : Int} (h : o.lookup b = some v) : (b, v) ∈ o := by
  induction o with
  | nil => cases h
  | cons a o ih =>
    rw [List.lookup_cons] at h
    cases e : b == a.1 with
    | true =>
      rw [e] at h
      obtain rfl := Option.some.inj h
      rw [beq_iff_eq] at e
      rw [e]
      exact List.mem_cons_self
    | false =>
      rw [e] at h
      exact List.mem_cons_of_mem _ (ih h)
theorem lookup_none {o : Out} {b : List Int} (h : o.lookup b = none) : ∀ e ∈ o, e.1 ≠ b := by
  intro e he heq
  induction o with
  | nil => cases he
  | cons a o ih =>
    rw [List.lookup_cons] at h
    cases e' : b == a.1 with
    | true => rw [e'] at h; cases h
    | false =>
      rw [e'] at h
      rcases List.mem_cons.1 he with rfl | he
      · rw [heq, beq_self_eq_true] at e'
        cases e'
      · exact ih h he
theorem lookup_snoc (o : Out) (b c : List Int) (v : Int) : (o ++ [(c, v)]).lookup b = (o.lookup b).or (if b == c then some v else none) := by
  rw [List.lookup_append]
  congr 1
  rw [List.lookup_cons]
  cases b == c <;> rfl
/-- A turn of one that is known: put behind, if it is new. -/
def put (q : List Int) (d : Int) (o : Out) (p : Nat × Nat) : Out := if (o.lookup (turn q p.1 p.2)).isSome = true then o else o ++ [(turn q p.1 p.2, d + 1)]
def expand (n : Nat) (e : List Int × Int) (o : Out) : Out := (pairs n).foldl (put e.1 e.2) o
def bfs (n : Nat) : Nat → Nat → Out → Option Out
  | 0, _, _ => none
  | k + 1, i, o => match o[i]? with
    | none => some o
    | some e => bfs n k (i + 1) (expand n e o)
/-- What holds while the i-th is being turned, dn of its turns being done. -/
structure G (n : Nat) (o : Out) (i : Nat) (dn : List (Nat × Nat)) : Prop where
  nd : (o.map (·.1)).Nodup
  bd : ∀ e ∈ o, Bd n e.1
  ne : o[0]? = some (right n, 0)
  srt : o.Pairwise (fun a b => a.2 ≤ b.2)
  nn : ∀ e ∈ o, 0 ≤ e.2
  cl : ∀ j e, j < i → o[j]? = some e → ∀ p : Nat × Nat, p.1 ≤ p.2 → p.2 < n → ∃ v, o.lookup (turn e.1 p.1 p.2) = some v ∧ v ≤ e.2 + 1
  cur : ∀ e, o[i]? = some e → (∀ x ∈ o, x.2 ≤ e.2 + 1) ∧ ∀ p ∈ dn, ∃ v, o.lookup (turn e.1 p.1 p.2) = some v ∧ v ≤ e.2 + 1
  par : ∀ e ∈ o, (e.1 = right n ∧ e.2 = 0) ∨ (0 < e.2 ∧ ∃ p : Nat × Nat, p.1 ≤ p.2 ∧ p.2 < n ∧ o.lookup (turn e.1 p.1 p.2) = some (e.2 - 1))
theorem G.start (n : Nat) : G n [(right n, 0)] 0 [] where
  nd := by simp
  bd := fun e he => by rw [List.mem_singleton.1 he]; exact right_bd n
  ne := rfl
  srt := List.pairwise_singleton _ _
  nn := fun e he => by rw [List.mem_singleton.1 he]; exact Int.le_refl _
  cl := fun j e h => absurd h (Nat.not_lt_zero _)
  cur := fun e he => by
    obtain rfl := Option.some.inj he
    exact ⟨fun x hx => by rw [List.mem_singleton.1 hx]; show (0 : Int) ≤ 0 + 1; decide, fun p hp => by cases hp⟩
  par := fun e he => by rw [List.mem_singleton.1 he]; exact .inl ⟨rfl, rfl⟩
theorem lookup_keep {o : Out} {b c : List Int} {v u : Int} (h : o.lookup b = some v) : (o ++ [(c, u)]).lookup b = some v := by
  rw [lookup_snoc, h]
  rfl
theorem G.put {n : Nat} {o : Out} {i : Nat} {dn : List (Nat × Nat)} {e : List Int × Int} {p : Nat × Nat} (g : G n o i dn) (he : o[i]? = some e) (h1 : p.1 ≤ p.2) (h2 : p.2 < n) :
    G n (put e.1 e.2 o p) i (dn ++ [p]) := by
  have hm : e ∈ o := List.mem_of_getElem? he
  obtain ⟨c1, c2⟩ := g.cur e he
  unfold Far.put
  cases hl : o.lookup (turn e.1 p.1 p.2) with
  | some v =>
    rw [if_pos (show (some v).isSome = true from rfl)]
    refine { g with cur := fun e' he' => ?_ }
    obtain rfl := Option.some.inj (he.symm.trans he')
    refine ⟨c1, fun q hq => ?_⟩
    rcases List.mem_append.1 hq with hq | hq
    · exact c2 q hq
    · rw [List.mem_singleton.1 hq]
      exact ⟨v, hl, c1 _ (lookup_mem hl)⟩
  | none =>
    rw [if_neg (by simp)]
    have hlt : i < o.length := by
      rcases Nat.lt_or_ge i o.length with h | h
      · exact h
      · rw [List.getElem?_eq_none h] at he; cases he
    have hb := g.bd e hm
    have hd := g.nn e hm
    have hnew : (o ++ [(turn e.1 p.1 p.2, e.2 + 1)]).lookup (turn e.1 p.1 p.2) = some (e.2 + 1) := by
      rw [lookup_snoc, hl, beq_self_eq_true]
      rfl
    have hat : ∀ j, j ≤ i → (o ++ [(turn e.1 p.1 p.2, e.2 + 1)])[j]? = o[j]? := fun j hj => List.getElem?_append_left (by omega)
    refine ⟨?_, ?_, ?_, ?_, ?_, ?_, ?_, ?_⟩
    · rw [List.map_append, List.nodup_append]
      refine ⟨g.nd, by simp, fun a ha b hb e' => ?_⟩
      obtain ⟨x, hx, rfl⟩ := List.mem_map.1 ha
      rw [List.map_singleton, List.mem_singleton] at hb
      exact lookup_none hl x hx (e'.trans hb)
    · intro x hx
      rcases List.mem_append.1 hx with hx | hx
      · exact g.bd x hx
      · rw [List.mem_singleton.1 hx]
        exact turn_bd hb h1 h2
    · rw [hat 0 (Nat.zero_le _)]
      exact g.ne
    · rw [List.pairwise_append]
      refine ⟨g.srt, List.pairwise_singleton _ _, fun a ha b hb => ?_⟩
      rw [List.mem_singleton.1 hb]
      exact c1 a ha
    · intro x hx
      rcases List.mem_append.1 hx with hx | hx
      · exact g.nn x hx
      · rw [List.mem_singleton.1 hx]
        show 0 ≤ e.2 + 1
        omega
    · intro j x hj hx q hq1 hq2
      rw [hat j (by omega)] at hx
      obtain ⟨v, hv, hle⟩ := g.cl j x hj hx q hq1 hq2
      exact ⟨v, lookup_keep hv, hle⟩
    · intro e' he'
      rw [hat i (Nat.le_refl _)] at he'
      obtain rfl := Option.some.inj (he.symm.trans he')
      refine ⟨fun x hx => ?_, fun q hq => ?_⟩
      · rcases List.mem_append.1 hx with hx | hx
        · exact c1 x hx
        · rw [List.mem_singleton.1 hx]
          exact Int.le_refl _
      · rcases List.mem_append.1 hq with hq | hq
        · obtain ⟨v, hv, hle⟩ := c2 q hq
          exact ⟨v, lookup_keep hv, hle⟩
        · rw [List.mem_singleton.1 hq]
          exact ⟨_, hnew, Int.le_refl _⟩
    · intro x hx
      rcases List.mem_append.1 hx with hx | hx
      · rcases g.par x hx with h | ⟨h, q, hq1, hq2, hq3⟩
        · exact .inl h
        · exact .inr ⟨h, q, hq1, hq2, lookup_keep hq3⟩
      · rw [List.mem_singleton.1 hx]
        refine .inr ⟨by show 0 < e.2 + 1; omega, p, h1, h2, ?_⟩
        show (o ++ _).lookup (turn (turn e.1 p.1 p.2) p.1 p.2) = some (e.2 + 1 - 1)
        rw [turn_turn h1 (by rw [hb.1]; exact h2), Int.add_sub_cancel]
        exact lookup_keep (lookup_in g.nd hm)
theorem put_more (q : List Int) (d : Int) (o : Out) (p : Nat × Nat) : ∃ s, put q d o p = o ++ s := by
  unfold put
  split
  · exact ⟨[], (List.append_nil _).symm⟩
  · exact ⟨_, rfl⟩
theorem G.puts {n : Nat} {i : Nat} {e : List Int × Int} : ∀ (ps : List (Nat × Nat)) (o : Out) (dn : List (Nat × Nat)), (∀ p ∈ ps, p.1 ≤ p.2 ∧ p.2 < n) → G n o i dn → o[i]? = some e → G n (ps.foldl (Far.put e.1 e.2) o) i (dn ++ ps) ∧ ∃ s, ps.foldl (Far.put e.1 e.2) o = o ++ s := by
  intro ps
  induction ps with
  | nil => intro o dn _ g he; exact ⟨by rw [List.append_nil]; exact g, [], (List.append_nil _).symm⟩
  | cons p ps ih =>
    intro o dn hp g he
    have h := hp p (by simp)
    obtain ⟨s, hs⟩ := put_more e.1 e.2 o p
    have he' : (Far.put e.1 e.2 o p)[i]? = some e := by
      rw [hs, List.getElem?_append_left]
      · exact he
      · rcases Nat.lt_or_ge i o.length with h | h
        · exact h
        · rw [List.getElem?_eq_none h] at he; cases he
    obtain ⟨g', s', hs'⟩ := ih (Far.put e.1 e.2 o p) (dn ++ [p]) (fun q hq => hp q (by simp [hq])) (g.put he h.1 h.2) he'
    refine ⟨by rw [List.append_assoc] at g'; exact g', s ++ s', ?_⟩
    rw [List.foldl_cons, hs', hs, List.append_assoc]
theorem G.expand {n : Nat} {i : Nat} {e : List Int × Int} {o : Out} (g : G n o i []) (he : o[i]? = some e) : G n (expand n e o) (i + 1) [] ∧ ∃ s, expand n e o = o ++ s := by
  obtain ⟨g', s, hs⟩ := G.puts (pairs n) o [] (fun p hp => mem_pairs.1 hp) g he
  refine ⟨?_, s, hs⟩
  have hlt : i < o.length := by
    rcases Nat.lt_or_ge i o.length with h | h
    · exact h
    · rw [List.getElem?_eq_none h] at he; cases he
  have he' : (Far.expand n e o)[i]? = some e := by
    show ((pairs n).foldl _ _)[i]? = _
    rw [hs, List.getElem?_append_left hlt]
    exact he
  obtain ⟨c1, c2⟩ := g'.cur e he'
  refine { g' with cl := fun j x hj hx p h1 h2 => ?_, cur := fun x hx => ⟨fun y hy => ?_, fun p hp => by cases hp⟩ }
  · rcases Nat.lt_or_ge j i with h | h
    · exact g'.cl j x h hx p h1 h2
    · obtain rfl : j = i := by omega
      obtain rfl := Option.some.inj (he'.symm.trans hx)
      exact c2 p (by rw [List.nil_append]; exact mem_pairs.2 ⟨h1, h2⟩)
  · have a := c1 y hy
    have hl2 : i + 1 < (Far.expand n e o).length := by
      rcases Nat.lt_or_ge (i + 1) (Far.expand n e o).length with h | h
      · exact h
      · rw [List.getElem?_eq_none h] at hx; cases hx
    have b : e.2 ≤ x.2 := by
      have := List.pairwise_iff_getElem.1 g'.srt i (i + 1) (Nat.lt_of_succ_lt hl2) hl2 (by omega)
      have e1 := List.getElem?_eq_getElem (Nat.lt_of_succ_lt hl2)
      have e2 := List.getElem?_eq_getElem hl2
      rw [← Option.some.inj (e1.symm.trans he'), ← Option.some.inj (e2.symm.trans hx)]
      exact this
    omega
theorem G.few {n : Nat} {i : Nat} {o : Out} {dn : List (Nat × Nat)} (g : G n o i dn) : o.length ≤ allOf n := by
  have := all_once (allOf n) (o.map fun e => ((rank e.1 : Nat) : Int)) ?_ ?_
  · rw [List.length_map] at this
    exact this.1
  · have nd := g.nd
    have bd := g.bd
    clear g
    induction o with
    | nil => exact List.nodup_nil
    | cons a o ih =>
      rw [List.map_cons, List.nodup_cons] at nd ⊢
      refine ⟨fun h => ?_, ih nd.2 (fun e he => bd e (by simp [he]))⟩
      obtain ⟨x, hx, e⟩ := List.mem_map.1 h
      have := rank_inj (bd x (by simp [hx])) (bd a (by simp)) (by omega)
      exact nd.1 (this ▸ List.mem_map_of_mem hx)
  · intro x hx
    obtain ⟨e, he, rfl⟩ := List.mem_map.1 hx
    have := rank_lt (g.bd e he)
    omega
/-- The whole: each binding with its least number of turns. -/
structure Done (n : Nat) (o : Out) : Prop where
  nd : (o.map (·.1)).Nodup
  bd : ∀ e ∈ o, Bd n e.1
  nn : ∀ e ∈ o, 0 ≤ e.2
  all : ∀ b, Bd n b → ∃ v, o.lookup b = some v ∧ 0 ≤ v
  near : ∀ b v f t u, o.lookup b = some v → f ≤ t → t < n → o.lookup (turn b f t) = some u → u ≤ v + 1
  par : ∀ b v, o.lookup b = some v → (b = right n ∧ v = 0) ∨ (0 < v ∧ ∃ f t, f ≤ t ∧ t < n ∧ o.lookup (turn b f t) = some (v - 1))
  zero : o.lookup (right n) = some 0
theorem G.done {n : Nat} {o : Out} (g : G n o o.length []) : Done n o := by
  have hz : o.lookup (right n) = some 0 := lookup_in g.nd (List.mem_of_getElem? g.ne)
  have cl : ∀ b v f t, o.lookup b = some v → f ≤ t → t < n → ∃ u, o.lookup (turn b f t) = some u ∧ u ≤ v + 1 := by
    intro b v f t hb hf ht
    obtain ⟨j, hj, e⟩ := List.mem_iff_getElem.1 (lookup_mem hb)
    obtain ⟨u, hu, hle⟩ := g.cl j (b, v) hj (by rw [List.getElem?_eq_getElem hj, e]) (f, t) hf ht
    exact ⟨u, hu, hle⟩
  refine ⟨g.nd, g.bd, g.nn, ?_, ?_, ?_, hz⟩
  · intro b hb
    have := all_in (n := n) (fun b => ∃ v, o.lookup b = some v ∧ 0 ≤ v) ⟨0, hz, Int.le_refl _⟩ (fun b f t ⟨v, hv, _⟩ _ hf ht => by
      obtain ⟨u, hu, _⟩ := cl b v f t hv hf ht
      exact ⟨u, hu, g.nn _ (lookup_mem hu)⟩) b hb
    exact this
  · intro b v f t u hb hf ht hu
    obtain ⟨u', hu', hle⟩ := cl b v f t hb hf ht
    obtain rfl := Option.some.inj (hu.symm.trans hu')
    exact hle
  · intro b v hb
    rcases g.par _ (lookup_mem hb) with h | ⟨h, p, h1, h2, h3⟩
    · exact .inl h
    · exact .inr ⟨h, p.1, p.2, h1, h2, h3⟩
/-- The search ends. -/
theorem bfs_ends {n : Nat} : ∀ (d i : Nat) (o : Out), G n o i [] → i ≤ o.length → allOf n + 1 - i ≤ d → ∃ o', Done n o' ∧ o'.length ≤ allOf n ∧ ∀ k, d ≤ k → bfs n k i o = some o' := by
  intro d
  induction d with
  | zero =>
    intro i o g hi hd
    have := g.few
    omega
  | succ d ih =>
    intro i o g hi hd
    cases he : o[i]? with
    | none =>
      have hl : i = o.length := by
        have := List.getElem?_eq_none_iff.1 he
        omega
      subst hl
      refine ⟨o, g.done, g.few, fun k hk => ?_⟩
      obtain ⟨k, rfl⟩ : ∃ m, k = m + 1 := ⟨k - 1, by omega⟩
      rw [bfs, he]
    | some e =>
      obtain ⟨g', s, hs⟩ := g.expand he
      have hlt : i < o.length := by
        rcases Nat.lt_or_ge i o.length with h | h
        · exact h
        · rw [List.getElem?_eq_none h] at he; cases he
      obtain ⟨o', h1, h2, h3⟩ := ih (i + 1) (expand n e o) g' (by rw [hs, List.length_append]; omega) (by omega)
      refine ⟨o', h1, h2, fun k hk => ?_⟩
      obtain ⟨k, rfl⟩ : ∃ m, k = m + 1 := ⟨k - 1, by omega⟩
      rw [bfs, he]
      exact h3 k (by omega)
/-- The row by ranks. -/
def arrOf (N : Nat) (o : Out) : List Int := o.foldl (fun a e => a.set (rank e.1) e.2) (List.replicate N (-1))
theorem arrOf_snoc (N : Nat) (o : Out) (e : List Int × Int) : arrOf N (o ++ [e]) = (arrOf N o).set (rank e.1) e.2 := by
  unfold arrOf
  rw [List.foldl_append]
  rfl
theorem arr_len (N : Nat) (o : Out) : (arrOf N o).length = N := by
  unfold arrOf
  have : ∀ (o : Out) (a : List Int), (o.foldl (fun a e => a.set (rank e.1) e.2) a).length = a.length := by
    intro o
    induction o with
    | nil => intro a; rfl
    | cons e o ih => intro a; rw [List.foldl_cons, ih, List.length_set]
  rw [this, List.length_replicate]
theorem snoc_ind {α : Type} {P : List α → Prop} (h0 : P []) (h1 : ∀ l a, P l → P (l ++ [a])) : ∀ l, P l := by
  intro l
  have : ∀ l : List α, P l.reverse := by
    intro l
    induction l with
    | nil => exact h0
    | cons a l ih => rw [List.reverse_cons]; exact h1 _ _ ih
  have := this l.reverse
  rwa [List.reverse_reverse] at this
theorem arr_at {n : Nat} {b : List Int} (hb : Bd n b) : ∀ (o : Out), (∀ e ∈ o, Bd n e.1) → (o.map (·.1)).Nodup → (arrOf (allOf n) o).getD (rank b) 0 = (o.lookup b).getD (-1) := by
  refine snoc_ind ?_ ?_
  · intro _ _
    have := rank_lt hb
    unfold arrOf
    rw [List.foldl_nil, List.getD_eq_getElem?_getD, List.getElem?_replicate, if_pos this]
    rfl
  · intro o e ih hbd nd
    rw [List.map_append, List.nodup_append] at nd
    have ih := ih (fun x hx => hbd x (by simp [hx])) nd.1
    have he := hbd e (by simp)
    rw [arrOf_snoc, show e = (e.1, e.2) from rfl, lookup_snoc]
    by_cases h : b = e.1
    · have hn : o.lookup b = none := by
        cases hl : o.lookup b with
        | none => rfl
        | some v => exact absurd rfl (nd.2.2 b (by have := List.mem_map_of_mem (f := fun x : List Int × Int => x.1) (lookup_mem hl); exact this) b (by simp [h]))
      rw [hn, h, beq_self_eq_true, List.getD_eq_getElem?_getD, List.getElem?_set_self (by rw [arr_len]; exact rank_lt he)]
      rfl
    · have : (b == e.1) = false := beq_eq_false_iff_ne.2 h
      rw [this, List.getD_eq_getElem?_getD, List.getElem?_set_ne (fun e' => h (rank_inj hb he e'.symm)), ← List.getD_eq_getElem?_getD, ih]
      cases o.lookup b <;> rfl
end Go.Proofs.Ytppbpefehpbejaa.Far
end

section
namespace Go.Proofs.Ytppbpefehpbejaa.P
open Go.RowKit Go.Proofs.YtppbpefehpbejaaW.PrintWords Go.Proofs.YtppbpefehpbejaaW.PrintLast Go.Proofs.YtppbpefehpbejaaW.PrintMore
set_option linter.unusedVariables false
set_option linter.unusedSimpArgs false

/-- A binding's key. -/
def keyV (l : List Int) : Value := .agg #[.int .i64 (l.getD 0 0), .int .i64 (l.getD 1 0), .int .i64 (l.getD 2 0), .int .i64 (l.getD 3 0), .int .i64 (l.getD 4 0), .int .i64 (l.getD 5 0), .int .i64 (l.getD 6 0), .int .i64 (l.getD 7 0)]
theorem key_cell {l : List Int} (hl : l.length ≤ 8) {i : Nat} (hi : i < 8) : (splice (List.replicate 8 (Value.int .i64 0)) 0 (l.map (Value.int .i64)))[i]? = some (.int .i64 (l.getD i 0)) := by
  unfold splice
  rw [List.take_zero, List.nil_append, List.length_map, Nat.zero_add, List.getD_eq_getElem?_getD]
  by_cases h : i < l.length
  · rw [List.getElem?_append_left (by rw [List.length_map]; exact h), List.getElem?_map, List.getElem?_eq_getElem h]
    rfl
  · rw [List.getElem?_append_right (by rw [List.length_map]; omega), List.getElem?_eq_none (by omega : l.length ≤ i), List.length_map, List.drop_replicate, List.getElem?_replicate, if_pos (by omega)]
    rfl

/-- Eight numbers 0. -/
def zero8 : Obj := .cells #[.int .i64 0, .int .i64 0, .int .i64 0, .int .i64 0, .int .i64 0, .int .i64 0, .int .i64 0, .int .i64 0] 69
theorem zero8_size (w : World) : (w.alloc zero8).heap.size = w.heap.size + 1 := by simp
theorem zero8_at (w : World) : ((w.alloc zero8).alloc zero8).heap[w.heap.size + 1]? = some (.cells (List.replicate 8 (Value.int .i64 0)).toArray 69 (0, 0)) := by
  have h := heap_alloc_new (w.alloc zero8) zero8
  rw [zero8_size] at h
  exact h
theorem zero8_below (w : World) : Below (w.heap.size + 1) (w.alloc zero8) ((w.alloc zero8).alloc zero8) := by
  have h := below_alloc (Below.refl (w.alloc zero8).heap.size _) zero8
  rw [zero8_size] at h
  exact h
theorem key_src {w : World} {A : Option Addr} {l : List Int} (hr : Kd.C (Kd.int .i64) w A l.length l) (h0 : 0 < (l.map (Value.int .i64)).length) : ∃ ad, A = some ad ∧ ∀ j v, (l.map (Value.int .i64))[j]? = some v → w.cell? (ad.add j) = some v := by
  rw [List.length_map] at h0
  obtain ⟨ad, e, _⟩ := Kd.at_int hr 0 (Int.le_refl _) (by omega)
  refine ⟨ad, e, fun j v hv => ?_⟩
  rw [List.getElem?_map] at hv
  obtain ⟨x, hx, rfl⟩ := Option.map_eq_some_iff.1 hv
  obtain ⟨hj, rfl⟩ := List.getElem?_eq_some_iff.1 hx
  obtain ⟨ad', e', hc⟩ := Kd.at_int hr (j : Int) (by omega) (by omega)
  cases e.symm.trans e'
  rw [Int.toNat_natCast] at hc
  rw [hc]
  unfold rd
  rw [Int.toNat_natCast, List.getD_eq_getElem?_getD, List.getElem?_eq_getElem hj]
  rfl

set_option maxHeartbeats 2000000 in
set_option maxRecDepth 100000 in
theorem keyOf_calls (A : Option Addr) (c : Nat) (l : List Int) (w : World) (hr : Kd.C (Kd.int .i64) w A l.length l) (hl : l.length ≤ 8) :
    Calls Try.prog 76 #[.slice A l.length c] w fun e w' => e = .returned (keyV l) ∧ Below w.heap.size w w' := by
  have hu53 := Try.underlying69
  have HR := Aside0.mk hr
  have HL := Aside0.mk hl
  have HB := Aside0.mk (Below.refl w.heap.size w)
  clear hr hl
  obtain ⟨y0, e0_⟩ : ∃ y, y = l.getD 0 0 := ⟨_, rfl⟩
  obtain ⟨y1, e1_⟩ : ∃ y, y = l.getD 1 0 := ⟨_, rfl⟩
  obtain ⟨y2, e2_⟩ : ∃ y, y = l.getD 2 0 := ⟨_, rfl⟩
  obtain ⟨y3, e3_⟩ : ∃ y, y = l.getD 3 0 := ⟨_, rfl⟩
  obtain ⟨y4, e4_⟩ : ∃ y, y = l.getD 4 0 := ⟨_, rfl⟩
  obtain ⟨y5, e5_⟩ : ∃ y, y = l.getD 5 0 := ⟨_, rfl⟩
  obtain ⟨y6, e6_⟩ : ∃ y, y = l.getD 6 0 := ⟨_, rfl⟩
  obtain ⟨y7, e7_⟩ : ∃ y, y = l.getD 7 0 := ⟨_, rfl⟩
  have E := Aside0.mk (show keyV l = .agg #[.int .i64 y0, .int .i64 y1, .int .i64 y2, .int .i64 y3, .int .i64 y4, .int .i64 y5, .int .i64 y6, .int .i64 y7] from by unfold keyV; rw [← e0_, ← e1_, ← e2_, ← e3_, ← e4_, ← e5_, ← e6_, ← e7_])
  rw [E.out]
  have EY := Aside0.mk (And.intro e0_ (And.intro e1_ (And.intro e2_ (And.intro e3_ (And.intro e4_ (And.intro e5_ (And.intro e6_ e7_)))))))
  clear e0_ e1_ e2_ e3_ e4_ e5_ e6_ e7_ E
  go_enter Try.func76, Try.ntmps76
  go_wp2_with ((with_reducible refine gate_builtin (b := .copy) (xs := #[.tmp 5, .tmp 6]) rfl ?_); (refine wpList_copy_splice rfl (.tmp 5) (.tmp 6) 24 24 rfl 3 Try.underlying24 (by kernel_rfl) (some ⟨w.heap.size + 1, 0, none⟩) A 8 8 l.length c (by first | rfl | simp) (by first | rfl | simp) (w.heap.size + 1) 0 (List.replicate 8 (Value.int .i64 0)) 69 (zero8_at w) (l.map (Value.int .i64)) ?hn ?hpos ?hfit ?h1 (w.heap.size + 1) (w.alloc zero8) (zero8_below w) (Nat.le_refl _) ?_; (case hn => have := HL.out; rw [List.length_map]; exact (Nat.min_eq_left this).symm); (case hpos => exact fun h0 => ⟨rfl, key_src (Kd.C_alloc (Kd.C_alloc HR.out _) _) h0⟩); (case hfit => have := HL.out; simp; omega); (case h1 => intro v hv; obtain ⟨x, _, rfl⟩ := List.mem_map.1 hv; rfl); intro w3 hw3 hb3; have B2 := Aside0.mk hb3; have K3 := Aside0.mk hw3.out; clear hb3 hw3; have c0 : w3.cell? ⟨w.heap.size + 1, 0, none⟩ = some (.int .i64 y0) := (blk_cell K3.out 0).trans (by rw [List.getElem?_toArray, EY.out.1]; exact key_cell HL.out (by decide)); have c1 : w3.cell? ⟨w.heap.size + 1, 1, none⟩ = some (.int .i64 y1) := (blk_cell K3.out 1).trans (by rw [List.getElem?_toArray, EY.out.2.1]; exact key_cell HL.out (by decide)); have c2 : w3.cell? ⟨w.heap.size + 1, 2, none⟩ = some (.int .i64 y2) := (blk_cell K3.out 2).trans (by rw [List.getElem?_toArray, EY.out.2.2.1]; exact key_cell HL.out (by decide)); have c3 : w3.cell? ⟨w.heap.size + 1, 3, none⟩ = some (.int .i64 y3) := (blk_cell K3.out 3).trans (by rw [List.getElem?_toArray, EY.out.2.2.2.1]; exact key_cell HL.out (by decide)); have c4 : w3.cell? ⟨w.heap.size + 1, 4, none⟩ = some (.int .i64 y4) := (blk_cell K3.out 4).trans (by rw [List.getElem?_toArray, EY.out.2.2.2.2.1]; exact key_cell HL.out (by decide)); have c5 : w3.cell? ⟨w.heap.size + 1, 5, none⟩ = some (.int .i64 y5) := (blk_cell K3.out 5).trans (by rw [List.getElem?_toArray, EY.out.2.2.2.2.2.1]; exact key_cell HL.out (by decide)); have c6 : w3.cell? ⟨w.heap.size + 1, 6, none⟩ = some (.int .i64 y6) := (blk_cell K3.out 6).trans (by rw [List.getElem?_toArray, EY.out.2.2.2.2.2.2.1]; exact key_cell HL.out (by decide)); have c7 : w3.cell? ⟨w.heap.size + 1, 7, none⟩ = some (.int .i64 y7) := (blk_cell K3.out 7).trans (by rw [List.getElem?_toArray, EY.out.2.2.2.2.2.2.2]; exact key_cell HL.out (by decide)); have BK := Aside0.mk ((B2.out.block w.heap.size (Nat.lt_succ_self _)).trans (heap_alloc_new w zero8)); have d0 : w3.cell? ⟨w.heap.size, 0, none⟩ = some (.int .i64 0) := (blk_cell BK.out 0).trans rfl; have d1 : w3.cell? ⟨w.heap.size, 1, none⟩ = some (.int .i64 0) := (blk_cell BK.out 1).trans rfl; have d2 : w3.cell? ⟨w.heap.size, 2, none⟩ = some (.int .i64 0) := (blk_cell BK.out 2).trans rfl; have d3 : w3.cell? ⟨w.heap.size, 3, none⟩ = some (.int .i64 0) := (blk_cell BK.out 3).trans rfl; have d4 : w3.cell? ⟨w.heap.size, 4, none⟩ = some (.int .i64 0) := (blk_cell BK.out 4).trans rfl; have d5 : w3.cell? ⟨w.heap.size, 5, none⟩ = some (.int .i64 0) := (blk_cell BK.out 5).trans rfl; have d6 : w3.cell? ⟨w.heap.size, 6, none⟩ = some (.int .i64 0) := (blk_cell BK.out 6).trans rfl; have d7 : w3.cell? ⟨w.heap.size, 7, none⟩ = some (.int .i64 0) := (blk_cell BK.out 7).trans rfl; have e0 := blk_frozen BK.out 0; have e1 := blk_frozen BK.out 1; have e2 := blk_frozen BK.out 2; have e3 := blk_frozen BK.out 3; have e4 := blk_frozen BK.out 4; have e5 := blk_frozen BK.out 5; have e6 := blk_frozen BK.out 6; have e7 := blk_frozen BK.out 7))
  exact bodyPost_ret (v := .agg #[.int .i64 y0, .int .i64 y1, .int .i64 y2, .int .i64 y3, .int .i64 y4, .int .i64 y5, .int .i64 y6, .int .i64 y7]) (by simp [results, Try.results76, go_sem, d0, d1, d2, d3, d4, d5, d6, d7]) rfl ⟨rfl, by
    refine below_set (below_set (below_set (below_set (below_set (below_set (below_set (below_set ?_ (Nat.le_refl _)) (Nat.le_refl _)) (Nat.le_refl _)) (Nat.le_refl _)) (Nat.le_refl _)) (Nat.le_refl _)) (Nat.le_refl _)) (Nat.le_refl _)
    exact (below_alloc (Below.refl _ _) zero8).trans (B2.out.mono (Nat.le_succ _))⟩
end Go.Proofs.Ytppbpefehpbejaa.P
end

section
namespace Go.Proofs.Ytppbpefehpbejaa.P
open Go.Maps Go.RowKit Go.Proofs.YtppbpefehpbejaaW.PrintWords Go.Proofs.Ytppbpefehpbejaa.Far
set_option linter.unusedVariables false
set_option linter.unusedSimpArgs false

theorem farLaid : laidOutB Try.prog = true := by kernel_rfl
theorem farKey : WideMaps.KeyLaw Try.prog 69 := deep_law_laid farLaid (m := 2) (by omega) (of_decide_eq_true (by kernel_rfl)) (by kernel_rfl) (by kernel_rfl)
theorem farKeyed : Keyed Try.prog 69 := Keyed.of_law farKey
theorem farZero (w : World) : (zeroValue 3).run Try.prog w = .ok (.int .i64 0) w := by kernel_rfl
theorem farTypes : Try.prog.keyType 69 = true := by kernel_rfl
theorem farFormed (y0 y1 y2 y3 y4 y5 y6 y7 : Value) : (Value.agg #[y0, y1, y2, y3, y4, y5, y6, y7]).formed Try.prog 69 = true := by kernel_rfl
theorem farSize : ∃ m, Try.prog.types.size + 1 = m + 2 := ⟨Try.prog.types.size - 1, by have : 1 ≤ Try.prog.types.size := of_decide_eq_true (by kernel_rfl); omega⟩
theorem farCells8 : Try.prog.cellsOf 69 = 8 := by kernel_rfl
theorem farCells1 : Try.prog.cellsOf 3 = 1 := by kernel_rfl
/-- What a key reads as. -/
theorem key_lit (y0 y1 y2 y3 y4 y5 y6 y7 : Int) (h0 : (Lit.int .i64 y0).wf = true) (h1 : (Lit.int .i64 y1).wf = true) (h2 : (Lit.int .i64 y2).wf = true) (h3 : (Lit.int .i64 y3).wf = true) (h4 : (Lit.int .i64 y4).wf = true) (h5 : (Lit.int .i64 y5).wf = true) (h6 : (Lit.int .i64 y6).wf = true) (h7 : (Lit.int .i64 y7).wf = true) :
    keyOf Try.prog 69 (.agg #[.int .i64 y0, .int .i64 y1, .int .i64 y2, .int .i64 y3, .int .i64 y4, .int .i64 y5, .int .i64 y6, .int .i64 y7]) = some (.string (keyBytes [.int .i64 y0, .int .i64 y1, .int .i64 y2, .int .i64 y3, .int .i64 y4, .int .i64 y5, .int .i64 y6, .int .i64 y7])) := by
  obtain ⟨m, hm⟩ := farSize
  have hu := Try.underlying69
  have hi := Try.underlying3
  unfold keyOf
  rw [hu]
  simp only [farTypes, farFormed, Bool.and_self, if_true, hm]
  simp only [Program.keyLits, hu, hi, farCells8, farCells1, Value.cells]
  simp [List.range_succ, List.mapM_cons, h0, h1, h2, h3, h4, h5, h6, h7]
/-- The key of a binding, as it reads. -/
def klit (l : List Int) : Lit := .string (keyBytes [.int .i64 (l.getD 0 0), .int .i64 (l.getD 1 0), .int .i64 (l.getD 2 0), .int .i64 (l.getD 3 0), .int .i64 (l.getD 4 0), .int .i64 (l.getD 5 0), .int .i64 (l.getD 6 0), .int .i64 (l.getD 7 0)])
theorem bd_small {n : Nat} {l : List Int} (h : Bd n l) (hn : n ≤ 8) (i : Nat) : (Lit.int .i64 (l.getD i 0)).wf = true := by
  refine WalkArith.wf_i64 ?_
  rcases Nat.lt_or_ge i l.length with hi | hi
  · have := h.2.1 (l.getD i 0) (by rw [Base.getD_at l 0 hi]; exact List.getElem_mem hi)
    omega
  · rw [List.getD_eq_getElem?_getD, List.getElem?_eq_none hi]
    decide
theorem klit_key {n : Nat} {l : List Int} (h : Bd n l) (hn : n ≤ 8) : keyOf Try.prog 69 (keyV l) = some (klit l) := by
  exact key_lit _ _ _ _ _ _ _ _ (bd_small h hn 0) (bd_small h hn 1) (bd_small h hn 2) (bd_small h hn 3) (bd_small h hn 4) (bd_small h hn 5) (bd_small h hn 6) (bd_small h hn 7)
theorem keyV_inj {n : Nat} {l m : List Int} (hl : Bd n l) (hm : Bd n m) (hn : n ≤ 8) (h : keyV l = keyV m) : l = m := by
  unfold keyV at h
  simp only [Value.agg.injEq, Array.mk.injEq, List.cons.injEq, Value.int.injEq, true_and, and_true] at h
  obtain ⟨h0, h1, h2, h3, h4, h5, h6, h7⟩ := h
  refine ext_at (by rw [hl.1, hm.1]) (fun i hi => ?_)
  have : i < 8 := by have := hm.1; omega
  rcases (by omega : i = 0 ∨ i = 1 ∨ i = 2 ∨ i = 3 ∨ i = 4 ∨ i = 5 ∨ i = 6 ∨ i = 7) with rfl | rfl | rfl | rfl | rfl | rfl | rfl | rfl <;> assumption
theorem klit_inj {n : Nat} {l m : List Int} (hl : Bd n l) (hm : Bd n m) (hn : n ≤ 8) (h : klit l = klit m) : l = m := by
  have a := klit_key hl hn
  have b := klit_key hm hn
  rw [← h] at b
  exact keyV_inj hl hm hn (farKeyed.inj a b)
theorem klit_is {n : Nat} {l : List Int} (hl : Bd n l) (hn : n ≤ 8) : WideAt.IsKeyLit (klit l) := farKeyed.key (klit_key hl hn)
/-- The map's datum. -/
def Dm (o : Out) : DataW Unit := o.foldl (fun m e => m.put (klit e.1) (.lit (.int .i64 e.2))) (.map [])
theorem Dm_snoc (o : Out) (e : List Int × Int) : Dm (o ++ [e]) = (Dm o).put (klit e.1) (.lit (.int .i64 e.2)) := by
  unfold Dm
  rw [List.foldl_append]
  rfl
theorem Dm_map : ∀ o : Out, IsMap (Dm o) := by
  refine snoc_ind isMap_empty (fun o e ih => ?_)
  rw [Dm_snoc]
  exact ih.put _ _
theorem Dm_at {n : Nat} {b : List Int} (hb : Bd n b) (hn : n ≤ 8) : ∀ o : Out, (∀ e ∈ o, Bd n e.1) → (o.map (·.1)).Nodup → (Dm o).atKey (klit b) (.lit (.int .i64 0)) = .lit (.int .i64 ((o.lookup b).getD 0)) ∧ Maps.has (Dm o) (klit b) = (o.lookup b).isSome := by
  refine snoc_ind ?_ ?_
  · intro _ _
    exact ⟨rfl, rfl⟩
  · intro o e ih hbd nd
    rw [List.map_append, List.nodup_append] at nd
    obtain ⟨h1, h2⟩ := ih (fun x hx => hbd x (by simp [hx])) nd.1
    have he := hbd e (by simp)
    rw [Dm_snoc, show e = (e.1, e.2) from rfl, lookup_snoc]
    by_cases h : b = e.1
    · have hnl : o.lookup b = none := by
        cases hl : o.lookup b with
        | none => rfl
        | some v => exact absurd rfl (nd.2.2 b (by have := List.mem_map_of_mem (f := fun x : List Int × Int => x.1) (lookup_mem hl); exact this) b (by simp [h]))
      rw [hnl, h, beq_self_eq_true]
      exact ⟨atKey_put_same (Dm_map o) (klit_is he hn) _ _, has_put_same (Dm_map o) (klit_is he hn) _⟩
    · have hne : klit b ≠ klit e.1 := fun e' => h (klit_inj hb he hn e')
      have : (b == e.1) = false := beq_eq_false_iff_ne.2 h
      rw [this, atKey_put_other hne, has_put_other hne, h1, h2]
      cases o.lookup b <;> exact ⟨rfl, rfl⟩
/-- Block B is the map. -/
def FarAt (w : World) (B : Nat) (o : Out) : Prop := w.ownsMap Try.prog 69 (plainElem (H := Unit) Try.prog 3) B o.length (Dm o)
theorem FarAt.kept {w w' : World} {B : Nat} {o : Out} {row : Option Nat} (h : FarAt w B o) (hg : w.grownBy w' row) (hne : some B ≠ row) : FarAt w' B o := World.ownsMap.kept h hg hne
theorem FarAt.below {w w' : World} {B : Nat} {o : Out} (h : FarAt w B o) (hb : Below w.heap.size w w') : FarAt w' B o := h.kept (grown_of_below hb none) (by simp)
theorem FarAt.lt {w : World} {B : Nat} {o : Out} (h : FarAt w B o) : B < w.heap.size := World.ownsMap.lt h
section
variable {w : World} {ops : Array Oper} {rest : List Oper} {o : Oper} {a : Act} {Q : Exit → Act → World → Prop} {n B : Nat} {xs : Out} {l : List Int}
theorem far_run (hF : FarAt w B xs) (hn : n ≤ 8) (hbd : ∀ e ∈ xs, Bd n e.1) (nd : (xs.map (·.1)).Nodup) (hl : Bd n l) : (Instr.lookup 66 (.map (some B)) (keyV l) false).run Try.prog w = .ok (.int .i64 ((xs.lookup l).getD 0)) w := by
  obtain ⟨c, hrun, hat, _⟩ := World.ownsMap.lookup_int hF farKeyed Try.underlying66 Try.underlying3 (farZero w) (klit_key hl hn)
  rw [(Dm_at hl hn xs hbd nd).1] at hat
  injection hat with hat
  injection hat with _ hat
  rw [hrun, hat]
theorem far_look_ok (hg : o.guard = none) (m x : Operand) (hop : o.op = Op.lookup 66 m x true) (hm : a.eval m = .map (some B)) (hx : a.eval x = keyV l) (hF : FarAt w B xs) (hn : n ≤ 8) (hbd : ∀ e ∈ xs, Bd n e.1) (nd : (xs.map (·.1)).Nodup) (hl : Bd n l)
    (hK : wpList Try.prog ops Q rest (a.put o.dst (.tuple #[.int .i64 ((xs.lookup l).getD 0), .bool (xs.lookup l).isSome])) w) : wpList Try.prog ops Q (o :: rest) a w := by
  refine wpList_lookup_own_ok_int w hg m x 66 hop 69 3 .i64 farKeyed Try.underlying66 Try.underlying3 (farZero w) B xs.length (Dm xs) hm hF _ _ hx (klit_key hl hn) (fun c hat _ => ?_)
  obtain ⟨h1, h2⟩ := Dm_at hl hn xs hbd nd
  rw [h1] at hat
  injection hat with hat
  injection hat with _ hat
  rw [← hat, h2]
  exact hK
theorem far_look (hg : o.guard = none) (m x : Operand) (hop : o.op = Op.lookup 66 m x false) (hm : a.eval m = .map (some B)) (hx : a.eval x = keyV l) (hF : FarAt w B xs) (hn : n ≤ 8) (hbd : ∀ e ∈ xs, Bd n e.1) (nd : (xs.map (·.1)).Nodup) (hl : Bd n l)
    (hK : wpList Try.prog ops Q rest (a.put o.dst (.int .i64 ((xs.lookup l).getD 0))) w) : wpList Try.prog ops Q (o :: rest) a w := by
  refine wpList_plain hg fun K' hK' => ?_
  unfold Oper.wp
  simp [execOp, hop, hm, hx, far_run hF hn hbd nd hl, Result.andThen]
  exact hK' _ _ hK
/-- A new binding is put in. -/
theorem far_update (hF : FarAt w B xs) (hn : n ≤ 8) (hl : Bd n l) (hlen : xs.length ≤ 100000) {v : Int} (hv : (Lit.int .i64 v).wf = true) : ∃ w', (Instr.mapUpdate 66 (.map (some B)) (keyV l) (.int .i64 v)).run Try.prog w = .ok () w' ∧ FarAt w' B (xs ++ [(l, v)]) ∧ w.grownBy w' (some B) := by
  obtain ⟨w', h1, h2, h3⟩ := World.ownsMap.update hF farKeyed Try.underlying66 (by unfold maxLen; omega) (klit_key hl hn) (plainElem_int Try.underlying3 hv)
  refine ⟨w', h1, ?_, h3⟩
  unfold FarAt
  rw [Dm_snoc, List.length_append]
  exact h2
theorem far_insert (hg : o.guard = none) (m x y : Operand) (hop : o.op = Op.insert 66 m x y) {v : Int} (hm : a.eval m = .map (some B)) (hx : a.eval x = keyV l) (hy : a.eval y = .int .i64 v) (hF : FarAt w B xs) (hn : n ≤ 8) (hl : Bd n l) (hlen : xs.length ≤ 100000) (hv : (Lit.int .i64 v).wf = true)
    (hK : ∀ w', FarAt w' B (xs ++ [(l, v)]) → w.grownBy w' (some B) → wpList Try.prog ops Q rest (a.put o.dst undef) w') : wpList Try.prog ops Q (o :: rest) a w := by
  refine wpList_plain hg fun K' hK' => ?_
  obtain ⟨w', hrun, r1, r2⟩ := far_update hF hn hl hlen hv
  unfold Oper.wp
  simp [execOp, hop, hm, hx, hy, hrun, Result.andThen]
  exact hK' _ _ (hK w' r1 r2)
/-- A new map. -/
theorem far_event (hg : o.guard = none) (hop : o.op = Op.makeMap 66 none) (hK : ∀ B w1, B = w.heap.size → FarAt w1 B [] → Below w.heap.size w w1 → wpList Try.prog ops Q rest (a.put o.dst (.map (some B))) w1) : wpList Try.prog ops Q (o :: rest) a w := by
  refine wpList_plain hg fun K' hK' => ?_
  unfold Oper.wp
  simp [execOp, hop, run_makeMap, Result.andThen]
  exact hK' _ _ (hK _ _ rfl (World.ownsMap_made _ _ _ _) (below_alloc (Below.refl _ _) _))
end
end Go.Proofs.Ytppbpefehpbejaa.P
end

section
namespace Go.Proofs.Ytppbpefehpbejaa.P
open Go.RowKit Go.Proofs.YtppbpefehpbejaaW.PrintWords Go.Proofs.Ytppbpefehpbejaa.Base
set_option linter.unusedVariables false

theorem rd_nat (l : List Int) (i : Nat) : rd l (i : Int) = l.getD i 0 := by unfold rd; rw [Int.toNat_natCast]
theorem nextI (n : Nat) (h : n ≤ 4000000) : wrap64 ((n : Int) + 1) = ((n + 1 : Nat) : Int) := by
  rw [w64 (by omega) (by omega)]; omega
end Go.Proofs.Ytppbpefehpbejaa.P
end

section
namespace Go.Proofs.Ytppbpefehpbejaa.P
open Go.RowKit Go.Proofs.YtppbpefehpbejaaW.PrintWords Go.Proofs.YtppbpefehpbejaaW.PrintLast Go.Proofs.YtppbpefehpbejaaW.PrintMore Go.Proofs.Ytppbpefehpbejaa.Base
set_option linter.unusedVariables false

theorem has_drop (l : List Int) (x : Int) {i : Nat} (h : i < l.length) : (l.drop i).contains x = (x == l.getD i 0 || (l.drop (i + 1)).contains x) := by
  rw [List.drop_eq_getElem_cons h, List.contains_cons, getD_at l 0 h]
theorem l1Has_l0 (l : List Int) (x : Int) (hn : l.length ≤ 1048576) : ∀ n i : Nat, i + n = l.length → Ev (fun k => spec_l1Has.l0 k x l (l.length : Int) (i : Int)) ((l.drop i).contains x) := by
  intro n
  induction n with
  | zero =>
    intro i hi
    refine Ev_step (fun k => ?_) (Ev.now _)
    rw [spec_l1Has.l0, if_neg (by omega), List.drop_of_length_le (by omega)]
    rfl
  | succ n ih =>
    intro i hi
    have h : i < l.length := by omega
    refine Ev_step (fun k => by rw [spec_l1Has.l0, if_pos (by omega), if_pos (by omega), if_pos (by omega), rd_nat, nextI i (by omega)]) ?_
    rw [has_drop l x h]
    by_cases e : l.getD i 0 = x
    · rw [e, beq_self_eq_true, Bool.true_or]
      exact Ev_pos rfl (Ev.now _)
    · rw [beq_false_of_ne (fun h => e h.symm), Bool.false_or]
      exact Ev_neg e (ih (i + 1) (by omega))
theorem l1Has_ev (l : List Int) (x : Int) (hn : l.length ≤ 1048576) : Ev (fun k => spec_l1Has.f k l x) (l.contains x) :=
  Ev.congr (fun k => by rw [spec_l1Has.f]; rfl) (l1Has_l0 l x hn l.length 0 (by omega))
end Go.Proofs.Ytppbpefehpbejaa.P
end

section
namespace Go.Proofs.Ytppbpefehpbejaa.P
open Go.RowKit Go.Proofs.YtppbpefehpbejaaW.PrintWords Go.Proofs.YtppbpefehpbejaaW.PrintLast Go.Proofs.YtppbpefehpbejaaW.PrintMore Go.Proofs.Ytppbpefehpbejaa.Base

theorem l1In_eq (n lo hi : Int) : spec_l1In.f n lo hi = some (inB n lo hi) := by
  unfold spec_l1In.f inB
  by_cases h : lo ≤ n <;> simp [h]
theorem within_eq (n lo hi : Int) : impl_within.f n lo hi = some (inB n lo hi) := by
  unfold impl_within.f inB
  by_cases h : lo ≤ n <;> simp [h]
end Go.Proofs.Ytppbpefehpbejaa.P
end

section
namespace Go.Proofs.Ytppbpefehpbejaa.P
open Go.RowKit Go.Proofs.YtppbpefehpbejaaW.PrintWords Go.Proofs.YtppbpefehpbejaaW.PrintLast Go.Proofs.YtppbpefehpbejaaW.PrintMore Go.Proofs.Ytppbpefehpbejaa.Base
set_option linter.unusedVariables false

theorem l1All_l0 (l : List Int) (lo hi : Int) (hn : l.length ≤ 1048576) : ∀ n i : Nat, i + n = l.length → Ev (fun k => spec_l1All.l0 k lo hi l (l.length : Int) (i : Int)) ((l.drop i).all fun x => decide (lo ≤ x ∧ x ≤ hi)) := by
  intro n
  induction n with
  | zero =>
    intro i hi
    refine Ev_step (fun k => ?_) (Ev.now _)
    rw [spec_l1All.l0, if_neg (by omega), List.drop_of_length_le (by omega)]
    rfl
  | succ n ih =>
    intro i hi
    have h : i < l.length := by omega
    refine Ev_step (fun k => by rw [spec_l1All.l0, if_pos (by omega), if_pos (by omega), if_pos (by omega), rd_nat, nextI i (by omega)]) ?_
    refine Ev_some (l1In_eq _ _ _) ?_
    rw [all_drop _ l 0 h]
    unfold inB
    cases decide (lo ≤ l.getD i 0 ∧ l.getD i 0 ≤ _) with
    | true => exact Ev_pos rfl (by rw [Bool.true_and]; exact ih (i + 1) (by omega))
    | false => exact Ev_neg (by decide) (Ev.now _)
theorem l1All_ev (l : List Int) (lo hi : Int) (hn : l.length ≤ 1048576) : Ev (fun k => spec_l1All.f k l lo hi) (l.all fun x => decide (lo ≤ x ∧ x ≤ hi)) :=
  Ev.congr (fun k => by rw [spec_l1All.f]; rfl) (l1All_l0 l lo hi hn l.length 0 (by omega))
end Go.Proofs.Ytppbpefehpbejaa.P
end

section
namespace Go.Proofs.Ytppbpefehpbejaa.P
open Go.RowKit Go.Proofs.YtppbpefehpbejaaW.PrintWords Go.Proofs.YtppbpefehpbejaaW.PrintLast Go.Proofs.YtppbpefehpbejaaW.PrintMore Go.Proofs.Ytppbpefehpbejaa.Base Go.Proofs.Ytppbpefehpbejaa.Order
set_option linter.unusedVariables false

theorem index_l0 (l : List Int) (x : Int) (hn : l.length ≤ 1048576) : ∀ n i : Nat, i + n = l.length → ∃ r : Int, Ev (fun k => slices_Index_int_int.l0 k l x (l.length : Int) (i : Int)) r ∧ decide (r ≥ 0) = (l.drop i).contains x := by
  intro n
  induction n with
  | zero =>
    intro i hi
    refine ⟨-1, Ev_step (fun k => ?_) (Ev.now _), ?_⟩
    · rw [slices_Index_int_int.l0, if_neg (by omega)]
    · rw [List.drop_of_length_le (by omega)]
      rfl
  | succ n ih =>
    intro i hi
    have h : i < l.length := by omega
    have hs : ∀ k, slices_Index_int_int.l0 (k + 1) l x (l.length : Int) (i : Int) = if x = l.getD i 0 then some (i : Int) else slices_Index_int_int.l0 k l x (l.length : Int) ((i + 1 : Nat) : Int) := fun k => by
      rw [slices_Index_int_int.l0, if_pos (by omega), if_pos (by omega), if_pos (by omega), rd_nat, nextI i (by omega)]
    rw [has_drop l x h]
    by_cases e : x = l.getD i 0
    · refine ⟨i, Ev_step hs (Ev_pos e (Ev.now _)), ?_⟩
      rw [← e, beq_self_eq_true, Bool.true_or]
      exact decide_eq_true (by omega)
    · obtain ⟨r, h1, h2⟩ := ih (i + 1) (by omega)
      refine ⟨r, Ev_step hs (Ev_neg e h1), ?_⟩
      rw [beq_false_of_ne e, Bool.false_or]
      exact h2
theorem contains_ev (l : List Int) (x : Int) (hn : l.length ≤ 1048576) : Ev (fun k => slices_Contains_int_int.f k l x) (l.contains x) := by
  obtain ⟨r, h1, h2⟩ := index_l0 l x hn l.length 0 (by omega)
  rw [List.drop_zero] at h2
  simp only [slices_Contains_int_int.f]
  refine Ev_bind (Ev.congr (fun k => by rw [slices_Index_int_int.f]; rfl) h1) ?_
  rw [← h2]
  exact Ev.now _
theorem isOrder_l0 (ls : List Int) (hn : ls.length ≤ 1048576) : ∀ n i : Nat, i + n = ls.length → Ev (fun k => impl_isOrder.l0 k ls (ls.length : Int) (ls.length : Int) (i : Int)) (hasAll ls n i) := by
  intro n
  induction n with
  | zero =>
    intro i hi
    refine Ev_step (fun k => ?_) (Ev.now _)
    rw [impl_isOrder.l0, if_neg (by omega), beq_self_eq_true]
    rfl
  | succ n ih =>
    intro i hi
    refine Ev_step (fun k => by rw [impl_isOrder.l0, if_pos (by omega), nextI i (by omega)]) ?_
    refine Ev_bind (contains_ev ls (i : Int) hn) ?_
    rw [hasAll]
    cases ls.contains (i : Int) with
    | true => exact Ev_pos rfl (by rw [Bool.true_and]; exact ih (i + 1) (by omega))
    | false => exact Ev_neg (by decide) (Ev.now _)
theorem isOrder_ev (ls : List Int) (hn : ls.length ≤ 1048576) : Ev (fun k => impl_isOrder.f k ls (ls.length : Int)) (hasAll ls ls.length 0) :=
  Ev.congr (fun k => by rw [impl_isOrder.f]; rfl) (isOrder_l0 ls hn ls.length 0 (by omega))
theorem leafOf_eq (x : Int) (h : -8 ≤ x ∧ x ≤ 8) : impl_leafOf.f x = some (leaf x + 1) := by
  rw [impl_leafOf.f, w64 (x := -x) (by omega) (by omega)]
  unfold mx leaf
  congr 1
  split <;> split <;> omega
theorem take_succ_map (f : Int → Int) (l : List Int) {i : Nat} (h : i < l.length) : (l.take (i + 1)).map f = (l.take i).map f ++ [f (l.getD i 0)] := by
  rw [List.take_add_one, List.getElem?_eq_getElem h, List.map_append, getD_at l 0 h]
  rfl
theorem isBinding_l0 (b : List Int) (hn : b.length ≤ 1048576) : ∀ n i : Nat, i + n = b.length → Ev (fun k => impl_IsBinding.l0 k b ((b.take i).map leaf) b (b.length : Int) (i : Int))
    ((b.drop i).all (fun x => decide (-8 ≤ x ∧ x ≤ 8)) && (decide (1 ≤ b.length ∧ b.length ≤ 8) && hasAll (b.map leaf) b.length 0)) := by
  intro n
  induction n with
  | zero =>
    intro i hi
    refine Ev_step (fun k => by rw [impl_IsBinding.l0, if_neg (by omega)]) ?_
    rw [List.drop_of_length_le (by omega), List.take_of_length_le (by omega), List.all_nil, Bool.true_and]
    refine Ev_some (within_eq _ _ _) ?_
    have e : inB (b.length : Int) 1 8 = decide (1 ≤ b.length ∧ b.length ≤ 8) := by
      unfold inB
      exact decide_eq_decide.2 (by omega)
    rw [e]
    by_cases h : 1 ≤ b.length ∧ b.length ≤ 8
    · rw [decide_eq_true h, Bool.true_and]
      refine Ev_pos rfl ?_
      have := isOrder_ev (b.map leaf) (by rw [List.length_map]; exact hn)
      simp only [List.length_map] at this ⊢
      exact Ev_bind this (Ev.now _)
    · rw [decide_eq_false h, Bool.false_and]
      exact Ev_neg (by decide) (Ev.now _)
  | succ n ih =>
    intro i hi
    have h : i < b.length := by omega
    refine Ev_step (fun k => by rw [impl_IsBinding.l0, if_pos (by omega), if_pos (by omega), if_pos (by omega), rd_nat, nextI i (by omega)]) ?_
    refine Ev_some (within_eq _ _ _) ?_
    rw [all_drop (fun x => decide (-8 ≤ x ∧ x ≤ 8)) b 0 h]
    by_cases e : -8 ≤ b.getD i 0 ∧ b.getD i 0 ≤ 8
    · rw [show inB (b.getD i 0) (-8) 8 = true from decide_eq_true e, decide_eq_true e, Bool.true_and]
      refine Ev_pos rfl (Ev_some (leafOf_eq _ e) (Ev_pos (by rw [List.length_map, List.length_take]; omega) ?_))
      have hl : -1 ≤ leaf (b.getD i 0) ∧ leaf (b.getD i 0) ≤ 7 := by unfold leaf; split <;> omega
      rw [show leaf (b.getD i 0) + 1 - 1 = leaf (b.getD i 0) by omega, w64 (by omega) (by omega), ← take_succ_map leaf b h]
      exact ih (i + 1) (by omega)
    · rw [show inB (b.getD i 0) (-8) 8 = false from decide_eq_false e, decide_eq_false e, Bool.false_and, Bool.false_and]
      exact Ev_neg (by decide) (Ev.now _)
theorem isBinding_ev (b : List Int) (hn : b.length ≤ 1048576) : Ev (fun k => impl_IsBinding.f k b) (bindS b) := by
  rw [← bind_eq]
  exact Ev.congr (fun k => by rw [impl_IsBinding.f]; rfl) (isBinding_l0 b hn b.length 0 (by omega))
theorem take_one (l : List Int) {i : Nat} (h : i < l.length) : l.take (i + 1) = l.take i ++ [l.getD i 0] := by
  rw [List.take_add_one, List.getElem?_eq_getElem h, getD_at l 0 h]
  rfl
theorem biGood_l0 (b : List Int) (hn : b.length ≤ 8) (hb : ∀ x ∈ b, -8 ≤ x ∧ x ≤ 8) : ∀ n i : Nat, i + n = b.length → Ev (fun k => spec_biGood.l0 k b b (b.length : Int) (i : Int)) (fresh (b.take i) (b.drop i)) := by
  intro n
  induction n with
  | zero =>
    intro i hi
    refine Ev_step (fun k => ?_) (Ev.now _)
    rw [spec_biGood.l0, if_neg (by omega), List.drop_of_length_le (by omega)]
    rfl
  | succ n ih =>
    intro i hi
    have h : i < b.length := by omega
    have hx : -8 ≤ b.getD i 0 ∧ b.getD i 0 ≤ 8 := by rw [getD_at b 0 h]; exact hb _ (List.getElem_mem h)
    have ht : (b.take i).length ≤ 1048576 := by rw [List.length_take]; omega
    refine Ev_step (fun k => by rw [spec_biGood.l0, if_pos (by omega), if_pos (by omega), if_pos (by omega), rd_nat, nextI i (by omega), w64 (x := -(b.getD i 0)) (by omega) (by omega), Int.toNat_natCast]) ?_
    have e := ih (i + 1) (by omega)
    rw [take_one b h] at e
    rw [List.drop_eq_getElem_cons h, ← getD_at b 0 h, fresh]
    by_cases h0 : b.getD i 0 = 0
    · rw [show (b.getD i 0 != 0) = false by rw [h0]; rfl, Bool.false_and]
      exact Ev_pos h0 (Ev.now _)
    · rw [show (b.getD i 0 != 0) = true from bne_iff_ne.2 h0, Bool.true_and]
      refine Ev_neg h0 (Ev_pos (by omega) (Ev_bind (l1Has_ev _ _ ht) ?_))
      cases (b.take i).contains (b.getD i 0) with
      | true => exact Ev_pos rfl (Ev.now _)
      | false =>
        refine Ev_neg (by decide) (Ev_bind (l1Has_ev _ _ ht) ?_)
        cases (b.take i).contains (-(b.getD i 0)) with
        | true => exact Ev_pos rfl (Ev.now _)
        | false => exact Ev_neg (by decide) e
theorem biGood_ev (b : List Int) (hn : b.length ≤ 1048576) : Ev (fun k => spec_biGood.f k b) (bindS b) := by
  simp only [spec_biGood.f]
  refine Ev_some (l1In_eq _ _ _) ?_
  have e : inB (b.length : Int) 1 8 = decide (1 ≤ b.length ∧ b.length ≤ 8) := by
    unfold inB
    exact decide_eq_decide.2 (by omega)
  rw [e]
  unfold bindS
  by_cases h : 1 ≤ b.length ∧ b.length ≤ 8
  · rw [decide_eq_true h, Bool.true_and]
    refine Ev_pos rfl ?_
    rw [w64 (x := -(b.length : Int)) (by omega) (by omega)]
    refine Ev_bind (l1All_ev b _ _ hn) (Ev_step (fun k => by rw [spec_biGood.j0]) ?_)
    cases ha : b.all (fun x => decide (-(b.length : Int) ≤ x ∧ x ≤ b.length)) with
    | false => exact Ev_pos rfl (Ev.now _)
    | true =>
      refine Ev_neg (by decide) ?_
      rw [Bool.true_and]
      exact biGood_l0 b h.2 (fun x hx => by have := of_decide_eq_true (List.all_eq_true.1 ha x hx); omega) b.length 0 (by omega)
  · rw [decide_eq_false h, Bool.false_and]
    exact Ev_neg (by decide) (Ev_step (fun k => by rw [spec_biGood.j0]) (Ev_pos rfl (Ev.now _)))
end Go.Proofs.Ytppbpefehpbejaa.P
end

section
namespace Go.Proofs.Ytppbpefehpbejaa.P
open Go.RowKit Go.Proofs.YtppbpefehpbejaaW.PrintWords Go.Proofs.YtppbpefehpbejaaW.PrintLast Go.Proofs.YtppbpefehpbejaaW.PrintMore Go.Proofs.Ytppbpefehpbejaa.Base Go.Proofs.Ytppbpefehpbejaa.Order
set_option linter.unusedVariables false

theorem bind_len {b : List Int} (h : bindS b = true) : 1 ≤ b.length ∧ b.length ≤ 8 := by
  unfold bindS at h
  rw [Bool.and_eq_true, decide_eq_true_eq] at h
  exact h.1
/-- Is there a part? -/
def partB (b : List Int) (f t : Int) : Bool := decide (0 ≤ f ∧ f ≤ t ∧ t ≤ (b.length : Int) - 1)
theorem biPart_ev (b : List Int) (f t : Int) (hn : b.length ≤ 1048576) : Ev (fun k => spec_biPart.f k b f t) (bindS b && partB b f t) := by
  simp only [spec_biPart.f]
  refine Ev_bind (biGood_ev b hn) ?_
  cases hb : bindS b with
  | false => exact Ev_neg (by decide) (Ev.now _)
  | true =>
    have hl := bind_len hb
    rw [Bool.true_and, w64 (x := (b.length : Int) - 1) (by omega) (by omega)]
    refine Ev_pos rfl (Ev_some (l1In_eq _ _ _) ?_)
    unfold inB partB
    by_cases h : 0 ≤ f ∧ f ≤ (b.length : Int) - 1
    · rw [decide_eq_true h]
      refine Ev_pos rfl (Ev_some (l1In_eq _ _ _) ?_)
      unfold inB
      rw [show decide (0 ≤ f ∧ f ≤ t ∧ t ≤ (b.length : Int) - 1) = decide (f ≤ t ∧ t ≤ (b.length : Int) - 1) from decide_eq_decide.2 (by omega)]
      exact Ev.now _
    · rw [decide_eq_false h, show decide (0 ≤ f ∧ f ≤ t ∧ t ≤ (b.length : Int) - 1) = false from decide_eq_false (by omega)]
      exact Ev_neg (by decide) (Ev.now _)
theorem isPart_eq (b : List Int) (f t : Int) (hb : bindS b = true) : impl_isPartOf.f b f t = some (partB b f t) := by
  have hl := bind_len hb
  rw [impl_isPartOf.f, w64 (x := (b.length : Int) - 1) (by omega) (by omega), within_eq]
  simp only [Option.bind_some]
  unfold inB partB
  by_cases h : 0 ≤ t ∧ t ≤ (b.length : Int) - 1
  · rw [decide_eq_true h, if_pos rfl, within_eq]
    simp only [Option.bind_some]
    unfold inB
    rw [show decide (0 ≤ f ∧ f ≤ t ∧ t ≤ (b.length : Int) - 1) = decide (0 ≤ f ∧ f ≤ t) from decide_eq_decide.2 (by omega)]
  · rw [decide_eq_false h, show decide (0 ≤ f ∧ f ≤ t ∧ t ≤ (b.length : Int) - 1) = false from decide_eq_false (by omega)]
    rfl
end Go.Proofs.Ytppbpefehpbejaa.P
end

section
namespace Go.Proofs.Ytppbpefehpbejaa.P
open Go.RowKit Go.Proofs.YtppbpefehpbejaaW.PrintWords Go.Proofs.YtppbpefehpbejaaW.PrintLast Go.Proofs.YtppbpefehpbejaaW.PrintMore Go.Proofs.Ytppbpefehpbejaa.Base Go.Proofs.Ytppbpefehpbejaa.Order
set_option linter.unusedVariables false

theorem same_l0 : ∀ (k : Nat) (b : List Int) (f t : Int) (acc : List Int) (i : Int), impl_turned.l0 k b f t acc i = spec_biTurn.l0 k b f t acc i := by
  intro k
  induction k with
  | zero => intros; rfl
  | succ k ih =>
    intro b f t acc i
    rw [impl_turned.l0, spec_biTurn.l0]
    simp only [ih]
end Go.Proofs.Ytppbpefehpbejaa.P
end

section
namespace Go.Proofs.Ytppbpefehpbejaa.P
open Go.RowKit Go.Proofs.YtppbpefehpbejaaW.PrintWords Go.Proofs.YtppbpefehpbejaaW.PrintLast Go.Proofs.YtppbpefehpbejaaW.PrintMore Go.Proofs.Ytppbpefehpbejaa.Base Go.Proofs.Ytppbpefehpbejaa.Order Go.Proofs.Ytppbpefehpbejaa.Far
set_option linter.unusedVariables false

/-- A binding while its part is being turned. -/
def accT (b : List Int) (f t i : Nat) : List Int := (List.range b.length).map fun j => if f ≤ j ∧ j < i then -(b.getD (f + t - j) 0) else b.getD j 0
theorem accT_len (b : List Int) (f t i : Nat) : (accT b f t i).length = b.length := by simp [accT]
theorem accT_at (b : List Int) (f t i j : Nat) (h : j < b.length) : (accT b f t i).getD j 0 = if f ≤ j ∧ j < i then -(b.getD (f + t - j) 0) else b.getD j 0 := by
  rw [List.getD_eq_getElem?_getD]
  simp [accT, h]
theorem accT_start (b : List Int) (f t : Nat) : accT b f t f = b := by
  refine ext_at (accT_len _ _ _ _) (fun j hj => ?_)
  rw [accT_at b f t f j hj, if_neg (by omega)]
theorem accT_end (b : List Int) (f t : Nat) (hf : f ≤ t) (ht : t < b.length) : accT b f t (t + 1) = turn b f t := by
  refine ext_at (by rw [accT_len, turn_len hf ht]) (fun j hj => ?_)
  rw [turn_len hf ht] at hj
  rw [accT_at b f t _ j hj, turn_at hf ht]
  by_cases h : f ≤ j ∧ j ≤ t
  · rw [if_pos h, if_pos (by omega)]
  · rw [if_neg h, if_neg (by omega)]
theorem accT_set (b : List Int) (f t i : Nat) (hi : f ≤ i) (h : i < b.length) : (accT b f t i).set i (-(b.getD (f + t - i) 0)) = accT b f t (i + 1) := by
  refine ext_at (by rw [List.length_set, accT_len, accT_len]) (fun j hj => ?_)
  rw [accT_len] at hj
  rw [accT_at b f t _ j hj]
  by_cases e : j = i
  · subst e
    rw [getD_set_self _ _ _ (by rw [accT_len]; exact h), if_pos (by omega)]
  · rw [List.getD_eq_getElem?_getD, List.getElem?_set_ne (fun h => e h.symm), ← List.getD_eq_getElem?_getD, accT_at b f t i j hj]
    by_cases h2 : f ≤ j ∧ j < i
    · rw [if_pos h2, if_pos (by omega)]
    · rw [if_neg h2, if_neg (by omega)]
theorem bd_at {n : Nat} {b : List Int} (h : Bd n b) (hn : n ≤ 8) (i : Nat) : -8 ≤ b.getD i 0 ∧ b.getD i 0 ≤ 8 := by
  rcases Nat.lt_or_ge i b.length with hi | hi
  · have := h.2.1 (b.getD i 0) (by rw [getD_at b 0 hi]; exact List.getElem_mem hi)
    omega
  · rw [List.getD_eq_getElem?_getD, List.getElem?_eq_none hi]
    decide
theorem biTurn_l0 {n : Nat} {b : List Int} (hb : Bd n b) (hn : n ≤ 8) (f t : Nat) (hf : f ≤ t) (ht : t < n) : ∀ (d i : Nat), i + d = t + 1 → f ≤ i → Ev (fun k => spec_biTurn.l0 k b (f : Int) (t : Int) (accT b f t i) (i : Int)) (turn b f t) := by
  have hl := hb.1
  intro d
  induction d with
  | zero =>
    intro i hi h1
    obtain rfl : i = t + 1 := by omega
    refine Ev_step (fun k => ?_) (Ev.now _)
    rw [spec_biTurn.l0, if_neg (by omega), accT_end b f t hf (by omega)]
  | succ d ih =>
    intro i hi h1
    have w1 : wrap64 (wrap64 ((f : Int) + (t : Int)) - (i : Int)) = ((f + t - i : Nat) : Int) := by rw [w64 (x := (f : Int) + t) (by omega) (by omega), w64 (by omega) (by omega)]; omega
    have ha := bd_at hb hn (f + t - i)
    refine Ev_step (fun k => ?_) (ih (i + 1) (by omega) (by omega))
    rw [spec_biTurn.l0, w1, if_pos (by omega), if_pos (by omega), if_pos (by omega), if_pos (by omega), if_pos (by rw [accT_len]; omega), nextI i (by omega), Int.toNat_natCast, rd_nat, w64 (x := -(b.getD (f + t - i) 0)) (by omega) (by omega), accT_set b f t i h1 (by omega)]
theorem biTurn_ev {n : Nat} {b : List Int} (hb : Bd n b) (hn : n ≤ 8) (f t : Nat) (hf : f ≤ t) (ht : t < n) : Ev (fun k => spec_biTurn.f k b (f : Int) (t : Int)) (turn b f t) := by
  have hl := hb.1
  simp only [spec_biTurn.f]
  refine Ev_some (a := b) ?_ ?_
  · rw [spec_l1Own.f]
    simp only [Option.bind_some, List.length_nil, List.nil_append]
    rw [if_pos (by omega)]
  · have := biTurn_l0 hb hn f t hf ht (t + 1 - f) f (by omega) (Nat.le_refl _)
    rwa [accT_start] at this
theorem turned_ev {n : Nat} {b : List Int} (hb : Bd n b) (hn : n ≤ 8) (f t : Nat) (hf : f ≤ t) (ht : t < n) : Ev (fun k => impl_turned.f k b (f : Int) (t : Int)) (turn b f t) := by
  have hl := hb.1
  simp only [impl_turned.f]
  refine Ev_some (a := b) ?_ (Ev.congr (fun k => same_l0 k b f t b f) ?_)
  · rw [clone_Int.f, if_pos (by omega)]
  · have := biTurn_l0 hb hn f t hf ht (t + 1 - f) f (by omega) (Nat.le_refl _)
    rwa [accT_start] at this
theorem right_succ (i : Nat) : right (i + 1) = right i ++ [(i : Int) + 1] := by simp [right, List.range_succ]
theorem right_l0 (n : Nat) (hn : n ≤ 8) : ∀ d i : Nat, i + d = n → Ev (fun k => impl_right.l0 k (right i) (n : Int) (i : Int)) (right n) := by
  intro d
  induction d with
  | zero =>
    intro i hi
    obtain rfl : i = n := by omega
    refine Ev_step (fun k => ?_) (Ev.now _)
    rw [impl_right.l0, if_neg (by omega)]
  | succ d ih =>
    intro i hi
    refine Ev_step (fun k => ?_) (ih (i + 1) (by omega))
    have w1 : wrap64 ((i : Int) + 1) = (i : Int) + 1 := w64 (by omega) (by omega)
    rw [impl_right.l0, if_pos (by omega), if_pos (by rw [right_len]; omega), w1, ← right_succ]
    rfl
theorem right_ev (n : Nat) (hn : n ≤ 8) : Ev (fun k => impl_right.f k (n : Int)) (right n) := by
  refine Ev.congr (fun k => ?_) (right_l0 n hn n 0 (by omega))
  rw [impl_right.f]
  rfl
theorem allOf_le {m : Nat} (h : m ≤ 8) : allOf m ≤ 10321920 := by
  rcases (by omega : m = 0 ∨ m = 1 ∨ m = 2 ∨ m = 3 ∨ m = 4 ∨ m = 5 ∨ m = 6 ∨ m = 7 ∨ m = 8) with rfl | rfl | rfl | rfl | rfl | rfl | rfl | rfl | rfl <;> decide
theorem biAll_l0 (n : Nat) (hn : n ≤ 8) : ∀ d m : Nat, m + d = n → Ev (fun k => spec_biAll.l0 k (n : Int) ((allOf m : Nat) : Int) ((m : Int) + 1)) ((allOf n : Nat) : Int) := by
  intro d
  induction d with
  | zero =>
    intro m hm
    obtain rfl : m = n := by omega
    refine Ev_step (fun k => ?_) (Ev.now _)
    rw [spec_biAll.l0, if_neg (by omega)]
  | succ d ih =>
    intro m hm
    refine Ev_step (fun k => ?_) (ih (m + 1) (by omega))
    have h1 := allOf_le (m := m + 1) (by omega)
    have w1 : wrap64 (2 * ((m : Int) + 1)) = ((2 * (m + 1) : Nat) : Int) := by rw [w64 (by omega) (by omega)]; omega
    have w2 : wrap64 (((allOf m : Nat) : Int) * ((2 * (m + 1) : Nat) : Int)) = ((allOf (m + 1) : Nat) : Int) := by
      have e : allOf m * (2 * (m + 1)) = allOf (m + 1) := rfl
      rw [← Int.natCast_mul, e, w64 (by omega) (by omega)]
    rw [spec_biAll.l0, if_pos (by omega), w1, w2, w64 (x := (m : Int) + 1 + 1) (by omega) (by omega)]
    rfl
theorem biAll_ev (n : Nat) (hn : n ≤ 8) : Ev (fun k => spec_biAll.f k (n : Int)) ((allOf n : Nat) : Int) := by
  refine Ev.congr (fun k => ?_) (biAll_l0 n hn n 0 (by omega))
  rw [spec_biAll.f]
  rfl
theorem biRank_l1 {n : Nat} {b : List Int} (hb : Bd n b) (hn : n ≤ 8) {i : Nat} (hi : i < n) (acc : Nat) (r : Int) (ha : acc ≤ 20000000)
    (hnext : Ev (fun k => spec_biRank.l0 k b ((acc * (2 * (n - i)) + digit n (b.take i) (b.getD i 0) : Nat) : Int) b (n : Int) ((i + 1 : Nat) : Int)) r) :
    ∀ d j : Nat, j + d = (b.getD i 0 + n).toNat → Ev (fun k => spec_biRank.l1 k b (acc : Int) (i : Int) (b.getD i 0) ((cnt (free (b.take i)) (-(n : Int)) j : Nat) : Int) (-(n : Int) + (j : Int)) b (n : Int) (i : Int)) r := by
  have hl := hb.1
  have hx := hb.2.1 (b.getD i 0) (by rw [getD_at b 0 (by omega)]; exact List.getElem_mem (by omega))
  have hcj : ∀ j, cnt (free (b.take i)) (-(n : Int)) j ≤ j := by
    intro j
    induction j with
    | zero => exact Nat.le_refl _
    | succ j ih => rw [cnt]; split <;> omega
  have ht : (b.take i).length ≤ 1048576 := by rw [List.length_take]; omega
  intro d
  induction d with
  | zero =>
    intro j hj
    obtain rfl : j = (b.getD i 0 + n).toNat := by omega
    have hd : cnt (free (b.take i)) (-(n : Int)) (b.getD i 0 + n).toNat = digit n (b.take i) (b.getD i 0) := rfl
    have hc := hcj (b.getD i 0 + n).toNat
    rw [hd] at hc ⊢
    have m1 : acc * 2 * (n - i) ≤ 20000000 * 2 * 8 := Nat.mul_le_mul (Nat.mul_le_mul_right _ ha) (by omega)
    have e1 : (((acc : Nat) : Int) * 2 * ((n : Int) - (i : Int))) = ((acc * 2 * (n - i) : Nat) : Int) := by
      rw [Int.natCast_mul, Int.natCast_mul, Int.natCast_sub (by omega)]
      rfl
    refine Ev_step (fun k => ?_) hnext
    rw [spec_biRank.l1, if_neg (by omega), nextI i (by omega), hl, w64 (x := (acc : Int) * 2) (by omega) (by omega), w64 (x := (n : Int) - (i : Int)) (by omega) (by omega), e1, w64 (x := ((acc * 2 * (n - i) : Nat) : Int)) (by omega) (by omega), w64 (by omega) (by omega), Nat.mul_assoc acc 2]
    congr 1
  | succ d ih =>
    intro j hj
    have hnx := ih (j + 1) (by omega)
    have w1 : wrap64 (-(n : Int) + (j : Int) + 1) = -(n : Int) + ((j + 1 : Nat) : Int) := by rw [w64 (by omega) (by omega)]; omega
    have w2 : wrap64 (-(-(n : Int) + (j : Int))) = -(-(n : Int) + (j : Int)) := w64 (by omega) (by omega)
    have hc := hcj j
    have w3 : wrap64 (((cnt (free (b.take i)) (-(n : Int)) j : Nat) : Int) + 1) = ((cnt (free (b.take i)) (-(n : Int)) j + 1 : Nat) : Int) := by rw [w64 (by omega) (by omega)]; omega
    have hs : ∀ k, spec_biRank.l1 (k + 1) b (acc : Int) (i : Int) (b.getD i 0) ((cnt (free (b.take i)) (-(n : Int)) j : Nat) : Int) (-(n : Int) + (j : Int)) b (n : Int) (i : Int) = _ := fun k => by
      rw [spec_biRank.l1, if_pos (by omega), w1, w2, w3, Int.toNat_natCast]
    refine Ev_step hs ?_
    have hf : free (b.take i) (-(n : Int) + (j : Int)) = (-(n : Int) + (j : Int) != 0 && (!(b.take i).contains (-(n : Int) + (j : Int)) && !(b.take i).contains (-(-(n : Int) + (j : Int))))) := rfl
    have hcs : cnt (free (b.take i)) (-(n : Int)) (j + 1) = cnt (free (b.take i)) (-(n : Int)) j + if free (b.take i) (-(n : Int) + (j : Int)) = true then 1 else 0 := rfl
    rw [hf] at hcs
    by_cases h0 : -(n : Int) + (j : Int) = 0
    · rw [show (-(n : Int) + (j : Int) != 0) = false by rw [h0]; rfl, Bool.false_and, if_neg (by decide), Nat.add_zero] at hcs
      rw [hcs] at hnx
      exact Ev_pos h0 hnx
    · rw [show (-(n : Int) + (j : Int) != 0) = true from bne_iff_ne.2 h0, Bool.true_and] at hcs
      refine Ev_neg h0 (Ev_pos (by omega) (Ev_pos (by omega) (Ev_bind (l1Has_ev _ _ ht) ?_)))
      cases h1 : (b.take i).contains (-(n : Int) + (j : Int)) with
      | true =>
        rw [h1, Bool.not_true, Bool.false_and, if_neg (by decide), Nat.add_zero] at hcs
        rw [hcs] at hnx
        exact Ev_pos rfl hnx
      | false =>
        rw [h1, Bool.not_false, Bool.true_and] at hcs
        refine Ev_neg (by decide) (Ev_bind (l1Has_ev _ _ ht) ?_)
        cases h2 : (b.take i).contains (-(-(n : Int) + (j : Int))) with
        | true =>
          rw [h2, Bool.not_true, if_neg (by decide), Nat.add_zero] at hcs
          rw [hcs] at hnx
          exact Ev_pos rfl hnx
        | false =>
          rw [h2, Bool.not_false, if_pos rfl] at hcs
          rw [hcs] at hnx
          exact Ev_neg (by decide) hnx
theorem biRank_l0 {n : Nat} {b : List Int} (hb : Bd n b) (hn : n ≤ 8) : ∀ (rest pre : List Int) (acc : Nat), pre ++ rest = b → rk n pre rest acc ≤ 20000000 → Ev (fun k => spec_biRank.l0 k b (acc : Int) b (n : Int) ((pre.length : Nat) : Int)) ((rk n pre rest acc : Nat) : Int) := by
  have hl := hb.1
  intro rest
  induction rest with
  | nil =>
    intro pre acc hp hr
    rw [List.append_nil] at hp
    refine Ev_step (fun k => ?_) (Ev.now _)
    rw [spec_biRank.l0, if_neg (by rw [hp, hl]; omega), rk]
  | cons x xs ih =>
    intro pre acc hp hr
    have hlen : pre.length + (xs.length + 1) = n := by rw [← hl, ← hp, List.length_append, List.length_cons]
    have hx : b.getD pre.length 0 = x := by rw [← hp, List.getD_eq_getElem?_getD, List.getElem?_append_right (Nat.le_refl _), Nat.sub_self]; rfl
    have htk : b.take pre.length = pre := by rw [← hp, List.take_left']; rfl
    rw [rk] at hr ⊢
    have hacc : acc ≤ 20000000 := by
      have h1 := rk_acc n xs (pre ++ [x]) (acc * (2 * (xs.length + 1)) + digit n pre x)
      have h2 := allOf_pos xs.length
      have h3 : acc * (2 * (xs.length + 1)) ≤ (acc * (2 * (xs.length + 1)) + digit n pre x) * allOf xs.length := Nat.le_trans (Nat.le_add_right _ _) (Nat.le_mul_of_pos_right _ h2)
      have h4 : acc ≤ acc * (2 * (xs.length + 1)) := Nat.le_mul_of_pos_right _ (by omega)
      omega
    have hnx := ih (pre ++ [x]) (acc * (2 * (xs.length + 1)) + digit n pre x) (by rw [List.append_assoc]; exact hp) hr
    rw [List.length_append, List.length_singleton] at hnx
    have hl1 := biRank_l1 hb hn (i := pre.length) (by omega) acc ((rk n (pre ++ [x]) xs (acc * (2 * (xs.length + 1)) + digit n pre x) : Nat) : Int) hacc (by
      rw [hx, htk, show n - pre.length = xs.length + 1 by omega]
      exact hnx) (b.getD pre.length 0 + n).toNat 0 (by omega)
    refine Ev_step (fun k => ?_) hl1
    rw [spec_biRank.l0, if_pos (by omega), if_pos (by omega), if_pos (by omega), rd_nat, hl, w64 (x := -(n : Int)) (by omega) (by omega)]
    rw [show (-(n : Int) + ((0 : Nat) : Int)) = -(n : Int) by omega]
    rfl
theorem biRank_ev {n : Nat} {b : List Int} (hb : Bd n b) (hn : n ≤ 8) : Ev (fun k => spec_biRank.f k b) ((rank b : Nat) : Int) := by
  have hr := rank_lt hb
  have ha := allOf_le hn
  have hl := hb.1
  unfold rank at hr ⊢
  rw [hl] at hr ⊢
  have := biRank_l0 hb hn b [] 0 rfl (by omega)
  refine Ev.congr (fun k => ?_) this
  rw [spec_biRank.f, hl]
  rfl
end Go.Proofs.Ytppbpefehpbejaa.P
end

section
set_option linter.unusedVariables false
namespace Go.Proofs.Ytppbpefehpbejaa.Far
open Go.Proofs.Ytppbpefehpbejaa.Order

/-- Each binding with its least number of turns. -/
def distO (n : Nat) : Out := (bfs n (allOf n + 2) 0 [(right n, 0)]).getD []
theorem dist_all (n : Nat) : Done n (distO n) ∧ (distO n).length ≤ allOf n ∧ bfs n (allOf n + 2) 0 [(right n, 0)] = some (distO n) := by
  obtain ⟨o, h1, h2, h3⟩ := bfs_ends (allOf n + 1) 0 _ (G.start n) (Nat.zero_le _) (by omega)
  have h4 := h3 (allOf n + 2) (by omega)
  have : distO n = o := by
    unfold distO
    rw [h4]
    rfl
  rw [this]
  exact ⟨h1, h2, h4⟩
/-- The parts from a first place on. -/
def rowsFrom (n f : Nat) : List (Nat × Nat) := (List.range' f (n - f)).flatMap fun f => (List.range' f (n - f)).map fun t => (f, t)
/-- The parts from a first and a last place on. -/
def restOf (n f t : Nat) : List (Nat × Nat) := (List.range' t (n - t)).map (fun t => (f, t)) ++ rowsFrom n (f + 1)
theorem pairs_rows (n : Nat) : pairs n = rowsFrom n 0 := by
  unfold pairs rowsFrom
  rw [List.range_eq_range']
  rfl
theorem rows_end (n : Nat) : rowsFrom n n = [] := by simp [rowsFrom]
theorem rows_rest {n f : Nat} (h : f < n) : rowsFrom n f = restOf n f f := by
  unfold restOf
  have : n - f = (n - (f + 1)) + 1 := by omega
  conv => lhs; unfold rowsFrom; rw [this, List.range'_succ, List.flatMap_cons]
  rfl
theorem rest_end (n f : Nat) : restOf n f n = rowsFrom n (f + 1) := by simp [restOf]
theorem rest_cons {n f t : Nat} (h : t < n) : restOf n f t = (f, t) :: restOf n f (t + 1) := by
  unfold restOf
  have : n - t = (n - (t + 1)) + 1 := by omega
  rw [this, List.range'_succ, List.map_cons, List.cons_append]
/-- What a turn puts behind. -/
def news (q : List Int) (o : Out) (p : Nat × Nat) : List (List Int) := if (o.lookup (turn q p.1 p.2)).isSome = true then [] else [turn q p.1 p.2]
theorem put_news (q : List Int) (d : Int) (o : Out) (p : Nat × Nat) : put q d o p = o ++ (news q o p).map (fun b => (b, d + 1)) := by
  unfold put news
  split
  · rw [List.map_nil, List.append_nil]
  · rfl
/-- All that the turns of one put behind. -/
def newsAll (q : List Int) (d : Int) : List (Nat × Nat) → Out → List (List Int)
  | [], _ => []
  | p :: ps, o => news q o p ++ newsAll q d ps (put q d o p)
theorem puts_news (q : List Int) (d : Int) : ∀ (ps : List (Nat × Nat)) (o : Out), ps.foldl (put q d) o = o ++ (newsAll q d ps o).map (fun b => (b, d + 1)) := by
  intro ps
  induction ps with
  | nil => intro o; simp [newsAll]
  | cons p ps ih =>
    intro o
    rw [List.foldl_cons, ih, put_news, newsAll, List.map_append, List.append_assoc, ← put_news]
/-- Some of the turns of one are done, rest is left. -/
def St (n : Nat) (o : Out) (q : List Int) (d : Int) (rest : List (Nat × Nat)) (o2 : Out) : Prop := ∃ ps, ps ++ rest = pairs n ∧ o2 = ps.foldl (put q d) o
theorem St.start (n : Nat) (o : Out) (q : List Int) (d : Int) : St n o q d (rowsFrom n 0) o := ⟨[], (pairs_rows n).symm, rfl⟩
theorem St.good {n i : Nat} {o o2 : Out} {q : List Int} {d : Int} {rest : List (Nat × Nat)} (h : St n o q d rest o2) (g : G n o i []) (he : o[i]? = some (q, d)) : (∃ dn, G n o2 i dn) ∧ o2[i]? = some (q, d) := by
  obtain ⟨ps, hp, rfl⟩ := h
  obtain ⟨g', s, hs⟩ := G.puts ps o [] (fun p hp' => mem_pairs.1 (by rw [← hp]; exact List.mem_append_left _ hp')) g he
  refine ⟨⟨_, g'⟩, ?_⟩
  show (ps.foldl (put q d) o)[i]? = _
  rw [hs, List.getElem?_append_left (List.getElem?_eq_some_iff.1 he).1]
  exact he
theorem St.step {n : Nat} {o o2 : Out} {q : List Int} {d : Int} {p : Nat × Nat} {rest : List (Nat × Nat)} (h : St n o q d (p :: rest) o2) : St n o q d rest (put q d o2 p) := by
  obtain ⟨ps, hp, rfl⟩ := h
  refine ⟨ps ++ [p], by rw [List.append_assoc]; exact hp, ?_⟩
  rw [List.foldl_append]
  rfl
theorem St.done {n : Nat} {o o2 : Out} {q : List Int} {d : Int} (h : St n o q d [] o2) : o2 = expand n (q, d) o := by
  obtain ⟨ps, hp, rfl⟩ := h
  rw [List.append_nil] at hp
  rw [hp]
  rfl
/-- The numbers rise by one at most, place by place. -/
def Bnd (o : Out) : Prop := ∀ (j : Nat) (e : List Int × Int), o[j]? = some e → e.2 ≤ (j : Int)
theorem Bnd.put {o : Out} {i : Nat} {e : List Int × Int} (h : Bnd o) (he : o[i]? = some e) (p : Nat × Nat) : Bnd (put e.1 e.2 o p) := by
  unfold Far.put
  split
  · exact h
  · intro j x hx
    have hi := h i e he
    have hil := (List.getElem?_eq_some_iff.1 he).1
    rcases Nat.lt_or_ge j o.length with hj | hj
    · rw [List.getElem?_append_left hj] at hx
      exact h j x hx
    · rw [List.getElem?_append_right hj] at hx
      have hz := (List.getElem?_eq_some_iff.1 hx).1
      rw [List.length_singleton] at hz
      obtain hz : j - o.length = 0 := by omega
      rw [hz] at hx
      obtain rfl := Option.some.inj hx
      show e.2 + 1 ≤ (j : Int)
      omega
theorem St.bnd {n i : Nat} {o o2 : Out} {q : List Int} {d : Int} {rest : List (Nat × Nat)} (h : St n o q d rest o2) (hb : Bnd o) (he : o[i]? = some (q, d)) : Bnd o2 := by
  obtain ⟨ps, hps, rfl⟩ := h
  clear hps
  induction ps generalizing o with
  | nil => exact hb
  | cons p ps ih =>
    have he' : (put q d o p)[i]? = some (q, d) := by
      obtain ⟨s, hs⟩ := put_more q d o p
      rw [hs, List.getElem?_append_left (List.getElem?_eq_some_iff.1 he).1]
      exact he
    exact ih (Bnd.put hb he p) he'
theorem Bnd.start (n : Nat) : Bnd [(right n, 0)] := by
  intro j e h
  have hz := (List.getElem?_eq_some_iff.1 h).1
  rw [List.length_singleton] at hz
  obtain rfl : j = 0 := by omega
  obtain rfl := Option.some.inj h
  exact Int.le_refl _
end Go.Proofs.Ytppbpefehpbejaa.Far
end

section
namespace Go.Proofs.Ytppbpefehpbejaa.P
open Go.RowKit Go.Proofs.YtppbpefehpbejaaW.PrintWords Go.Proofs.YtppbpefehpbejaaW.PrintLast Go.Proofs.YtppbpefehpbejaaW.PrintMore Go.Proofs.Ytppbpefehpbejaa.Base Go.Proofs.Ytppbpefehpbejaa.Order Go.Proofs.Ytppbpefehpbejaa.Far
set_option linter.unusedVariables false
set_option linter.unusedSimpArgs false

/-- What the search answers. -/
def FarPost (n : Nat) (w : World) (e : Ending) (w' : World) : Prop := ∃ B, e = .returned (.map (some B)) ∧ w.heap.size ≤ B ∧ FarAt w' B (distO n) ∧ Below w.heap.size w w'
/-- The rows that were met, and which block they are not. -/
def Rows (w : World) (base B : Nat) (v : Value) (o : Out) : Prop := Kd.N (Kd.slice 3 (Kd.int .i64)) 24 w base (fun k => k ≠ B) v (o.map (·.1))
theorem Rows.at_ {w : World} {base B : Nat} {ad : Addr} {m c : Nat} {o : Out} (h : Rows w base B (.slice (some ad) m c) o) {i : Nat} {q : List Int} {d : Int} (hi : o[i]? = some (q, d)) :
    m = o.length ∧ ∃ A cc, w.cell? (ad.add i) = some (.slice A q.length cc) ∧ q.length ≤ cc ∧ Kd.C (Kd.int .i64) w A q.length q := by
  have hr := Kd.N_reads' h
  have hil := (List.getElem?_eq_some_iff.1 hi).1
  rw [List.length_map] at hr
  obtain ⟨ad', A, cc, e, hx, hl, hC⟩ := at_L2 hr.2.2 (i : Int) (by omega) (by omega)
  cases e
  have hq : rd_L2 (o.map (·.1)) (i : Int) = q := by
    unfold rd_L2
    rw [Int.toNat_natCast, List.getD_eq_getElem?_getD, List.getElem?_map, hi]
    rfl
  rw [hq] at hx hl hC
  rw [Int.toNat_natCast] at hx
  exact ⟨hr.1, A, cc, hx, hl, hC⟩

theorem Rows.slice {w : World} {base B : Nat} {v : Value} {o : Out} (h : Rows w base B v o) : ∃ A c, v = .slice A o.length c := by
  obtain ⟨A, c, e⟩ := Kd.N_slice h
  rw [List.length_map] at e
  exact ⟨A, c, e⟩
theorem add_nought (a : Addr) : a.add 0 = a := by
  unfold Addr.add
  rw [if_pos rfl]
theorem Rows.addr {w : World} {base B m c : Nat} {A : Option Addr} {o : Out} (h : Rows w base B (.slice A m c) o) (ho : 0 < o.length) : ∃ ad, A = some ad := by
  have hr := Kd.N_reads' h
  rw [List.length_map] at hr
  obtain ⟨ad, _, _, e, _⟩ := at_L2 hr.2.2 0 (by omega) (by omega)
  exact ⟨ad, e⟩
set_option maxHeartbeats 4000000 in
set_option maxRecDepth 100000 in
theorem distances_calls (n : Nat) (h1 : 1 ≤ n) (hn : n ≤ 5) (w : World) : Calls Try.prog 75 #[.int .i64 (n : Int)] w (FarPost n w) := by
  obtain ⟨K1, hK1⟩ := Ev_at (right_ev n (by omega))
  have HR1 := Aside0.mk (hK1 K1 (Nat.le_refl _))
  clear hK1
  have HB := Aside0.mk (Below.refl w.heap.size w)
  have HN := Aside0.mk (And.intro h1 hn)
  clear h1 hn
  go_enter Try.func75, Try.ntmps75
  go_wp2_with (first | (go_at_call 104; (with_reducible refine (impl_right.calls K1 (n : Int) (right n) _ HR1.out).mono ?_); rintro e w1 ⟨v1, rfl, ho, hb⟩; have HO1 := Aside0.mk ho; have HB1 := Aside0.mk hb; clear ho hb; obtain ⟨A1, c1, e1⟩ := Kd.R_slice HO1.out; subst e1) | ((with_reducible refine gate_dst (N := 13) rfl ?_); refine Kd.N_lit (Kd.slice 3 (Kd.int .i64)) _ 24 ?hg (N' := 13) ?hd (xs := ([right n] : List (List Int))) (inner := [.slice A1 (right n).length c1]) (ok := (fun _ => True)) (okp := (fun _ => True)) ?hr ?hp (fun _ hk => hk) trivial (Below.refl _ _) (Nat.le_refl _) (by simp) ?_; (case hd => rfl); (case hg => rfl); (case hr => first | (go_simp; done) | (go_simp; rfl)); (case hp => exact (Reps.one (show Kd.FK (Kd.slice 3 (Kd.int .i64)) _ _ (right n) [.slice A1 (right n).length c1] from (Kd.FK_slice_mk (Kd.R_reads' HO1.out).2.1 (Kd.R_F HO1.out))) (Reps.none _ _))); intro v2 w2 ho2 hb2 hg_ hnew_; clear hg_ hnew_; have HO2 := Aside0.mk ho2; have HB2 := Aside0.mk hb2; clear ho2 hb2; obtain ⟨A2, c2, e2⟩ := Kd.N_slice HO2.out; subst e2) | ((with_reducible refine gate_dst (N := 14) rfl ?_); refine far_event rfl rfl ?_; intro B w3 hB hF hb3; have HB3 := Aside0.mk (below_step (below_step HB1.out HB2.out) hb3); have HF := Aside0.mk hF; have GB := Aside0.mk (show w.heap.size ≤ B from by rw [hB]; exact Nat.le_trans HB1.out.size HB2.out.size); have HO := Aside0.mk (show Rows w3 w.heap.size B (.slice A2 1 c2) [(right n, 0)] from Kd.N_below (Kd.N_mono (Kd.N_elderB (Kd.N_lower HO2.out HB1.out.size) B (by rw [hB]; exact Nat.le_refl _)) (fun k hk => hk.2)) hb3); clear hB hF hb3 HO2 HO1; obtain ⟨ad, ea⟩ := HO.out.addr Nat.zero_lt_one; subst ea; obtain ⟨-, A3, c3, hx3, hl3, hC3⟩ := HO.out.at_ (i := 0) rfl; rw [add_nought] at hx3; have HL3 := Aside0.mk hl3; have HC3 := Aside0.mk hC3; clear hl3 hC3) | (go_at_call 76; (refine (keyOf_calls _ _ (right n) _ HC3.out (by rw [right_len]; have := HN.out; omega)).mono ?_); rintro e w4 ⟨rfl, hb⟩; have HF4 := Aside0.mk (HF.out.below hb); have HO4 := Aside0.mk (show Rows w4 w.heap.size B _ _ from Kd.N_below HO.out hb); have HB4 := Aside0.mk (below_step HB3.out hb); clear hb HF HO) | (refine far_insert rfl (.tmp 14) (.tmp 18) (.const (.int .i64 0)) rfl (n := n) (l := right n) (v := 0) (by rfl) (by rfl) (by rfl) HF4.out (by have := HN.out; omega) (right_bd n) (by decide) (by decide) ?_; intro w5 hF hg; have HF5 := Aside0.mk hF; have HO5 := Aside0.mk (show Rows w5 w.heap.size B _ _ from Kd.N_grown HO4.out hg (fun k hk e => hk (Option.some.inj e))); have HB5 := Aside0.mk (show Below w.heap.size w w5 from pw_below_grown HB4.out (some B) HB4.out.size hg (fun k e => by injection e with e; rw [← e]; exact GB.out)); clear hF hg HF4 HO4))
  have RT := Aside0.mk (dist_all n).2.2
  go_loopg [3, 5] (allOf n + 2) (fun kq v3 v5 w' => ∃ (o : Out) (i : Nat), v5 = .int .i64 (i : Int) ∧ Aside0 (G n o i [] ∧ bfs n kq i o = some (distO n) ∧ i ≤ o.length ∧ Bnd o) ∧ Aside0 (Rows w' w.heap.size B v3 o) ∧ Aside0 (FarAt w' B o) ∧ Aside0 (Below w.heap.size w w'))
  case atStart => exact ⟨[(right n, 0)], 0, rfl, ⟨G.start n, RT.out, Nat.zero_le _, Bnd.start n⟩, HO5, HF5, HB5⟩
  case round =>
    clear hx3 HO5 HF5 HB5 HB1 HB2 HB3 HB4 HL3 HC3 RT
    obtain ⟨o, i, rfl, HG, HO, HF, HB5⟩ := hrel
    cases gk with
    | zero => exact absurd HG.out.2.1 (by simp [bfs])
    | succ kk =>
    obtain ⟨A3, c3, e3⟩ := HO.out.slice
    subst e3
    by_cases hil : i < o.length
    · obtain ⟨q, d, hq⟩ : ∃ q d, o[i]? = some (q, d) := ⟨_, _, List.getElem?_eq_getElem hil⟩
      have HQ := Aside0.mk hq
      clear hq
      have c0 : decide ((i : Int) < (o.length : Int)) = true := decide_eq_true (by omega)
      have c1 : decide (i < o.length) = true := decide_eq_true hil
      clear hil
      go_wp2
      go_loopg [3, 27] n (fun kq v3 v27 w' => ∃ (o2 : Out) (f : Nat), v27 = .int .i64 (f : Int) ∧ Aside0 (f + kq = n) ∧ Aside0 (St n o q d (rowsFrom n f) o2) ∧ Aside0 (Rows w' w.heap.size B v3 o2) ∧ Aside0 (FarAt w' B o2) ∧ Aside0 (Below w.heap.size w w'))
      case atStart => exact ⟨o, 0, rfl, ⟨Nat.zero_add _⟩, ⟨St.start n o q d⟩, HO, HF, HB5⟩
      case round =>
        clear HO HF HB5 c0 c1
        obtain ⟨o2, f, rfl, HK, HS, HO, HF, HB5⟩ := hrel
        obtain rfl : gk = n - f := by have := HK.out; omega
        by_cases hf : f < n
        · have HFN := Aside0.mk hf
          have c0 : decide ((f : Int) < (n : Int)) = true := decide_eq_true (by omega)
          have c1 : decide (f < n) = true := decide_eq_true hf
          have HS2 := Aside0.mk (show St n o q d (restOf n f f) o2 from by rw [← rows_rest hf]; exact HS.out)
          clear hf HS
          go_wp2
          go_loopg [3, 7] (n - f) (fun kq v3 v7 w' => ∃ (o2 : Out) (t : Nat), v7 = .int .i64 (t : Int) ∧ Aside0 (t + kq = n ∧ f ≤ t) ∧ Aside0 (St n o q d (restOf n f t) o2) ∧ Aside0 (Rows w' w.heap.size B v3 o2) ∧ Aside0 (FarAt w' B o2) ∧ Aside0 (Below w.heap.size w w'))
          case atStart => exact ⟨o2, f, rfl, ⟨by have := HFN.out; omega, Nat.le_refl _⟩, HS2, HO, HF, HB5⟩
          case round =>
            clear HO HF HB5 c0 c1 HS2
            obtain ⟨o3, t, rfl, HK2, HS, HO, HF, HB5⟩ := hrel
            obtain rfl : gk = n - t := by have := HK2.out; omega
            obtain ⟨A4, c4, e4⟩ := HO.out.slice
            subst e4
            by_cases ht : t < n
            · have HTN := Aside0.mk ht
              have d0 : decide ((t : Int) < (n : Int)) = true := decide_eq_true (by omega)
              have d1 : decide (t < n) = true := decide_eq_true ht
              obtain ⟨hg3, hq3⟩ := St.good HS.out HG.out.1 HQ.out
              have hil := (List.getElem?_eq_some_iff.1 hq3).1
              obtain ⟨ad4, ea⟩ := HO.out.addr (Nat.lt_of_le_of_lt (Nat.zero_le _) hil)
              subst ea
              obtain ⟨-, A5, c5, hx5, hl5, hC5⟩ := HO.out.at_ hq3
              have HL5 := Aside0.mk hl5
              have HC5 := Aside0.mk hC5
              have d2 : decide ((i : Int) < (o3.length : Int)) = true := decide_eq_true (by omega)
              have d3 := eq_true hil
              have hqb : Bd n q := by
                obtain ⟨dn, g⟩ := hg3
                exact g.bd _ (List.mem_of_getElem? hq3)
              obtain ⟨K2, hK2⟩ := Ev_at (turned_ev hqb (by have := HN.out; omega) f t HK2.out.2 ht)
              have HT := Aside0.mk (hK2 K2 (Nat.le_refl _))
              have HNB := Aside0.mk (turn_bd hqb HK2.out.2 ht)
              have HG3 := Aside0.mk (And.intro hg3 hq3)
              have HQB := Aside0.mk hqb
              clear ht hil hl5 hC5 hqb hK2 hg3 hq3
              cases hl : o3.lookup (turn q f t) with
              | some v =>
                have HL := Aside0.mk hl
                clear hl
                go_wp2_with (first | (go_at_call 77; (with_reducible refine (impl_turned.calls K2 A5 c5 q (f : Int) (t : Int) (turn q f t) _ HC5.out HL5.out HT.out).mono ?_); rintro e w8 ⟨v8, rfl, ho, hb⟩; have HO8 := Aside0.mk ho; have HOb := Aside0.mk (show Rows w8 w.heap.size B _ o3 from Kd.N_below HO.out hb); have HFb := Aside0.mk (HF.out.below hb); have HBb := Aside0.mk (below_step HB5.out hb); clear ho hb HO HF HB5; obtain ⟨A8, c8, e8⟩ := Kd.R_slice HO8.out; subst e8) | (go_at_call 76; (refine (keyOf_calls A8 c8 (turn q f t) _ (Kd.R_reads' HO8.out).2.2 (by have := HN.out; have := HNB.out.1; omega)).mono ?_); rintro e w9 ⟨rfl, hb⟩; have HO := Aside0.mk (show Rows w9 w.heap.size B _ o3 from Kd.N_below HOb.out hb); have HF := Aside0.mk (HFb.out.below hb); have HB5 := Aside0.mk (below_step HBb.out hb); clear hb HOb HFb HBb HO8) | ((with_reducible refine gate_dst (N := 47) rfl ?_); refine far_look_ok rfl (.tmp 44) (.tmp 46) rfl (n := n) (l := turn q f t) (by rfl) (by rfl) HF.out (by have := HN.out; omega) (by obtain ⟨⟨dn, g⟩, _⟩ := HG3.out; exact g.bd) (by obtain ⟨⟨dn, g⟩, _⟩ := HG3.out; exact g.nd) HNB.out ?_; rw [HL.out]))
                go_roundg (n - (t + 1))
                case measure => have := HTN.out; omega
                case rel => exact ⟨o3, t + 1, congrArg (Value.int .i64) (nextI t (by have := HTN.out; have := HN.out; omega)), ⟨by have := HTN.out; omega, by have := HK2.out; omega⟩, ⟨by
                  have h := St.step (p := (f, t)) (by rw [← rest_cons HTN.out]; exact HS.out)
                  unfold put at h
                  rw [HL.out] at h
                  exact h⟩, HO, HF, HB5⟩
              | none =>
                have HL := Aside0.mk hl
                clear hl
                go_wp2_with (first | (go_at_call 77; (with_reducible refine (impl_turned.calls K2 A5 c5 q (f : Int) (t : Int) (turn q f t) _ HC5.out HL5.out HT.out).mono ?_); rintro e w8 ⟨v8, rfl, ho, hb⟩; have HO8 := Aside0.mk (show Kd.R (Kd.int .i64) 3 w8 wr.heap.size (fun k => k ≠ B) v8 (turn q f t) from Kd.R_mono (Kd.R_bound ho) (fun k hk => by have := hk.2.1; have := HF.out.lt; omega)); have HOb := Aside0.mk (show Rows w8 w.heap.size B _ o3 from Kd.N_below HO.out hb); have HFb := Aside0.mk (HF.out.below hb); have HBb := Aside0.mk (below_step HB5.out hb); clear ho hb HO HF HB5; obtain ⟨A8, c8, e8⟩ := Kd.R_slice HO8.out; subst e8) | (go_at_call 76; (refine (keyOf_calls A8 c8 (turn q f t) _ (Kd.R_reads' HO8.out).2.2 (by have := HN.out; have := HNB.out.1; omega)).mono ?_); rintro e w9 ⟨rfl, hb⟩; have HO9 := Aside0.mk (Kd.R_below HO8.out hb); have HO := Aside0.mk (show Rows w9 w.heap.size B _ o3 from Kd.N_below HOb.out hb); have HF := Aside0.mk (HFb.out.below hb); have HB5 := Aside0.mk (below_step HBb.out hb); clear hb HOb HFb HBb HO8; have HO8 := HO9; clear HO9; have hx6 := (HO.out.at_ HG3.out.2); obtain ⟨-, A6, c6, hx6, hl6, hC6⟩ := hx6; have HL6 := Aside0.mk hl6; have HC6 := Aside0.mk hC6; clear hl6 hC6 hx5 HC5 HL5) | ((with_reducible refine gate_dst (N := 47) rfl ?_); refine far_look_ok rfl (.tmp 44) (.tmp 46) rfl (n := n) (l := turn q f t) (by rfl) (by rfl) HF.out (by have := HN.out; omega) (by obtain ⟨⟨dn, g⟩, _⟩ := HG3.out; exact g.bd) (by obtain ⟨⟨dn, g⟩, _⟩ := HG3.out; exact g.nd) HNB.out ?_; rw [HL.out]))
                have HD : 0 ≤ d ∧ d ≤ 4000 ∧ o3.length ≤ 4000 ∧ o3.lookup q = some d := by
                  obtain ⟨⟨dn, g⟩, hq3⟩ := HG3.out
                  have h1 := g.nn _ (List.mem_of_getElem? hq3)
                  have h2 := St.bnd HS.out HG.out.2.2.2 HQ.out i (q, d) hq3
                  have h3 := g.few
                  have h4 : allOf n ≤ 3840 := by
                    have := HN.out
                    rcases (by omega : n = 1 ∨ n = 2 ∨ n = 3 ∨ n = 4 ∨ n = 5) with h | h | h | h | h <;> rw [h] <;> decide
                  have h5 := (List.getElem?_eq_some_iff.1 hq3).1
                  exact ⟨h1, by simp only at h2; omega, by omega, lookup_in g.nd (List.mem_of_getElem? hq3)⟩
                have HD := Aside0.mk HD
                have hw1 : IntKind.i64.wrap (d + 1) = d + 1 := IntWalk.i64_in _ (by have := HD.out; omega)
                have hw2 : wrap64 (d + 1) = d + 1 := w64 (by have := HD.out; omega) (by have := HD.out; omega)
                have HWF := Aside0.mk (show (Lit.int .i64 (d + 1)).wf = true from WalkArith.wf_i64 (by have := HD.out; omega))
                have hlk := far_run HF.out (by have := HN.out; omega) (by obtain ⟨⟨dn, g⟩, _⟩ := HG3.out; exact g.bd) (by obtain ⟨⟨dn, g⟩, _⟩ := HG3.out; exact g.nd) HQB.out
                rw [HD.out.2.2.2] at hlk
                replace hlk : (Instr.lookup 66 (.map (some B)) (keyV q) false).run Try.prog w9 = .ok (.int .i64 d) w9 := hlk
                replace HO := Aside0.mk (show Rows w9.drew w.heap.size B _ o3 from Kd.N_drew HO.out)
                replace HF := Aside0.mk (show FarAt w9.drew B o3 from World.ownsMap.drew HF.out)
                replace HB5 := Aside0.mk (below_drew HB5.out)
                replace HO8 := Aside0.mk (Kd.R_drew HO8.out)
                replace HC6 := Aside0.mk (Kd.C_drew HC6.out)
                go_region_with (first | (go_at_call 76; (first | ((with_reducible refine (keyOf_calls A8 c8 (turn q f t) _ ?x1 ?x2).mono ?_); (case x1 => exact (Kd.R_reads' HO8.out).2.2); (case x2 => have := HN.out; have := HNB.out.1; omega)) | ((with_reducible refine (keyOf_calls A6 c6 q _ ?x1 ?x2).mono ?_); (case x1 => exact HC6.out); (case x2 => have := HN.out; have := HQB.out.1; omega))); rintro e w10 ⟨rfl, hb⟩; replace HO := Aside0.mk (show Rows w10 w.heap.size B _ o3 from Kd.N_below HO.out hb); replace HF := Aside0.mk (HF.out.below hb); replace HB5 := Aside0.mk (below_step HB5.out hb); replace HO8 := Aside0.mk (Kd.R_below HO8.out hb); replace HC6 := Aside0.mk (Kd.C_below HC6.out hb); (first | replace hx6 := (hb.cell (World.block_lt_of_cell? _ _ hx6)).trans hx6 | replace hx6 := (hb.cell (World.block_lt_of_cell? w9.drew _ (show w9.drew.cell? _ = _ from hx6))).trans (show w9.drew.cell? _ = _ from hx6)); clear hb hlk; (try clear hrun HF11 HG11); have hlk := far_run HF.out (by have := HN.out; omega) (by obtain ⟨⟨dn, g⟩, _⟩ := HG3.out; exact g.bd) (by obtain ⟨⟨dn, g⟩, _⟩ := HG3.out; exact g.nd) HQB.out; rw [HD.out.2.2.2] at hlk; replace hlk : (Instr.lookup 66 (.map (some B)) (keyV q) false).run Try.prog w10 = .ok (.int .i64 d) w10 := hlk; obtain ⟨w11, hrun, hF11, hg11⟩ := far_update HF.out (by have := HN.out; omega) HNB.out (by have := HD.out; omega) HWF.out; have HF11 := Aside0.mk hF11; have HG11 := Aside0.mk hg11; clear hF11 hg11))
                all_goals
                  have HOa := Aside0.mk (show Rows w11 w.heap.size B _ o3 from Kd.N_grown HO.out HG11.out (fun k hk e => hk (Option.some.inj e)))
                  have HBa := Aside0.mk (show Below w.heap.size w w11 from pw_below_grown HB5.out (some B) HB5.out.size HG11.out (fun k e => by injection e with e; rw [← e]; exact GB.out))
                  have HRa := Aside0.mk (Kd.R_grown HO8.out HG11.out (fun k hk e => hk (Option.some.inj e)))
                  clear HO HF HB5 HO8 HC6 hx6 hlk hrun HG11 hw1
                  go_wp2_with ((with_reducible refine gate_builtin (b := .append) (xs := #[.tmp 63, .tmp 65]) rfl ?_); at_builtin; refine Kd.N_append (Kd.slice 3 (Kd.int .i64)) (w0 := w) w.heap.size rfl (.tmp 63) (.tmp 65) 41 24 (.slice none 0 0) 24 rfl Try.underlying41 info24 rfl (by decide) (by omega) (.slice (some ad4) o3.length c4) (o3.map (·.1)) (turn q f t) [.slice A8 (turn q f t).length c8] (fun k => k ≠ B) (fun k => k ≠ B ∧ some k ≠ (Value.slice (some ad4) o3.length c4).ownBlock) rfl rfl ?aP (fun _ hk => hk) ?aF ?aO ?aB ?aS ?aL ?_; (case aP => have R8 := Kd.R_apart' HRa.out (Kd.N_typed HOa.out) (by decide); exact Kd.FK_slice_mk (Kd.R_reads' R8).2.1 (Kd.R_F R8)); (case aF => exact fun k hk => by have := HF11.out.lt; omega); (case aO => exact HOa.out); (case aB => exact HBa.out); (case aS => exact HBa.out.size); (case aL => have := HD.out; rw [List.length_map]; omega); intro v12 w12 ho hb hg hat; have HO := Aside0.mk (show Rows w12 w.heap.size B v12 (o3 ++ [(turn q f t, d + 1)]) from by unfold Rows; rw [List.map_append]; exact ho); have HF := Aside0.mk (HF11.out.kept hg (fun e => (HOa.out.1 B e.symm) rfl)); have HB5 := Aside0.mk hb; clear ho hb hg hat HOa HBa HRa HF11)
                  go_roundg (n - (t + 1))
                  case measure => have := HTN.out; omega
                  case rel => exact ⟨o3 ++ [(turn q f t, d + 1)], t + 1, congrArg (Value.int .i64) (nextI t (by have := HTN.out; have := HN.out; omega)), ⟨by have := HTN.out; omega, by have := HK2.out; omega⟩, ⟨by
                    have h := St.step (p := (f, t)) (by rw [← rest_cons HTN.out]; exact HS.out)
                    unfold put at h
                    rw [HL.out] at h
                    exact h⟩, HO, HF, HB5⟩
            · have d0 : decide ((t : Int) < (n : Int)) = false := decide_eq_false (by omega)
              have d1 : decide (t < n) = false := decide_eq_false ht
              obtain rfl : t = n := by have := HK2.out; omega
              clear ht
              go_wp2
              go_roundg (t - (f + 1))
              case measure => have := HFN.out; omega
              case rel => exact ⟨o3, f + 1, congrArg (Value.int .i64) (nextI f (by have := HFN.out; have := HN.out; omega)), ⟨by have := HFN.out; omega⟩, ⟨by rw [← rest_end]; exact HS.out⟩, HO, HF, HB5⟩
        · have d0 : decide ((f : Int) < (n : Int)) = false := decide_eq_false (by omega)
          have d1 : decide (f < n) = false := decide_eq_false hf
          obtain rfl : f = n := by have := HK.out; omega
          clear hf
          go_wp2
          go_roundg kk
          case measure => omega
          case rel =>
            have hx := St.done (by rw [← rows_end f]; exact HS.out)
            subst hx
            obtain ⟨g1, g2, g3, g4⟩ := HG.out
            rw [bfs, HQ.out] at g2
            obtain ⟨g5, s, hs⟩ := g1.expand HQ.out
            have hb := St.bnd HS.out g4 HQ.out
            have hi := (List.getElem?_eq_some_iff.1 HQ.out).1
            exact ⟨expand f (q, d) o, i + 1, congrArg (Value.int .i64) (nextI i (by
              have := g1.few
              have h4 : allOf f ≤ 3840 := by
                have := HN.out
                rcases (by omega : f = 1 ∨ f = 2 ∨ f = 3 ∨ f = 4 ∨ f = 5) with h | h | h | h | h <;> rw [h] <;> decide
              omega)), ⟨g5, g2, by rw [hs, List.length_append]; omega, hb⟩, HO, HF, HB5⟩
    · have c0 : decide ((i : Int) < (o.length : Int)) = false := decide_eq_false (by omega)
      have c1 : decide (i < o.length) = false := decide_eq_false hil
      have hx : o = distO n := by
        have h := HG.out.2.1
        rw [bfs, List.getElem?_eq_none (Nat.le_of_not_lt hil)] at h
        exact Option.some.inj h
      clear hil
      have HX := Aside0.mk hx
      clear hx
      go_wp2
      go_ret
      exact ⟨B, rfl, GB.out, by rw [← HX.out]; exact HF.out, HB5.out⟩
end Go.Proofs.Ytppbpefehpbejaa.P
end

section
namespace Go.Proofs.Ytppbpefehpbejaa.P
open Go.Maps Go.RowKit Go.Proofs.YtppbpefehpbejaaW.PrintWords Go.Proofs.Ytppbpefehpbejaa.Far
set_option linter.unusedVariables false
set_option linter.unusedSimpArgs false

theorem Dm_has {k : Lit} : ∀ o : Out, Maps.has (Dm o) k = true → ∃ e ∈ o, k = klit e.1 := by
  refine snoc_ind ?_ ?_
  · intro h
    cases h
  · intro o e ih h
    rw [Dm_snoc] at h
    by_cases hk : k = klit e.1
    · exact ⟨e, by simp, hk⟩
    · rw [has_put_other hk] at h
      obtain ⟨x, hx, e'⟩ := ih h
      exact ⟨x, by simp [hx], e'⟩
theorem same_self {k : Lit} (h : WideAt.IsKeyLit k) : k.sameKey k = true := by
  cases hs : k.sameKey k with
  | true => rfl
  | false =>
    have h1 := has_put_same (H := Unit) (isMap_empty) h (.lit (.bool true))
    rw [show ((DataW.map [] : DataW Unit).put k (.lit (.bool true))) = .map [(k, .lit (.bool true))] from rfl] at h1
    simp [Maps.has, hs] at h1
/-- A range over the map under way: what is still to come. -/
def FarIter (w : World) (B r : Nat) (o rem : Out) : Prop := ∃ left cnt, w.ranges Try.prog 69 (plainElem (H := Unit) Try.prog 3) B r o.length (Dm o) left cnt ∧ rem = o.filter (fun e => left (klit e.1))
theorem FarIter.owns {w : World} {B r : Nat} {o rem : Out} (h : FarIter w B r o rem) : FarAt w B o := by
  obtain ⟨left, cnt, h, _⟩ := h
  exact h.owns
theorem FarIter.kept {w w' : World} {B r : Nat} {o rem : Out} {row : Option Nat} (h : FarIter w B r o rem) (hg : w.grownBy w' row) (hb : some B ≠ row) (hr : some r ≠ row) : FarIter w' B r o rem := by
  obtain ⟨left, cnt, h, e⟩ := h
  exact ⟨left, cnt, h.kept hg hb hr, e⟩
theorem FarIter.below {w w' : World} {B r : Nat} {o rem : Out} (h : FarIter w B r o rem) (hb : Below w.heap.size w w') : FarIter w' B r o rem := h.kept (grown_of_below hb none) (by simp) (by simp)
theorem FarIter.lt {w : World} {B r : Nat} {o rem : Out} (h : FarIter w B r o rem) : r < w.heap.size := by
  obtain ⟨left, cnt, h, _⟩ := h
  exact h.lt
theorem filter_one {n : Nat} (hn : n ≤ 8) {e : List Int × Int} : ∀ (o : Out), (∀ x ∈ o, Bd n x.1) → (o.map (·.1)).Nodup → (left : Lit → Bool) → e ∈ o → left (klit e.1) = true →
    (o.filter (fun x => left (klit x.1))).Perm (e :: o.filter (fun x => left (klit x.1) && !(klit x.1).sameKey (klit e.1))) := by
  intro o
  induction o with
  | nil => intro _ _ _ h; cases h
  | cons a o ih =>
    intro hbd nd left he hl
    rw [List.map_cons, List.nodup_cons] at nd
    have ha := hbd a (by simp)
    rcases List.mem_cons.1 he with rfl | he
    · have h2 : o.filter (fun x => left (klit x.1) && !(klit x.1).sameKey (klit e.1)) = o.filter (fun x => left (klit x.1)) := by
        refine List.filter_congr (fun x hx => ?_)
        have hne : klit x.1 ≠ klit e.1 := fun h => nd.1 (by rw [← klit_inj (hbd x (by simp [hx])) ha hn h]; exact List.mem_map_of_mem hx)
        rw [sameKey_ne hne, Bool.not_false, Bool.and_true]
      rw [List.filter_cons, if_pos hl, List.filter_cons, if_neg (by rw [same_self (klit_is ha hn)]; simp), h2]
    · have hb := hbd e (by simp [he])
      have hne : klit a.1 ≠ klit e.1 := fun h => nd.1 (by rw [klit_inj ha hb hn h]; exact List.mem_map_of_mem he)
      have h3 := ih (fun x hx => hbd x (by simp [hx])) nd.2 left he hl
      rw [List.filter_cons, List.filter_cons, sameKey_ne hne, Bool.not_false, Bool.and_true]
      cases left (klit a.1) with
      | true =>
        simp only [if_true]
        exact (h3.cons a).trans (List.Perm.swap e a _)
      | false =>
        simp only [Bool.false_eq_true, if_false]
        exact h3
section
variable {w : World} {ops : Array Oper} {rest : List Oper} {o : Oper} {a : Act} {Q : Exit → Act → World → Prop} {n B r : Nat} {xs rem : Out}
theorem far_range (hg : o.guard = none) (m : Operand) (hop : o.op = Op.range 66 m) (hm : a.eval m = .map (some B)) (hF : FarAt w B xs) (hn : n ≤ 8) (hbd : ∀ e ∈ xs, Bd n e.1) (nd : (xs.map (·.1)).Nodup)
    (hK : ∀ r w', r = w.heap.size → FarIter w' B r xs xs → Below w.heap.size w w' → wpList Try.prog ops Q rest (a.put o.dst (.pointer (some ⟨r, 0, none⟩))) w') : wpList Try.prog ops Q (o :: rest) a w := by
  refine wpList_range_own w hg m 66 hop 69 3 farKeyed Try.underlying66 (plainElem (H := Unit) Try.prog 3) B xs.length (Dm xs) hm hF (fun w' h1 h2 h3 => hK _ w' rfl ⟨_, _, h1, ?_⟩ ⟨h2.os, h2.tape, h2.output, by omega, fun i hi => h2.block i hi (by simp)⟩)
  refine (List.filter_eq_self.2 (fun e he => ?_)).symm
  rw [(Dm_at (hbd e he) hn xs hbd nd).2, lookup_in nd he]
  rfl
theorem far_next (hg : o.guard = none) (it : Operand) (hop : o.op = Op.next it false) (hit : a.eval it = .pointer (some ⟨r, 0, none⟩)) (h : FarIter w B r xs rem) (hn : n ≤ 8) (hbd : ∀ e ∈ xs, Bd n e.1) (nd : (xs.map (·.1)).Nodup)
    (hDone : rem = [] → wpList Try.prog ops Q rest (a.put o.dst (.tuple #[.bool false])) w)
    (hMore : ∀ (q : List Int) (d : Int) (rem' : Out) (w' : World), rem.Perm ((q, d) :: rem') → (q, d) ∈ xs → FarIter w' B r xs rem' → w.grownBy w' (some r) → w'.heap.size = w.heap.size →
      (Instr.entry (.pointer (some ⟨r, 0, none⟩))).run Try.prog w' = .ok (.tuple #[keyV q, .int .i64 d]) w' → wpList Try.prog ops Q rest (a.put o.dst (.tuple #[.bool true, keyV q, .int .i64 d])) w') : wpList Try.prog ops Q (o :: rest) a w := by
  obtain ⟨left, cnt, h, rfl⟩ := h
  refine wpList_plain hg fun K' hK' => ?_
  unfold Oper.wp
  rcases h.next farKeyed o.type with ⟨h0, hl, hrun⟩ | ⟨key, v, kl, y, w', cnt', hkey, hlk, hv, hat, hrun, hrg, hlt, hgr, hsz, hen⟩
  · simp [execOp, hop, hit, hrun, Result.andThen]
    refine hK' _ _ (hDone ?_)
    rw [List.filter_eq_nil_iff]
    intro e _
    rw [hl]
    simp
  · obtain ⟨e, he, rfl⟩ := Dm_has xs (has_true_of_atKey hat)
    have hb := hbd e he
    have hk := farKeyed.inj hkey (klit_key hb hn)
    subst hk
    obtain ⟨c, rfl, hc, _⟩ := plainElem_int_inv Try.underlying3 hv
    have h1 := hat (.lit (.int .i64 0))
    rw [(Dm_at hb hn xs hbd nd).1, lookup_in nd he, hc] at h1
    injection h1 with h1
    injection h1 with _ h1
    have h2 : e.2 = c := h1
    subst h2
    simp [execOp, hop, hit, hrun, Result.andThen]
    exact hK' _ _ (hMore e.1 e.2 _ w' (filter_one hn xs hbd nd left he hlk) he ⟨_, _, hrg, rfl⟩ hgr hsz hen)
end
end Go.Proofs.Ytppbpefehpbejaa.P
end

section
set_option linter.unusedVariables false
namespace Go.Proofs.Ytppbpefehpbejaa.Far
open Go.Proofs.Ytppbpefehpbejaa.Order

theorem expand_bnd {n i : Nat} {e : List Int × Int} {o : Out} (h : Bnd o) (he : o[i]? = some e) : Bnd (expand n e o) := by
  unfold expand
  have : ∀ (ps : List (Nat × Nat)) (o : Out), Bnd o → o[i]? = some e → Bnd (ps.foldl (put e.1 e.2) o) := by
    intro ps
    induction ps with
    | nil => intro o h _; exact h
    | cons p ps ih =>
      intro o h he
      refine ih _ (Bnd.put h he p) ?_
      obtain ⟨s, hs⟩ := put_more e.1 e.2 o p
      rw [hs, List.getElem?_append_left (List.getElem?_eq_some_iff.1 he).1]
      exact he
  exact this _ o h he
theorem bfs_bnd {n : Nat} : ∀ (k i : Nat) (o o' : Out), Bnd o → bfs n k i o = some o' → Bnd o' := by
  intro k
  induction k with
  | zero => intro i o o' _ h; cases h
  | succ k ih =>
    intro i o o' hb h
    rw [bfs] at h
    split at h
    · obtain rfl := Option.some.inj h
      exact hb
    · rename_i e he
      exact ih _ _ _ (expand_bnd hb he) h
/-- How far it is at most. -/
theorem dist_le {n : Nat} {b : List Int} {v : Int} (h : (distO n).lookup b = some v) : v ≤ (allOf n : Int) := by
  have hb := bfs_bnd _ _ _ _ (Bnd.start n) (dist_all n).2.2
  obtain ⟨j, hj, e⟩ := List.mem_iff_getElem.1 (lookup_mem h)
  have := hb j (b, v) (by rw [List.getElem?_eq_getElem hj, e])
  have := (dist_all n).2.1
  simp only at *
  omega
/-- A turn comes nearer just if it comes nearer by one. -/
theorem Done.lt_iff {n : Nat} {o : Out} (g : Done n o) {b : List Int} {v u : Int} {f t : Nat} (hb : o.lookup b = some v) (hf : f ≤ t) (ht : t < n) (hu : o.lookup (turn b f t) = some u) : u < v ↔ u = v - 1 := by
  have h1 := g.near (turn b f t) u f t v hu hf ht (by rw [turn_turn hf (by rw [(g.bd _ (lookup_mem hb)).1]; exact ht)]; exact hb)
  omega
/-- The first turn that comes nearer. -/
def pick (n : Nat) (o : Out) (b : List Int) (v : Int) : Option (Nat × Nat) := (pairs n).find? (fun p => o.lookup (turn b p.1 p.2) == some (v - 1))
theorem Done.pick {n : Nat} {o : Out} (g : Done n o) {b : List Int} {v : Int} (hb : o.lookup b = some v) (hv : 0 < v) : ∃ p, pick n o b v = some p ∧ p.1 ≤ p.2 ∧ p.2 < n ∧ o.lookup (turn b p.1 p.2) = some (v - 1) := by
  rcases g.par b v hb with ⟨_, h⟩ | ⟨_, f, t, h1, h2, h3⟩
  · omega
  · cases hp : Far.pick n o b v with
    | none =>
      have := List.find?_eq_none.1 hp (f, t) (mem_pairs.2 ⟨h1, h2⟩)
      rw [h3] at this
      simp at this
    | some p =>
      have a := List.find?_some hp
      have b := mem_pairs.1 (List.mem_of_find?_eq_some hp)
      exact ⟨p, rfl, b.1, b.2, by simpa using a⟩
/-- The first turns, all. -/
def path (n : Nat) (o : Out) : Nat → List Int → List (List Int)
  | 0, _ => []
  | v + 1, b => match pick n o b ((v + 1 : Nat) : Int) with
    | none => []
    | some p => [(p.1 : Int), (p.2 : Int)] :: path n o v (turn b p.1 p.2)
theorem Done.path_len {n : Nat} {o : Out} (g : Done n o) : ∀ (v : Nat) (b : List Int), o.lookup b = some (v : Int) → (path n o v b).length = v ∧ ∀ r ∈ path n o v b, r.length = 2 := by
  intro v
  induction v with
  | zero => intro b _; exact ⟨rfl, fun r hr => by cases hr⟩
  | succ v ih =>
    intro b hb
    obtain ⟨p, h1, h2, h3, h4⟩ := g.pick hb (by omega)
    have := ih (turn b p.1 p.2) (by rw [h4]; congr 1; omega)
    rw [path, h1]
    refine ⟨by simp [this.1], fun r hr => ?_⟩
    rcases List.mem_cons.1 hr with rfl | hr
    · rfl
    · exact this.2 r hr
/-- The farthest one, the first of them. -/
def Best (o : Out) (b : List Int) (m : Int) : Prop := (b, m) ∈ o ∧ ∀ e ∈ o, e.2 < m ∨ e.2 = m ∧ lexlt e.1 b = false
theorem lex_irrefl : ∀ a : List Int, lexlt a a = false
  | [] => rfl
  | a :: r => by
    rw [lexlt, lex_irrefl r, Bool.and_false, Bool.or_false]
    exact decide_eq_false (by omega)
theorem Best.one {n : Nat} {o : Out} (hbd : ∀ e ∈ o, Bd n e.1) {b c : List Int} {m k : Int} (h : Best o b m) (h' : Best o c k) : b = c ∧ m = k := by
  have e : m = k := by
    have a1 := h.2 _ h'.1
    have a2 := h'.2 _ h.1
    simp only at a1 a2
    omega
  subst e
  refine ⟨?_, rfl⟩
  have a1 := h.2 _ h'.1
  have a2 := h'.2 _ h.1
  simp only at a1 a2
  rcases lex_total b c (by rw [(hbd _ h.1).1, (hbd _ h'.1).1]) with h1 | h1 | h1
  · rcases a2 with a2 | a2
    · omega
    · rw [a2.2] at h1; cases h1
  · exact h1
  · rcases a1 with a1 | a1
    · omega
    · rw [a1.2] at h1; cases h1
theorem lex_trans : ∀ (a b c : List Int), lexlt a b = true → lexlt b c = true → lexlt a c = true := by
  intro a
  induction a with
  | nil =>
    intro b c h1 h2
    cases b with
    | nil => cases h1
    | cons y ys => cases c with
      | nil => cases h2
      | cons z zs => rfl
  | cons x xs ih =>
    intro b c h1 h2
    cases b with
    | nil => cases h1
    | cons y ys =>
      cases c with
      | nil => cases h2
      | cons z zs =>
        simp only [lexlt, Bool.or_eq_true, decide_eq_true_eq, Bool.and_eq_true, beq_iff_eq] at h1 h2 ⊢
        rcases h1 with h1 | ⟨h1, h1'⟩
        · rcases h2 with h2 | ⟨h2, _⟩
          · exact .inl (by omega)
          · exact .inl (by omega)
        · rcases h2 with h2 | ⟨h2, h2'⟩
          · exact .inl (by omega)
          · exact .inr ⟨by omega, ih ys zs h1' h2'⟩
/-- The farthest one of those that have come; rem is still to come. -/
def Bst (o rem : Out) (b : List Int) (m : Int) : Prop := (b = [] ∧ m = -1 ∨ (b, m) ∈ o) ∧ ∀ e ∈ o, e ∈ rem ∨ e.2 < m ∨ e.2 = m ∧ lexlt e.1 b = false
theorem Bst.start (o : Out) : Bst o o [] (-1) := ⟨.inl ⟨rfl, rfl⟩, fun e he => .inl he⟩
theorem Bst.take {o rem rem' : Out} {b q : List Int} {m d : Int} (h : Bst o rem b m) (hp : rem.Perm ((q, d) :: rem')) (hm : (q, d) ∈ o) (hb : m < d ∨ d = m ∧ lexlt q b = true) : Bst o rem' q d := by
  refine ⟨.inr hm, fun e he => ?_⟩
  rcases h.2 e he with h1 | h1 | ⟨h1, h2⟩
  · rcases List.mem_cons.1 (hp.mem_iff.1 h1) with rfl | h1
    · exact .inr (.inr ⟨rfl, lex_irrefl _⟩)
    · exact .inl h1
  · rcases hb with hb | hb <;> exact .inr (.inl (by omega))
  · rcases hb with hb | ⟨hb, hl⟩
    · exact .inr (.inl (by omega))
    · refine .inr (.inr ⟨by omega, ?_⟩)
      cases hx : lexlt e.1 q with
      | false => rfl
      | true => rw [lex_trans _ _ _ hx hl] at h2; cases h2
theorem Bst.pass {o rem rem' : Out} {b q : List Int} {m d : Int} (h : Bst o rem b m) (hp : rem.Perm ((q, d) :: rem')) (hb : d < m ∨ d = m ∧ lexlt q b = false) : Bst o rem' b m := by
  refine ⟨h.1, fun e he => ?_⟩
  rcases h.2 e he with h1 | h1
  · rcases List.mem_cons.1 (hp.mem_iff.1 h1) with rfl | h1
    · exact .inr hb
    · exact .inl h1
  · exact .inr h1
theorem Bst.best {n : Nat} {o : Out} {b : List Int} {m : Int} (g : Done n o) (h : Bst o [] b m) : Best o b m := by
  have h0 := h.2 _ (lookup_mem g.zero)
  refine ⟨?_, fun e he => (h.2 e he).resolve_left (fun h => by cases h)⟩
  rcases h.1 with ⟨_, h1⟩ | h1
  · rcases h0 with h0 | h0 | h0
    · cases h0
    · simp only at h0; omega
    · simp only at h0; omega
  · exact h1
/-- The farthest one of all. -/
def farB (o : Out) : List Int × Int := o.foldl (fun s e => if s.2 < e.2 ∨ e.2 = s.2 ∧ lexlt e.1 s.1 = true then e else s) ([], -1)
theorem farB_best {n : Nat} {o : Out} (g : Done n o) : Best o (farB o).1 (farB o).2 := by
  have : ∀ (l pre : Out) (s : List Int × Int), o = pre ++ l → Bst o l s.1 s.2 → Bst o [] (l.foldl (fun s e => if s.2 < e.2 ∨ e.2 = s.2 ∧ lexlt e.1 s.1 = true then e else s) s).1 (l.foldl (fun s e => if s.2 < e.2 ∨ e.2 = s.2 ∧ lexlt e.1 s.1 = true then e else s) s).2 := by
    intro l
    induction l with
    | nil => intro _ s _ h; exact h
    | cons e l ih =>
      intro pre s ho h
      rw [List.foldl_cons]
      refine ih (pre ++ [e]) _ (by rw [List.append_assoc]; exact ho) ?_
      split
      · rename_i hc
        exact h.take (List.Perm.refl _) (by rw [ho]; simp) hc
      · rename_i hc
        refine h.pass (List.Perm.refl _) ?_
        rcases Int.lt_trichotomy s.2 e.2 with h1 | h1 | h1
        · exact absurd (.inl h1) hc
        · refine .inr ⟨h1.symm, ?_⟩
          cases hx : lexlt e.1 s.1 with
          | false => rfl
          | true => exact absurd (.inr ⟨h1.symm, hx⟩) hc
        · exact .inl h1
  exact Bst.best g (this o [] ([], -1) rfl (Bst.start o))
theorem farB_is {n : Nat} {o : Out} (g : Done n o) {b : List Int} {m : Int} (h : Bst o [] b m) : b = (farB o).1 ∧ m = (farB o).2 := Best.one g.bd (Bst.best g h) (farB_best g)
end Go.Proofs.Ytppbpefehpbejaa.Far
end

section
namespace Go.Proofs.Ytppbpefehpbejaa.P
open Go.RowKit Go.Proofs.YtppbpefehpbejaaW.PrintWords Go.Proofs.YtppbpefehpbejaaW.PrintLast Go.Proofs.YtppbpefehpbejaaW.PrintMore Go.Proofs.Ytppbpefehpbejaa.Base Go.Proofs.Ytppbpefehpbejaa.Far
set_option linter.unusedVariables false

/-- What slices.Compare answers. -/
def cmpR : List Int → List Int → Int
  | a :: r, b :: s => if a < b then -1 else if b < a then 1 else cmpR r s
  | _, _ => 0
theorem cmpR_lt : ∀ (a b : List Int), a.length = b.length → (cmpR a b < 0 ↔ lexlt a b = true) := by
  intro a
  induction a with
  | nil =>
    intro b h
    cases b with
    | nil => exact ⟨(fun h => absurd h (by decide)), (fun h => by cases h)⟩
    | cons _ _ => cases h
  | cons x xs ih =>
    intro b h
    cases b with
    | nil => cases h
    | cons y ys =>
      have := ih ys (by simpa using h)
      rw [cmpR, lexlt]
      rcases Int.lt_trichotomy x y with h1 | rfl | h1
      · rw [if_pos h1, decide_eq_true h1, Bool.true_or]
        exact ⟨fun _ => rfl, fun _ => by decide⟩
      · rw [if_neg (by omega), if_neg (by omega), decide_eq_false (by omega), Bool.false_or, beq_self_eq_true, Bool.true_and]
        exact this
      · rw [if_neg (by omega), if_pos h1, decide_eq_false (by omega), Bool.false_or, beq_false_of_ne (by omega), Bool.false_and]
        exact ⟨fun h => absurd h (by decide), fun h => by cases h⟩
theorem cmp_eq (a b : Int) : cmp_Compare_int.f a b = some (if a < b then -1 else if b < a then 1 else 0) := by
  have h : ∀ x, cmp_isNaN_int.f x = some false := fun x => by simp [cmp_isNaN_int.f]
  rw [cmp_Compare_int.f, h, h]
  simp only [Option.bind_some]
  rw [if_neg (by decide), if_neg (by decide)]
  by_cases h1 : a < b
  · rw [if_pos h1, if_pos h1]
  · by_cases h2 : b < a
    · rw [if_neg h1, if_pos h2, if_neg h1, if_pos h2]
    · rw [if_neg h1, if_neg h2, if_neg h1, if_neg h2]
theorem compare_l0 (a b : List Int) (hl : a.length = b.length) (hn : a.length ≤ 1048576) : ∀ (d i : Nat), i + d = a.length → Ev (fun k => slices_Compare_int_int.l0 k a b a (a.length : Int) (i : Int)) (cmpR (a.drop i) (b.drop i)) := by
  intro d
  induction d with
  | zero =>
    intro i hi
    refine Ev_step (fun k => by rw [slices_Compare_int_int.l0, if_neg (by omega), if_neg (by omega)]) ?_
    rw [List.drop_of_length_le (by omega), List.drop_of_length_le (by omega)]
    exact Ev.now _
  | succ d ih =>
    intro i hi
    have h : i < a.length := by omega
    refine Ev_step (fun k => by rw [slices_Compare_int_int.l0, if_pos (by omega), if_pos (by omega), if_pos (by omega), if_neg (by omega), if_pos (by omega), rd_nat, rd_nat, nextI i (by omega)]) ?_
    refine Ev_some (cmp_eq _ _) ?_
    rw [List.drop_eq_getElem_cons h, List.drop_eq_getElem_cons (show i < b.length by omega), cmpR, ← getD_at a 0 h, ← getD_at b 0 (show i < b.length by omega)]
    by_cases h1 : a.getD i 0 < b.getD i 0
    · simp only [if_pos h1]
      exact Ev_neg (by decide) (Ev.now _)
    · simp only [if_neg h1]
      by_cases h2 : b.getD i 0 < a.getD i 0
      · simp only [if_pos h2]
        exact Ev_neg (by decide) (Ev.now _)
      · simp only [if_neg h2]
        first | exact Ev_pos rfl (ih (i + 1) (by omega)) | exact Ev_pos trivial (ih (i + 1) (by omega))
theorem compare_ev (a b : List Int) (hl : a.length = b.length) (hn : a.length ≤ 1048576) : Ev (fun k => slices_Compare_int_int.f k a b) (cmpR a b) :=
  Ev.congr (fun k => by rw [slices_Compare_int_int.f]; rfl) (compare_l0 a b hl hn a.length 0 (by omega))
end Go.Proofs.Ytppbpefehpbejaa.P
end

section
namespace Go.Proofs.Ytppbpefehpbejaa.P
open Go.RowKit Go.Proofs.YtppbpefehpbejaaW.PrintWords Go.Proofs.YtppbpefehpbejaaW.PrintLast Go.Proofs.YtppbpefehpbejaaW.PrintMore Go.Proofs.Ytppbpefehpbejaa.Base Go.Proofs.Ytppbpefehpbejaa.Order Go.Proofs.Ytppbpefehpbejaa.Far
set_option linter.unusedVariables false
set_option linter.unusedSimpArgs false

def impl_FarthestBinding.f (k : Nat) (a0 : Int) : Option (List Int × Int × Bool) := if 1 ≤ a0 ∧ a0 ≤ 5 then some ((farB (distO a0.toNat)).1, (farB (distO a0.toNat)).2, true) else some ([], 0, false)
/-- Eight cells are written. -/
theorem put8 {w : World} {g : Nat} {t : TypeId} {z y0 y1 y2 y3 y4 y5 y6 y7 : Value} (h : w.heap[g]? = some (.cells #[z, z, z, z, z, z, z, z] t (0, 0))) :
    ((((((((w.setCell ⟨g, 0, none⟩ y0).setCell ⟨g, 1, none⟩ y1).setCell ⟨g, 2, none⟩ y2).setCell ⟨g, 3, none⟩ y3).setCell ⟨g, 4, none⟩ y4).setCell ⟨g, 5, none⟩ y5).setCell ⟨g, 6, none⟩ y6).setCell ⟨g, 7, none⟩ y7).heap[g]? = some (.cells #[y0, y1, y2, y3, y4, y5, y6, y7] t (0, 0)) := by
  refine blk_put (cs := #[y0, y1, y2, y3, y4, y5, y6, z]) ?_ 7 _ rfl
  refine blk_put (cs := #[y0, y1, y2, y3, y4, y5, z, z]) ?_ 6 _ rfl
  refine blk_put (cs := #[y0, y1, y2, y3, y4, z, z, z]) ?_ 5 _ rfl
  refine blk_put (cs := #[y0, y1, y2, y3, z, z, z, z]) ?_ 4 _ rfl
  refine blk_put (cs := #[y0, y1, y2, z, z, z, z, z]) ?_ 3 _ rfl
  refine blk_put (cs := #[y0, y1, z, z, z, z, z, z]) ?_ 2 _ rfl
  refine blk_put (cs := #[y0, z, z, z, z, z, z, z]) ?_ 1 _ rfl
  exact blk_put h 0 _ rfl
/-- What a written block keeps: all others. -/
theorem kept8 {w : World} {g : Nat} {y0 y1 y2 y3 y4 y5 y6 y7 : Value} : w.grownBy ((((((((w.setCell ⟨g, 0, none⟩ y0).setCell ⟨g, 1, none⟩ y1).setCell ⟨g, 2, none⟩ y2).setCell ⟨g, 3, none⟩ y3).setCell ⟨g, 4, none⟩ y4).setCell ⟨g, 5, none⟩ y5).setCell ⟨g, 6, none⟩ y6).setCell ⟨g, 7, none⟩ y7) (some g) := by
  have one : ∀ (W : World) (j : Nat) (y : Value), W.grownBy (W.setCell ⟨g, j, none⟩ y) (some g) := fun W j y => ⟨rfl, rfl, rfl, by simp [World.setCell], fun k _ hk => Below.heap_setCell W _ y k (fun e => hk (by rw [e]))⟩
  have both : ∀ {a b c : World}, a.grownBy b (some g) → b.grownBy c (some g) → a.grownBy c (some g) := fun h k => h.andThen k (fun j e => .inr e)
  exact both (both (both (both (both (both (both (one _ _ _) (one _ _ _)) (one _ _ _)) (one _ _ _)) (one _ _ _)) (one _ _ _)) (one _ _ _)) (one _ _ _)
theorem row_of_key {w : World} {g : Nat} {t : TypeId} {q : List Int} (hq : q.length ≤ 8) (h : w.heap[g]? = some (.cells #[.int .i64 (q.getD 0 0), .int .i64 (q.getD 1 0), .int .i64 (q.getD 2 0), .int .i64 (q.getD 3 0), .int .i64 (q.getD 4 0), .int .i64 (q.getD 5 0), .int .i64 (q.getD 6 0), .int .i64 (q.getD 7 0)] t (0, 0))) :
    Kd.C (Kd.int .i64) w (some ⟨g, 0, none⟩) q.length q := by
  refine ⟨rfl, by omega, fun hp => ⟨_, rfl, fun j p hj => ⟨[.int .i64 p], rfl, rfl, fun i u hu => ?_⟩⟩⟩
  obtain ⟨hl, rfl⟩ := List.getElem?_eq_some_iff.1 hj
  have hi : i = 0 := by
    have := (List.getElem?_eq_some_iff.1 hu).1
    simpa using this
  subst hi
  obtain rfl := Option.some.inj hu
  show w.cell? (Addr.add ⟨g, 0, none⟩ (j * 1 + 0)) = _
  rw [add_at, Nat.zero_add, Nat.mul_one, Nat.add_zero, blk_cell h j, ← getD_at q 0 hl]
  rcases (by omega : j = 0 ∨ j = 1 ∨ j = 2 ∨ j = 3 ∨ j = 4 ∨ j = 5 ∨ j = 6 ∨ j = 7) with rfl | rfl | rfl | rfl | rfl | rfl | rfl | rfl <;> rfl

/-- A copy of the row that a key's first numbers make. -/
theorem clone_key {w0 : World} {g n : Nat} {q : List Int} {t : TypeId} (hq : q.length = n) (hn : n ≤ 8) (h : w0.heap[g]? = some (.cells #[.int .i64 0, .int .i64 0, .int .i64 0, .int .i64 0, .int .i64 0, .int .i64 0, .int .i64 0, .int .i64 0] t (0, 0))) :
    Calls Try.prog 57 #[.slice (some ⟨g, 0, none⟩) n 8] ((((((((w0.setCell ⟨g, 0, none⟩ (.int .i64 (q[0]?.getD 0))).setCell ⟨g, 1, none⟩ (.int .i64 (q[1]?.getD 0))).setCell ⟨g, 2, none⟩ (.int .i64 (q[2]?.getD 0))).setCell ⟨g, 3, none⟩ (.int .i64 (q[3]?.getD 0))).setCell ⟨g, 4, none⟩ (.int .i64 (q[4]?.getD 0))).setCell ⟨g, 5, none⟩ (.int .i64 (q[5]?.getD 0))).setCell ⟨g, 6, none⟩ (.int .i64 (q[6]?.getD 0))).setCell ⟨g, 7, none⟩ (.int .i64 (q[7]?.getD 0))) fun e w' => ∃ v : Value, e = .returned v ∧ Kd.R (Kd.int .i64) 3 w' w0.heap.size (fun _ => True) v q ∧ w0.grownBy w' (some g) := by
  subst hq
  have hp := put8 (y0 := .int .i64 (q[0]?.getD 0)) (y1 := .int .i64 (q[1]?.getD 0)) (y2 := .int .i64 (q[2]?.getD 0)) (y3 := .int .i64 (q[3]?.getD 0)) (y4 := .int .i64 (q[4]?.getD 0)) (y5 := .int .i64 (q[5]?.getD 0)) (y6 := .int .i64 (q[6]?.getD 0)) (y7 := .int .i64 (q[7]?.getD 0)) h
  have hk := kept8 (w := w0) (g := g) (y0 := .int .i64 (q[0]?.getD 0)) (y1 := .int .i64 (q[1]?.getD 0)) (y2 := .int .i64 (q[2]?.getD 0)) (y3 := .int .i64 (q[3]?.getD 0)) (y4 := .int .i64 (q[4]?.getD 0)) (y5 := .int .i64 (q[5]?.getD 0)) (y6 := .int .i64 (q[6]?.getD 0)) (y7 := .int .i64 (q[7]?.getD 0))
  simp only [← List.getD_eq_getElem?_getD] at hp hk ⊢
  refine (clone_Int.calls (some ⟨g, 0, none⟩) 8 q q _ (row_of_key hn hp) hn (by rw [clone_Int.f, if_pos (by omega)])).mono ?_
  rintro e w' ⟨v, rfl, hO, hB⟩
  exact ⟨v, rfl, Kd.R_lower hO hk.size, hk.andThen (grown_of_below hB (some g)) (fun j e => .inr e)⟩

set_option maxHeartbeats 8000000 in
set_option maxRecDepth 100000 in
theorem impl_FarthestBinding.calls (k : Nat) (a0 : Int) (r1 : List Int) (r2 : Int) (r3 : Bool) (w : World) (h : impl_FarthestBinding.f k a0 = some (r1, r2, r3)) :
    Calls Try.prog 47 #[.int .i64 a0] w fun e w' => ∃ v0_ : Value, e = .returned (.tuple #[v0_, .int .i64 r2, .bool r3]) ∧ Kd.R (Kd.int .i64) 3 w' w.heap.size (fun _ => True) v0_ r1 ∧ Below w.heap.size w w' := by
  unfold impl_FarthestBinding.f at h
  by_cases hc : 1 ≤ a0 ∧ a0 ≤ 5
  · rw [if_pos hc] at h
    obtain ⟨n, rfl⟩ := Int.eq_ofNat_of_zero_le (show 0 ≤ a0 by omega)
    rw [Int.toNat_natCast] at h
    obtain ⟨h1, h⟩ := Prod.mk.inj (Option.some.inj h)
    obtain ⟨h2, rfl⟩ := Prod.mk.inj h
    have H1 := Aside0.mk (And.intro h1 h2)
    have HN := Aside0.mk (show 1 ≤ n ∧ n ≤ 5 by omega)
    have HW := Aside0.mk (show impl_within.f (n : Int) 1 5 = some true by rw [within_eq]; unfold inB; rw [decide_eq_true (by omega)])
    have hn5 : n ≤ 5 := by omega
    have hn1 : 1 ≤ n := by omega
    clear h1 h2 hc h
    (try clear h)
    (try clear h)
    have hal : Try.prog.arrayLen 69 = 8 := by kernel_rfl
    have hu53 := Try.underlying69
    have hn8 : n ≤ 8 := by omega
    have hn8' : (n : Int) ≤ 8 := by omega
    go_enter Try.func47, Try.ntmps47
    go_wp2_with (first | (go_at_call 59; (with_reducible refine (impl_within.calls (n : Int) 1 5 true _ HW.out).mono ?_); rintro e w1 ⟨rfl, ⟨nd, rfl⟩⟩) | ((with_reducible refine gate_dst (N := 13) rfl ?_); refine Kd.R_lit (Kd.int .i64) _ 3 ?hg (N := 13) ?hd (xs := ([] : List Int)) (inner := []) (ok := fun _ => True) (okp := fun _ => True) ?hr ?hp (fun _ hk => hk) trivial (Below.refl _ _) (Nat.le_refl _) (by simp) ?_; (case hd => rfl); (case hg => rfl); (case hr => first | (go_simp; done) | (go_simp; rfl)); (case hp => exact (Reps.none _ _)); intro v5 w2 ho hb hg_ hnew_; clear hg_ hnew_; have HB2 := Aside0.mk (show Below w.heap.size w w2 from (pw_below_drewN (Below.refl w.heap.size w) nd).trans hb); have HO2 := Aside0.mk (show Kd.R (Kd.int .i64) 3 w2 w.heap.size (fun _ => True) v5 [] from ho); clear ho hb) | (go_at_call 75; (refine (distances_calls n HN.out.1 HN.out.2 _).mono ?_); rintro e w3 ⟨B, rfl, hB, hF, hb⟩; have HFA := Aside0.mk hF; have HB3 := Aside0.mk (below_step HB2.out hb); have HO3 := Aside0.mk (show Kd.R (Kd.int .i64) 3 w3 w.heap.size (fun k => k ≠ B) v5 [] from Kd.R_below (Kd.R_mono (Kd.R_bound HO2.out) (fun k hk => by have := hk.2.2.1; omega)) hb); clear hF hb hB HO2) | ((with_reducible refine gate_dst (N := 16) rfl ?_); refine far_range rfl (.tmp 15) rfl (by rfl) HFA.out (n := n) (by have := HN.out; omega) (dist_all _).1.bd (dist_all _).1.nd ?_; intro r w4 hr hI hb; have HI := Aside0.mk hI; have HB4 := Aside0.mk (below_step HB3.out hb); have HR := Aside0.mk (show w.heap.size ≤ r from by rw [hr]; exact HB3.out.size); have HO := Aside0.mk (show Kd.R (Kd.int .i64) 3 w4 w.heap.size (fun k => k ≠ B ∧ k ≠ r) v5 [] from Kd.R_below (Kd.R_mono (Kd.R_bound HO3.out) (fun k hk => ⟨hk.1, by have := hk.2.2.1; omega⟩)) hb); clear hr hI hb HO3))
    go_frame
    go_loopg [5, 6] (distO n).length (fun kq v5 v6 w' => ∃ (rem : Out) (b : List Int) (m : Int), v6 = .int .i64 m ∧ Aside0 (Bst (distO n) rem b m ∧ rem.length ≤ kq) ∧ Aside0 (Kd.R (Kd.int .i64) 3 w' w.heap.size (fun k => k ≠ B ∧ k ≠ r) v5 b) ∧ Aside0 (FarIter w' B r (distO n) rem) ∧ Aside0 (Below w.heap.size w w'))
    case atStart => exact ⟨distO n, [], -1, rfl, ⟨Bst.start _, Nat.le_refl _⟩, HO, HI, HB4⟩
    case round =>
      clear HI HB4 HO HB3 HB2 HFA
      obtain ⟨rem, b, m, rfl, HC, HO, HI, HB3⟩ := hrel
      obtain ⟨Ab, cb, eb⟩ := Kd.R_slice HO.out
      subst eb
      by_cases hr : rem = []
      · have HRM := Aside0.mk hr
        clear hr
        go_wp2_with ((with_reducible refine gate_dst (N := 17) rfl ?_); refine far_next rfl (.tmp 16) rfl (by rfl) HI.out (n := n) (by have := HN.out; omega) (dist_all _).1.bd (dist_all _).1.nd (fun _ => ?_) (fun q d rem' w' hp => absurd hp (by rw [HRM.out]; exact fun h => List.cons_ne_nil _ _ (List.nil_perm.1 h))))
        go_ret3
        have hB := farB_is (dist_all n).1 (by have := HC.out.1; rw [HRM.out] at this; exact this)
        have h1 := H1.out
        obtain ⟨rfl, rfl⟩ := hB
        rw [h1.1, h1.2] at *
        exact ⟨_, rfl, Kd.R_mono HO.out (fun _ _ => trivial), HB3.out⟩
      · have HRM := Aside0.mk hr
        clear hr
        go_wp2_with (first | ((with_reducible refine gate_dst (N := 17) rfl ?_); refine far_next rfl (.tmp 16) rfl (by rfl) HI.out (n := n) (by have := HN.out; omega) (dist_all _).1.bd (dist_all _).1.nd (fun h => absurd h HRM.out) ?_; intro q d rem' w4 hp hm hI hg hsz hen; have HP := Aside0.mk hp; have HM := Aside0.mk hm; have HI4 := Aside0.mk hI; have HB4 := Aside0.mk (show Below w.heap.size w w4 from pw_below_grown HB3.out (some r) HB3.out.size hg (fun k e => by injection e with e; rw [← e]; exact HR.out)); have HO4 := Aside0.mk (Kd.R_grown HO.out hg (fun k hk e => hk.2 (Option.some.inj e))); clear hp hm hI hg hsz; unfold keyV at hen) | ((with_reducible refine gate_dst (N := 7) rfl ?_); refine box_event ?hg (N := 7) ?hd (cs := #[.int .i64 0, .int .i64 0, .int .i64 0, .int .i64 0, .int .i64 0, .int .i64 0, .int .i64 0, .int .i64 0]) (t := 69) ?hr ?_; (case hd => rfl); (case hg => rfl); (case hr => first | (go_simp; done) | (go_simp; rfl)); intro g hg w5 hbox hb; have BK5 := Aside0.mk hbox; have HI5 := Aside0.mk (HI4.out.below hb); have HB5 := Aside0.mk (below_step HB4.out hb); have GE := Aside0.mk (show w.heap.size ≤ g from by rw [hg]; exact HB4.out.size); have GB := Aside0.mk (show g ≠ B ∧ g ≠ r from ⟨by have := HI4.out.owns.lt; omega, by have := HI4.out.lt; omega⟩); have HO5 := Aside0.mk (show Kd.R (Kd.int .i64) 3 w5 w.heap.size (fun k => k ≠ g ∧ k ≠ B ∧ k ≠ r) (.slice Ab b.length cb) b from Kd.R_below (Kd.R_mono (Kd.R_bound HO4.out) (fun k hk => ⟨by have := hk.2.2.1; omega, hk.1⟩)) hb); clear hbox hb hg HI4 HO4; have q0 : w5.cell? ⟨g, 0, none⟩ = some (.int .i64 0) := (blk_cell BK5.out 0).trans rfl; have q1 : w5.cell? ⟨g, 1, none⟩ = some (.int .i64 0) := (blk_cell BK5.out 1).trans rfl; have q2 : w5.cell? ⟨g, 2, none⟩ = some (.int .i64 0) := (blk_cell BK5.out 2).trans rfl; have q3 : w5.cell? ⟨g, 3, none⟩ = some (.int .i64 0) := (blk_cell BK5.out 3).trans rfl; have q4 : w5.cell? ⟨g, 4, none⟩ = some (.int .i64 0) := (blk_cell BK5.out 4).trans rfl; have q5 : w5.cell? ⟨g, 5, none⟩ = some (.int .i64 0) := (blk_cell BK5.out 5).trans rfl; have q6 : w5.cell? ⟨g, 6, none⟩ = some (.int .i64 0) := (blk_cell BK5.out 6).trans rfl; have q7 : w5.cell? ⟨g, 7, none⟩ = some (.int .i64 0) := (blk_cell BK5.out 7).trans rfl; have z0 := blk_frozen BK5.out 0; have z1 := blk_frozen BK5.out 1; have z2 := blk_frozen BK5.out 2; have z3 := blk_frozen BK5.out 3; have z4 := blk_frozen BK5.out 4; have z5 := blk_frozen BK5.out 5; have z6 := blk_frozen BK5.out 6; have z7 := blk_frozen BK5.out 7))
        refine (clone_key (show q.length = n from ((dist_all n).1.bd _ HM.out).1) hn8 BK5.out).mono ?_
        rintro e w6 ⟨v, rfl, hO, hG⟩
        obtain ⟨Aq, cq, ev⟩ := Kd.R_slice hO
        subst ev
        have HQ := Aside0.mk (Kd.R_lower (Kd.R_mono (Kd.R_bound hO) (ok' := fun k => k ≠ g ∧ k ≠ B ∧ k ≠ r) (fun k hk => ⟨by have := (blk_lt BK5.out); have := hk.2.1; omega, by have := HI5.out.owns.lt; have := hk.2.1; omega, by have := HI5.out.lt; have := hk.2.1; omega⟩)) HB5.out.size)
        have HO6 := Aside0.mk (Kd.R_grown HO5.out hG (fun k hk e => hk.1 (Option.some.inj e)))
        have HB6 := Aside0.mk (pw_below_grown HB5.out (some g) HB5.out.size hG (fun k e => by injection e with e; rw [← e]; exact GE.out))
        have HI6 := Aside0.mk (HI5.out.kept hG (fun e => GB.out.1 (Option.some.inj e).symm) (fun e => GB.out.2 (Option.some.inj e).symm))
        clear hO hG q0 q1 q2 q3 q4 q5 q6 q7 z0 z1 z2 z3 z4 z5 z6 z7 BK5 HO5 HI5 HB5 HB4 HO HB3
        rcases Int.lt_trichotomy d m with h0 | h0 | h0
        · have e1 : decide (m < d) = false := decide_eq_false (by omega)
          have e2 : decide (d = m) = false := decide_eq_false (by omega)
          have e3 : (d == m) = false := beq_false_of_ne (by omega)
          have HD := Aside0.mk h0
          clear h0 hen
          go_wp2
          go_roundg (gk - 1)
          case measure => have h := HC.out.2; have h2 := HP.out.length_eq; rw [List.length_cons] at h2; omega
          case rel => exact ⟨rem', b, m, rfl, ⟨HC.out.1.pass HP.out (.inl HD.out), by have h := HC.out.2; have h2 := HP.out.length_eq; rw [List.length_cons] at h2; omega⟩, ⟨Kd.R_mono HO6.out (fun _ h => h.2)⟩, HI6, HB6⟩
        · have HQL := Aside0.mk (show q.length = n from ((dist_all n).1.bd _ HM.out).1)
          have HBL := Aside0.mk (show b.length = n from by
            rcases HC.out.1.1 with ⟨_, h1⟩ | h1
            · have := (dist_all n).1.nn _ HM.out
              simp only at this
              omega
            · exact ((dist_all n).1.bd _ h1).1)
          obtain ⟨fl, hfl0⟩ := compare_ev q b (by rw [HQL.out, HBL.out]) (by have := HN.out; have := HQL.out; omega)
          have hfl := hfl0 fl (Nat.le_refl _)
          clear hfl0
          have HFL := Aside0.mk (hfl)
          have e1 : decide (m < d) = false := decide_eq_false (by omega)
          have e2 : decide (d = m) = true := decide_eq_true h0
          have e3 : (d == m) = true := beq_iff_eq.2 h0
          have HD := Aside0.mk h0
          clear h0 hen hfl
          rcases hlx : lexlt q b with _ | _
          · have e4 : decide (cmpR q b < 0) = false := decide_eq_false (fun h => by rw [(cmpR_lt q b (by rw [HQL.out, HBL.out])).1 h] at hlx; cases hlx)
            have HX := Aside0.mk hlx
            clear hlx
            go_wp2_with (go_at_call 90; (with_reducible refine (slices_Compare_int_int.calls fl _ _ q _ _ b (cmpR q b) _ ?side1 ?side2 ?side3 ?side4 HFL.out).mono ?_); (case side1 => exact (Kd.R_reads' HQ.out).2.2); (case side2 => exact (Kd.R_reads' HQ.out).2.1); (case side3 => exact (Kd.R_reads' HO6.out).2.2); (case side4 => exact (Kd.R_reads' HO6.out).2.1); rintro e w7 ⟨rfl, ⟨nd, rfl⟩⟩)
            have HD6 := Aside0.mk (pw_below_drewN (Below.refl w6.heap.size w6) nd)
            go_roundg (gk - 1)
            case measure => have h := HC.out.2; have h2 := HP.out.length_eq; rw [List.length_cons] at h2; omega
            case rel => exact ⟨rem', b, m, rfl, ⟨HC.out.1.pass HP.out (.inr ⟨HD.out, HX.out⟩), by have h := HC.out.2; have h2 := HP.out.length_eq; rw [List.length_cons] at h2; omega⟩, ⟨Kd.R_below (Kd.R_mono HO6.out (fun _ h => h.2)) HD6.out⟩, ⟨HI6.out.below HD6.out⟩, ⟨below_step HB6.out HD6.out⟩⟩
          · have e4 : decide (cmpR q b < 0) = true := decide_eq_true ((cmpR_lt q b (by rw [HQL.out, HBL.out])).2 hlx)
            have HX := Aside0.mk hlx
            clear hlx
            go_wp2_with (go_at_call 90; (with_reducible refine (slices_Compare_int_int.calls fl _ _ q _ _ b (cmpR q b) _ ?side1 ?side2 ?side3 ?side4 HFL.out).mono ?_); (case side1 => exact (Kd.R_reads' HQ.out).2.2); (case side2 => exact (Kd.R_reads' HQ.out).2.1); (case side3 => exact (Kd.R_reads' HO6.out).2.2); (case side4 => exact (Kd.R_reads' HO6.out).2.1); rintro e w7 ⟨rfl, ⟨nd, rfl⟩⟩)
            have HD6 := Aside0.mk (pw_below_drewN (Below.refl w6.heap.size w6) nd)
            go_roundg (gk - 1)
            case measure => have h := HC.out.2; have h2 := HP.out.length_eq; rw [List.length_cons] at h2; omega
            case rel => exact ⟨rem', q, d, rfl, ⟨HC.out.1.take HP.out HM.out (.inr ⟨HD.out, HX.out⟩), by have h := HC.out.2; have h2 := HP.out.length_eq; rw [List.length_cons] at h2; omega⟩, ⟨Kd.R_below (Kd.R_mono HQ.out (fun _ h => h.2)) HD6.out⟩, ⟨HI6.out.below HD6.out⟩, ⟨below_step HB6.out HD6.out⟩⟩
        · have e1 : decide (m < d) = true := decide_eq_true (by omega)
          have HD := Aside0.mk h0
          clear h0 hen
          go_wp2
          go_roundg (gk - 1)
          case measure => have h := HC.out.2; have h2 := HP.out.length_eq; rw [List.length_cons] at h2; omega
          case rel => exact ⟨rem', q, d, rfl, ⟨HC.out.1.take HP.out HM.out (.inl HD.out), by have h := HC.out.2; have h2 := HP.out.length_eq; rw [List.length_cons] at h2; omega⟩, ⟨Kd.R_mono HQ.out (fun _ h => h.2)⟩, HI6, HB6⟩
  · rw [if_neg hc] at h
    obtain ⟨rfl, h1⟩ := Prod.mk.inj (Option.some.inj h)
    obtain ⟨rfl, rfl⟩ := Prod.mk.inj h1
    have HW := Aside0.mk (show impl_within.f a0 1 5 = some false by rw [within_eq]; unfold inB; rw [decide_eq_false hc])
    clear hc h
    go_enter Try.func47, Try.ntmps47
    go_wp2_with (go_at_call 59; (with_reducible refine (impl_within.calls a0 1 5 false _ HW.out).mono ?_); rintro e w1 ⟨rfl, ⟨nd, rfl⟩⟩)
    go_ret3
    exact ⟨_, rfl, Kd.R_nil _ _ _ _ _, pw_below_drewN (Below.refl w.heap.size w) nd⟩
end Go.Proofs.Ytppbpefehpbejaa.P
end

section
namespace Go.Proofs.Ytppbpefehpbejaa.P
open Go.RowKit Go.Proofs.YtppbpefehpbejaaW.PrintWords Go.Proofs.YtppbpefehpbejaaW.PrintLast Go.Proofs.YtppbpefehpbejaaW.PrintMore Go.Proofs.Ytppbpefehpbejaa.Base Go.Proofs.Ytppbpefehpbejaa.Order Go.Proofs.Ytppbpefehpbejaa.Far
set_option linter.unusedVariables false
set_option linter.unusedSimpArgs false

def impl_FewestTurns.f (k : Nat) (l0 : List Int) : Option (Int × Bool) := (impl_isFew.f k l0).bind fun t => if t = true then (if bindS l0 = true ∧ l0.length ≤ 5 then some (((distO l0.length).lookup l0).getD 0, true) else none) else some (0, false)
set_option maxHeartbeats 4000000 in
set_option maxRecDepth 100000 in
theorem impl_FewestTurns.calls (k : Nat) (A0 : Option Addr) (c0 : Nat) (l0 : List Int) (r1 : Int) (r2 : Bool) (w : World) (hr0 : Kd.C (Kd.int .i64) w A0 l0.length l0) (hc0 : l0.length ≤ c0) (h : impl_FewestTurns.f k l0 = some (r1, r2)) :
    Calls Try.prog 33 #[.slice A0 l0.length c0] w fun e w' => e = .returned (.tuple #[.int .i64 r1, .bool r2]) ∧ Below w.heap.size w w' := by
  have HR0 := Aside0.mk hr0
  have HC0 := Aside0.mk hc0
  clear hr0 hc0
  obtain ⟨b, hb, h⟩ := Option.bind_eq_some_iff.1 h
  have HF := Aside0.mk hb
  clear hb
  cases b with
  | false =>
    rw [if_neg (by decide)] at h
    obtain ⟨rfl, rfl⟩ := Prod.mk.inj (Option.some.inj h)
    clear h
    go_enter Try.func33, Try.ntmps33
    go_wp2_with (go_at_call 74; (with_reducible refine (impl_isFew.calls k A0 c0 l0 false _ HR0.out HC0.out HF.out).mono ?_); rintro e w1 ⟨rfl, hb⟩; have HB := Aside0.mk hb; clear hb)
    go_ret2
    exact ⟨rfl, HB.out⟩
  | true =>
    rw [if_pos rfl] at h
    by_cases hc : bindS l0 = true ∧ l0.length ≤ 5
    · rw [if_pos hc] at h
      obtain ⟨h1, rfl⟩ := Prod.mk.inj (Option.some.inj h)
      have H1 := Aside0.mk h1
      have HB0 := Aside0.mk (And.intro ((bd_iff l0).1 hc.1) hc.2)
      clear h h1 hc
      go_enter Try.func33, Try.ntmps33
      go_wp2_with (first | (go_at_call 74; (with_reducible refine (impl_isFew.calls k A0 c0 l0 true _ HR0.out HC0.out HF.out).mono ?_); rintro e w1 ⟨rfl, hb⟩; have HB := Aside0.mk hb; clear hb) | (go_at_call 75; (refine (distances_calls l0.length HB0.out.1.2.1 HB0.out.2 _).mono ?_); rintro e w2 ⟨B, rfl, _, hF, hb⟩; have HFA := Aside0.mk hF; have HB2 := Aside0.mk (below_step HB.out hb); clear hF hb) | (go_at_call 76; (refine (keyOf_calls A0 c0 l0 _ (Kd.C_below HR0.out HB2.out) (by have := HB0.out.2; omega)).mono ?_); rintro e w3 ⟨rfl, hb⟩; have HFB := Aside0.mk (HFA.out.below hb); have HB3 := Aside0.mk (below_step HB2.out hb); clear hb) | ((with_reducible refine gate_dst (N := 12) rfl ?_); refine far_look rfl (.tmp 9) (.tmp 11) rfl (n := l0.length) (l := l0) (by rfl) (by rfl) HFB.out (by have := HB0.out.2; omega) (dist_all _).1.bd (dist_all _).1.nd HB0.out.1.1 ?_; rw [H1.out]))
      go_ret2
      exact ⟨rfl, HB3.out⟩
    · rw [if_neg hc] at h
      cases h
end Go.Proofs.Ytppbpefehpbejaa.P
end

section
namespace Go.Proofs.Ytppbpefehpbejaa.P
open Go.RowKit Go.Proofs.YtppbpefehpbejaaW.PrintWords Go.Proofs.YtppbpefehpbejaaW.PrintLast Go.Proofs.YtppbpefehpbejaaW.PrintMore Go.Proofs.Ytppbpefehpbejaa.Base Go.Proofs.Ytppbpefehpbejaa.Order Go.Proofs.Ytppbpefehpbejaa.Far
set_option linter.unusedVariables false
set_option linter.unusedSimpArgs false

def impl_FirstTurns.f (k : Nat) (l0 : List Int) : Option (List (List Int) × Bool) := (impl_isFew.f k l0).bind fun t => if t = true then (if bindS l0 = true ∧ l0.length ≤ 5 then some (path l0.length (distO l0.length) (((distO l0.length).lookup l0).getD 0).toNat l0, true) else none) else some ([], false)
set_option maxHeartbeats 8000000 in
set_option maxRecDepth 100000 in
theorem impl_FirstTurns.calls (k : Nat) (A0 : Option Addr) (c0 : Nat) (l0 : List Int) (r1 : List (List Int)) (r2 : Bool) (w : World) (hr0 : Kd.C (Kd.int .i64) w A0 l0.length l0) (hc0 : l0.length ≤ c0) (h : impl_FirstTurns.f k l0 = some (r1, r2)) :
    Calls Try.prog 31 #[.slice A0 l0.length c0] w fun e w' => ∃ v0_ : Value, e = .returned (.tuple #[v0_, .bool r2]) ∧ Kd.S (Kd.slice 3 (Kd.int .i64)) 24 w' w.heap.size (fun _ => True) v0_ r1 ∧ Below w.heap.size w w' := by
  have HR0 := Aside0.mk hr0
  have HC0 := Aside0.mk hc0
  clear hr0 hc0
  obtain ⟨b, hb, h⟩ := Option.bind_eq_some_iff.1 h
  have HF := Aside0.mk hb
  clear hb
  cases b with
  | false =>
    rw [if_neg (by decide)] at h
    obtain ⟨rfl, rfl⟩ := Prod.mk.inj (Option.some.inj h)
    clear h
    go_enter Try.func31, Try.ntmps31
    go_wp2_with (go_at_call 74; (with_reducible refine (impl_isFew.calls k A0 c0 l0 false _ HR0.out HC0.out HF.out).mono ?_); rintro e w1 ⟨rfl, hb⟩; have HB := Aside0.mk hb; clear hb)
    go_ret2
    exact ⟨_, rfl, Kd.S_nil _ _ _ _ _, HB.out⟩
  | true =>
    rw [if_pos rfl] at h
    by_cases hc : bindS l0 = true ∧ l0.length ≤ 5
    · rw [if_pos hc] at h
      obtain ⟨h1, rfl⟩ := Prod.mk.inj (Option.some.inj h)
      have HB0 := Aside0.mk (And.intro ((bd_iff l0).1 hc.1) hc.2)
      obtain ⟨v, hv⟩ : ∃ v : Nat, (distO l0.length).lookup l0 = some (v : Int) := by
        obtain ⟨v, h2, h3⟩ := (dist_all l0.length).1.all l0 HB0.out.1.1
        exact ⟨v.toNat, by rw [h2]; congr 1; omega⟩
      have hlv : ((distO l0.length).lookup l0).getD 0 = (v : Int) := by rw [hv]; rfl
      rw [hlv, Int.toNat_natCast] at h1
      have H1 := Aside0.mk h1
      have HV := Aside0.mk hv
      have HLV := Aside0.mk hlv
      have HCL := Aside0.mk (show clone_Int.f l0 = some l0 by rw [clone_Int.f, if_pos (by have := HB0.out.2; omega)])
      clear h h1 hc hv hlv
      obtain ⟨n, hn⟩ : ∃ n, n = l0.length := ⟨_, rfl⟩
      have HN := Aside0.mk hn
      go_enter Try.func31, Try.ntmps31
      go_wp2_with (first | (go_at_call 74; (with_reducible refine (impl_isFew.calls k A0 c0 l0 true _ HR0.out HC0.out HF.out).mono ?_); rintro e w1 ⟨rfl, hb⟩; have HB1 := Aside0.mk hb; clear hb) | ((with_reducible refine gate_dst (N := 13) rfl ?_); refine Kd.S_lit (Kd.slice 3 (Kd.int .i64)) _ 24 ?hg (N := 13) ?hd (xs := ([] : List (List Int))) (inner := []) (ok := fun _ => True) (okp := fun _ => True) ?hr ?hp (fun _ hk => hk) trivial (Below.refl _ _) (Nat.le_refl _) (by simp) ?_; (case hd => rfl); (case hg => rfl); (case hr => first | (go_simp; done) | (go_simp; rfl)); (case hp => exact (Reps.none _ _)); intro v4 w2 ho hb hg_ hnew_; clear hg_ hnew_; have HO2 := Aside0.mk (Kd.S_lower ho HB1.out.size); have HB2 := Aside0.mk (below_step HB1.out hb); clear ho hb) | (go_at_call 75; (refine (distances_calls l0.length HB0.out.1.2.1 HB0.out.2 _).mono ?_); rintro e w3 ⟨B, rfl, hB, hF, hb⟩; have HFA := Aside0.mk hF; have HB3 := Aside0.mk (below_step HB2.out hb); have HO3 := Aside0.mk (show Kd.S (Kd.slice 3 (Kd.int .i64)) 24 w3 w.heap.size (fun k => k ≠ B) v4 [] from Kd.S_below (Kd.S_mono (Kd.S_bound HO2.out) (fun k hk => by have := hk.2.2.1; omega)) hb); clear hF hb hB HO2) | (go_at_call 57; (refine (clone_Int.calls A0 c0 l0 l0 _ (Kd.C_below HR0.out HB3.out) HC0.out HCL.out).mono ?_); rintro e w4 ⟨v6, rfl, ho, hb⟩; have HFB := Aside0.mk (HFA.out.below hb); have HB4 := Aside0.mk (below_step HB3.out hb); have HO4 := Aside0.mk (Kd.S_below HO3.out hb); have HQ4 := Aside0.mk (Kd.R_lower (Kd.R_mono (Kd.R_bound ho) (ok' := fun k => k ≠ B) (fun k hk => by have := hk.2.1; have := HFA.out.lt; omega)) HB3.out.size); clear ho hb HO3; obtain ⟨A6, c6, e6⟩ := Kd.R_slice HQ4.out; subst e6) | (go_at_call 76; (refine (keyOf_calls A6 c6 l0 _ (Kd.R_reads' HQ4.out).2.2 (by have := HB0.out.2; omega)).mono ?_); rintro e w5 ⟨rfl, hb⟩; have HFC := Aside0.mk (HFB.out.below hb); have HB5 := Aside0.mk (below_step HB4.out hb); have HO5 := Aside0.mk (Kd.S_below HO4.out hb); have HQ5 := Aside0.mk (Kd.R_below HQ4.out hb); clear hb HO4 HQ4) | ((with_reducible refine gate_dst (N := 22) rfl ?_); refine far_look rfl (.tmp 19) (.tmp 21) rfl (n := l0.length) (l := l0) (by rfl) (by rfl) HFC.out (by have := HB0.out.2; omega) (dist_all _).1.bd (dist_all _).1.nd HB0.out.1.1 ?_; rw [HLV.out]))
      go_loopg [4, 6, 7] v (fun kq v4 v6 v7 w' => ∃ (done : List (List Int)) (q : List Int) (d : Nat) (m : Int), v7 = .int .i64 m ∧ Aside0 (m = (d : Int) ∧ d ≤ kq ∧ d ≤ 20000000 ∧ done ++ path l0.length (distO l0.length) d q = r1 ∧ v ≤ 20000000 ∧ done.length + d = v) ∧ Aside0 (Bd l0.length q ∧ (distO l0.length).lookup q = some (d : Int)) ∧ Aside0 (Kd.S (Kd.slice 3 (Kd.int .i64)) 24 w' w.heap.size (fun k => k ≠ B) v4 done) ∧ Aside0 (Kd.R (Kd.int .i64) 3 w' w.heap.size (fun k => k ≠ B) v6 q) ∧ Aside0 (FarAt w' B (distO l0.length)) ∧ Aside0 (Below w.heap.size w w'))
      case atStart => exact ⟨[], l0, v, v, rfl, ⟨rfl, Nat.le_refl _, by have h8 := dist_le HV.out; have h9 := allOf_le (m := l0.length) (by have := HB0.out.2; omega); omega, H1.out, by have h8 := dist_le HV.out; have h9 := allOf_le (m := l0.length) (by have := HB0.out.2; omega); omega, Nat.zero_add _⟩, ⟨HB0.out.1.1, HV.out⟩, HO5, HQ5, HFC, HB5⟩
      case round =>
        clear HO5 HQ5 HFC HB5 HB1 HB2 HB3 HB4 HFA HFB
        obtain ⟨done, q, d, m, rfl, HC, HQB, HO, HQ, HFT, HB⟩ := hrel
        obtain ⟨A6, c6, e6⟩ := Kd.R_slice HQ.out
        subst e6
        cases d with
        | zero =>
          have hc : decide (0 < m) = false := decide_eq_false (by have := HC.out.1; omega)
          go_wp2
          go_ret2
          have h := HC.out.2.2.2.1
          rw [path, List.append_nil] at h
          subst h
          exact ⟨_, rfl, Kd.S_mono HO.out (fun _ _ => trivial), HB.out⟩
        | succ d =>
          have hc : decide (0 < m) = true := decide_eq_true (by have := HC.out.1; omega)
          obtain ⟨p, hp1, hp2, hp3, hp4⟩ := (dist_all l0.length).1.pick HQB.out.2 (by omega)
          have HP := Aside0.mk (And.intro hp1 (And.intro hp2 (And.intro hp3 hp4)))
          clear hp1 hp2 hp3 hp4
          go_wp2
          go_loopg [8, 9] (pairs l0.length).length (fun kq v8 v9 w' => ∃ (f t : Nat), v8 = .int .i64 (f : Int) ∧ v9 = .int .i64 (t : Int) ∧ Aside0 (f ≤ t ∧ t < l0.length ∧ (restOf l0.length f t).find? (fun p => (distO l0.length).lookup (turn q p.1 p.2) == some (((d + 1 : Nat) : Int) - 1)) = some p ∧ (restOf l0.length f t).length ≤ kq) ∧ Aside0 (Below wr.heap.size wr w'))
          case atStart =>
            have h1 := HB0.out.1.2.1
            have h2 : pairs l0.length = restOf l0.length 0 0 := by rw [pairs_rows, rows_rest (by omega)]
            exact ⟨0, 0, rfl, rfl, ⟨Nat.le_refl _, by omega, by rw [← h2]; exact HP.out.1, by rw [← h2]; exact Nat.le_refl _⟩, ⟨Below.refl _ _⟩⟩
          case round =>
            obtain ⟨f, t, rfl, rfl, HK, HI⟩ := hrel
            have HTB := Aside0.mk (turn_bd HQB.out.1 HK.out.1 HK.out.2.1)
            obtain ⟨K2, hK2⟩ := Ev_at (turned_ev HQB.out.1 (by have := HB0.out.2; omega) f t HK.out.1 HK.out.2.1)
            have HT := Aside0.mk (hK2 K2 (Nat.le_refl _))
            obtain ⟨u, hu, _⟩ := (dist_all l0.length).1.all _ HTB.out
            have HU := Aside0.mk (show (distO l0.length).lookup (turn q f t) = some u ∧ ((distO l0.length).lookup (turn q f t)).getD 0 = u from ⟨hu, by rw [hu]; rfl⟩)
            have hw : wrap64 (m - 1) = (d : Int) := by rw [HC.out.1, w64 (by omega) (by have := HC.out.2.2.1; omega)]; omega
            clear hK2 hu
            by_cases hq : u = (d : Int)
            · have e1 : decide (u = (d : Int)) = true := decide_eq_true hq
              have e2 : (u != (d : Int)) = false := by rw [hq]; simp
              have e3 : (u == (d : Int)) = true := beq_iff_eq.2 hq
              have HUQ := Aside0.mk hq
              clear hq
              have HW := Aside0.mk hw
              go_wp2_with (first | (go_at_call 77; (refine (impl_turned.calls K2 A6 c6 q (f : Int) (t : Int) (turn q f t) _ (Kd.C_below (Kd.R_reads' HQ.out).2.2 HI.out) (Kd.R_reads' HQ.out).2.1 HT.out).mono ?_); rintro e w8 ⟨v8, rfl, ho, hb⟩; have HO8 := Aside0.mk ho; have HI8 := Aside0.mk (below_step HI.out hb); clear ho hb HI; obtain ⟨A8, c8, e8⟩ := Kd.R_slice HO8.out; subst e8) | (go_at_call 76; (refine (keyOf_calls A8 c8 (turn q f t) _ (Kd.R_reads' HO8.out).2.2 (by have := HB0.out.2; have := HTB.out.1; omega)).mono ?_); rintro e w9 ⟨rfl, hb⟩; have HI9 := Aside0.mk (below_step HI8.out hb); have HF9 := Aside0.mk (HFT.out.below (below_step HI8.out hb)); clear hb HI8 HO8) | ((with_reducible refine gate_dst (N := 33) rfl ?_); refine far_look rfl (.tmp 27) (.tmp 32) rfl (n := l0.length) (l := turn q f t) (by rfl) (by rfl) HF9.out (by have := HB0.out.2; omega) (dist_all _).1.bd (dist_all _).1.nd HTB.out ?_; rw [HU.out.2]) | ((with_reducible refine gate_dst (N := 49) rfl ?_); refine Kd.R_lit (Kd.int .i64) _ 3 ?hg (N := 49) ?hd (xs := ([(f : Int), (t : Int)] : List Int)) (inner := [.int .i64 (f : Int), .int .i64 (t : Int)]) (ok := fun _ => True) (okp := fun _ => True) ?hr ?hp (fun _ hk => hk) trivial (Below.refl _ _) (Nat.le_refl _) (by simp) ?_; (case hd => rfl); (case hg => rfl); (case hr => first | (go_simp; done) | (go_simp; rfl)); (case hp => exact (Reps.one (show Kd.M (Kd.int .i64) _ _ _ (f : Int) [.int .i64 (f : Int)] from rfl) (Reps.one (show Kd.M (Kd.int .i64) _ _ _ (t : Int) [.int .i64 (t : Int)] from rfl) (Reps.none _ _)))); intro v49 w10 ho hb hg_ hnew_; clear hg_ hnew_; have HO10 := Aside0.mk (Kd.S_elder' (Kd.S_below HO.out HI9.out) (Kd.R_base ho) hb); have HQ10 := Aside0.mk (Kd.R_below (Kd.R_below HQ.out HI9.out) hb); have HF10 := Aside0.mk (HF9.out.below hb); have HB10 := Aside0.mk (below_step (below_step HB.out HI9.out) hb); have HE10 := Aside0.mk (Kd.R_lower (Kd.R_mono (Kd.R_bound ho) (ok' := fun k => k ≠ B) (fun k hk => by have := hk.2.1; have := HF9.out.lt; omega)) (below_step HB.out HI9.out).size); clear ho hb; obtain ⟨A49, c49, e49⟩ := Kd.R_slice HE10.out; subst e49) | ((with_reducible refine gate_builtin (b := .append) (xs := #[.tmp 46, .tmp 50]) rfl ?_); at_builtin; refine Kd.S_append (Kd.slice 3 (Kd.int .i64)) (w0 := w) w.heap.size rfl (.tmp 46) (.tmp 50) 41 24 (.slice none 0 0) 24 rfl Try.underlying41 (by kernel_rfl) rfl (by decide) (by omega) u4 done [(f : Int), (t : Int)] [.slice A49 [(f : Int), (t : Int)].length c49] (fun k => k ≠ B) (fun k_ => some k_ = (.slice A49 [(f : Int), (t : Int)].length c49 : Value).ownBlock) rfl rfl ?aP ?aQ ?aF ?aO ?aB ?aS ?aL ?_; (case aP => exact Kd.M_row (Kd.R_mono (Kd.R_tight rfl HE10.out) (fun _ h_ => h_))); (case aQ => exact (fun k_ hk_ => ⟨HE10.out.1 k_ hk_.symm, (Kd.R_apart' HE10.out (Kd.S_typed HO10.out) (by decide)).1 k_ hk_.symm |>.2⟩)); (case aF => exact (fun k hk => by have := HF10.out.lt; omega)); (case aO => exact Kd.S_mono HO10.out (fun k_ hk => ⟨hk.1, fun e_ => hk.2 e_⟩)); (case aB => exact HB10.out); (case aS => exact HB10.out.size); (case aL => have := HC.out.2.2.2.2; omega); intro v51 w11 ho hb hg hat; have HO11 := Aside0.mk ho; have HB11 := Aside0.mk hb; have HQ11 := Aside0.mk (Kd.R_over' HQ10.out (Kd.S_typed HO10.out) (by decide) hg); have HF11 := Aside0.mk (HF10.out.kept hg (Kd.S_away HO10.out (fun k hk => hk.1))); clear ho hb hg hat) | (go_at_call 77; (refine (impl_turned.calls K2 A6 c6 q (f : Int) (t : Int) (turn q f t) _ (Kd.R_reads' HQ11.out).2.2 (Kd.R_reads' HQ11.out).2.1 HT.out).mono ?_); rintro e w12 ⟨v55, rfl, ho, hb⟩; have HQ12 := Aside0.mk (Kd.R_lower (Kd.R_mono (Kd.R_bound ho) (ok' := fun k => k ≠ B) (fun k hk => by have := hk.2.1; have := HF11.out.lt; omega)) HB11.out.size); have HO12 := Aside0.mk (Kd.S_below HO11.out hb); have HF12 := Aside0.mk (HF11.out.below hb); have HB12 := Aside0.mk (below_step HB11.out hb); clear ho hb HQ11 HO11 HF11 HB11))
              go_roundg d
              case measure => have := HC.out.2.1; omega
              case rel =>
                have h := HK.out.2.2.1
                rw [rest_cons HK.out.2.1, List.find?_cons_of_pos (by rw [HU.out.1, HUQ.out]; simp)] at h
                have hpp : p = (f, t) := (Option.some.inj h).symm
                have hpath : path l0.length (distO l0.length) (d + 1) q = [(f : Int), (t : Int)] :: path l0.length (distO l0.length) d (turn q f t) := by
                  rw [path, HP.out.1, hpp]
                have h2 := HC.out.2.2.2.1
                rw [hpath] at h2
                exact ⟨done ++ [[(f : Int), (t : Int)]], turn q f t, d, _, rfl, ⟨HW.out, Nat.le_refl _, by have := HC.out.2.2.1; omega, by rw [List.append_assoc]; exact h2, HC.out.2.2.2.2.1, by rw [List.length_append, List.length_singleton]; have := HC.out; omega⟩, ⟨HTB.out, by rw [HU.out.1, HUQ.out]⟩, HO12, HQ12, HF12, HB12⟩
            · have e1 : decide (u = (d : Int)) = false := decide_eq_false hq
              have e2 : (u != (d : Int)) = true := bne_iff_ne.2 hq
              have e3 : (u == (d : Int)) = false := beq_false_of_ne hq
              have h := HK.out.2.2
              rw [rest_cons HK.out.2.1, List.find?_cons_of_neg (by rw [HU.out.1]; simp; omega), List.length_cons] at h
              have HK2 := Aside0.mk h
              have ht1 : wrap64 ((t : Int) + 1) = ((t + 1 : Nat) : Int) := nextI t (by have := HB0.out.2; have := HK.out.2.1; omega)
              have hf1 : wrap64 ((f : Int) + 1) = ((f + 1 : Nat) : Int) := nextI f (by have := HB0.out.2; have := HK.out; omega)
              have HW1 := Aside0.mk ht1
              have HW2 := Aside0.mk hf1
              have hql : (q.length : Int) = (l0.length : Int) := by rw [HQB.out.1.1]
              clear hq h
              by_cases hn1 : t + 1 = l0.length
              · have e4 : decide (((t + 1 : Nat) : Int) = (q.length : Int)) = true := decide_eq_true (by omega)
                have e4' : decide ((t : Int) + 1 = (q.length : Int)) = true := decide_eq_true (by omega)
                have e5 : (((t + 1 : Nat) : Int) == (q.length : Int)) = true := beq_iff_eq.2 (by omega)
                have HN1 := Aside0.mk hn1
                clear hn1 hql
                go_wp2_with (first | (go_at_call 77; (refine (impl_turned.calls K2 A6 c6 q (f : Int) (t : Int) (turn q f t) _ (Kd.C_below (Kd.R_reads' HQ.out).2.2 HI.out) (Kd.R_reads' HQ.out).2.1 HT.out).mono ?_); rintro e w8 ⟨v8, rfl, ho, hb⟩; have HO8 := Aside0.mk ho; have HI8 := Aside0.mk (below_step HI.out hb); clear ho hb HI; obtain ⟨A8, c8, e8⟩ := Kd.R_slice HO8.out; subst e8) | (go_at_call 76; (refine (keyOf_calls A8 c8 (turn q f t) _ (Kd.R_reads' HO8.out).2.2 (by have := HB0.out.2; have := HTB.out.1; omega)).mono ?_); rintro e w9 ⟨rfl, hb⟩; have HI9 := Aside0.mk (below_step HI8.out hb); have HF9 := Aside0.mk (HFT.out.below (below_step HI8.out hb)); clear hb HI8 HO8) | ((with_reducible refine gate_dst (N := 33) rfl ?_); refine far_look rfl (.tmp 27) (.tmp 32) rfl (n := l0.length) (l := turn q f t) (by rfl) (by rfl) HF9.out (by have := HB0.out.2; omega) (dist_all _).1.bd (dist_all _).1.nd HTB.out ?_; rw [HU.out.2]))
                go_roundg (gk - 1)
                case measure => have := HK.out.2.2.2; have h := HK2.out; have h1 := rest_cons (f := f) HK.out.2.1; rw [h1, List.length_cons] at this; omega
                case rel =>
                  have h := HK2.out
                  rw [HN1.out, rest_end] at h
                  have hf := HK.out.1
                  have hft := HK.out.2.1
                  have hf2 : f + 1 < l0.length := by
                    rcases Nat.lt_or_ge (f + 1) l0.length with hx | hx
                    · exact hx
                    · rw [show f + 1 = l0.length by omega, rows_end] at h
                      cases h.1
                  rw [rows_rest hf2] at h
                  exact ⟨f + 1, f + 1, congrArg (Value.int .i64) HW2.out, congrArg (Value.int .i64) HW2.out, ⟨Nat.le_refl _, hf2, h.1, by have h2 := h.2; omega⟩, HI9⟩
              · have e4 : decide (((t + 1 : Nat) : Int) = (q.length : Int)) = false := decide_eq_false (by omega)
                have e4' : decide ((t : Int) + 1 = (q.length : Int)) = false := decide_eq_false (by omega)
                have e5 : (((t + 1 : Nat) : Int) == (q.length : Int)) = false := beq_false_of_ne (by omega)
                have HN1 := Aside0.mk hn1
                clear hn1 hql
                go_wp2_with (first | (go_at_call 77; (refine (impl_turned.calls K2 A6 c6 q (f : Int) (t : Int) (turn q f t) _ (Kd.C_below (Kd.R_reads' HQ.out).2.2 HI.out) (Kd.R_reads' HQ.out).2.1 HT.out).mono ?_); rintro e w8 ⟨v8, rfl, ho, hb⟩; have HO8 := Aside0.mk ho; have HI8 := Aside0.mk (below_step HI.out hb); clear ho hb HI; obtain ⟨A8, c8, e8⟩ := Kd.R_slice HO8.out; subst e8) | (go_at_call 76; (refine (keyOf_calls A8 c8 (turn q f t) _ (Kd.R_reads' HO8.out).2.2 (by have := HB0.out.2; have := HTB.out.1; omega)).mono ?_); rintro e w9 ⟨rfl, hb⟩; have HI9 := Aside0.mk (below_step HI8.out hb); have HF9 := Aside0.mk (HFT.out.below (below_step HI8.out hb)); clear hb HI8 HO8) | ((with_reducible refine gate_dst (N := 33) rfl ?_); refine far_look rfl (.tmp 27) (.tmp 32) rfl (n := l0.length) (l := turn q f t) (by rfl) (by rfl) HF9.out (by have := HB0.out.2; omega) (dist_all _).1.bd (dist_all _).1.nd HTB.out ?_; rw [HU.out.2]))
                go_roundg (gk - 1)
                case measure => have := HK.out.2.2.2; have h := HK2.out; have h1 := rest_cons (f := f) HK.out.2.1; rw [h1, List.length_cons] at this; omega
                case rel => exact ⟨f, t + 1, rfl, congrArg (Value.int .i64) HW1.out, ⟨by have := HK.out.1; omega, by have := HK.out.2.1; have := HN1.out; omega, HK2.out.1, by have := HK2.out.2; omega⟩, HI9⟩
    · rw [if_neg hc] at h
      cases h
end Go.Proofs.Ytppbpefehpbejaa.P
end

section
namespace Go.Proofs.Ytppbpefehpbejaa.P
open Go.RowKit Go.Proofs.YtppbpefehpbejaaW.PrintWords Go.Proofs.YtppbpefehpbejaaW.PrintLast Go.Proofs.YtppbpefehpbejaaW.PrintMore
attribute [local go_sem] max2_int min2_int max_two min_two max_three min_three max_four min_four   -- for this text's walks alone
set_option linter.unusedVariables false
set_option linter.unusedSimpArgs false

/-! ### laws_FnBindingsTurned: function 4 -/
mutual
def laws_FnBindingsTurned.j0 : Nat → List Int → List Int → List (List Int) → Bool → Int → Int → Bool → Int → Int → Bool → Option (Bool)
 | 0, _, _, _, _, _, _, _, _, _, _ => none
 | k + 1, x1, x5, x6, x7, x10, x14, x15, x18, x22, x215 => if x215 = true then (some false) else (if x15 = true then ((impl_BindingOfRank.f k (x5.length : Int) x22).bind fun bt493 => ((impl_CountTurned.f k x5).bind fun bt497 => (if bt493.2 = true then ((laws_fSame.f k bt493.1 x5).bind fun t499 => (if t499 = true then (if bt497.2 = true then (if x14 < 0 then (some false) else (if x14 > (wrap64 ((x5.length : Int) + 1)) then (some false) else (if x14 = 1 then (some false) else (if x18 < bt497.1 then (some false) else (if x18 > (x5.length : Int) then (some false) else (if ((x14 == 0) != (x18 == 0)) = true then (some false) else (laws_FnBindingsTurned.j1 k x1 x5 x6 x7 x10 x14))))))) else (some false)) else (some false))) else (some false)))) else (laws_FnBindingsTurned.j1 k x1 x5 x6 x7 x10 x14))
def laws_FnBindingsTurned.j1 : Nat → List Int → List Int → List (List Int) → Bool → Int → Int → Option (Bool)
 | 0, _, _, _, _, _, _ => none
 | k + 1, x1, x5, x6, x7, x10, x14 => if x7 = true then ((impl_TurnParts.f k x5 x6).bind fun bt500 => ((impl_BreaksOf.f k bt500.1).bind fun bt504 => ((impl_FarthestBinding.f k (x5.length : Int)).bind fun bt506 => (if (x6.length : Int) = x10 then (if bt500.2 = true then (if bt504.2 = true then (if bt504.1 = 0 then (if (wrap64 (2 * x10)) < x14 then (laws_FnBindingsTurned.j2 k x1 x5 x6 x10 true) else (if x10 > (wrap64 ((x5.length : Int) + 1)) then (laws_FnBindingsTurned.j2 k x1 x5 x6 x10 true) else (if bt506.2.2 = true then (if x10 > bt506.2.1 then (laws_FnBindingsTurned.j2 k x1 x5 x6 x10 true) else (laws_FnBindingsTurned.j2 k x1 x5 x6 x10 ((x10 == 0) != (x14 == 0)))) else (laws_FnBindingsTurned.j2 k x1 x5 x6 x10 true)))) else (laws_FnBindingsTurned.j2 k x1 x5 x6 x10 true)) else (laws_FnBindingsTurned.j2 k x1 x5 x6 x10 true)) else (laws_FnBindingsTurned.j2 k x1 x5 x6 x10 true)) else (laws_FnBindingsTurned.j2 k x1 x5 x6 x10 true))))) else (laws_FnBindingsTurned.j3 k x1)
def laws_FnBindingsTurned.j3 : Nat → List Int → Option (Bool)
 | 0, _ => none
 | k + 1, x1 => (spec_DrawTurnPart.f k x1).bind fun bt521 => ((impl_TurnPart.f k bt521.1 bt521.2.1 bt521.2.2).bind fun bt526 => ((spec_TurnPart.f k bt521.1 bt521.2.1 bt521.2.2).bind fun bt530 => ((spec_DrawTurnParts.f k x1).bind fun bt534 => ((impl_TurnParts.f k bt534.1 bt534.2).bind fun bt540 => ((spec_TurnParts.f k bt534.1 bt534.2).bind fun bt544 => (if (bt526.2 != bt530.2) = true then (laws_FnBindingsTurned.j4 k bt521.1 bt521.2.1 bt521.2.2 bt526.1 bt526.2 bt534.1 bt534.2 bt540.1 bt540.2 true) else ((laws_fSame.f k bt526.1 bt530.1).bind fun t548 => (if t548 = true then (if (bt540.2 != bt544.2) = true then (laws_FnBindingsTurned.j4 k bt521.1 bt521.2.1 bt521.2.2 bt526.1 bt526.2 bt534.1 bt534.2 bt540.1 bt540.2 true) else ((laws_fSame.f k bt540.1 bt544.1).bind fun t549 => (laws_FnBindingsTurned.j4 k bt521.1 bt521.2.1 bt521.2.2 bt526.1 bt526.2 bt534.1 bt534.2 bt540.1 bt540.2 (!t549)))) else (laws_FnBindingsTurned.j4 k bt521.1 bt521.2.1 bt521.2.2 bt526.1 bt526.2 bt534.1 bt534.2 bt540.1 bt540.2 true)))))))))
def laws_FnBindingsTurned.j4 : Nat → List Int → Int → Int → List Int → Bool → List Int → List (List Int) → List Int → Bool → Bool → Option (Bool)
 | 0, _, _, _, _, _, _, _, _, _, _ => none
 | k + 1, x41, x42, x43, x44, x45, x48, x49, x50, x51, x428 => if x428 = true then (some false) else (if x45 = true then ((impl_TurnPart.f k x44 x42 x43).bind fun bt550 => ((impl_BreaksOf.f k x41).bind fun bt554 => ((impl_BreaksOf.f k x44).bind fun bt556 => ((impl_IsBinding.f k x44).bind fun t558 => (if t558 = true then (if bt550.2 = true then ((laws_fSame.f k bt550.1 x41).bind fun t559 => (if t559 = true then (if bt554.2 = true then (if bt556.2 = true then (if (wrap64 (bt554.1 - bt556.1)) > 2 then (laws_FnBindingsTurned.j5 k x41 x42 x43 x44 x48 x49 x50 x51 true) else (laws_FnBindingsTurned.j5 k x41 x42 x43 x44 x48 x49 x50 x51 (decide ((wrap64 (bt556.1 - bt554.1)) > 2)))) else (laws_FnBindingsTurned.j5 k x41 x42 x43 x44 x48 x49 x50 x51 true)) else (laws_FnBindingsTurned.j5 k x41 x42 x43 x44 x48 x49 x50 x51 true)) else (laws_FnBindingsTurned.j5 k x41 x42 x43 x44 x48 x49 x50 x51 true))) else (laws_FnBindingsTurned.j5 k x41 x42 x43 x44 x48 x49 x50 x51 true)) else (laws_FnBindingsTurned.j5 k x41 x42 x43 x44 x48 x49 x50 x51 true)))))) else (laws_FnBindingsTurned.j8 k x48 x49 x50 x51))
def laws_FnBindingsTurned.j8 : Nat → List Int → List (List Int) → List Int → Bool → Option (Bool)
 | 0, _, _, _, _ => none
 | k + 1, x48, x49, x50, x51 => if x51 = true then (laws_FnBindingsTurned.l1 k x50 x48 x49 (x49.length : Int) 0) else (some true)
def laws_FnBindingsTurned.l1 : Nat → List Int → List Int → List (List Int) → Int → Int → Option (Bool)
 | 0, _, _, _, _, _ => none
 | k + 1, x50, x62, x515, x516, x517 => if x517 < x516 then (if 0 ≤ x517 then (if x517 < (x515.length : Int) then (if 0 < ((rd_L2 x515 x517).length : Int) then (if 1 < ((rd_L2 x515 x517).length : Int) then ((impl_TurnPart.f k x62 (rd (rd_L2 x515 x517) 0) (rd (rd_L2 x515 x517) 1)).bind fun bt566 => (if bt566.2 = true then (laws_FnBindingsTurned.l1 k x50 bt566.1 x515 x516 (wrap64 (x517 + 1))) else (some false))) else (none)) else (none)) else (none)) else (none)) else ((laws_fSame.f k x62 x50).bind fun t570 => (if t570 = true then (some true) else (some false)))
def laws_FnBindingsTurned.j5 : Nat → List Int → Int → Int → List Int → List Int → List (List Int) → List Int → Bool → Bool → Option (Bool)
 | 0, _, _, _, _, _, _, _, _, _ => none
 | k + 1, x41, x42, x43, x44, x48, x49, x50, x51, x479 => if x479 = true then (some false) else (laws_FnBindingsTurned.l0 k x41 x42 x43 x48 x49 x50 x51 x44 (x44.length : Int) 0)
def laws_FnBindingsTurned.l0 : Nat → List Int → Int → Int → List Int → List (List Int) → List Int → Bool → List Int → Int → Int → Option (Bool)
 | 0, _, _, _, _, _, _, _, _, _, _ => none
 | k + 1, x41, x42, x43, x48, x49, x50, x51, x480, x481, x482 => if x482 < x481 then (if 0 ≤ x482 then (if x482 < (x480.length : Int) then (if x482 < x42 then (laws_FnBindingsTurned.j7 k x41 x42 x43 x48 x49 x50 x51 x482 (rd x480 x482) x480 x481 x482 true) else (laws_FnBindingsTurned.j7 k x41 x42 x43 x48 x49 x50 x51 x482 (rd x480 x482) x480 x481 x482 (decide (x482 > x43)))) else (none)) else (none)) else (laws_FnBindingsTurned.j8 k x48 x49 x50 x51)
def laws_FnBindingsTurned.j7 : Nat → List Int → Int → Int → List Int → List (List Int) → List Int → Bool → Int → Int → List Int → Int → Int → Bool → Option (Bool)
 | 0, _, _, _, _, _, _, _, _, _, _, _, _, _ => none
 | k + 1, x41, x42, x43, x48, x49, x50, x51, x60, x61, x480, x481, x482, x494 => if x494 = true then (if 0 ≤ x60 then (if x60 < (x41.length : Int) then (if x61 = (rd x41 x60) then (laws_FnBindingsTurned.l0 k x41 x42 x43 x48 x49 x50 x51 x480 x481 (wrap64 (x482 + 1))) else (some false)) else (none)) else (none)) else (if 0 ≤ (wrap64 ((wrap64 (x42 + x43)) - x60)) then (if (wrap64 ((wrap64 (x42 + x43)) - x60)) < (x41.length : Int) then (if x61 = (wrap64 (-(rd x41 (wrap64 ((wrap64 (x42 + x43)) - x60))))) then (laws_FnBindingsTurned.l0 k x41 x42 x43 x48 x49 x50 x51 x480 x481 (wrap64 (x482 + 1))) else (some false)) else (none)) else (none))
def laws_FnBindingsTurned.j2 : Nat → List Int → List Int → List (List Int) → Int → Bool → Option (Bool)
 | 0, _, _, _, _, _ => none
 | k + 1, x1, x5, x6, x10, x337 => if x337 = true then (some false) else (if x10 > 0 then (if 0 < (x6.length : Int) then (if 0 < ((rd_L2 x6 0).length : Int) then (if 1 < ((rd_L2 x6 0).length : Int) then ((impl_TurnPart.f k x5 (rd (rd_L2 x6 0) 0) (rd (rd_L2 x6 0) 1)).bind fun bt515 => ((impl_FewestTurns.f k bt515.1).bind fun bt519 => (if bt515.2 = true then (if bt519.2 = true then (if bt519.1 = (wrap64 (x10 - 1)) then (laws_FnBindingsTurned.j3 k x1) else (some false)) else (some false)) else (some false)))) else (none)) else (none)) else (none)) else (laws_FnBindingsTurned.j3 k x1))
end
def laws_FnBindingsTurned.f (k : Nat) (l0 : List Int) (l1 : List Int) : Option (Bool) := (laws_big.f l0 l1).bind fun t461 => (if t461 = true then (some true) else ((spec_DrawFirstTurns.f k l0).bind fun t462 => ((impl_FirstTurns.f k t462).bind fun bt465 => ((spec_FirstTurns.f k t462).bind fun bt469 => ((impl_FewestTurns.f k t462).bind fun bt473 => ((spec_FewestTurns.f k t462).bind fun bt475 => ((impl_BreaksOf.f k t462).bind fun bt477 => ((spec_BreaksOf.f k t462).bind fun bt479 => ((impl_FewestCuts.f k t462).bind fun bt481 => ((spec_FewestCuts.f k t462).bind fun bt483 => ((impl_RankOfBinding.f k t462).bind fun bt485 => ((spec_RankOfBinding.f k t462).bind fun bt487 => (if (bt465.2 != bt469.2) = true then (laws_FnBindingsTurned.j0 k l1 t462 bt465.1 bt465.2 bt473.1 bt477.1 bt477.2 bt481.1 bt485.1 true) else ((laws_fRows.f k bt465.1 bt469.1).bind fun t489 => (if t489 = true then (if (bt473.2 != bt475.2) = true then (laws_FnBindingsTurned.j0 k l1 t462 bt465.1 bt465.2 bt473.1 bt477.1 bt477.2 bt481.1 bt485.1 true) else (if bt473.1 = bt475.1 then (if (bt477.2 != bt479.2) = true then (laws_FnBindingsTurned.j0 k l1 t462 bt465.1 bt465.2 bt473.1 bt477.1 bt477.2 bt481.1 bt485.1 true) else (if bt477.1 = bt479.1 then (if (bt481.2 != bt483.2) = true then (laws_FnBindingsTurned.j0 k l1 t462 bt465.1 bt465.2 bt473.1 bt477.1 bt477.2 bt481.1 bt485.1 true) else (if bt481.1 = bt483.1 then (if (bt485.2 != bt487.2) = true then (laws_FnBindingsTurned.j0 k l1 t462 bt465.1 bt465.2 bt473.1 bt477.1 bt477.2 bt481.1 bt485.1 true) else (if bt485.1 = bt487.1 then (if (bt473.2 != bt465.2) = true then (laws_FnBindingsTurned.j0 k l1 t462 bt465.1 bt465.2 bt473.1 bt477.1 bt477.2 bt481.1 bt485.1 true) else ((impl_IsBinding.f k t462).bind fun t490 => (if (bt477.2 != t490) = true then (laws_FnBindingsTurned.j0 k l1 t462 bt465.1 bt465.2 bt473.1 bt477.1 bt477.2 bt481.1 bt485.1 true) else ((impl_IsBinding.f k t462).bind fun t491 => ((spec_IsBinding.f k t462).bind fun t492 => (if (t491 != t492) = true then (laws_FnBindingsTurned.j0 k l1 t462 bt465.1 bt465.2 bt473.1 bt477.1 bt477.2 bt481.1 bt485.1 true) else (if (bt481.2 != bt477.2) = true then (laws_FnBindingsTurned.j0 k l1 t462 bt465.1 bt465.2 bt473.1 bt477.1 bt477.2 bt481.1 bt485.1 true) else (if (bt485.2 != bt477.2) = true then (laws_FnBindingsTurned.j0 k l1 t462 bt465.1 bt465.2 bt473.1 bt477.1 bt477.2 bt481.1 bt485.1 true) else (if bt465.2 = true then (if bt477.2 = true then (laws_FnBindingsTurned.j0 k l1 t462 bt465.1 bt465.2 bt473.1 bt477.1 bt477.2 bt481.1 bt485.1 (bt465.2 != (decide ((t462.length : Int) ≤ 5)))) else (laws_FnBindingsTurned.j0 k l1 t462 bt465.1 bt465.2 bt473.1 bt477.1 bt477.2 bt481.1 bt485.1 true)) else (if bt477.2 = true then (laws_FnBindingsTurned.j0 k l1 t462 bt465.1 bt465.2 bt473.1 bt477.1 bt477.2 bt481.1 bt485.1 (bt465.2 != (decide ((t462.length : Int) ≤ 5)))) else (laws_FnBindingsTurned.j0 k l1 t462 bt465.1 bt465.2 bt473.1 bt477.1 bt477.2 bt481.1 bt485.1 (bt465.2 != false)))))))))))) else (laws_FnBindingsTurned.j0 k l1 t462 bt465.1 bt465.2 bt473.1 bt477.1 bt477.2 bt481.1 bt485.1 true))) else (laws_FnBindingsTurned.j0 k l1 t462 bt465.1 bt465.2 bt473.1 bt477.1 bt477.2 bt481.1 bt485.1 true))) else (laws_FnBindingsTurned.j0 k l1 t462 bt465.1 bt465.2 bt473.1 bt477.1 bt477.2 bt481.1 bt485.1 true))) else (laws_FnBindingsTurned.j0 k l1 t462 bt465.1 bt465.2 bt473.1 bt477.1 bt477.2 bt481.1 bt485.1 true))) else (laws_FnBindingsTurned.j0 k l1 t462 bt465.1 bt465.2 bt473.1 bt477.1 bt477.2 bt481.1 bt485.1 true))))))))))))))))
def laws_FnBindingsTurned.T28 : Bool × List (List Nat × List Nat) := (true, [([], []), ([], []), ([1], [1]), ([2], [2]), ([3], [3]), ([4], [4]), ([], []), ([6], [6]), ([7], [7]), ([8], [8]), ([9], [9]), ([0, 5, 10], [0, 5, 10]), ([11], [11]), ([12], [12]), ([12], [12]), ([13, 11, 0, 1, 2, 3, 4, 5, 6, 7, 8, 9, 10, 11, 12, 13], [13]), ([14, 15, 0, 1, 2, 3, 4, 5, 6, 7, 8, 9, 10, 11, 12, 13, 14, 15], [14])])
def laws_FnBindingsTurned.B28 : List Nat := [0, 0, 2, 6, 14, 30, 0, 64, 192, 448, 960, 2047, 4095, 8191, 8191, 16383, 65535]
theorem laws_FnBindingsTurned.tab28 : rtab .any (opsOf Try.f4 28) = laws_FnBindingsTurned.T28 := by kernel_rfl
theorem laws_FnBindingsTurned.bits28 : waitsOk laws_FnBindingsTurned.T28.2 laws_FnBindingsTurned.B28 = true := by kernel_rfl
def laws_FnBindingsTurned.T60 : Bool × List (List Nat × List Nat) := (true, [([], []), ([], []), ([1], [1]), ([2], [2]), ([], []), ([4], [4]), ([5], [5]), ([0, 3, 6], [0, 3, 6]), ([7], [7]), ([8], [8]), ([8], [8]), ([9, 7, 0, 1, 2, 3, 4, 5, 6, 7, 8, 9], [9]), ([10, 11, 0, 1, 2, 3, 4, 5, 6, 7, 8, 9, 10, 11], [10])])
def laws_FnBindingsTurned.B60 : List Nat := [0, 0, 2, 6, 0, 16, 48, 127, 255, 511, 511, 1023, 4095]
theorem laws_FnBindingsTurned.tab60 : rtab .any (opsOf Try.f4 60) = laws_FnBindingsTurned.T60 := by kernel_rfl
theorem laws_FnBindingsTurned.bits60 : waitsOk laws_FnBindingsTurned.T60.2 laws_FnBindingsTurned.B60 = true := by kernel_rfl
theorem laws_FnBindingsTurned.j0_no (k : Nat) (y0_ : List Int) (y1_ : List Int) (y2_ : List (List Int)) (y3_ : Bool) (y4_ : Int) (y5_ : Int) (y6_ : Bool) (y7_ : Int) (y8_ : Int) (r : Bool) (hr : r = true) (H : laws_FnBindingsTurned.j0 k y0_ y1_ y2_ y3_ y4_ y5_ y6_ y7_ y8_ true = some r) : False := by
 subst hr
 cases k with
 | zero => simp [laws_FnBindingsTurned.j0] at H
 | succ k => rw [laws_FnBindingsTurned.j0, if_pos rfl] at H; cases H
theorem laws_FnBindingsTurned.j4_no (k : Nat) (y0_ : List Int) (y1_ : Int) (y2_ : Int) (y3_ : List Int) (y4_ : Bool) (y5_ : List Int) (y6_ : List (List Int)) (y7_ : List Int) (y8_ : Bool) (r : Bool) (hr : r = true) (H : laws_FnBindingsTurned.j4 k y0_ y1_ y2_ y3_ y4_ y5_ y6_ y7_ y8_ true = some r) : False := by
 subst hr
 cases k with
 | zero => simp [laws_FnBindingsTurned.j4] at H
 | succ k => rw [laws_FnBindingsTurned.j4, if_pos rfl] at H; cases H
theorem laws_FnBindingsTurned.j5_no (k : Nat) (y0_ : List Int) (y1_ : Int) (y2_ : Int) (y3_ : List Int) (y4_ : List Int) (y5_ : List (List Int)) (y6_ : List Int) (y7_ : Bool) (r : Bool) (hr : r = true) (H : laws_FnBindingsTurned.j5 k y0_ y1_ y2_ y3_ y4_ y5_ y6_ y7_ true = some r) : False := by
 subst hr
 cases k with
 | zero => simp [laws_FnBindingsTurned.j5] at H
 | succ k => rw [laws_FnBindingsTurned.j5, if_pos rfl] at H; cases H
theorem laws_FnBindingsTurned.j2_no (k : Nat) (y0_ : List Int) (y1_ : List Int) (y2_ : List (List Int)) (y3_ : Int) (r : Bool) (hr : r = true) (H : laws_FnBindingsTurned.j2 k y0_ y1_ y2_ y3_ true = some r) : False := by
 subst hr
 cases k with
 | zero => simp [laws_FnBindingsTurned.j2] at H
 | succ k => rw [laws_FnBindingsTurned.j2, if_pos rfl] at H; cases H

/-- THE ONE PURE STATEMENT of laws_FnBindingsTurned. -/
def laws_FnBindingsTurned.Pure : Prop := ∀ (l0 : List Int) (l1 : List Int), (l0.length ≤ maxLen ∧ ∀ x0_, x0_ ∈ l0 → (Lit.int .u8 x0_).wf = true) → (l1.length ≤ maxLen ∧ ∀ x0_, x0_ ∈ l1 → (Lit.int .u8 x0_).wf = true) → ∃ k, laws_FnBindingsTurned.f k l0 l1 = some true

end Go.Proofs.Ytppbpefehpbejaa.P
end
