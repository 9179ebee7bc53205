/- Lean functions with the answers of the program's Go functions, and for each the proof that the Go code comes to these answers; no condition. -/
import Derived.Test.YtppbpefehpbejaaDoorZbr21
import Derived.Lib.SliceRun
section
namespace Go.Proofs.YtppbpefehpbejaaDoor.P
open Go.RowKit Go.Proofs.YtppbpefehpbejaaDoorW.PrintWords Go.Proofs.YtppbpefehpbejaaDoorW.PrintLast Go.Proofs.YtppbpefehpbejaaDoorW.PrintMore
attribute [local go_sem] max2_int min2_int max_two min_two max_three min_three max_four min_four   -- for this text's walks alone
set_option linter.unusedVariables false
set_option linter.unusedSimpArgs false

/-! ### spec_BindingText: function 41 -/
def spec_BindingText.f (k : Nat) (l0 : List Int) : Option (ByteArray × Bool) := (spec_biGood.f k l0).bind fun t237 => (if t237 = true then ((spec_biText.f k l0).bind fun t238 => (some (t238, true))) else (some ((⟨#[]⟩ : ByteArray), false)))
set_option maxHeartbeats 8000000 in
set_option maxRecDepth 100000 in
theorem spec_BindingText.calls (k : Nat) (A0 : Option Addr) (c0 : Nat) (l0 : List Int) (r1 : ByteArray) (r2 : Bool) (w : World) (hr0 : Kd.C (Kd.int .i64) w A0 l0.length l0) (hc0 : l0.length ≤ c0) (h : spec_BindingText.f k l0 = some (r1, r2)) :
  Calls Tryd.prog 41 #[.slice A0 l0.length c0] w fun e w' => e = .returned (.tuple #[.string r1, .bool r2]) ∧ Below w.heap.size w w' := by
 have HR0 := Az_ hr0
 have HC0 := Az_ hc0
 clear hr0 hc0
 have HB := Az_ (Below.refl w.heap.size w)
 have H : ((spec_biGood.f k l0).bind fun t237 => (if t237 = true then ((spec_biText.f k l0).bind fun t238 => (some (t238, true))) else (some ((⟨#[]⟩ : ByteArray), false)))) = some (r1, r2) := h
 clear h
 replace H := bqz_ H; obtain ⟨t237, A2, H⟩ := H
 replace H : (if t237 = true then ((spec_biText.f k l0).bind fun t238 => (some (t238, true))) else (some ((⟨#[]⟩ : ByteArray), false))) = some (r1, r2) := H
 by_cases c3 : t237 = true
 ·subst c3
  rw [if_pos rfl] at H
  replace H := bqz_ H; obtain ⟨t238, A4, H⟩ := H
  replace H : (some (t238, true)) = some (r1, r2) := H
  simp only [Option.some.injEq, Prod.mk.injEq] at H
  obtain ⟨rfl, rfl⟩ := H
  go_enter Tryd.func41, Tryd.ntmps41
  go_wp2_with (first | ((with_reducible refine gate_callee (f := 123) rfl ?_); refine goesL_ (some 5) rfl rfl Tryd.func123 (by kernel_rfl) rfl #[.slice A0 l0.length c0] rfl maz_ ?_; (with_reducible refine (spec_biGood.calls k _ _ l0 true _ ?side1 ?side2 A2.out).mono ?_); (case side1 => exact ucz_ (HR0.out)); (case side2 => first | exact HC0.out | (rw [List.length_take]; have := HC0.out; omega)); rintro e w' ⟨rfl, ⟨nd, rfl⟩⟩; refine ⟨_, rfl, ?_⟩) | ((with_reducible refine gate_callee (f := 126) rfl ?_); refine goesL_ (some 8) rfl rfl Tryd.func126 (by kernel_rfl) rfl #[.slice A0 l0.length c0] rfl maz_ ?_; (with_reducible refine (spec_biText.calls k _ _ l0 t238 _ ?side1 ?side2 A4.out).mono ?_); (case side1 => exact ucz_ (HR0.out)); (case side2 => exact HC0.out); rintro e w5 ⟨rfl, hb⟩; refine ⟨_, rfl, ?_⟩; replace HB := Az_ (btz_ (ubz_ HB.out) hb); (try clear hb)))
  go_ret2
  exact ⟨by first | rfl | (simp [errW_none, errW_some] <;> rfl) | (simp [*, errW_none, errW_some] <;> rfl), by exact ubz_ HB.out⟩
 ·replace c3 := Bool.eq_false_iff.mpr c3
  subst c3
  rw [if_neg nfz_] at H
  simp only [Option.some.injEq, Prod.mk.injEq] at H
  obtain ⟨rfl, rfl⟩ := H
  go_enter Tryd.func41, Tryd.ntmps41
  go_wp2_with (first | ((with_reducible refine gate_callee (f := 123) rfl ?_); refine goesL_ (some 5) rfl rfl Tryd.func123 (by kernel_rfl) rfl #[.slice A0 l0.length c0] rfl maz_ ?_; (with_reducible refine (spec_biGood.calls k _ _ l0 false _ ?side1 ?side2 A2.out).mono ?_); (case side1 => exact ucz_ (HR0.out)); (case side2 => first | exact HC0.out | (rw [List.length_take]; have := HC0.out; omega)); rintro e w' ⟨rfl, ⟨nd, rfl⟩⟩; refine ⟨_, rfl, ?_⟩))
  go_ret2
  exact ⟨by first | rfl | (simp [errW_none, errW_some] <;> rfl) | (simp [*, errW_none, errW_some] <;> rfl), by exact ubz_ HB.out⟩

/-! ### impl_CountTurned: function 42 -/
def impl_CountTurned.l0 : Nat → Int → List Int → Int → Int → Option (Int × Bool)
 | 0, _, _, _, _ => none
 | k + 1, x4, x10, x11, x12 => if x12 < x11 then (if 0 ≤ x12 then (if x12 < (x10.length : Int) then (if (rd x10 x12) < 0 then (impl_CountTurned.l0 k (wrap64 (x4 + 1)) x10 x11 (wrap64 (x12 + 1))) else (impl_CountTurned.l0 k x4 x10 x11 (wrap64 (x12 + 1)))) else (none)) else (none)) else (some (x4, true))
def impl_CountTurned.f (k : Nat) (l0 : List Int) : Option (Int × Bool) := (impl_IsBinding.f k l0).bind fun t239 => (if t239 = true then (impl_CountTurned.l0 k 0 l0 (l0.length : Int) 0) else (some (0, false)))
theorem impl_CountTurned.mono_l : ∀ k, (∀ y0 y1 y2 y3, LeO (impl_CountTurned.l0 k y0 y1 y2 y3) (impl_CountTurned.l0 (k + 1) y0 y1 y2 y3))
 | 0 => fun _ _ _ _ r h => by simp [impl_CountTurned.l0] at h
 | k + 1 => by
  have ih0 := impl_CountTurned.mono_l k
  ·intro y0 y1 y2 y3
   unfold impl_CountTurned.l0
   repeat' first
   | (with_reducible exact ih0 _ _ _ _)
   | (with_reducible exact impl_IsBinding.mono _ _)
   | (with_reducible exact LeO.refl _)
   | (with_reducible exact LeO.none _)
   | (with_reducible refine LeO.ite ?_ ?_)
   | (with_reducible refine LeO.bind ?_ (fun _ => ?_))
theorem impl_CountTurned.mono : ∀ a0 k, LeO (impl_CountTurned.f k a0) (impl_CountTurned.f (k + 1) a0) := by
 intro a0 k
 have ih0 := impl_CountTurned.mono_l k
 unfold impl_CountTurned.f
 repeat' first
   | (with_reducible exact ih0 _ _ _ _)
   | (with_reducible exact impl_IsBinding.mono _ _)
   | (with_reducible exact LeO.refl _)
   | (with_reducible exact LeO.none _)
   | (with_reducible refine LeO.ite ?_ ?_)
   | (with_reducible refine LeO.bind ?_ (fun _ => ?_))
set_option maxHeartbeats 8000000 in
set_option maxRecDepth 100000 in
theorem impl_CountTurned.calls (k : Nat) (A0 : Option Addr) (c0 : Nat) (l0 : List Int) (r1 : Int) (r2 : Bool) (w : World) (hr0 : Kd.C (Kd.int .i64) w A0 l0.length l0) (hc0 : l0.length ≤ c0) (h : impl_CountTurned.f k l0 = some (r1, r2)) :
  Calls Tryd.prog 42 #[.slice A0 l0.length c0] w fun e w' => e = .returned (.tuple #[.int .i64 r1, .bool r2]) ∧ Below w.heap.size w w' := by
 have HR0 := Az_ hr0
 have HC0 := Az_ hc0
 clear hr0 hc0
 have HB := Az_ (Below.refl w.heap.size w)
 have H : ((impl_IsBinding.f k l0).bind fun t239 => (if t239 = true then (impl_CountTurned.l0 k 0 l0 (l0.length : Int) 0) else (some (0, false)))) = some (r1, r2) := h
 clear h
 replace H := bqz_ H; obtain ⟨t239, A2, H⟩ := H
 replace H : (if t239 = true then (impl_CountTurned.l0 k 0 l0 (l0.length : Int) 0) else (some (0, false))) = some (r1, r2) := H
 by_cases c3 : t239 = true
 ·subst c3
  rw [if_pos rfl] at H
  have H' := Az_ H
  clear H
  go_enter Tryd.func42, Tryd.ntmps42
  go_wp2_with (first | ((with_reducible refine gate_callee (f := 64) rfl ?_); refine goesL_ (some 8) rfl rfl Tryd.func64 (by kernel_rfl) rfl #[.slice A0 l0.length c0] rfl maz_ ?_; (with_reducible refine (impl_IsBinding.calls k _ _ l0 true _ ?side1 ?side2 A2.out).mono ?_); (case side1 => exact ucz_ (HR0.out)); (case side2 => exact HC0.out); rintro e w4 ⟨rfl, hb⟩; refine ⟨_, rfl, ?_⟩; replace HB := Az_ (btz_ (ubz_ HB.out) hb); (try clear hb)))
  go_loopg [4, 12] k (fun kq v4 v12 w' => ∃ (x4_1 : Int) (x12_1 : Int), v4 = .int .i64 x4_1 ∧ v12 = .int .i64 x12_1 ∧ Aside0 (impl_CountTurned.l0 kq x4_1 l0 (l0.length : Int) x12_1 = some (r1, r2)) ∧ Aside0 (kq ≤ k) ∧ Aside0 (Below w.heap.size w w'))
  case atStart => exact ⟨(0), (0), qaz_, qaz_, H', ⟨Nat.le_refl _⟩, ⟨by exact ubz_ HB.out⟩⟩
  case round =>
   clear H'
   obtain ⟨x4_1, x12_1, rfl, rfl, HA, HK1, HB⟩ := hrel
   cases gk with
   | zero => exact absurd HA.out (by simp [impl_CountTurned.l0])
   | succ k1 =>
    have H := HA.out
    clear HA
    simp only [impl_CountTurned.l0] at H
    by_cases c5 : x12_1 < (l0.length : Int)
    ·rw [if_pos c5] at H
     have c5b0 := decide_eq_true c5
     clear c5
     by_cases c6 : 0 ≤ x12_1
     ·rw [if_pos c6] at H
      have c6b0 := decide_eq_true c6
      clear c6
      by_cases c7 : x12_1 < (l0.length : Int)
      ·rw [if_pos c7] at H
       have c7b0 := decide_eq_true c7
       clear c7
       by_cases c8 : (rd l0 x12_1) < 0
       ·rw [if_pos c8] at H
        have c8b0 := decide_eq_true c8
        clear c8
        have H' := Az_ H
        clear H
        have p240 : 0 ≤ (x12_1 : Int) := of_decide_eq_true asz_
        have q240 : x12_1 < (l0.length : Int) := of_decide_eq_true asz_
        obtain ⟨ad240, e240, hx240_0⟩ := Kd.at_int HR0.out x12_1 p240 q240
        cases e240
        replace hx240_0 := (HB.out.cell (World.block_lt_of_cell? w _ hx240_0)).trans hx240_0
        replace p240 := eq_true p240
        replace q240 := eq_true q240
        go_wp2
        go_roundg k1
        case measure => have := HK1.out; omega
        case rel => exact ⟨(wrap64 (x4_1 + 1)), (wrap64 (x12_1 + 1)), qaz_, qaz_, H', ⟨by have := HK1.out; omega⟩, ⟨by exact ubz_ HB.out⟩⟩
       ·rw [if_neg c8] at H
        have c8b0 := decide_eq_false c8
        clear c8
        have H' := Az_ H
        clear H
        have p240 : 0 ≤ (x12_1 : Int) := of_decide_eq_true asz_
        have q240 : x12_1 < (l0.length : Int) := of_decide_eq_true asz_
        obtain ⟨ad240, e240, hx240_0⟩ := Kd.at_int HR0.out x12_1 p240 q240
        cases e240
        replace hx240_0 := (HB.out.cell (World.block_lt_of_cell? w _ hx240_0)).trans hx240_0
        replace p240 := eq_true p240
        replace q240 := eq_true q240
        go_wp2
        go_roundg k1
        case measure => have := HK1.out; omega
        case rel => exact ⟨(x4_1), (wrap64 (x12_1 + 1)), qaz_, qaz_, H', ⟨by have := HK1.out; omega⟩, ⟨by exact ubz_ HB.out⟩⟩
      ·rw [if_neg c7] at H
       exact absurd H (by simp)
     ·rw [if_neg c6] at H
      exact absurd H (by simp)
    ·rw [if_neg c5] at H
     have c5b0 := decide_eq_false c5
     clear c5
     simp only [Option.some.injEq, Prod.mk.injEq] at H
     obtain ⟨rfl, rfl⟩ := H
     go_wp2
     go_ret2
     exact ⟨by first | rfl | (simp [errW_none, errW_some] <;> rfl) | (simp [*, errW_none, errW_some] <;> rfl), by exact ubz_ HB.out⟩
 ·replace c3 := Bool.eq_false_iff.mpr c3
  subst c3
  rw [if_neg nfz_] at H
  simp only [Option.some.injEq, Prod.mk.injEq] at H
  obtain ⟨rfl, rfl⟩ := H
  go_enter Tryd.func42, Tryd.ntmps42
  go_wp2_with (first | ((with_reducible refine gate_callee (f := 64) rfl ?_); refine goesL_ (some 8) rfl rfl Tryd.func64 (by kernel_rfl) rfl #[.slice A0 l0.length c0] rfl maz_ ?_; (with_reducible refine (impl_IsBinding.calls k _ _ l0 false _ ?side1 ?side2 A2.out).mono ?_); (case side1 => exact ucz_ (HR0.out)); (case side2 => exact HC0.out); rintro e w9 ⟨rfl, hb⟩; refine ⟨_, rfl, ?_⟩; replace HB := Az_ (btz_ (ubz_ HB.out) hb); (try clear hb)))
  go_ret2
  exact ⟨by first | rfl | (simp [errW_none, errW_some] <;> rfl) | (simp [*, errW_none, errW_some] <;> rfl), by exact ubz_ HB.out⟩

/-! ### spec_CountTurned: function 43 -/
def spec_CountTurned.l0 : Nat → Int → List Int → Int → Int → Option (Int × Bool)
 | 0, _, _, _, _ => none
 | k + 1, x4, x10, x11, x12 => if x12 < x11 then (if 0 ≤ x12 then (if x12 < (x10.length : Int) then (if (rd x10 x12) < 0 then (spec_CountTurned.l0 k (wrap64 (x4 + 1)) x10 x11 (wrap64 (x12 + 1))) else (spec_CountTurned.l0 k x4 x10 x11 (wrap64 (x12 + 1)))) else (none)) else (none)) else (some (x4, true))
def spec_CountTurned.f (k : Nat) (l0 : List Int) : Option (Int × Bool) := (spec_biGood.f k l0).bind fun t241 => (if t241 = true then (spec_CountTurned.l0 k 0 l0 (l0.length : Int) 0) else (some (0, false)))
theorem spec_CountTurned.mono_l : ∀ k, (∀ y0 y1 y2 y3, LeO (spec_CountTurned.l0 k y0 y1 y2 y3) (spec_CountTurned.l0 (k + 1) y0 y1 y2 y3))
 | 0 => fun _ _ _ _ r h => by simp [spec_CountTurned.l0] at h
 | k + 1 => by
  have ih0 := spec_CountTurned.mono_l k
  ·intro y0 y1 y2 y3
   unfold spec_CountTurned.l0
   repeat' first
   | (with_reducible exact ih0 _ _ _ _)
   | (with_reducible exact spec_biGood.mono _ _)
   | (with_reducible exact LeO.refl _)
   | (with_reducible exact LeO.none _)
   | (with_reducible refine LeO.ite ?_ ?_)
   | (with_reducible refine LeO.bind ?_ (fun _ => ?_))
theorem spec_CountTurned.mono : ∀ a0 k, LeO (spec_CountTurned.f k a0) (spec_CountTurned.f (k + 1) a0) := by
 intro a0 k
 have ih0 := spec_CountTurned.mono_l k
 unfold spec_CountTurned.f
 repeat' first
   | (with_reducible exact ih0 _ _ _ _)
   | (with_reducible exact spec_biGood.mono _ _)
   | (with_reducible exact LeO.refl _)
   | (with_reducible exact LeO.none _)
   | (with_reducible refine LeO.ite ?_ ?_)
   | (with_reducible refine LeO.bind ?_ (fun _ => ?_))
set_option maxHeartbeats 8000000 in
set_option maxRecDepth 100000 in
theorem spec_CountTurned.calls (k : Nat) (A0 : Option Addr) (c0 : Nat) (l0 : List Int) (r1 : Int) (r2 : Bool) (w : World) (hr0 : Kd.C (Kd.int .i64) w A0 l0.length l0) (hc0 : l0.length ≤ c0) (h : spec_CountTurned.f k l0 = some (r1, r2)) :
  Calls Tryd.prog 43 #[.slice A0 l0.length c0] w fun e w' => e = .returned (.tuple #[.int .i64 r1, .bool r2]) ∧ Drawn0 w w' := by
 have HR0 := Az_ hr0
 have HC0 := Az_ hc0
 clear hr0 hc0
 have H : ((spec_biGood.f k l0).bind fun t241 => (if t241 = true then (spec_CountTurned.l0 k 0 l0 (l0.length : Int) 0) else (some (0, false)))) = some (r1, r2) := h
 clear h
 replace H := bqz_ H; obtain ⟨t241, A2, H⟩ := H
 replace H : (if t241 = true then (spec_CountTurned.l0 k 0 l0 (l0.length : Int) 0) else (some (0, false))) = some (r1, r2) := H
 by_cases c3 : t241 = true
 ·subst c3
  rw [if_pos rfl] at H
  have H' := Az_ H
  clear H
  go_enter Tryd.func43, Tryd.ntmps43
  go_wp2_with (first | ((with_reducible refine gate_callee (f := 123) rfl ?_); refine goesL_ (some 8) rfl rfl Tryd.func123 (by kernel_rfl) rfl #[.slice A0 l0.length c0] rfl maz_ ?_; (with_reducible refine (spec_biGood.calls k _ _ l0 true _ ?side1 ?side2 A2.out).mono ?_); (case side1 => exact ucz_ (HR0.out)); (case side2 => first | exact HC0.out | (rw [List.length_take]; have := HC0.out; omega)); rintro e w' ⟨rfl, ⟨nd, rfl⟩⟩; refine ⟨_, rfl, ?_⟩))
  go_loopg [4, 12] k (fun kq v4 v12 w' => ∃ (x4_1 : Int) (x12_1 : Int), v4 = .int .i64 x4_1 ∧ v12 = .int .i64 x12_1 ∧ Aside0 (spec_CountTurned.l0 kq x4_1 l0 (l0.length : Int) x12_1 = some (r1, r2)) ∧ Aside0 (kq ≤ k) ∧ Drawn0 w w')
  case atStart => exact ⟨(0), (0), qaz_, qaz_, H', ⟨Nat.le_refl _⟩, by repeat (first | exact Drawn0.refl _ | apply Drawn0.step)⟩
  case round =>
   clear H'
   obtain ⟨x4_1, x12_1, rfl, rfl, HA, HK1, ⟨m1, rfl⟩⟩ := hrel
   cases gk with
   | zero => exact absurd HA.out (by simp [spec_CountTurned.l0])
   | succ k1 =>
    have H := HA.out
    clear HA
    simp only [spec_CountTurned.l0] at H
    by_cases c4 : x12_1 < (l0.length : Int)
    ·rw [if_pos c4] at H
     have c4b0 := decide_eq_true c4
     clear c4
     by_cases c5 : 0 ≤ x12_1
     ·rw [if_pos c5] at H
      have c5b0 := decide_eq_true c5
      clear c5
      by_cases c6 : x12_1 < (l0.length : Int)
      ·rw [if_pos c6] at H
       have c6b0 := decide_eq_true c6
       clear c6
       by_cases c7 : (rd l0 x12_1) < 0
       ·rw [if_pos c7] at H
        have c7b0 := decide_eq_true c7
        clear c7
        have H' := Az_ H
        clear H
        have p242 : 0 ≤ (x12_1 : Int) := of_decide_eq_true asz_
        have q242 : x12_1 < (l0.length : Int) := of_decide_eq_true asz_
        obtain ⟨ad242, e242, hx242_0⟩ := Kd.at_int HR0.out x12_1 p242 q242
        cases e242
        replace p242 := eq_true p242
        replace q242 := eq_true q242
        go_wp2
        go_roundg k1
        case measure => have := HK1.out; omega
        case rel => exact ⟨(wrap64 (x4_1 + 1)), (wrap64 (x12_1 + 1)), qaz_, qaz_, H', ⟨by have := HK1.out; omega⟩, by repeat (first | exact Drawn0.refl _ | apply Drawn0.step)⟩
       ·rw [if_neg c7] at H
        have c7b0 := decide_eq_false c7
        clear c7
        have H' := Az_ H
        clear H
        have p242 : 0 ≤ (x12_1 : Int) := of_decide_eq_true asz_
        have q242 : x12_1 < (l0.length : Int) := of_decide_eq_true asz_
        obtain ⟨ad242, e242, hx242_0⟩ := Kd.at_int HR0.out x12_1 p242 q242
        cases e242
        replace p242 := eq_true p242
        replace q242 := eq_true q242
        go_wp2
        go_roundg k1
        case measure => have := HK1.out; omega
        case rel => exact ⟨(x4_1), (wrap64 (x12_1 + 1)), qaz_, qaz_, H', ⟨by have := HK1.out; omega⟩, by repeat (first | exact Drawn0.refl _ | apply Drawn0.step)⟩
      ·rw [if_neg c6] at H
       exact absurd H (by simp)
     ·rw [if_neg c5] at H
      exact absurd H (by simp)
    ·rw [if_neg c4] at H
     have c4b0 := decide_eq_false c4
     clear c4
     simp only [Option.some.injEq, Prod.mk.injEq] at H
     obtain ⟨rfl, rfl⟩ := H
     go_wp2
     go_ret2
     exact ⟨by first | rfl | (simp; done) | (simp [*]; done), by repeat (first | exact Drawn0.refl _ | apply Drawn0.step)⟩
 ·replace c3 := Bool.eq_false_iff.mpr c3
  subst c3
  rw [if_neg nfz_] at H
  simp only [Option.some.injEq, Prod.mk.injEq] at H
  obtain ⟨rfl, rfl⟩ := H
  go_enter Tryd.func43, Tryd.ntmps43
  go_wp2_with (first | ((with_reducible refine gate_callee (f := 123) rfl ?_); refine goesL_ (some 8) rfl rfl Tryd.func123 (by kernel_rfl) rfl #[.slice A0 l0.length c0] rfl maz_ ?_; (with_reducible refine (spec_biGood.calls k _ _ l0 false _ ?side1 ?side2 A2.out).mono ?_); (case side1 => exact ucz_ (HR0.out)); (case side2 => first | exact HC0.out | (rw [List.length_take]; have := HC0.out; omega)); rintro e w' ⟨rfl, ⟨nd, rfl⟩⟩; refine ⟨_, rfl, ?_⟩))
  go_ret2
  exact ⟨by first | rfl | (simp; done) | (simp [*]; done), by repeat (first | exact Drawn0.refl _ | apply Drawn0.step)⟩

end Go.Proofs.YtppbpefehpbejaaDoor.P
end

section
namespace Go.Proofs.YtppbpefehpbejaaDoor.P
open Go.RowKit Go.Proofs.YtppbpefehpbejaaDoorW.PrintWords Go.Proofs.YtppbpefehpbejaaDoorW.PrintLast Go.Proofs.YtppbpefehpbejaaDoorW.PrintMore
attribute [local go_sem] max2_int min2_int max_two min_two max_three min_three max_four min_four   -- for this text's walks alone
set_option linter.unusedVariables false
set_option linter.unusedSimpArgs false

/-! ### laws_fSame: function 44 -/
def laws_fSame.l0 : Nat → List Int → List Int → Int → Int → Option (Bool)
 | 0, _, _, _, _ => none
 | k + 1, x0, x1, x12, x13 => if x13 < x12 then (if 0 ≤ x13 then (if x13 < (x0.length : Int) then (if x13 < (x1.length : Int) then (if (rd x0 x13) = (rd x1 x13) then (laws_fSame.l0 k x0 x1 x12 (wrap64 (x13 + 1))) else (some false)) else (none)) else (none)) else (none)) else (some true)
def laws_fSame.f (k : Nat) (l0 : List Int) (l1 : List Int) : Option (Bool) := if (l0.length : Int) = (l1.length : Int) then (laws_fSame.l0 k l0 l1 (l0.length : Int) 0) else (some false)
set_option maxHeartbeats 8000000 in
set_option maxRecDepth 100000 in
theorem laws_fSame.calls (k : Nat) (A0 : Option Addr) (c0 : Nat) (l0 : List Int) (A1 : Option Addr) (c1 : Nat) (l1 : List Int) (r : Bool) (w : World) (hr0 : Kd.C (Kd.int .i64) w A0 l0.length l0) (hc0 : l0.length ≤ c0) (hr1 : Kd.C (Kd.int .i64) w A1 l1.length l1) (hc1 : l1.length ≤ c1) (h : laws_fSame.f k l0 l1 = some r) :
  Calls Tryd.prog 44 #[.slice A0 l0.length c0, .slice A1 l1.length c1] w fun e w' => e = .returned (.bool r) ∧ Drawn0 w w' := by
 have HR0 := Az_ hr0
 have HC0 := Az_ hc0
 clear hr0 hc0
 have HR1 := Az_ hr1
 have HC1 := Az_ hc1
 clear hr1 hc1
 have H : (if (l0.length : Int) = (l1.length : Int) then (laws_fSame.l0 k l0 l1 (l0.length : Int) 0) else (some false)) = some r := h
 clear h
 by_cases c3 : (l0.length : Int) = (l1.length : Int)
 ·rw [if_pos c3] at H
  have c3b0 : ((l0.length : Int) == (l1.length : Int)) = true := beq_iff_eq.mpr c3
  have c3b1 : ((l0.length : Int) != (l1.length : Int)) = false := bne_eq_false_iff_eq.mpr c3
  have c3b2 : (l0.length == l1.length) = true := by first | simpa using c3 | (simp at c3 ⊢; omega)
  clear c3
  have H' := Az_ H
  clear H
  go_enter Tryd.func44, Tryd.ntmps44
  go_wp2
  go_loopg [13] k (fun kq v13 w' => ∃ (x13_1 : Int), v13 = .int .i64 x13_1 ∧ Aside0 (laws_fSame.l0 kq l0 l1 (l0.length : Int) x13_1 = some r) ∧ Aside0 (kq ≤ k) ∧ Drawn0 w w')
  case atStart => exact ⟨(0), qaz_, H', ⟨Nat.le_refl _⟩, by repeat (first | exact Drawn0.refl _ | apply Drawn0.step)⟩
  case round =>
   clear H'
   clear c3b0 c3b1 c3b2
   obtain ⟨x13_1, rfl, HA, HK1, ⟨m1, rfl⟩⟩ := hrel
   cases gk with
   | zero => exact absurd HA.out (by simp [laws_fSame.l0])
   | succ k1 =>
    have H := HA.out
    clear HA
    simp only [laws_fSame.l0] at H
    by_cases c4 : x13_1 < (l0.length : Int)
    ·rw [if_pos c4] at H
     have c4b0 := decide_eq_true c4
     clear c4
     by_cases c5 : 0 ≤ x13_1
     ·rw [if_pos c5] at H
      have c5b0 := decide_eq_true c5
      clear c5
      by_cases c6 : x13_1 < (l0.length : Int)
      ·rw [if_pos c6] at H
       have c6b0 := decide_eq_true c6
       clear c6
       by_cases c7 : x13_1 < (l1.length : Int)
       ·rw [if_pos c7] at H
        have c7b0 := decide_eq_true c7
        clear c7
        by_cases c8 : (rd l0 x13_1) = (rd l1 x13_1)
        ·rw [if_pos c8] at H
         have c8b0 : ((rd l0 x13_1) == (rd l1 x13_1)) = true := beq_iff_eq.mpr c8
         have c8b1 : ((rd l0 x13_1) != (rd l1 x13_1)) = false := bne_eq_false_iff_eq.mpr c8
         clear c8
         have H' := Az_ H
         clear H
         have p243 : 0 ≤ (x13_1 : Int) := of_decide_eq_true asz_
         have q243 : x13_1 < (l0.length : Int) := of_decide_eq_true asz_
         obtain ⟨ad243, e243, hx243_0⟩ := Kd.at_int HR0.out x13_1 p243 q243
         cases e243
         replace p243 := eq_true p243
         replace q243 := eq_true q243
         have p244 : 0 ≤ (x13_1 : Int) := of_decide_eq_true asz_
         have q244 : x13_1 < (l1.length : Int) := of_decide_eq_true asz_
         obtain ⟨ad244, e244, hx244_0⟩ := Kd.at_int HR1.out x13_1 p244 q244
         cases e244
         replace p244 := eq_true p244
         replace q244 := eq_true q244
         go_wp2
         repeat (go_quiet (fail); try go_wp2)
         go_roundg k1
         case measure => have := HK1.out; omega
         case rel => exact ⟨(wrap64 (x13_1 + 1)), qaz_, H', ⟨by have := HK1.out; omega⟩, by repeat (first | exact Drawn0.refl _ | apply Drawn0.step)⟩
        ·rw [if_neg c8] at H
         have c8b0 : ((rd l0 x13_1) == (rd l1 x13_1)) = false := beq_eq_false_iff_ne.mpr c8
         have c8b1 : ((rd l0 x13_1) != (rd l1 x13_1)) = true := bne_iff_ne.mpr c8
         obtain rfl := Option.some.inj H
         have p243 : 0 ≤ (x13_1 : Int) := of_decide_eq_true asz_
         have q243 : x13_1 < (l0.length : Int) := of_decide_eq_true asz_
         obtain ⟨ad243, e243, hx243_0⟩ := Kd.at_int HR0.out x13_1 p243 q243
         cases e243
         replace p243 := eq_true p243
         replace q243 := eq_true q243
         have p244 : 0 ≤ (x13_1 : Int) := of_decide_eq_true asz_
         have q244 : x13_1 < (l1.length : Int) := of_decide_eq_true asz_
         obtain ⟨ad244, e244, hx244_0⟩ := Kd.at_int HR1.out x13_1 p244 q244
         cases e244
         replace p244 := eq_true p244
         replace q244 := eq_true q244
         go_wp2
         repeat (go_quiet (fail); try go_wp2)
         go_ret
         exact ⟨by first | rfl | (simp; done) | (simp [*]; done), by repeat (first | exact Drawn0.refl _ | apply Drawn0.step)⟩
       ·rw [if_neg c7] at H
        exact absurd H (by simp)
      ·rw [if_neg c6] at H
       exact absurd H (by simp)
     ·rw [if_neg c5] at H
      exact absurd H (by simp)
    ·rw [if_neg c4] at H
     have c4b0 := decide_eq_false c4
     clear c4
     obtain rfl := Option.some.inj H
     go_wp2
     go_ret
     exact ⟨by first | rfl | (simp; done) | (simp [*]; done), by repeat (first | exact Drawn0.refl _ | apply Drawn0.step)⟩
 ·rw [if_neg c3] at H
  have c3b0 : ((l0.length : Int) == (l1.length : Int)) = false := beq_eq_false_iff_ne.mpr c3
  have c3b1 : ((l0.length : Int) != (l1.length : Int)) = true := bne_iff_ne.mpr c3
  have c3b2 : (l0.length == l1.length) = false := by first | simpa using c3 | (simp at c3 ⊢; omega)
  obtain rfl := Option.some.inj H
  go_enter Tryd.func44, Tryd.ntmps44
  go_wp2
  go_ret
  exact ⟨by first | rfl | (simp; done) | (simp [*]; done), by repeat (first | exact Drawn0.refl _ | apply Drawn0.step)⟩

/-! ### impl_ParseBinding: function 45 -/
mutual
def impl_ParseBinding.j0 : Nat → ByteArray → List Int → Bool → Option (List Int × Bool)
 | 0, _, _, _ => none
 | k + 1, x0, x4, x16 => if x16 = true then (some (([] : List Int), false)) else (impl_ParseBinding.l0 k x0 x4 0)
def impl_ParseBinding.l0 : Nat → ByteArray → List Int → Int → Option (List Int × Bool)
 | 0, _, _, _ => none
 | k + 1, x0, x4, x5 => if x5 < (x0.size : Int) then (if 0 ≤ (wrap64 (x5 + 1)) then (if (wrap64 (x5 + 1)) < (x0.size : Int) then (if 0 ≤ x5 then (if (bt x0 x5) = 45 then (if x4.length < 17592186044416 then (impl_ParseBinding.l0 k x0 (x4 ++ [wrap64 (-(wrap64 ((wrap64 (bt x0 (wrap64 (x5 + 1)))) - 48)))]) (wrap64 (x5 + 2))) else (none)) else (if x4.length < 17592186044416 then (impl_ParseBinding.l0 k x0 (x4 ++ [wrap64 ((wrap64 (bt x0 (wrap64 (x5 + 1)))) - 48)]) (wrap64 (x5 + 2))) else (none))) else (none)) else (none)) else (none)) else ((impl_IsBinding.f k x4).bind fun t254 => (if t254 = true then ((impl_bindingText.f k x4).bind fun t255 => (if t255.toList = x0.toList then (some (x4, true)) else (some (([] : List Int), false)))) else (some (([] : List Int), false))))
end
def impl_ParseBinding.f (k : Nat) (a0 : ByteArray) : Option (List Int × Bool) := (some (([] : List Int) : List Int)).bind fun y245 => (if ((a0.size : Int) % 2) = 1 then (impl_ParseBinding.j0 k a0 y245 true) else (impl_ParseBinding.j0 k a0 y245 (decide ((a0.size : Int) > 16))))
set_option maxHeartbeats 8000000 in
set_option maxRecDepth 100000 in
theorem impl_ParseBinding.calls (k : Nat) (a0 : ByteArray) (r1 : List Int) (r2 : Bool) (w : World) (hT : TabW w) (h : impl_ParseBinding.f k a0 = some (r1, r2)) :
  Calls Tryd.prog 45 #[.string a0] w fun e w' => ∃ v0_ : Value, e = .returned (.tuple #[v0_, .bool r2]) ∧ Kd.R (Kd.int .i64) 3 w' w.heap.size (fun _ => True) v0_ r1 ∧ Below w.heap.size w w' := by
 have HTAB := Az_ hT
 clear hT
 have HB := Az_ (Below.refl w.heap.size w)
 have H : ((some (([] : List Int) : List Int)).bind fun y245 => (if ((a0.size : Int) % 2) = 1 then (j0 k a0 y245 true) else (j0 k a0 y245 (decide ((a0.size : Int) > 16))))) = some (r1, r2) := h
 clear h
 obtain ⟨y245, hy245⟩ : ∃ y_ : List Int, y_ = (([] : List Int)) := ⟨_, rfl⟩
 replace H : (if ((a0.size : Int) % 2) = 1 then (j0 k a0 y245 true) else (j0 k a0 y245 (decide ((a0.size : Int) > 16)))) = some (r1, r2) := by first | (rw [hy245]; with_reducible exact H) | (have H2_ := (Option.bind_some _ _).symm.trans H; rw [hy245]; with_reducible exact H2_) | (have H2_ := (Option.bind_some _ _).symm.trans H; with_reducible exact H2_) | with_reducible exact H | (rw [hy245]; exact H) | exact H
 have Ny245 := Az_ hy245
 clear hy245
 have HC2 := Az_ H
 clear H
 go_enter Tryd.func45, Tryd.ntmps45
 go_upto_region 2 with (first | ((with_reducible refine gate_dst (N := 7) rfl ?_); (try (refine gate_guard (by rfl) ?_; dsimp only)); refine Kd.R_lit (Kd.int .i64) _ 3 ?hg (N := 7) ?hd (xs := ([] : List Int)) (inner := []) (ok := fun _ => True) (okp := fun _ => True) ?hr ?hp (fun _ hk => hk) trivial (Below.refl _ _) (Nat.le_refl _) (by simp) ?_; (case hd => rfl); (case hg => rfl); (case hr => first | (go_simp; done) | (go_simp; rfl)); (case hp => exact (Reps.none _ _)); intro v246 w3 ho4 hb hg_ hnew_; clear hg_ hnew_; (first | rw [← Ny245.out] at ho4 | (simp only [Int.reduceToNat] at ho4; rw [← Ny245.out] at ho4)); have HO247 := Az_ (Kd.R_lower ho4 (below_size (ubz_ HB.out))); replace HB := Az_ (btz_ (ubz_ HB.out) hb); clear hb ho4))
 (try simp only [Act.put, List.setIfInBounds_toArray, List.set_cons_zero, List.set_cons_succ])
 go_cut [16] (fun v16 wc => ∃ (kq : Nat) (x16_1 : Bool), v16 = .bool x16_1 ∧ Aside0 (j0 kq a0 y245 x16_1 = some (r1, r2)) ∧ Aside0 (kq ≤ k) ∧ Aside0 (Kd.R (Kd.int .i64) 3 wc w.heap.size (fun _ => True) v246 y245) ∧ Aside0 (Below w.heap.size w wc))
 case first =>
  have H := HC2.out
  clear HC2
  by_cases c5 : ((a0.size : Int) % 2) = 1
  ·rw [if_pos c5] at H
   have c5b0 : (((a0.size : Int) % 2) == 1) = true := beq_iff_eq.mpr c5
   have c5b1 : (((a0.size : Int) % 2) != 1) = false := bne_eq_false_iff_eq.mpr c5
   clear c5
   (first | rw [c5b0] | (simp only [i64_w, i32_w]; rw [c5b0]) | skip)
   have H' := Az_ H
   clear H
   go_wp2
   go_meet
   case rel => exact ⟨_, (true), qaz_, H', ⟨by first | omega | exact Nat.le_refl _⟩, ⟨by (with_reducible repeat (first | apply raz_ | apply rnz_ | apply rdz_)); exact HO247.out⟩, ⟨by exact ubz_ HB.out⟩⟩
  ·rw [if_neg c5] at H
   have c5b0 : (((a0.size : Int) % 2) == 1) = false := beq_eq_false_iff_ne.mpr c5
   have c5b1 : (((a0.size : Int) % 2) != 1) = true := bne_iff_ne.mpr c5
   (first | rw [c5b0] | (simp only [i64_w, i32_w]; rw [c5b0]) | skip)
   have H' := Az_ H
   clear H
   go_wp2
   go_meet
   case rel => exact ⟨_, (decide ((a0.size : Int) > 16)), qaz_, H', ⟨by first | omega | exact Nat.le_refl _⟩, ⟨by (with_reducible repeat (first | apply raz_ | apply rnz_ | apply rdz_)); exact HO247.out⟩, ⟨by exact ubz_ HB.out⟩⟩
 case rest =>
  clear HC2
  obtain ⟨kq, x16_1, rfl, HA, HJ1, HO_4, HB⟩ := hcut
  cases kq with
  | zero => exact absurd HA.out (by simp [j0])
  | succ kj1 =>
   have H := HA.out
   clear HA
   simp only [j0] at H
   by_cases c6 : x16_1 = true
   ·subst c6
    rw [if_pos rfl] at H
    simp only [Option.some.injEq, Prod.mk.injEq] at H
    obtain ⟨rfl, rfl⟩ := H
    go_wp2
    go_ret2
    exact ⟨_, by first | rfl | (simp [errW_none, errW_some] <;> rfl) | (simp [*, errW_none, errW_some] <;> rfl), by first | exact Kd.R_nil _ _ _ _ _ | exact Kd.N_nil _ _ _ _ _ | exact Kd.V_nil _ _ _ _ _ | exact Kd.Q_nil _ _ _ _ _ | exact Kd.S_nil _ _ _ _ _, by exact ubz_ HB.out⟩
   ·replace c6 := Bool.eq_false_iff.mpr c6
    subst c6
    rw [if_neg nfz_] at H
    have H' := Az_ H
    clear H
    go_wp2
    go_loopg [4, 5] kj1 (fun kq v4 v5 w' => ∃ (x4_2 : List Int) (x5_2 : Int), v5 = .int .i64 x5_2 ∧ Aside0 (impl_ParseBinding.l0 kq a0 x4_2 x5_2 = some (r1, r2)) ∧ Aside0 (kq ≤ kj1) ∧ Aside0 (Kd.R (Kd.int .i64) 3 w' w.heap.size (fun _ => True) v4 x4_2) ∧ Aside0 (Below w.heap.size w w'))
    case atStart => exact ⟨(y245), (0), qaz_, H', ⟨Nat.le_refl _⟩, ⟨by (with_reducible repeat (first | apply raz_ | apply rnz_ | apply rdz_)); exact HO_4.out⟩, ⟨by exact ubz_ HB.out⟩⟩
    case round =>
     clear H'
     obtain ⟨x4_2, x5_2, rfl, HA, HK2, HO_4, HB⟩ := hrel
     cases gk with
     | zero => exact absurd HA.out (by simp [impl_ParseBinding.l0])
     | succ k2 =>
      have H := HA.out
      clear HA
      simp only [impl_ParseBinding.l0] at H
      by_cases c7 : x5_2 < (a0.size : Int)
      ·rw [if_pos c7] at H
       have c7b0 := decide_eq_true c7
       clear c7
       obtain ⟨ji8, hji8⟩ : ∃ j_ : Int, (wrap64 (x5_2 + 1)) = j_ := ⟨_, rfl⟩
       replace H : (if 0 ≤ (ji8) then (if (ji8) < (a0.size : Int) then (if 0 ≤ x5_2 then (if (bt a0 x5_2) = 45 then (if x4_2.length < 17592186044416 then (impl_ParseBinding.l0 k2 a0 (x4_2 ++ [wrap64 (-(wrap64 ((wrap64 (bt a0 (ji8))) - 48)))]) (wrap64 (x5_2 + 2))) else (none)) else (if x4_2.length < 17592186044416 then (impl_ParseBinding.l0 k2 a0 (x4_2 ++ [wrap64 ((wrap64 (bt a0 (ji8))) - 48)]) (wrap64 (x5_2 + 2))) else (none))) else (none)) else (none)) else (none)) = some (r1, r2) := by first | (rw [hji8] at H; exact H) | (simp only [hji8] at H ⊢; exact H)
       have hji8w : (IntKind.i64.wrap (x5_2 + 1)) = ji8 := (i64_w _).trans hji8
       by_cases c9 : 0 ≤ (ji8)
       ·rw [if_pos c9] at H
        have c9b0 := decide_eq_true c9
        clear c9
        by_cases c10 : (ji8) < (a0.size : Int)
        ·rw [if_pos c10] at H
         have c10b0 := decide_eq_true c10
         clear c10
         by_cases c12 : 0 ≤ x5_2
         ·rw [if_pos c12] at H
          have c12b0 := decide_eq_true c12
          clear c12
          by_cases c14 : (bt a0 x5_2) = 45
          ·rw [if_pos c14] at H
           have c14b0 : ((bt a0 x5_2) == 45) = true := beq_iff_eq.mpr c14
           have c14b1 : ((bt a0 x5_2) != 45) = false := bne_eq_false_iff_eq.mpr c14
           clear c14
           by_cases c15 : x4_2.length < 17592186044416
           ·rw [if_pos c15] at H
            have LMc15 := Az_ c15
            clear c15
            obtain ⟨y248, hy248⟩ : ∃ y_ : List Int, y_ = (x4_2 ++ [wrap64 (-(wrap64 ((wrap64 (bt a0 (ji8))) - 48)))]) := ⟨_, rfl⟩
            replace H : (impl_ParseBinding.l0 k2 a0 y248 (wrap64 (x5_2 + 2))) = some (r1, r2) := by first | (rw [hy248]; with_reducible exact H) | (have H2_ := (Option.bind_some _ _).symm.trans H; rw [hy248]; with_reducible exact H2_) | (have H2_ := (Option.bind_some _ _).symm.trans H; with_reducible exact H2_) | with_reducible exact H | (rw [hy248]; exact H) | exact H
            have Ny248 := Az_ hy248
            clear hy248
            have H' := Az_ H
            clear H
            have p11 : 0 ≤ ((ji8) : Int) := of_decide_eq_true asz_
            have q11 : (ji8) < (a0.size : Int) := of_decide_eq_true asz_
            have hx11 := bt_at a0 (ji8)
            replace p11 := eq_true p11
            replace q11 := eq_true q11
            have p13 : 0 ≤ (x5_2 : Int) := of_decide_eq_true asz_
            have q13 : x5_2 < (a0.size : Int) := of_decide_eq_true asz_
            have hx13 := bt_at a0 x5_2
            replace p13 := eq_true p13
            replace q13 := eq_true q13
            go_wp2_with (first | ((with_reducible refine gate_builtin (b := .append) (xs := #[.tmp 35, .tmp 37]) rfl ?_); (try (refine gate_guard (by rfl) ?_; dsimp only)); at_builtin; refine Kd.R_append (Kd.int .i64) (w0 := w) w.heap.size rfl (.tmp 35) (.tmp 37) 49 3 (.int .i64 0) 8 rfl Tryd.underlying49 info3 rfl (by decide) (by omega) u4 x4_2 (wrap64 (-(wrap64 ((wrap64 (bt a0 (ji8))) - 48)))) [.int .i64 (wrap64 (-(wrap64 ((wrap64 (bt a0 (ji8))) - 48))))] (fun _ => True) (fun _ => False) rfl rfl ?aP (fun _ hk => hk.elim) ?aF ?aO ?aB ?aS ?aL ?_; (case aP => exact rfl); (case aB => exact (ubz_ HB.out)); (case aF => exact (fun _ _ => trivial)); (case aO => exact (by exact urz_ HO_4.out)); (case aS => exact (below_size (ubz_ HB.out))); (case aL => have := LMc15.out; omega); intro v249 w16 ho hb hg hat; rw [← Ny248.out] at ho; replace HB := Az_ (hb); have HO250 := Az_ (ho); clear HO_4; clear ho hb hg hat))
            go_roundg k2
            case measure => have := HJ1.out; have := HK2.out; omega
            case rel => exact ⟨(y248), (wrap64 (x5_2 + 2)), qaz_, H', ⟨by have := HJ1.out; have := HK2.out; omega⟩, ⟨by (with_reducible repeat (first | apply raz_ | apply rnz_ | apply rdz_)); exact HO250.out⟩, ⟨by exact ubz_ HB.out⟩⟩
           ·rw [if_neg c15] at H
            exact absurd H (by simp)
          ·rw [if_neg c14] at H
           have c14b0 : ((bt a0 x5_2) == 45) = false := beq_eq_false_iff_ne.mpr c14
           have c14b1 : ((bt a0 x5_2) != 45) = true := bne_iff_ne.mpr c14
           by_cases c17 : x4_2.length < 17592186044416
           ·rw [if_pos c17] at H
            have LMc17 := Az_ c17
            clear c17
            obtain ⟨y251, hy251⟩ : ∃ y_ : List Int, y_ = (x4_2 ++ [wrap64 ((wrap64 (bt a0 (ji8))) - 48)]) := ⟨_, rfl⟩
            replace H : (impl_ParseBinding.l0 k2 a0 y251 (wrap64 (x5_2 + 2))) = some (r1, r2) := by first | (rw [hy251]; with_reducible exact H) | (have H2_ := (Option.bind_some _ _).symm.trans H; rw [hy251]; with_reducible exact H2_) | (have H2_ := (Option.bind_some _ _).symm.trans H; with_reducible exact H2_) | with_reducible exact H | (rw [hy251]; exact H) | exact H
            have Ny251 := Az_ hy251
            clear hy251
            have H' := Az_ H
            clear H
            have p11 : 0 ≤ ((ji8) : Int) := of_decide_eq_true asz_
            have q11 : (ji8) < (a0.size : Int) := of_decide_eq_true asz_
            have hx11 := bt_at a0 (ji8)
            replace p11 := eq_true p11
            replace q11 := eq_true q11
            have p13 : 0 ≤ (x5_2 : Int) := of_decide_eq_true asz_
            have q13 : x5_2 < (a0.size : Int) := of_decide_eq_true asz_
            have hx13 := bt_at a0 x5_2
            replace p13 := eq_true p13
            replace q13 := eq_true q13
            go_wp2_with (first | ((with_reducible refine gate_builtin (b := .append) (xs := #[.tmp 35, .tmp 37]) rfl ?_); (try (refine gate_guard (by rfl) ?_; dsimp only)); at_builtin; refine Kd.R_append (Kd.int .i64) (w0 := w) w.heap.size rfl (.tmp 35) (.tmp 37) 49 3 (.int .i64 0) 8 rfl Tryd.underlying49 info3 rfl (by decide) (by omega) u4 x4_2 (wrap64 ((wrap64 (bt a0 (ji8))) - 48)) [.int .i64 (wrap64 ((wrap64 (bt a0 (ji8))) - 48))] (fun _ => True) (fun _ => False) rfl rfl ?aP (fun _ hk => hk.elim) ?aF ?aO ?aB ?aS ?aL ?_; (case aP => exact rfl); (case aB => exact (ubz_ HB.out)); (case aF => exact (fun _ _ => trivial)); (case aO => exact (by exact urz_ HO_4.out)); (case aS => exact (below_size (ubz_ HB.out))); (case aL => have := LMc17.out; omega); intro v252 w18 ho hb hg hat; rw [← Ny251.out] at ho; replace HB := Az_ (hb); have HO253 := Az_ (ho); clear HO_4; clear ho hb hg hat))
            go_roundg k2
            case measure => have := HJ1.out; have := HK2.out; omega
            case rel => exact ⟨(y251), (wrap64 (x5_2 + 2)), qaz_, H', ⟨by have := HJ1.out; have := HK2.out; omega⟩, ⟨by (with_reducible repeat (first | apply raz_ | apply rnz_ | apply rdz_)); exact HO253.out⟩, ⟨by exact ubz_ HB.out⟩⟩
           ·rw [if_neg c17] at H
            exact absurd H (by simp)
         ·rw [if_neg c12] at H
          exact absurd H (by simp)
        ·rw [if_neg c10] at H
         exact absurd H (by simp)
       ·rw [if_neg c9] at H
        exact absurd H (by simp)
      ·rw [if_neg c7] at H
       have c7b0 := decide_eq_false c7
       clear c7
       replace H := bqz_ H; obtain ⟨t254, A19, H⟩ := H
       replace H : (if t254 = true then ((impl_bindingText.f k2 x4_2).bind fun t255 => (if t255.toList = a0.toList then (some (x4_2, true)) else (some (([] : List Int), false)))) else (some (([] : List Int), false))) = some (r1, r2) := H
       by_cases c20 : t254 = true
       ·subst c20
        rw [if_pos rfl] at H
        replace H := bqz_ H; obtain ⟨t255, A21, H⟩ := H
        replace H : (if t255.toList = a0.toList then (some (x4_2, true)) else (some (([] : List Int), false))) = some (r1, r2) := H
        by_cases c22 : t255.toList = a0.toList
        ·rw [if_pos c22] at H
         have c22b0 : (t255.toList == a0.toList) = true := beq_iff_eq.mpr c22
         have c22b1 : (t255.toList != a0.toList) = false := bne_eq_false_iff_eq.mpr c22
         clear c22
         simp only [Option.some.injEq, Prod.mk.injEq] at H
         obtain ⟨rfl, rfl⟩ := H
         obtain ⟨Ao23, co23, eo23⟩ := Kd.R_slice HO_4.out
         subst eo23
         go_wp2_with (first | ((with_reducible refine gate_callee (f := 64) rfl ?_); refine goesL_ (some 40) rfl rfl Tryd.func64 (by kernel_rfl) rfl #[.slice Ao23 x4_2.length co23] rfl maz_ ?_; (with_reducible refine (impl_IsBinding.calls k2 _ _ x4_2 true _ ?side1 ?side2 A19.out).mono ?_); (case side1 => exact ucz_ ((Kd.R_reads' HO_4.out).2.2)); (case side2 => exact (Kd.R_reads' HO_4.out).2.1); rintro e w24 ⟨rfl, hb⟩; refine ⟨_, rfl, ?_⟩; replace HO_4 := Az_ (Kd.R_below (by exact urz_ HO_4.out) hb); replace HB := Az_ (btz_ (ubz_ HB.out) hb); (try clear hb)) | (go_at_call 125; (with_reducible refine (impl_bindingText.calls k2 _ _ x4_2 t255 _ (tabW_below HTAB.out (ubz_ HB.out)) ?side1 ?side2 A21.out).mono ?_); (case side1 => exact ucz_ ((Kd.R_reads' HO_4.out).2.2)); (case side2 => exact (Kd.R_reads' HO_4.out).2.1); rintro e w25 ⟨rfl, hb⟩; replace HO_4 := Az_ (Kd.R_below (by exact urz_ HO_4.out) hb); replace HB := Az_ (btz_ (ubz_ HB.out) hb); (try clear hb)))
         go_ret2
         exact ⟨_, by first | rfl | (simp [errW_none, errW_some] <;> rfl) | (simp [*, errW_none, errW_some] <;> rfl), by (with_reducible repeat (first | apply raz_ | apply rnz_ | apply rdz_)); exact HO_4.out, by exact ubz_ HB.out⟩
        ·rw [if_neg c22] at H
         have c22b0 : (t255.toList == a0.toList) = false := beq_eq_false_iff_ne.mpr c22
         have c22b1 : (t255.toList != a0.toList) = true := bne_iff_ne.mpr c22
         simp only [Option.some.injEq, Prod.mk.injEq] at H
         obtain ⟨rfl, rfl⟩ := H
         obtain ⟨Ao26, co26, eo26⟩ := Kd.R_slice HO_4.out
         subst eo26
         go_wp2_with (first | ((with_reducible refine gate_callee (f := 64) rfl ?_); refine goesL_ (some 40) rfl rfl Tryd.func64 (by kernel_rfl) rfl #[.slice Ao26 x4_2.length co26] rfl maz_ ?_; (with_reducible refine (impl_IsBinding.calls k2 _ _ x4_2 true _ ?side1 ?side2 A19.out).mono ?_); (case side1 => exact ucz_ ((Kd.R_reads' HO_4.out).2.2)); (case side2 => exact (Kd.R_reads' HO_4.out).2.1); rintro e w27 ⟨rfl, hb⟩; refine ⟨_, rfl, ?_⟩; replace HO_4 := Az_ (Kd.R_below (by exact urz_ HO_4.out) hb); replace HB := Az_ (btz_ (ubz_ HB.out) hb); (try clear hb)) | (go_at_call 125; (with_reducible refine (impl_bindingText.calls k2 _ _ x4_2 t255 _ (tabW_below HTAB.out (ubz_ HB.out)) ?side1 ?side2 A21.out).mono ?_); (case side1 => exact ucz_ ((Kd.R_reads' HO_4.out).2.2)); (case side2 => exact (Kd.R_reads' HO_4.out).2.1); rintro e w28 ⟨rfl, hb⟩; replace HO_4 := Az_ (Kd.R_below (by exact urz_ HO_4.out) hb); replace HB := Az_ (btz_ (ubz_ HB.out) hb); (try clear hb)))
         go_ret2
         exact ⟨_, by first | rfl | (simp [errW_none, errW_some] <;> rfl) | (simp [*, errW_none, errW_some] <;> rfl), by first | exact Kd.R_nil _ _ _ _ _ | exact Kd.N_nil _ _ _ _ _ | exact Kd.V_nil _ _ _ _ _ | exact Kd.Q_nil _ _ _ _ _ | exact Kd.S_nil _ _ _ _ _, by exact ubz_ HB.out⟩
       ·replace c20 := Bool.eq_false_iff.mpr c20
        subst c20
        rw [if_neg nfz_] at H
        simp only [Option.some.injEq, Prod.mk.injEq] at H
        obtain ⟨rfl, rfl⟩ := H
        obtain ⟨Ao29, co29, eo29⟩ := Kd.R_slice HO_4.out
        subst eo29
        go_wp2_with (first | ((with_reducible refine gate_callee (f := 64) rfl ?_); refine goesL_ (some 40) rfl rfl Tryd.func64 (by kernel_rfl) rfl #[.slice Ao29 x4_2.length co29] rfl maz_ ?_; (with_reducible refine (impl_IsBinding.calls k2 _ _ x4_2 false _ ?side1 ?side2 A19.out).mono ?_); (case side1 => exact ucz_ ((Kd.R_reads' HO_4.out).2.2)); (case side2 => exact (Kd.R_reads' HO_4.out).2.1); rintro e w30 ⟨rfl, hb⟩; refine ⟨_, rfl, ?_⟩; replace HO_4 := Az_ (Kd.R_below (by exact urz_ HO_4.out) hb); replace HB := Az_ (btz_ (ubz_ HB.out) hb); (try clear hb)))
        go_ret2
        exact ⟨_, by first | rfl | (simp [errW_none, errW_some] <;> rfl) | (simp [*, errW_none, errW_some] <;> rfl), by first | exact Kd.R_nil _ _ _ _ _ | exact Kd.N_nil _ _ _ _ _ | exact Kd.V_nil _ _ _ _ _ | exact Kd.Q_nil _ _ _ _ _ | exact Kd.S_nil _ _ _ _ _, by exact ubz_ HB.out⟩

end Go.Proofs.YtppbpefehpbejaaDoor.P
end

section
namespace Go.Proofs.YtppbpefehpbejaaDoor.P
open Go.RowKit Go.Proofs.YtppbpefehpbejaaDoorW.PrintWords Go.Proofs.YtppbpefehpbejaaDoorW.PrintLast Go.Proofs.YtppbpefehpbejaaDoorW.PrintMore
attribute [local go_sem] max2_int min2_int max_two min_two max_three min_three max_four min_four   -- for this text's walks alone
set_option linter.unusedVariables false
set_option linter.unusedSimpArgs false

/-! ### impl_OpenAt: function 46 -/
def impl_OpenAt.j0 : Nat → List Int → Int → Bool → Option (Int × Int × Bool)
 | 0, _, _, _ => none
 | k + 1, x0, x1, x20 => if x20 = true then (some (0, 0, false)) else (if 0 ≤ x1 then (if x1 < (x0.length : Int) then ((impl_pagesOf.f (rd x0 x1)).bind fun bt259 => (if (wrap64 (x1 + 1)) < (x0.length : Int) then (if 0 ≤ (wrap64 (x1 + 1)) then ((impl_pagesOf.f (rd x0 (wrap64 (x1 + 1)))).bind fun bt262 => (some (bt259.2, bt262.1, true))) else (none)) else (some (bt259.2, 0, true)))) else (none)) else (none))
def impl_OpenAt.f (k : Nat) (l0 : List Int) (a1 : Int) : Option (Int × Int × Bool) := (impl_IsBinding.f k l0).bind fun t256 => (if t256 = true then ((impl_within.f a1 0 (wrap64 ((l0.length : Int) - 1))).bind fun t257 => (impl_OpenAt.j0 k l0 a1 (!t257))) else (impl_OpenAt.j0 k l0 a1 true))
theorem impl_OpenAt.mono_l : ∀ k, (∀ y0 y1 y2, LeO (impl_OpenAt.j0 k y0 y1 y2) (impl_OpenAt.j0 (k + 1) y0 y1 y2))
 | 0 => fun _ _ _ r h => by simp [impl_OpenAt.j0] at h
 | k + 1 => by
  have ih0 := impl_OpenAt.mono_l k
  ·intro y0 y1 y2
   unfold impl_OpenAt.j0
   repeat' first
   | (with_reducible exact ih0 _ _ _)
   | (with_reducible exact impl_IsBinding.mono _ _)
   | (with_reducible exact LeO.refl _)
   | (with_reducible exact LeO.none _)
   | (with_reducible refine LeO.ite ?_ ?_)
   | (with_reducible refine LeO.bind ?_ (fun _ => ?_))
theorem impl_OpenAt.mono : ∀ a0 a1 k, LeO (impl_OpenAt.f k a0 a1) (impl_OpenAt.f (k + 1) a0 a1) := by
 intro a0 a1 k
 have ih0 := impl_OpenAt.mono_l k
 unfold impl_OpenAt.f
 repeat' first
   | (with_reducible exact ih0 _ _ _)
   | (with_reducible exact impl_IsBinding.mono _ _)
   | (with_reducible exact LeO.refl _)
   | (with_reducible exact LeO.none _)
   | (with_reducible refine LeO.ite ?_ ?_)
   | (with_reducible refine LeO.bind ?_ (fun _ => ?_))
set_option maxHeartbeats 8000000 in
set_option maxRecDepth 100000 in
theorem impl_OpenAt.calls (k : Nat) (A0 : Option Addr) (c0 : Nat) (l0 : List Int) (a1 : Int) (r1 : Int) (r2 : Int) (r3 : Bool) (w : World) (hr0 : Kd.C (Kd.int .i64) w A0 l0.length l0) (hc0 : l0.length ≤ c0) (h : impl_OpenAt.f k l0 a1 = some (r1, r2, r3)) :
  Calls Tryd.prog 46 #[.slice A0 l0.length c0, .int .i64 a1] w fun e w' => e = .returned (.tuple #[.int .i64 r1, .int .i64 r2, .bool r3]) ∧ Below w.heap.size w w' := by
 have HR0 := Az_ hr0
 have HC0 := Az_ hc0
 clear hr0 hc0
 have HB := Az_ (Below.refl w.heap.size w)
 have H : ((impl_IsBinding.f k l0).bind fun t256 => (if t256 = true then ((impl_within.f a1 0 (wrap64 ((l0.length : Int) - 1))).bind fun t257 => (j0 k l0 a1 (!t257))) else (j0 k l0 a1 true))) = some (r1, r2, r3) := h
 clear h
 have HC3 := Az_ H
 clear H
 go_enter Tryd.func46, Tryd.ntmps46
 go_upto_region 1 with (fail)
 go_cut [20] (fun v20 wc => ∃ (kq : Nat) (x20_2 : Bool), v20 = .bool x20_2 ∧ Aside0 (j0 kq l0 a1 x20_2 = some (r1, r2, r3)) ∧ Aside0 (kq ≤ k) ∧ Aside0 (Below w.heap.size w wc))
 case first =>
  have H := HC3.out
  clear HC3
  replace H := bqz_ H; obtain ⟨t256, A4, H⟩ := H
  replace H : (if t256 = true then ((impl_within.f a1 0 (wrap64 ((l0.length : Int) - 1))).bind fun t257 => (j0 k l0 a1 (!t257))) else (j0 k l0 a1 true)) = some (r1, r2, r3) := H
  by_cases c5 : t256 = true
  ·subst c5
   rw [if_pos rfl] at H
   replace H := bqz_ H; obtain ⟨t257, A6, H⟩ := H
   replace H : (j0 k l0 a1 (!t257)) = some (r1, r2, r3) := H
   have H' := Az_ H
   clear H
   go_wp2_with (first | ((with_reducible refine gate_callee (f := 64) rfl ?_); refine goesL_ (some 11) rfl rfl Tryd.func64 (by kernel_rfl) rfl #[.slice A0 l0.length c0] rfl maz_ ?_; (with_reducible refine (impl_IsBinding.calls k _ _ l0 true _ ?side1 ?side2 A4.out).mono ?_); (case side1 => exact ucz_ ((Kd.C_below HR0.out HB.out))); (case side2 => exact HC0.out); rintro e w7 ⟨rfl, hb⟩; refine ⟨_, rfl, ?_⟩; replace HB := Az_ (btz_ (ubz_ HB.out) hb); (try clear hb)) | (go_at_call 97; (with_reducible refine (impl_within.calls a1 0 (wrap64 ((l0.length : Int) - 1)) t257 _ A6.out).mono ?_); rintro e w' ⟨rfl, ⟨nd, rfl⟩⟩))
   go_meet
   case rel => exact ⟨_, (!t257), qaz_, H', ⟨by first | omega | exact Nat.le_refl _⟩, ⟨by exact ubz_ HB.out⟩⟩
  ·replace c5 := Bool.eq_false_iff.mpr c5
   subst c5
   rw [if_neg nfz_] at H
   have H' := Az_ H
   clear H
   go_wp2_with (first | ((with_reducible refine gate_callee (f := 64) rfl ?_); refine goesL_ (some 11) rfl rfl Tryd.func64 (by kernel_rfl) rfl #[.slice A0 l0.length c0] rfl maz_ ?_; (with_reducible refine (impl_IsBinding.calls k _ _ l0 false _ ?side1 ?side2 A4.out).mono ?_); (case side1 => exact ucz_ ((Kd.C_below HR0.out HB.out))); (case side2 => exact HC0.out); rintro e w8 ⟨rfl, hb⟩; refine ⟨_, rfl, ?_⟩; replace HB := Az_ (btz_ (ubz_ HB.out) hb); (try clear hb)))
   go_meet
   case rel => exact ⟨_, (true), qaz_, H', ⟨by first | omega | exact Nat.le_refl _⟩, ⟨by exact ubz_ HB.out⟩⟩
 case rest =>
  clear HC3
  obtain ⟨kq, x20_2, rfl, HA, HJ2, HB⟩ := hcut
  cases kq with
  | zero => exact absurd HA.out (by simp [j0])
  | succ kj2 =>
   have H := HA.out
   clear HA
   simp only [j0] at H
   by_cases c9 : x20_2 = true
   ·subst c9
    rw [if_pos rfl] at H
    simp only [Option.some.injEq, Prod.mk.injEq] at H
    obtain ⟨rfl, rfl, rfl⟩ := H
    go_wp2
    go_ret3
    exact ⟨by first | rfl | (simp [errW_none, errW_some] <;> rfl) | (simp [*, errW_none, errW_some] <;> rfl), by exact ubz_ HB.out⟩
   ·replace c9 := Bool.eq_false_iff.mpr c9
    subst c9
    rw [if_neg nfz_] at H
    by_cases c10 : 0 ≤ a1
    ·rw [if_pos c10] at H
     have c10b0 := decide_eq_true c10
     clear c10
     by_cases c11 : a1 < (l0.length : Int)
     ·rw [if_pos c11] at H
      have c11b0 := decide_eq_true c11
      clear c11
      replace H := bqz_ H; obtain ⟨⟨t259, t260⟩, A12, H⟩ := H
      replace H : (if (wrap64 (a1 + 1)) < (l0.length : Int) then (if 0 ≤ (wrap64 (a1 + 1)) then ((impl_pagesOf.f (rd l0 (wrap64 (a1 + 1)))).bind fun bt262 => (some (t260, bt262.1, true))) else (none)) else (some (t260, 0, true))) = some (r1, r2, r3) := H
      by_cases c13 : (wrap64 (a1 + 1)) < (l0.length : Int)
      ·rw [if_pos c13] at H
       have c13b0 := decide_eq_true c13
       clear c13
       obtain ⟨ji14, hji14⟩ : ∃ j_ : Int, (wrap64 (a1 + 1)) = j_ := ⟨_, rfl⟩
       replace H : (if 0 ≤ (ji14) then ((impl_pagesOf.f (rd l0 (ji14))).bind fun bt262 => (some (t260, bt262.1, true))) else (none)) = some (r1, r2, r3) := by first | (rw [hji14] at H; exact H) | (simp only [hji14] at H ⊢; exact H)
       (try rw [hji14] at c13b0)
       (try rw [hji14] at A12)
       have hji14w : (IntKind.i64.wrap (a1 + 1)) = ji14 := (i64_w _).trans hji14
       by_cases c15 : 0 ≤ (ji14)
       ·rw [if_pos c15] at H
        have c15b0 := decide_eq_true c15
        clear c15
        replace H := bqz_ H; obtain ⟨⟨t262, t263⟩, A16, H⟩ := H
        replace H : (some (t260, t262, true)) = some (r1, r2, r3) := H
        simp only [Option.some.injEq, Prod.mk.injEq] at H
        obtain ⟨rfl, rfl, rfl⟩ := H
        have p258 : 0 ≤ (a1 : Int) := of_decide_eq_true asz_
        have q258 : a1 < (l0.length : Int) := of_decide_eq_true asz_
        obtain ⟨ad258, e258, hx258_0⟩ := Kd.at_int HR0.out a1 p258 q258
        cases e258
        replace hx258_0 := (HB.out.cell (World.block_lt_of_cell? w _ hx258_0)).trans hx258_0
        replace p258 := eq_true p258
        replace q258 := eq_true q258
        go_wp2_with (first | ((with_reducible refine gate_callee (f := 122) rfl ?_); refine goesL_ (some 26) rfl rfl Tryd.func122 (by kernel_rfl) rfl #[.int .i64 (rd l0 a1)] rfl maz_ ?_; (with_reducible refine (impl_pagesOf.calls (rd l0 a1) t259 t260 _ A12.out).mono ?_); rintro e w' ⟨rfl, ⟨nd, rfl⟩⟩; refine ⟨_, rfl, ?_⟩; have p261 : 0 ≤ ((ji14) : Int) := of_decide_eq_true asz_; have q261 : (ji14) < (l0.length : Int) := of_decide_eq_true asz_; obtain ⟨ad261, e261, hx261_0⟩ := Kd.at_int HR0.out (ji14) p261 q261; obtain rfl : ad258 = ad261 := (by injection e261); replace hx261_0 := (HB.out.cell (World.block_lt_of_cell? w _ hx261_0)).trans hx261_0; replace p261 := eq_true p261; replace q261 := eq_true q261) | ((with_reducible refine gate_callee (f := 122) rfl ?_); refine goesL_ (some 40) rfl rfl Tryd.func122 (by kernel_rfl) rfl #[.int .i64 (rd l0 (ji14))] rfl (by (try simp only [List.map_toArray, List.map_cons, List.map_nil]); first | done | (simp only [hji14]; rfl) | rfl | (simp only [List.length_drop, List.length_take]; rfl)) ?_; (with_reducible refine (impl_pagesOf.calls (rd l0 (ji14)) t262 t263 _ A16.out).mono ?_); rintro e w' ⟨rfl, ⟨nd, rfl⟩⟩; refine ⟨_, rfl, ?_⟩))
        go_ret3
        exact ⟨by first | rfl | (simp [errW_none, errW_some] <;> rfl) | (simp only [← hji14]; first | rfl | (simp [errW_none, errW_some] <;> rfl)) | (simp [*, errW_none, errW_some] <;> rfl), by exact ubz_ HB.out⟩
       ·rw [if_neg c15] at H
        exact absurd H (by simp)
      ·rw [if_neg c13] at H
       have c13b0 := decide_eq_false c13
       clear c13
       simp only [Option.some.injEq, Prod.mk.injEq] at H
       obtain ⟨rfl, rfl, rfl⟩ := H
       have p258 : 0 ≤ (a1 : Int) := of_decide_eq_true asz_
       have q258 : a1 < (l0.length : Int) := of_decide_eq_true asz_
       obtain ⟨ad258, e258, hx258_0⟩ := Kd.at_int HR0.out a1 p258 q258
       cases e258
       replace hx258_0 := (HB.out.cell (World.block_lt_of_cell? w _ hx258_0)).trans hx258_0
       replace p258 := eq_true p258
       replace q258 := eq_true q258
       go_wp2_with (first | ((with_reducible refine gate_callee (f := 122) rfl ?_); refine goesL_ (some 26) rfl rfl Tryd.func122 (by kernel_rfl) rfl #[.int .i64 (rd l0 a1)] rfl maz_ ?_; (with_reducible refine (impl_pagesOf.calls (rd l0 a1) t259 t260 _ A12.out).mono ?_); rintro e w' ⟨rfl, ⟨nd, rfl⟩⟩; refine ⟨_, rfl, ?_⟩))
       go_ret3
       exact ⟨by first | rfl | (simp [errW_none, errW_some] <;> rfl) | (simp [*, errW_none, errW_some] <;> rfl), by exact ubz_ HB.out⟩
     ·rw [if_neg c11] at H
      exact absurd H (by simp)
    ·rw [if_neg c10] at H
     exact absurd H (by simp)

-- NOT PRINTED: function 128 (impl_PlaceOfLeaf_1)

/-! ### spec_DrawTurnPart: function 130 -/
def spec_DrawTurnPart.f (k : Nat) (l0 : List Int) : Option (List Int × Int × Int) := (spec_l1Cur_binding.f k l0 0 0).bind fun bt266 => ((spec_l1Cur_pick.f l0 bt266.2.1 bt266.2.2 (wrap64 ((bt266.1.length : Int) + 1))).bind fun bt271 => ((spec_l1Cur_pick.f l0 bt271.2.1 bt271.2.2 9).bind fun bt274 => ((spec_l1Cur_pick.f l0 bt274.2.1 bt274.2.2 4).bind fun bt277 => ((spec_l1Cur_pick.f l0 bt277.2.1 bt277.2.2 9).bind fun bt280 => (some (bt266.1, wrap64 (bt271.1 - (wrap64 (Int.tdiv bt274.1 8))), wrap64 ((wrap64 ((wrap64 (bt271.1 - (wrap64 (Int.tdiv bt274.1 8)))) + bt277.1)) - (wrap64 (Int.tdiv bt280.1 8)))))))))
set_option maxHeartbeats 8000000 in
set_option maxRecDepth 100000 in
theorem spec_DrawTurnPart.callsR (k : Nat) (A0 : Option Addr) (c0 : Nat) (l0 : List Int) (r1 : List Int) (r2 : Int) (r3 : Int) (w : World) (hr0 : Kd.C (Kd.int .u8) w A0 l0.length l0) (hc0 : l0.length ≤ c0) (h : spec_DrawTurnPart.f k l0 = some (r1, r2, r3)) :
  Calls Tryd.prog 130 #[.slice A0 l0.length c0] w fun e w' => ∃ v0_ : Value, e = .returned (.tuple #[v0_, .int .i64 r2, .int .i64 r3]) ∧ Kd.R (Kd.int .i64) 3 w' w.heap.size (fun k_ => (w.heap.size ≤ k_)) v0_ r1 ∧ Below w.heap.size w w' := by
 have hu111 := Tryd.underlying111
 have HR0 := Az_ hr0
 have HC0 := Az_ hc0
 clear hr0 hc0
 have HB := Az_ (Below.refl w.heap.size w)
 have H : ((spec_l1Cur_binding.f k l0 0 0).bind fun bt266 => ((spec_l1Cur_pick.f l0 bt266.2.1 bt266.2.2 (wrap64 ((bt266.1.length : Int) + 1))).bind fun bt271 => ((spec_l1Cur_pick.f l0 bt271.2.1 bt271.2.2 9).bind fun bt274 => ((spec_l1Cur_pick.f l0 bt274.2.1 bt274.2.2 4).bind fun bt277 => ((spec_l1Cur_pick.f l0 bt277.2.1 bt277.2.2 9).bind fun bt280 => (some (bt266.1, wrap64 (bt271.1 - (wrap64 (Int.tdiv bt274.1 8))), wrap64 ((wrap64 ((wrap64 (bt271.1 - (wrap64 (Int.tdiv bt274.1 8)))) + bt277.1)) - (wrap64 (Int.tdiv bt280.1 8)))))))))) = some (r1, r2, r3) := h
 clear h
 replace H := bqz_ H; obtain ⟨⟨t266, t269, t270⟩, A2, H⟩ := H
 replace H := bqz_ H; obtain ⟨⟨t271, t272, t273⟩, A3, H⟩ := H
 replace H := bqz_ H; obtain ⟨⟨t274, t275, t276⟩, A4, H⟩ := H
 replace H := bqz_ H; obtain ⟨⟨t277, t278, t279⟩, A5, H⟩ := H
 replace H := bqz_ H; obtain ⟨⟨t280, t281, t282⟩, A6, H⟩ := H
 replace H : (some (t266, wrap64 (t271 - (wrap64 (Int.tdiv t274 8))), wrap64 ((wrap64 ((wrap64 (t271 - (wrap64 (Int.tdiv t274 8)))) + t277)) - (wrap64 (Int.tdiv t280 8))))) = some (r1, r2, r3) := H
 simp only [Option.some.injEq, Prod.mk.injEq] at H
 obtain ⟨rfl, rfl, rfl⟩ := H
 go_enter Tryd.func130, Tryd.ntmps130
 go_wp2_with (first | ((with_reducible refine gate_dst (N := 10) rfl ?_); refine box_event ?hg (N := 10) ?hd (cs := #[.slice A0 l0.length c0, .int .i64 0, .int .u64 0]) (t := 111) ?hr ?_; (case hd => rfl); (case hg => rfl); (case hr => first | (go_simp; done) | (go_simp; rfl)); intro gb265 hg w7 hbox hb; have BK265 := Az_ (hbox); have GW265 := Az_ ((by rw [hg]; exact (below_size (ubz_ HB.out)) : w.heap.size ≤ gb265)); have GE265 := Az_ ((by rw [hg]; exact (below_size (ubz_ HB.out)) : w.heap.size ≤ gb265)); replace HB := Az_ (btz_ (ubz_ HB.out) hb); clear hb hbox hg) | ((with_reducible refine gate_callee (f := 180) rfl ?_); refine goesL_ (some 12) rfl rfl Tryd.func180 (by kernel_rfl) rfl #[.pointer (some ⟨gb265, 0, none⟩)] rfl maz_ ?_; have HI265 := Az_ (show IsS111 w w7 gb265 l0 0 0 from ⟨_, _, BK265.out, GE265.out, HR0.out⟩); (with_reducible refine (spec_l1Cur_binding.callsR k gb265 l0 0 0 t266 t269 t270 w _ ?side1 ?side2 A2.out).mono ?_); (case side1 => repeat (first | (with_reducible first | exact HI265.out | apply IsS111.alloc | apply IsS111.drewN | apply IsS111.drew | apply IsS111.set_1 | apply IsS111.set_2) | exact HI265.out)); (case side2 => repeat (first | (with_reducible first | exact HB.out | apply baz_ | apply bnz_ | apply bdz_ | refine bsz_ ?_ (IsS111.ge HI265.out)) | exact HB.out)); rintro e w8 ⟨v267, rfl, ho0, hi, hb, hk⟩; refine ⟨_, rfl, ?_⟩; have HO268 := Az_ (Kd.R_lower (Kd.R_mono (ok' := fun k_ => (w.heap.size ≤ k_) ∧ k_ ≠ gb265) ho0 (fun k_ hk_ => ⟨(Nat.le_trans (below_size (by repeat (first | (with_reducible first | exact HB.out | apply baz_ | apply bnz_ | apply bdz_ | refine bsz_ ?_ (IsS111.ge HI265.out)) | exact HB.out))) hk_), (IsS111.fresh (by repeat (first | (with_reducible first | exact HI265.out | apply IsS111.alloc | apply IsS111.drewN | apply IsS111.drew | apply IsS111.set_1 | apply IsS111.set_2) | exact HI265.out)) k_ hk_)⟩)) (below_size (by repeat (first | (with_reducible first | exact HB.out | apply baz_ | apply bnz_ | apply bdz_ | refine bsz_ ?_ (IsS111.ge HI265.out)) | exact HB.out)))); replace HB := Az_ (hb); replace HI265 := Az_ (hi); (try clear hb); (try clear hk); (try clear hi); (try clear ho0); obtain ⟨Ao9, co9, eo9⟩ := Kd.R_slice HO268.out; subst eo9) | ((with_reducible refine gate_callee (f := 96) rfl ?_); refine goesL_ (some 17) rfl rfl Tryd.func96 (by kernel_rfl) rfl #[.pointer (some ⟨gb265, 0, none⟩), .int .i64 (wrap64 ((t266.length : Int) + 1))] rfl maz_ ?_; (with_reducible refine (spec_l1Cur_pick.calls gb265 l0 t269 t270 (wrap64 ((t266.length : Int) + 1)) t271 t272 t273 w _ ?side1 ?side2 A3.out).mono ?_); (case side1 => repeat (first | (with_reducible first | exact HI265.out | apply IsS111.alloc | apply IsS111.drewN | apply IsS111.drew | apply IsS111.set_1 | apply IsS111.set_2) | exact HI265.out)); (case side2 => repeat (first | (with_reducible first | exact HB.out | apply baz_ | apply bnz_ | apply bdz_ | refine bsz_ ?_ (IsS111.ge HI265.out)) | exact HB.out)); rintro e w10 ⟨rfl, hi, hb, hk⟩; refine ⟨_, rfl, ?_⟩; replace HO268 := Az_ (Kd.R_mono (Kd.R_keep (Kd.R_mono (ok := fun k_ => (((w.heap.size ≤ k_)) ∧ k_ ≠ gb265)) (by exact urz_ HO268.out) (fun k_ hk_ => (⟨hk_, hk_.2⟩ : _ ∧ k_ ≠ gb265))) hk (fun _ h => h.2)) (fun _ h => h.1)); replace HB := Az_ (hb); replace HI265 := Az_ (hi); (try clear hb); (try clear hk); (try clear hi)) | ((with_reducible refine gate_callee (f := 96) rfl ?_); refine goesL_ (some 19) rfl rfl Tryd.func96 (by kernel_rfl) rfl #[.pointer (some ⟨gb265, 0, none⟩), .int .i64 9] rfl maz_ ?_; (with_reducible refine (spec_l1Cur_pick.calls gb265 l0 t272 t273 9 t274 t275 t276 w _ ?side1 ?side2 A4.out).mono ?_); (case side1 => repeat (first | (with_reducible first | exact HI265.out | apply IsS111.alloc | apply IsS111.drewN | apply IsS111.drew | apply IsS111.set_1 | apply IsS111.set_2) | exact HI265.out)); (case side2 => repeat (first | (with_reducible first | exact HB.out | apply baz_ | apply bnz_ | apply bdz_ | refine bsz_ ?_ (IsS111.ge HI265.out)) | exact HB.out)); rintro e w11 ⟨rfl, hi, hb, hk⟩; refine ⟨_, rfl, ?_⟩; replace HO268 := Az_ (Kd.R_mono (Kd.R_keep (Kd.R_mono (ok := fun k_ => (((w.heap.size ≤ k_)) ∧ k_ ≠ gb265)) (by exact urz_ HO268.out) (fun k_ hk_ => (⟨hk_, hk_.2⟩ : _ ∧ k_ ≠ gb265))) hk (fun _ h => h.2)) (fun _ h => h.1)); replace HB := Az_ (hb); replace HI265 := Az_ (hi); (try clear hb); (try clear hk); (try clear hi)) | ((with_reducible refine gate_callee (f := 96) rfl ?_); refine goesL_ (some 26) rfl rfl Tryd.func96 (by kernel_rfl) rfl #[.pointer (some ⟨gb265, 0, none⟩), .int .i64 4] rfl maz_ ?_; (with_reducible refine (spec_l1Cur_pick.calls gb265 l0 t275 t276 4 t277 t278 t279 w _ ?side1 ?side2 A5.out).mono ?_); (case side1 => repeat (first | (with_reducible first | exact HI265.out | apply IsS111.alloc | apply IsS111.drewN | apply IsS111.drew | apply IsS111.set_1 | apply IsS111.set_2) | exact HI265.out)); (case side2 => repeat (first | (with_reducible first | exact HB.out | apply baz_ | apply bnz_ | apply bdz_ | refine bsz_ ?_ (IsS111.ge HI265.out)) | exact HB.out)); rintro e w12 ⟨rfl, hi, hb, hk⟩; refine ⟨_, rfl, ?_⟩; replace HO268 := Az_ (Kd.R_mono (Kd.R_keep (Kd.R_mono (ok := fun k_ => (((w.heap.size ≤ k_)) ∧ k_ ≠ gb265)) (by exact urz_ HO268.out) (fun k_ hk_ => (⟨hk_, hk_.2⟩ : _ ∧ k_ ≠ gb265))) hk (fun _ h => h.2)) (fun _ h => h.1)); replace HB := Az_ (hb); replace HI265 := Az_ (hi); (try clear hb); (try clear hk); (try clear hi)) | ((with_reducible refine gate_callee (f := 96) rfl ?_); refine goesL_ (some 29) rfl rfl Tryd.func96 (by kernel_rfl) rfl #[.pointer (some ⟨gb265, 0, none⟩), .int .i64 9] rfl maz_ ?_; (with_reducible refine (spec_l1Cur_pick.calls gb265 l0 t278 t279 9 t280 t281 t282 w _ ?side1 ?side2 A6.out).mono ?_); (case side1 => repeat (first | (with_reducible first | exact HI265.out | apply IsS111.alloc | apply IsS111.drewN | apply IsS111.drew | apply IsS111.set_1 | apply IsS111.set_2) | exact HI265.out)); (case side2 => repeat (first | (with_reducible first | exact HB.out | apply baz_ | apply bnz_ | apply bdz_ | refine bsz_ ?_ (IsS111.ge HI265.out)) | exact HB.out)); rintro e w13 ⟨rfl, hi, hb, hk⟩; refine ⟨_, rfl, ?_⟩; replace HO268 := Az_ (Kd.R_mono (Kd.R_keep (Kd.R_mono (ok := fun k_ => (((w.heap.size ≤ k_)) ∧ k_ ≠ gb265)) (by exact urz_ HO268.out) (fun k_ hk_ => (⟨hk_, hk_.2⟩ : _ ∧ k_ ≠ gb265))) hk (fun _ h => h.2)) (fun _ h => h.1)); replace HB := Az_ (hb); replace HI265 := Az_ (hi); (try clear hb); (try clear hk); (try clear hi)))
 go_ret3
 exact ⟨_, by first | rfl | (simp [errW_none, errW_some] <;> rfl) | (simp [*, errW_none, errW_some] <;> rfl), by (with_reducible repeat (first | apply raz_ | apply rnz_ | apply rdz_)); exact Kd.R_mono HO268.out (fun _ hk => hk.1), by repeat (first | (with_reducible first | exact HB.out | apply baz_ | apply bnz_ | apply bdz_ | refine bsz_ ?_ (IsS111.ge HI265.out)) | exact HB.out)⟩
/-! ### spec_DrawCutPart: function 48 -/
def spec_DrawCutPart.f (k : Nat) (l0 : List Int) : Option (List Int × Int × Int × Int) := (spec_DrawTurnPart.f k l0).bind fun bt283 => ((spec_l1Cur_pick.f l0 5 0 (wrap64 ((bt283.1.length : Int) + 1))).bind fun bt289 => ((spec_l1Cur_pick.f l0 bt289.2.1 bt289.2.2 9).bind fun bt292 => (some (bt283.1, bt283.2.1, bt283.2.2, wrap64 (bt289.1 - (wrap64 (Int.tdiv bt292.1 8)))))))
set_option maxHeartbeats 8000000 in
set_option maxRecDepth 100000 in
theorem spec_DrawCutPart.callsR (k : Nat) (A0 : Option Addr) (c0 : Nat) (l0 : List Int) (r1 : List Int) (r2 : Int) (r3 : Int) (r4 : Int) (w : World) (hr0 : Kd.C (Kd.int .u8) w A0 l0.length l0) (hc0 : l0.length ≤ c0) (h : spec_DrawCutPart.f k l0 = some (r1, r2, r3, r4)) :
  Calls Tryd.prog 48 #[.slice A0 l0.length c0] w fun e w' => ∃ v0_ : Value, e = .returned (.tuple #[v0_, .int .i64 r2, .int .i64 r3, .int .i64 r4]) ∧ Kd.R (Kd.int .i64) 3 w' w.heap.size (fun k_ => (w.heap.size ≤ k_)) v0_ r1 ∧ Below w.heap.size w w' := by
 have hu111 := Tryd.underlying111
 have HR0 := Az_ hr0
 have HC0 := Az_ hc0
 clear hr0 hc0
 have HB := Az_ (Below.refl w.heap.size w)
 have H : ((spec_DrawTurnPart.f k l0).bind fun bt283 => ((spec_l1Cur_pick.f l0 5 0 (wrap64 ((bt283.1.length : Int) + 1))).bind fun bt289 => ((spec_l1Cur_pick.f l0 bt289.2.1 bt289.2.2 9).bind fun bt292 => (some (bt283.1, bt283.2.1, bt283.2.2, wrap64 (bt289.1 - (wrap64 (Int.tdiv bt292.1 8)))))))) = some (r1, r2, r3, r4) := h
 clear h
 replace H := bqz_ H; obtain ⟨⟨t283, t286, t287⟩, A2, H⟩ := H
 replace H := bqz_ H; obtain ⟨⟨t289, t290, t291⟩, A3, H⟩ := H
 replace H := bqz_ H; obtain ⟨⟨t292, t293, t294⟩, A4, H⟩ := H
 replace H : (some (t283, t286, t287, wrap64 (t289 - (wrap64 (Int.tdiv t292 8))))) = some (r1, r2, r3, r4) := H
 simp only [Option.some.injEq, Prod.mk.injEq] at H
 obtain ⟨rfl, rfl, rfl, rfl⟩ := H
 go_enter Tryd.func48, Tryd.ntmps48
 go_wp2_with (first | ((with_reducible refine gate_callee (f := 130) rfl ?_); refine goesL_ (some 12) rfl rfl Tryd.func130 (by kernel_rfl) rfl #[.slice A0 l0.length c0] rfl maz_ ?_; (with_reducible refine (spec_DrawTurnPart.callsR k _ _ l0 t283 t286 t287 _ ?side1 ?side2 A2.out).mono ?_); (case side1 => exact ucz_ (HR0.out)); (case side2 => exact HC0.out); rintro e w5 ⟨v284, rfl, ho0, hb⟩; refine ⟨_, rfl, ?_⟩; have HO285 := Az_ (Kd.R_lower (Kd.R_mono (ok' := fun k_ => (w.heap.size ≤ k_)) ho0 (fun k_ hk_ => (Nat.le_trans (below_size (ubz_ HB.out)) hk_))) (below_size (ubz_ HB.out))); replace HB := Az_ (btz_ (ubz_ HB.out) hb); (try clear hb); (try clear hk); (try clear hi); (try clear ho0)) | ((with_reducible refine gate_dst (N := 18) rfl ?_); refine box_event ?hg (N := 18) ?hd (cs := #[.slice A0 l0.length c0, .int .i64 5, .int .u64 0]) (t := 111) ?hr ?_; (case hd => rfl); (case hg => rfl); (case hr => first | (go_simp; done) | (go_simp; rfl)); intro gb288 hg w6 hbox hb; replace HO285 := Az_ (Kd.R_below (Kd.R_elderB (by exact urz_ HO285.out) gb288 (Nat.le_of_eq hg.symm)) hb); have BK288 := Az_ (hbox); have GW288 := Az_ ((by rw [hg]; exact (below_size (ubz_ HB.out)) : w.heap.size ≤ gb288)); have GE288 := Az_ ((by rw [hg]; exact (below_size (ubz_ HB.out)) : w.heap.size ≤ gb288)); replace HB := Az_ (btz_ (ubz_ HB.out) hb); clear hb hbox hg; obtain ⟨Ao7, co7, eo7⟩ := Kd.R_slice HO285.out; subst eo7) | ((with_reducible refine gate_callee (f := 96) rfl ?_); refine goesL_ (some 26) rfl rfl Tryd.func96 (by kernel_rfl) rfl #[.pointer (some ⟨gb288, 0, none⟩), .int .i64 (wrap64 ((t283.length : Int) + 1))] rfl maz_ ?_; have HI288 := Az_ (show IsS111 w w6 gb288 l0 5 0 from ⟨_, _, BK288.out, GE288.out, HR0.out⟩); (with_reducible refine (spec_l1Cur_pick.calls gb288 l0 5 0 (wrap64 ((t283.length : Int) + 1)) t289 t290 t291 w _ ?side1 ?side2 A3.out).mono ?_); (case side1 => repeat (first | (with_reducible first | exact HI288.out | apply IsS111.alloc | apply IsS111.drewN | apply IsS111.drew | apply IsS111.set_1 | apply IsS111.set_2) | exact HI288.out)); (case side2 => repeat (first | (with_reducible first | exact HB.out | apply baz_ | apply bnz_ | apply bdz_ | refine bsz_ ?_ (IsS111.ge HI288.out)) | exact HB.out)); rintro e w8 ⟨rfl, hi, hb, hk⟩; refine ⟨_, rfl, ?_⟩; replace HO285 := Az_ (Kd.R_mono (Kd.R_keep (Kd.R_mono (ok := fun k_ => (((w.heap.size ≤ k_)) ∧ k_ ≠ gb288)) (by exact urz_ HO285.out) (fun k_ hk_ => (⟨hk_, hk_.2⟩ : _ ∧ k_ ≠ gb288))) hk (fun _ h => h.2)) (fun _ h => h.1)); replace HB := Az_ (hb); replace HI288 := Az_ (hi); (try clear hb); (try clear hk); (try clear hi)) | ((with_reducible refine gate_callee (f := 96) rfl ?_); refine goesL_ (some 28) rfl rfl Tryd.func96 (by kernel_rfl) rfl #[.pointer (some ⟨gb288, 0, none⟩), .int .i64 9] rfl maz_ ?_; (with_reducible refine (spec_l1Cur_pick.calls gb288 l0 t290 t291 9 t292 t293 t294 w _ ?side1 ?side2 A4.out).mono ?_); (case side1 => repeat (first | (with_reducible first | exact HI288.out | apply IsS111.alloc | apply IsS111.drewN | apply IsS111.drew | apply IsS111.set_1 | apply IsS111.set_2) | exact HI288.out)); (case side2 => repeat (first | (with_reducible first | exact HB.out | apply baz_ | apply bnz_ | apply bdz_ | refine bsz_ ?_ (IsS111.ge HI288.out)) | exact HB.out)); rintro e w9 ⟨rfl, hi, hb, hk⟩; refine ⟨_, rfl, ?_⟩; replace HO285 := Az_ (Kd.R_mono (Kd.R_keep (Kd.R_mono (ok := fun k_ => (((w.heap.size ≤ k_)) ∧ k_ ≠ gb288)) (by exact urz_ HO285.out) (fun k_ hk_ => (⟨hk_, hk_.2⟩ : _ ∧ k_ ≠ gb288))) hk (fun _ h => h.2)) (fun _ h => h.1)); replace HB := Az_ (hb); replace HI288 := Az_ (hi); (try clear hb); (try clear hk); (try clear hi)))
 refine bodyPost_ret (results_list (rs := [.tmp 2, .tmp 3, .tmp 4, .tmp 5]) rfl (by simp) (.tmp (.tmp (.tmp (.tmp .nil))))) rfl ?_
 exact ⟨_, by first | rfl | (simp [errW_none, errW_some] <;> rfl) | (simp [*, errW_none, errW_some] <;> rfl), by (with_reducible repeat (first | apply raz_ | apply rnz_ | apply rdz_)); exact Kd.R_mono HO285.out (fun _ hk => hk.1), by repeat (first | (with_reducible first | exact HB.out | apply baz_ | apply bnz_ | apply bdz_ | refine bsz_ ?_ (IsS111.ge HI288.out)) | exact HB.out)⟩
/-! ### impl_isPartOf: function 131 -/
def impl_isPartOf.f (l0 : List Int) (a1 : Int) (a2 : Int) : Option (Bool) := (impl_within.f a2 0 (wrap64 ((l0.length : Int) - 1))).bind fun t295 => (if t295 = true then ((impl_within.f a1 0 a2).bind fun t296 => (some t296)) else (some false))
set_option maxHeartbeats 8000000 in
set_option maxRecDepth 100000 in
theorem impl_isPartOf.calls (A0 : Option Addr) (c0 : Nat) (l0 : List Int) (a1 : Int) (a2 : Int) (r : Bool) (w : World) (hr0 : Kd.C (Kd.int .i64) w A0 l0.length l0) (hc0 : l0.length ≤ c0) (h : impl_isPartOf.f l0 a1 a2 = some r) :
  Calls Tryd.prog 131 #[.slice A0 l0.length c0, .int .i64 a1, .int .i64 a2] w fun e w' => e = .returned (.bool r) ∧ Drawn0 w w' := by
 have HR0 := Az_ hr0
 have HC0 := Az_ hc0
 clear hr0 hc0
 have H : ((impl_within.f a2 0 (wrap64 ((l0.length : Int) - 1))).bind fun t295 => (if t295 = true then ((impl_within.f a1 0 a2).bind fun t296 => (some t296)) else (some false))) = some r := h
 clear h
 replace H := bqz_ H; obtain ⟨t295, A4, H⟩ := H
 replace H : (if t295 = true then ((impl_within.f a1 0 a2).bind fun t296 => (some t296)) else (some false)) = some r := H
 by_cases c5 : t295 = true
 ·subst c5
  rw [if_pos rfl] at H
  replace H := bqz_ H; obtain ⟨t296, A6, H⟩ := H
  replace H : (some t296) = some r := H
  obtain rfl := Option.some.inj H
  go_enter Tryd.func131, Tryd.ntmps131
  go_wp2_with (first | ((with_reducible refine gate_callee (f := 97) rfl ?_); refine goesL_ (some 11) rfl rfl Tryd.func97 (by kernel_rfl) rfl #[.int .i64 a2, .int .i64 0, .int .i64 (wrap64 ((l0.length : Int) - 1))] rfl maz_ ?_; (with_reducible refine (impl_within.calls a2 0 (wrap64 ((l0.length : Int) - 1)) true _ A4.out).mono ?_); rintro e w' ⟨rfl, ⟨nd, rfl⟩⟩; refine ⟨_, rfl, ?_⟩) | (go_at_call 97; (with_reducible refine (impl_within.calls a1 0 a2 t296 _ A6.out).mono ?_); rintro e w' ⟨rfl, ⟨nd, rfl⟩⟩))
  go_ret
  exact ⟨by first | rfl | (simp; done) | (simp [*]; done), by repeat (first | exact Drawn0.refl _ | apply Drawn0.step)⟩
 ·replace c5 := Bool.eq_false_iff.mpr c5
  subst c5
  rw [if_neg nfz_] at H
  obtain rfl := Option.some.inj H
  go_enter Tryd.func131, Tryd.ntmps131
  go_wp2_with (first | ((with_reducible refine gate_callee (f := 97) rfl ?_); refine goesL_ (some 11) rfl rfl Tryd.func97 (by kernel_rfl) rfl #[.int .i64 a2, .int .i64 0, .int .i64 (wrap64 ((l0.length : Int) - 1))] rfl maz_ ?_; (with_reducible refine (impl_within.calls a2 0 (wrap64 ((l0.length : Int) - 1)) false _ A4.out).mono ?_); rintro e w' ⟨rfl, ⟨nd, rfl⟩⟩; refine ⟨_, rfl, ?_⟩))
  go_ret
  exact ⟨by first | rfl | (simp; done) | (simp [*]; done), by repeat (first | exact Drawn0.refl _ | apply Drawn0.step)⟩

/-! ### spec_biPart: function 135 -/
def spec_biPart.f (k : Nat) (l0 : List Int) (a1 : Int) (a2 : Int) : Option (Bool) := (spec_biGood.f k l0).bind fun t297 => (if t297 = true then ((spec_l1In.f a1 0 (wrap64 ((l0.length : Int) - 1))).bind fun t298 => (if t298 = true then ((spec_l1In.f a2 a1 (wrap64 ((l0.length : Int) - 1))).bind fun t299 => (some t299)) else (some false))) else (some false))
set_option maxHeartbeats 8000000 in
set_option maxRecDepth 100000 in
theorem spec_biPart.calls (k : Nat) (A0 : Option Addr) (c0 : Nat) (l0 : List Int) (a1 : Int) (a2 : Int) (r : Bool) (w : World) (hr0 : Kd.C (Kd.int .i64) w A0 l0.length l0) (hc0 : l0.length ≤ c0) (h : spec_biPart.f k l0 a1 a2 = some r) :
  Calls Tryd.prog 135 #[.slice A0 l0.length c0, .int .i64 a1, .int .i64 a2] w fun e w' => e = .returned (.bool r) ∧ Drawn0 w w' := by
 have HR0 := Az_ hr0
 have HC0 := Az_ hc0
 clear hr0 hc0
 have H : ((spec_biGood.f k l0).bind fun t297 => (if t297 = true then ((spec_l1In.f a1 0 (wrap64 ((l0.length : Int) - 1))).bind fun t298 => (if t298 = true then ((spec_l1In.f a2 a1 (wrap64 ((l0.length : Int) - 1))).bind fun t299 => (some t299)) else (some false))) else (some false))) = some r := h
 clear h
 replace H := bqz_ H; obtain ⟨t297, A4, H⟩ := H
 replace H : (if t297 = true then ((spec_l1In.f a1 0 (wrap64 ((l0.length : Int) - 1))).bind fun t298 => (if t298 = true then ((spec_l1In.f a2 a1 (wrap64 ((l0.length : Int) - 1))).bind fun t299 => (some t299)) else (some false))) else (some false)) = some r := H
 by_cases c5 : t297 = true
 ·subst c5
  rw [if_pos rfl] at H
  replace H := bqz_ H; obtain ⟨t298, A6, H⟩ := H
  replace H : (if t298 = true then ((spec_l1In.f a2 a1 (wrap64 ((l0.length : Int) - 1))).bind fun t299 => (some t299)) else (some false)) = some r := H
  by_cases c7 : t298 = true
  ·subst c7
   rw [if_pos rfl] at H
   replace H := bqz_ H; obtain ⟨t299, A8, H⟩ := H
   replace H : (some t299) = some r := H
   obtain rfl := Option.some.inj H
   go_enter Tryd.func135, Tryd.ntmps135
   go_wp2_with (first | ((with_reducible refine gate_callee (f := 123) rfl ?_); refine goesL_ (some 8) rfl rfl Tryd.func123 (by kernel_rfl) rfl #[.slice A0 l0.length c0] rfl maz_ ?_; (with_reducible refine (spec_biGood.calls k _ _ l0 true _ ?side1 ?side2 A4.out).mono ?_); (case side1 => exact ucz_ (HR0.out)); (case side2 => first | exact HC0.out | (rw [List.length_take]; have := HC0.out; omega)); rintro e w' ⟨rfl, ⟨nd, rfl⟩⟩; refine ⟨_, rfl, ?_⟩) | (go_at_call 101; (with_reducible refine (spec_l1In.calls a1 0 (wrap64 ((l0.length : Int) - 1)) true _ A6.out).mono ?_); rintro e w' ⟨rfl, ⟨nd, rfl⟩⟩) | (go_at_call 101; (with_reducible refine (spec_l1In.calls a2 a1 (wrap64 ((l0.length : Int) - 1)) t299 _ A8.out).mono ?_); rintro e w' ⟨rfl, ⟨nd, rfl⟩⟩))
   go_ret
   exact ⟨by first | rfl | (simp; done) | (simp [*]; done), by repeat (first | exact Drawn0.refl _ | apply Drawn0.step)⟩
  ·replace c7 := Bool.eq_false_iff.mpr c7
   subst c7
   rw [if_neg nfz_] at H
   obtain rfl := Option.some.inj H
   go_enter Tryd.func135, Tryd.ntmps135
   go_wp2_with (first | ((with_reducible refine gate_callee (f := 123) rfl ?_); refine goesL_ (some 8) rfl rfl Tryd.func123 (by kernel_rfl) rfl #[.slice A0 l0.length c0] rfl maz_ ?_; (with_reducible refine (spec_biGood.calls k _ _ l0 true _ ?side1 ?side2 A4.out).mono ?_); (case side1 => exact ucz_ (HR0.out)); (case side2 => first | exact HC0.out | (rw [List.length_take]; have := HC0.out; omega)); rintro e w' ⟨rfl, ⟨nd, rfl⟩⟩; refine ⟨_, rfl, ?_⟩) | (go_at_call 101; (with_reducible refine (spec_l1In.calls a1 0 (wrap64 ((l0.length : Int) - 1)) false _ A6.out).mono ?_); rintro e w' ⟨rfl, ⟨nd, rfl⟩⟩))
   go_ret
   exact ⟨by first | rfl | (simp; done) | (simp [*]; done), by repeat (first | exact Drawn0.refl _ | apply Drawn0.step)⟩
 ·replace c5 := Bool.eq_false_iff.mpr c5
  subst c5
  rw [if_neg nfz_] at H
  obtain rfl := Option.some.inj H
  go_enter Tryd.func135, Tryd.ntmps135
  go_wp2_with (first | ((with_reducible refine gate_callee (f := 123) rfl ?_); refine goesL_ (some 8) rfl rfl Tryd.func123 (by kernel_rfl) rfl #[.slice A0 l0.length c0] rfl maz_ ?_; (with_reducible refine (spec_biGood.calls k _ _ l0 false _ ?side1 ?side2 A4.out).mono ?_); (case side1 => exact ucz_ (HR0.out)); (case side2 => first | exact HC0.out | (rw [List.length_take]; have := HC0.out; omega)); rintro e w' ⟨rfl, ⟨nd, rfl⟩⟩; refine ⟨_, rfl, ?_⟩))
  go_ret
  exact ⟨by first | rfl | (simp; done) | (simp [*]; done), by repeat (first | exact Drawn0.refl _ | apply Drawn0.step)⟩

/-! ### spec_l1Own: function 136 -/
def spec_l1Own.f (l0 : List Int) : Option (List Int) := (some (([] : List Int) : List Int)).bind fun y300 => (if y300.length + l0.length < 17592186044416 then (some (y300 ++ l0)) else (none))
set_option maxHeartbeats 8000000 in
set_option maxRecDepth 100000 in
theorem spec_l1Own.calls (A0 : Option Addr) (c0 : Nat) (l0 : List Int) (r : List Int) (w : World) (hr0 : Kd.C (Kd.int .i64) w A0 l0.length l0) (hc0 : l0.length ≤ c0) (h : spec_l1Own.f l0 = some r) :
  Calls Tryd.prog 136 #[.slice A0 l0.length c0] w fun e w' => ∃ v0_ : Value, e = .returned (v0_) ∧ Kd.R (Kd.int .i64) 3 w' w.heap.size (fun _ => True) v0_ r ∧ Below w.heap.size w w' := by
 have HR0 := Az_ hr0
 have HC0 := Az_ hc0
 clear hr0 hc0
 have HB := Az_ (Below.refl w.heap.size w)
 have H : ((some (([] : List Int) : List Int)).bind fun y300 => (if y300.length + l0.length < 17592186044416 then (some (y300 ++ l0)) else (none))) = some r := h
 clear h
 obtain ⟨y300, hy300⟩ : ∃ y_ : List Int, y_ = (([] : List Int)) := ⟨_, rfl⟩
 replace H : (if y300.length + l0.length < 17592186044416 then (some (y300 ++ l0)) else (none)) = some r := by first | (rw [hy300]; with_reducible exact H) | (have H2_ := (Option.bind_some _ _).symm.trans H; rw [hy300]; with_reducible exact H2_) | (have H2_ := (Option.bind_some _ _).symm.trans H; with_reducible exact H2_) | with_reducible exact H | (rw [hy300]; exact H) | exact H
 have Ny300 := Az_ hy300
 clear hy300
 by_cases c2 : y300.length + l0.length < 17592186044416
 ·rw [if_pos c2] at H
  have LMc2 := Az_ c2
  clear c2
  obtain ⟨y303, hy303⟩ : ∃ y_ : List Int, y_ = (y300 ++ l0) := ⟨_, rfl⟩
  replace H : (some y303) = some r := by first | (rw [hy303]; with_reducible exact H) | (have H2_ := (Option.bind_some _ _).symm.trans H; rw [hy303]; with_reducible exact H2_) | (have H2_ := (Option.bind_some _ _).symm.trans H; with_reducible exact H2_) | with_reducible exact H | (rw [hy303]; exact H) | exact H
  have Ny303 := Az_ hy303
  clear hy303
  obtain rfl := Option.some.inj H
  go_enter Tryd.func136, Tryd.ntmps136
  go_wp2_with (first | ((with_reducible refine gate_dst (N := 3) rfl ?_); refine Kd.R_lit (Kd.int .i64) _ 3 ?hg (N := 3) ?hd (xs := ([] : List Int)) (inner := []) (ok := fun _ => True) (okp := fun _ => True) ?hr ?hp (fun _ hk => hk) trivial (Below.refl _ _) (Nat.le_refl _) (by simp) ?_; (case hd => rfl); (case hg => rfl); (case hr => first | (go_simp; done) | (go_simp; rfl)); (case hp => exact (Reps.none _ _)); intro v301 w3 ho4 hb hg_ hnew_; clear hg_ hnew_; (first | rw [← Ny300.out] at ho4 | (simp only [Int.reduceToNat] at ho4; rw [← Ny300.out] at ho4)); have HO302 := Az_ (Kd.R_lower ho4 (below_size (ubz_ HB.out))); replace HB := Az_ (btz_ (ubz_ HB.out) hb); clear hb ho4) | ((with_reducible refine gate_builtin (b := .append) (xs := #[.tmp 3, .tmp 4]) rfl ?_); at_builtin; refine Kd.R_append_rows (Kd.int .i64) (w0 := w) w.heap.size rfl (.tmp 3) (.tmp 4) 49 3 (.int .i64 0) 8 rfl Tryd.underlying49 info3 rfl (by decide) (by omega) v301 y300 l0 _ _ _ (fun _ => True) (fun _ => False) rfl rfl ?aO ?aR (fun _ _ h => h) (fun _ h => h.elim) ?aF ?aB ?aS ?aL ?_; (case aR => repeat (first | exact (Kd.C_below HR0.out HB.out) | (with_reducible refine Kd.C_alloc ?_ _) | (with_reducible refine Kd.C_drewN ?_ _) | (with_reducible refine Kd.C_drew ?_))); (case aB => exact (ubz_ HB.out)); (case aF => exact (fun _ _ => trivial)); (case aO => exact (by exact urz_ HO302.out)); (case aS => exact (below_size (ubz_ HB.out))); (case aL => have := LMc2.out; omega); intro v304 w5 ho hb hg hat; rw [← Ny303.out] at ho; replace HB := Az_ (hb); have HO305 := Az_ (ho); clear HO302; clear ho hb hg hat))
  go_ret
  exact ⟨_, by first | rfl | (simp [errW_none, errW_some] <;> rfl) | (simp [*, errW_none, errW_some] <;> rfl), by (with_reducible repeat (first | apply raz_ | apply rnz_ | apply rdz_)); exact HO305.out, by exact ubz_ HB.out⟩
 ·rw [if_neg c2] at H
  exact absurd H (by simp)

end Go.Proofs.YtppbpefehpbejaaDoor.P
end

section
namespace Go.Proofs.YtppbpefehpbejaaDoor.P
open Go.RowKit Go.Proofs.YtppbpefehpbejaaDoorW.PrintWords Go.Proofs.YtppbpefehpbejaaDoorW.PrintLast Go.Proofs.YtppbpefehpbejaaDoorW.PrintMore
attribute [local go_sem] max2_int min2_int max_two min_two max_three min_three max_four min_four   -- for this text's walks alone
set_option linter.unusedVariables false
set_option linter.unusedSimpArgs false

/-! ### spec_CutPart: function 50 -/
def spec_CutPart.j0 : Nat → List Int → Int → Int → Int → Bool → Option (List Int × Bool)
 | 0, _, _, _, _, _ => none
 | k + 1, x0, x1, x2, x3, x28 => if x28 = true then (some (([] : List Int), false)) else (if 0 ≤ x1 then (if x1 ≤ (x0.length : Int) then ((spec_l1Own.f (x0.take (x1 : Int).toNat)).bind fun t309 => (if 0 ≤ (wrap64 (x2 + 1)) then (if (wrap64 (x2 + 1)) ≤ (x0.length : Int) then (if t309.length + (x0.drop ((wrap64 (x2 + 1)) : Int).toNat).length < 17592186044416 then ((some (t309 ++ (x0.drop ((wrap64 (x2 + 1)) : Int).toNat) : List Int)).bind fun y313 => (if 0 ≤ x3 then (if x3 ≤ (y313.length : Int) then ((spec_l1Own.f (y313.take (x3 : Int).toNat)).bind fun t320 => (if x1 ≤ (wrap64 (x2 + 1)) then (if t320.length + ((x0.take ((wrap64 (x2 + 1)) : Int).toNat).drop (x1 : Int).toNat).length < 17592186044416 then ((some (t320 ++ ((x0.take ((wrap64 (x2 + 1)) : Int).toNat).drop (x1 : Int).toNat) : List Int)).bind fun y324 => ((some (y313.drop (x3 : Int).toNat : List Int)).bind fun y327 => (if y324.length + y327.length < 17592186044416 then (some ((y324 ++ y327), true)) else (none)))) else (none)) else (none))) else (none)) else (none))) else (none)) else (none)) else (none))) else (none)) else (none))
def spec_CutPart.f (k : Nat) (l0 : List Int) (a1 : Int) (a2 : Int) (a3 : Int) : Option (List Int × Bool) := (spec_biPart.f k l0 a1 a2).bind fun t306 => (if t306 = true then ((spec_l1In.f a3 0 (wrap64 ((wrap64 ((l0.length : Int) - 1)) - (wrap64 (a2 - a1))))).bind fun t307 => (spec_CutPart.j0 k l0 a1 a2 a3 (!t307))) else (spec_CutPart.j0 k l0 a1 a2 a3 true))
def spec_CutPart.T3 : Bool × List (List Nat × List Nat) := (true, [([], []), ([], []), ([0, 1], [0, 1]), ([2], [2]), ([], []), ([], []), ([5], [5]), ([4, 6], [4, 6]), ([3, 7, 3], [3, 7]), ([8, 8, 0, 1, 2, 3, 4, 5, 6, 7, 8], [8])])
def spec_CutPart.B3 : List Nat := [0, 0, 3, 7, 0, 0, 32, 112, 255, 511]
theorem spec_CutPart.tab3 : rtab .any (opsOf Tryd.f50 3) = spec_CutPart.T3 := by kernel_rfl
theorem spec_CutPart.bits3 : waitsOk spec_CutPart.T3.2 spec_CutPart.B3 = true := by kernel_rfl
def spec_CutPart.T4 : Bool × List (List Nat × List Nat) := (true, [([], []), ([], []), ([0, 1], [0, 1]), ([2], [2]), ([], []), ([], []), ([], []), ([6], [6]), ([4, 5, 7], [4, 5, 7]), ([3, 8, 3], [3, 8]), ([9, 9, 0, 1, 2, 3, 4, 5, 6, 7, 8, 9], [9])])
def spec_CutPart.B4 : List Nat := [0, 0, 3, 7, 0, 0, 0, 64, 240, 511, 1023]
theorem spec_CutPart.tab4 : rtab .any (opsOf Tryd.f50 4) = spec_CutPart.T4 := by kernel_rfl
theorem spec_CutPart.bits4 : waitsOk spec_CutPart.T4.2 spec_CutPart.B4 = true := by kernel_rfl
set_option maxHeartbeats 8000000 in
set_option maxRecDepth 100000 in
theorem spec_CutPart.calls (k : Nat) (A0 : Option Addr) (c0 : Nat) (l0 : List Int) (a1 : Int) (a2 : Int) (a3 : Int) (r1 : List Int) (r2 : Bool) (w : World) (hr0 : Kd.C (Kd.int .i64) w A0 l0.length l0) (hc0 : l0.length ≤ c0) (h : spec_CutPart.f k l0 a1 a2 a3 = some (r1, r2)) :
  Calls Tryd.prog 50 #[.slice A0 l0.length c0, .int .i64 a1, .int .i64 a2, .int .i64 a3] w fun e w' => ∃ v0_ : Value, e = .returned (.tuple #[v0_, .bool r2]) ∧ Kd.R (Kd.int .i64) 3 w' w.heap.size (fun _ => True) v0_ r1 ∧ Below w.heap.size w w' := by
 have HR0 := Az_ hr0
 have HC0 := Az_ hc0
 clear hr0 hc0
 have HB := Az_ (Below.refl w.heap.size w)
 have H : ((spec_biPart.f k l0 a1 a2).bind fun t306 => (if t306 = true then ((spec_l1In.f a3 0 (wrap64 ((wrap64 ((l0.length : Int) - 1)) - (wrap64 (a2 - a1))))).bind fun t307 => (j0 k l0 a1 a2 a3 (!t307))) else (j0 k l0 a1 a2 a3 true))) = some (r1, r2) := h
 clear h
 have HC5 := Az_ H
 clear H
 go_enter Tryd.func50, Tryd.ntmps50
 go_upto_region 1 with (fail)
 go_cut [28] (fun v28 wc => ∃ (kq : Nat) (x28_4 : Bool), v28 = .bool x28_4 ∧ Aside0 (j0 kq l0 a1 a2 a3 x28_4 = some (r1, r2)) ∧ Aside0 (kq ≤ k) ∧ Aside0 (Below w.heap.size w wc))
 case first =>
  have H := HC5.out
  clear HC5
  replace H := bqz_ H; obtain ⟨t306, A6, H⟩ := H
  replace H : (if t306 = true then ((spec_l1In.f a3 0 (wrap64 ((wrap64 ((l0.length : Int) - 1)) - (wrap64 (a2 - a1))))).bind fun t307 => (j0 k l0 a1 a2 a3 (!t307))) else (j0 k l0 a1 a2 a3 true)) = some (r1, r2) := H
  by_cases c7 : t306 = true
  ·subst c7
   rw [if_pos rfl] at H
   replace H := bqz_ H; obtain ⟨t307, A8, H⟩ := H
   replace H : (j0 k l0 a1 a2 a3 (!t307)) = some (r1, r2) := H
   have H' := Az_ H
   clear H
   go_wp2_with (first | ((with_reducible refine gate_callee (f := 135) rfl ?_); refine goesL_ (some 15) rfl rfl Tryd.func135 (by kernel_rfl) rfl #[.slice A0 l0.length c0, .int .i64 a1, .int .i64 a2] rfl maz_ ?_; (with_reducible refine (spec_biPart.calls k _ _ l0 a1 a2 true _ ?side1 ?side2 A6.out).mono ?_); (case side1 => exact ucz_ ((Kd.C_below HR0.out HB.out))); (case side2 => first | exact HC0.out | (rw [List.length_take]; have := HC0.out; omega)); rintro e w' ⟨rfl, ⟨nd, rfl⟩⟩; refine ⟨_, rfl, ?_⟩) | (go_at_call 101; (with_reducible refine (spec_l1In.calls a3 0 (wrap64 ((wrap64 ((l0.length : Int) - 1)) - (wrap64 (a2 - a1)))) t307 _ A8.out).mono ?_); rintro e w' ⟨rfl, ⟨nd, rfl⟩⟩))
   go_meet
   case rel => exact ⟨_, (!t307), qaz_, H', ⟨by first | omega | exact Nat.le_refl _⟩, ⟨by exact ubz_ HB.out⟩⟩
  ·replace c7 := Bool.eq_false_iff.mpr c7
   subst c7
   rw [if_neg nfz_] at H
   have H' := Az_ H
   clear H
   go_wp2_with (first | ((with_reducible refine gate_callee (f := 135) rfl ?_); refine goesL_ (some 15) rfl rfl Tryd.func135 (by kernel_rfl) rfl #[.slice A0 l0.length c0, .int .i64 a1, .int .i64 a2] rfl maz_ ?_; (with_reducible refine (spec_biPart.calls k _ _ l0 a1 a2 false _ ?side1 ?side2 A6.out).mono ?_); (case side1 => exact ucz_ ((Kd.C_below HR0.out HB.out))); (case side2 => first | exact HC0.out | (rw [List.length_take]; have := HC0.out; omega)); rintro e w' ⟨rfl, ⟨nd, rfl⟩⟩; refine ⟨_, rfl, ?_⟩))
   go_meet
   case rel => exact ⟨_, (true), qaz_, H', ⟨by first | omega | exact Nat.le_refl _⟩, ⟨by exact ubz_ HB.out⟩⟩
 case rest =>
  clear HC5
  obtain ⟨kq, x28_4, rfl, HA, HJ4, HB⟩ := hcut
  cases kq with
  | zero => exact absurd HA.out (by simp [j0])
  | succ kj4 =>
   have H := HA.out
   clear HA
   simp only [j0] at H
   by_cases c9 : x28_4 = true
   ·subst c9
    rw [if_pos rfl] at H
    simp only [Option.some.injEq, Prod.mk.injEq] at H
    obtain ⟨rfl, rfl⟩ := H
    go_wp2
    go_ret2
    exact ⟨_, by first | rfl | (simp [errW_none, errW_some] <;> rfl) | (simp [*, errW_none, errW_some] <;> rfl), by first | exact Kd.R_nil _ _ _ _ _ | exact Kd.N_nil _ _ _ _ _ | exact Kd.V_nil _ _ _ _ _ | exact Kd.Q_nil _ _ _ _ _ | exact Kd.S_nil _ _ _ _ _, by exact ubz_ HB.out⟩
   ·replace c9 := Bool.eq_false_iff.mpr c9
    subst c9
    rw [if_neg nfz_] at H
    by_cases c10 : 0 ≤ a1
    ·rw [if_pos c10] at H
     have c10b0 := eq_true c10
     have c10b1 := decide_eq_true c10
     clear c10
     by_cases c11 : a1 ≤ (l0.length : Int)
     ·rw [if_pos c11] at H
      have c11b0 := eq_true c11
      have c11b1 := decide_eq_true c11
      clear c11
      replace H := bqz_ H; obtain ⟨t309, A12, H⟩ := H
      replace H : (if 0 ≤ (wrap64 (a2 + 1)) then (if (wrap64 (a2 + 1)) ≤ (l0.length : Int) then (if t309.length + (l0.drop ((wrap64 (a2 + 1)) : Int).toNat).length < 17592186044416 then ((some (t309 ++ (l0.drop ((wrap64 (a2 + 1)) : Int).toNat) : List Int)).bind fun y313 => (if 0 ≤ a3 then (if a3 ≤ (y313.length : Int) then ((spec_l1Own.f (y313.take (a3 : Int).toNat)).bind fun t320 => (if a1 ≤ (wrap64 (a2 + 1)) then (if t320.length + ((l0.take ((wrap64 (a2 + 1)) : Int).toNat).drop (a1 : Int).toNat).length < 17592186044416 then ((some (t320 ++ ((l0.take ((wrap64 (a2 + 1)) : Int).toNat).drop (a1 : Int).toNat) : List Int)).bind fun y324 => ((some (y313.drop (a3 : Int).toNat : List Int)).bind fun y327 => (if y324.length + y327.length < 17592186044416 then (some ((y324 ++ y327), true)) else (none)))) else (none)) else (none))) else (none)) else (none))) else (none)) else (none)) else (none)) = some (r1, r2) := H
      obtain ⟨ji13, hji13⟩ : ∃ j_ : Int, (wrap64 (a2 + 1)) = j_ := ⟨_, rfl⟩
      replace H : (if 0 ≤ (ji13) then (if (ji13) ≤ (l0.length : Int) then (if t309.length + (l0.drop ((ji13) : Int).toNat).length < 17592186044416 then ((some (t309 ++ (l0.drop ((ji13) : Int).toNat) : List Int)).bind fun y313 => (if 0 ≤ a3 then (if a3 ≤ (y313.length : Int) then ((spec_l1Own.f (y313.take (a3 : Int).toNat)).bind fun t320 => (if a1 ≤ (ji13) then (if t320.length + ((l0.take ((ji13) : Int).toNat).drop (a1 : Int).toNat).length < 17592186044416 then ((some (t320 ++ ((l0.take ((ji13) : Int).toNat).drop (a1 : Int).toNat) : List Int)).bind fun y324 => ((some (y313.drop (a3 : Int).toNat : List Int)).bind fun y327 => (if y324.length + y327.length < 17592186044416 then (some ((y324 ++ y327), true)) else (none)))) else (none)) else (none))) else (none)) else (none))) else (none)) else (none)) else (none)) = some (r1, r2) := by first | (rw [hji13] at H; exact H) | (simp only [hji13] at H ⊢; exact H)
      (try rw [hji13] at A12)
      have hji13w : (IntKind.i64.wrap (a2 + 1)) = ji13 := (i64_w _).trans hji13
      by_cases c14 : 0 ≤ (ji13)
      ·rw [if_pos c14] at H
       have c14b0 := eq_true c14
       have c14b1 := decide_eq_true c14
       clear c14
       by_cases c15 : (ji13) ≤ (l0.length : Int)
       ·rw [if_pos c15] at H
        have c15b0 := eq_true c15
        have c15b1 := decide_eq_true c15
        clear c15
        by_cases c16 : t309.length + (l0.drop ((ji13) : Int).toNat).length < 17592186044416
        ·rw [if_pos c16] at H
         have LMc16 := Az_ c16
         clear c16
         obtain ⟨y313, hy313⟩ : ∃ y_ : List Int, y_ = (t309 ++ (l0.drop ((ji13) : Int).toNat)) := ⟨_, rfl⟩
         replace H : (if 0 ≤ a3 then (if a3 ≤ (y313.length : Int) then ((spec_l1Own.f (y313.take (a3 : Int).toNat)).bind fun t320 => (if a1 ≤ (ji13) then (if t320.length + ((l0.take ((ji13) : Int).toNat).drop (a1 : Int).toNat).length < 17592186044416 then ((some (t320 ++ ((l0.take ((ji13) : Int).toNat).drop (a1 : Int).toNat) : List Int)).bind fun y324 => ((some (y313.drop (a3 : Int).toNat : List Int)).bind fun y327 => (if y324.length + y327.length < 17592186044416 then (some ((y324 ++ y327), true)) else (none)))) else (none)) else (none))) else (none)) else (none)) = some (r1, r2) := by first | (rw [hy313]; with_reducible exact H) | (have H2_ := (Option.bind_some _ _).symm.trans H; rw [hy313]; with_reducible exact H2_) | (have H2_ := (Option.bind_some _ _).symm.trans H; with_reducible exact H2_) | with_reducible exact H | (rw [hy313]; exact H) | exact H
         have Ny313 := Az_ hy313
         clear hy313
         by_cases c17 : 0 ≤ a3
         ·rw [if_pos c17] at H
          have c17b0 := eq_true c17
          have c17b1 := decide_eq_true c17
          clear c17
          by_cases c18 : a3 ≤ (y313.length : Int)
          ·rw [if_pos c18] at H
           have c18b0 := eq_true c18
           have c18b1 := decide_eq_true c18
           clear c18
           obtain ⟨y316, hy316⟩ : ∃ y_ : List Int, y_ = (y313.take (a3 : Int).toNat) := ⟨_, rfl⟩
           replace H : ((spec_l1Own.f y316).bind fun t320 => (if a1 ≤ (ji13) then (if t320.length + ((l0.take ((ji13) : Int).toNat).drop (a1 : Int).toNat).length < 17592186044416 then ((some (t320 ++ ((l0.take ((ji13) : Int).toNat).drop (a1 : Int).toNat) : List Int)).bind fun y324 => ((some (y313.drop (a3 : Int).toNat : List Int)).bind fun y327 => (if y324.length + y327.length < 17592186044416 then (some ((y324 ++ y327), true)) else (none)))) else (none)) else (none))) = some (r1, r2) := by first | (rw [hy316]; with_reducible exact H) | (have H2_ := (Option.bind_some _ _).symm.trans H; rw [hy316]; with_reducible exact H2_) | (have H2_ := (Option.bind_some _ _).symm.trans H; with_reducible exact H2_) | with_reducible exact H | (rw [hy316]; exact H) | exact H
           have Ny316 := Az_ hy316
           clear hy316
           replace H := bqz_ H; obtain ⟨t320, A19, H⟩ := H
           replace H : (if a1 ≤ (ji13) then (if t320.length + ((l0.take ((ji13) : Int).toNat).drop (a1 : Int).toNat).length < 17592186044416 then ((some (t320 ++ ((l0.take ((ji13) : Int).toNat).drop (a1 : Int).toNat) : List Int)).bind fun y324 => ((some (y313.drop (a3 : Int).toNat : List Int)).bind fun y327 => (if y324.length + y327.length < 17592186044416 then (some ((y324 ++ y327), true)) else (none)))) else (none)) else (none)) = some (r1, r2) := H
           have c20b0 := eq_true (of_decide_eq_true asz_ : 0 ≤ a1)
           by_cases c21 : a1 ≤ (ji13)
           ·rw [if_pos c21] at H
            have c21b0 := eq_true c21
            have c21b1 := decide_eq_true c21
            clear c21
            have c22b0 := eq_true (of_decide_eq_true asz_ : (ji13) ≤ (l0.length : Int))
            by_cases c23 : t320.length + ((l0.take ((ji13) : Int).toNat).drop (a1 : Int).toNat).length < 17592186044416
            ·rw [if_pos c23] at H
             have LMc23 := Az_ c23
             clear c23
             obtain ⟨y324, hy324⟩ : ∃ y_ : List Int, y_ = (t320 ++ ((l0.take ((ji13) : Int).toNat).drop (a1 : Int).toNat)) := ⟨_, rfl⟩
             replace H : ((some (y313.drop (a3 : Int).toNat : List Int)).bind fun y327 => (if y324.length + y327.length < 17592186044416 then (some ((y324 ++ y327), true)) else (none))) = some (r1, r2) := by first | (rw [hy324]; with_reducible exact H) | (have H2_ := (Option.bind_some _ _).symm.trans H; rw [hy324]; with_reducible exact H2_) | (have H2_ := (Option.bind_some _ _).symm.trans H; with_reducible exact H2_) | with_reducible exact H | (rw [hy324]; exact H) | exact H
             have Ny324 := Az_ hy324
             clear hy324
             have c24b0 := eq_true (of_decide_eq_true asz_ : 0 ≤ a3)
             have c25b0 := eq_true (of_decide_eq_true asz_ : a3 ≤ (y313.length : Int))
             obtain ⟨y327, hy327⟩ : ∃ y_ : List Int, y_ = (y313.drop (a3 : Int).toNat) := ⟨_, rfl⟩
             replace H : (if y324.length + y327.length < 17592186044416 then (some ((y324 ++ y327), true)) else (none)) = some (r1, r2) := by first | (rw [hy327]; with_reducible exact H) | (have H2_ := (Option.bind_some _ _).symm.trans H; rw [hy327]; with_reducible exact H2_) | (have H2_ := (Option.bind_some _ _).symm.trans H; with_reducible exact H2_) | with_reducible exact H | (rw [hy327]; exact H) | exact H
             have Ny327 := Az_ hy327
             clear hy327
             by_cases c26 : y324.length + y327.length < 17592186044416
             ·rw [if_pos c26] at H
              have LMc26 := Az_ c26
              clear c26
              obtain ⟨y331, hy331⟩ : ∃ y_ : List Int, y_ = (y324 ++ y327) := ⟨_, rfl⟩
              replace H : (some (y331, true)) = some (r1, r2) := by first | (rw [hy331]; with_reducible exact H) | (have H2_ := (Option.bind_some _ _).symm.trans H; rw [hy331]; with_reducible exact H2_) | (have H2_ := (Option.bind_some _ _).symm.trans H; with_reducible exact H2_) | with_reducible exact H | (rw [hy331]; exact H) | exact H
              have Ny331 := Az_ hy331
              clear hy331
              simp only [Option.some.injEq, Prod.mk.injEq] at H
              obtain ⟨rfl, rfl⟩ := H
              try go_wp2
              have n0_ := Az_ (bdz_ HB.out)
              clear HB
              have HB := n0_
              clear n0_
              obtain ⟨i028, hi028, _, hsz28, _⟩ := info_parts info3
              obtain ⟨hcut28, hA28, hC28⟩ := print_take_of (P := Tryd.prog) (Value.int .i64) 0 49 3 .i64 Tryd.underlying49 hi028 hsz28 A0 c0 l0 a1 (of_decide_eq_true asz_) (of_decide_eq_true asz_) HC0.out
              have HR308 := Az_ (Kd.C_of_reads (h1 := fun _ => rfl) (hA28 _ (Kd.reads_of_C HR0.out)))
              have HC308 := Az_ hC28
              clear hA28 hC28 hi028 hsz28
              obtain ⟨i029, hi029, _, hsz29, _⟩ := info_parts info3
              obtain ⟨A29, hcut29, hA29, hC29⟩ := print_drop_of (P := Tryd.prog) (Value.int .i64) 0 49 3 .i64 Tryd.underlying49 hi029 hsz29 A0 c0 l0 (ji13) (of_decide_eq_true asz_) (of_decide_eq_true asz_) HC0.out
              have HR312 := Az_ (Kd.C_of_reads (h1 := fun _ => rfl) (hA29 _ (Kd.reads_of_C HR0.out)))
              have HC312 := Az_ hC29
              clear hA29 hC29 hi029 hsz29
              refine start_ (n := 10) (S := fun w' => True) (ds := []) #[false, false, false, false, false, false, false, false, false, false] (by kernel_rfl) rfl rfl trivial (fun hHeld => ?_); refine with_tabW spec_CutPart.tab3 spec_CutPart.bits3 (fun HT_ HW_ => ?_)
              generalize wc.drew = w27 at HB HR308 HR312 hHeld ⊢
              refine pure_ (i := 0) (N := some 29) (v := ?_) (a' := ?_) #[true, false, false, false, false, false, false, false, false, false] rfl rfl (any_of HT_.out (by kernel_rfl)) (fun _ _ _ h => h) (Or.inl ⟨by rfl, ?_⟩) ?_ ?_
              rotate_left
              ·intro w'
               go_simp
               with_reducible rfl
              rotate_left
              ·simp only [Act.put, usz_, utz_, uvz_, i64_w, i32_w]
               rfl
              refine pure_ (i := 1) (N := some 30) (v := ?_) (a' := ?_) #[true, true, false, false, false, false, false, false, false, false] rfl rfl (any_of HT_.out (by kernel_rfl)) (fun _ _ _ h => h) (Or.inl ⟨by rfl, ?_⟩) ?_ ?_
              rotate_left
              ·intro w'
               go_simp
               with_reducible rfl
              rotate_left
              ·simp only [Act.put, usz_, utz_, uvz_, i64_w, i32_w]
               rfl
              refine pure_ (i := 2) (N := some 31) (v := ?_) (a' := ?_) #[true, true, true, false, false, false, false, false, false, false] rfl rfl (any_of HT_.out (by kernel_rfl)) (fun _ _ _ h => h) (Or.inl ⟨by rfl, ?_⟩) ?_ ?_
              rotate_left
              ·intro w'
               go_simp
               with_reducible rfl
              rotate_left
              ·simp only [Act.put, usz_, utz_, uvz_, i64_w, i32_w]
               rfl
              refine pure_ (i := 4) (N := some 33) (v := ?_) (a' := ?_) #[true, true, true, false, true, false, false, false, false, false] rfl rfl (any_of HT_.out (by kernel_rfl)) (fun _ _ _ h => h) (Or.inl ⟨by rfl, ?_⟩) ?_ ?_
              rotate_left
              ·intro w'
               go_simp
               with_reducible rfl
              rotate_left
              ·simp only [Act.put, usz_, utz_, uvz_, i64_w, i32_w]
               rfl
              refine pure_ (i := 5) (N := some 34) (v := ?_) (a' := ?_) #[true, true, true, false, true, true, false, false, false, false] rfl rfl (any_of HT_.out (by kernel_rfl)) (fun _ _ _ h => h) (Or.inl ⟨by rfl, ?_⟩) ?_ ?_
              rotate_left
              ·intro w'
               go_simp
               with_reducible rfl
              rotate_left
              ·simp only [Act.put, usz_, utz_, uvz_, i64_w, i32_w]
               rfl
              refine pure_ (i := 6) (N := some 35) (v := ?_) (a' := ?_) #[true, true, true, false, true, true, true, false, false, false] rfl rfl (any_of HT_.out (by kernel_rfl)) (fun _ _ _ h => h) (Or.inl ⟨by rfl, ?_⟩) ?_ ?_
              rotate_left
              ·intro w'
               go_simp
               with_reducible rfl
              rotate_left
              ·simp only [Act.put, usz_, utz_, uvz_, i64_w, i32_w]
               rfl
              refine pure_ (i := 7) (N := some 36) (v := ?_) (a' := ?_) #[true, true, true, false, true, true, true, true, false, false] rfl rfl (any_of HT_.out (by kernel_rfl)) (fun _ _ _ h => h) (Or.inl ⟨by rfl, ?_⟩) ?_ ?_
              rotate_left
              ·intro w'
               go_simp
               with_reducible rfl
              rotate_left
              ·simp only [Act.put, usz_, utz_, uvz_, i64_w, i32_w]
               rfl
              refine one_ (i := 3) (N := some 32) #[true, true, true, true, true, true, true, true, false, false] rfl rfl (one_of HT_.out (by kernel_rfl)) (by decide) (fun K hK => ?_)
              refine goes_ Tryd.func136 (by kernel_rfl) rfl #[.slice A0 (l0.take (a1 : Int).toNat).length c0] (by rfl) rfl rfl (by (try simp only [List.map_toArray, List.map_cons, List.map_nil]); first | done | (rw [show (l0.take (a1 : Int).toNat).length = a1.toNat from (by rw [List.length_take]; have h_ : (a1 : Int) ≤ (l0.length : Int) := of_decide_eq_true asz_; omega)] <;> rfl) | rfl | (simp only [List.length_drop, List.length_take]; rfl)) ?_
              with_reducible refine (spec_l1Own.calls _ _ (l0.take (a1 : Int).toNat) t309 _ ?side1 ?side2 A12.out).mono ?_
              (case side1 => repeat (first | exact (Kd.C_below HR308.out HB.out) | (with_reducible refine Kd.C_alloc ?_ _) | (with_reducible refine Kd.C_drewN ?_ _) | (with_reducible refine Kd.C_drew ?_)))
              (case side2 => exact HC308.out)
              rintro e w30 ⟨v310, rfl, ho0, hb⟩
              refine ⟨_, rfl, ?_⟩
              have n0_ := Az_ (Kd.R_lower ho0 (below_size (ubz_ HB.out)))
              have n1_ := Az_ (btz_ (ubz_ HB.out) hb)
              clear HB
              have HO311 := n0_
              have HB := n1_
              clear n0_ n1_
              clear hb
              clear ho0
              refine hK.out _ _ trivial (fun hHeld => ?_)
              clear hK K
              refine norm_ (a' := ?_) ?_ ?_
              rotate_left
              ·show Act.put _ (some 32) _ = _
               simp only [Act.put, usz_, utz_, uvz_, i64_w, i32_w]
               rfl
              refine one_ (i := 8) (N := some 37) #[true, true, true, true, true, true, true, true, true, false] rfl rfl (one_of HT_.out (by kernel_rfl)) (by decide) (fun K hK => ?_)
              refine Kd.R_append_rows_step (Kd.int .i64) (w0 := w) w.heap.size (by rfl) (.tmp 32) (.tmp 36) 49 3 (.int .i64 0) 8 rfl Tryd.underlying49 info3 rfl (by decide) (by omega) v310 t309 (l0.drop ((ji13) : Int).toNat) _ _ _ (fun _ => True) (fun _ => False) rfl rfl ?aO ?aR (fun _ _ h => h) (fun _ h => h.elim) ?aF ?aB ?aS ?aL ?_
              (case aR => first | (rw [← show (l0.drop ((ji13) : Int).toNat).length = (l0.length - (ji13).toNat) from List.length_drop]; repeat (first | exact (Kd.C_below HR312.out HB.out) | (with_reducible refine Kd.C_alloc ?_ _) | (with_reducible refine Kd.C_drewN ?_ _) | (with_reducible refine Kd.C_drew ?_))) | (repeat (first | exact (Kd.C_below HR312.out HB.out) | (with_reducible refine Kd.C_alloc ?_ _) | (with_reducible refine Kd.C_drewN ?_ _) | (with_reducible refine Kd.C_drew ?_))))
              (case aB => exact (ubz_ HB.out))
              (case aF => exact (fun _ _ => trivial))
              (case aO => exact (by exact urz_ HO311.out))
              (case aS => exact (below_size (ubz_ HB.out)))
              (case aL => have := LMc16.out; have hlx_ := (show (l0.drop ((ji13) : Int).toNat).length = (l0.length - (ji13).toNat) from List.length_drop); omega)
              intro v314 w31 ho hb hg hat
              rw [← Ny313.out] at ho
              have n0_ := Az_ (hb)
              have n1_ := Az_ (ho)
              clear HB HO311
              have HB := n0_
              have HO315 := n1_
              clear n0_ n1_ ho hb hg hat
              refine hK.out _ _ trivial (fun hHeld => ?_)
              clear hK K
              refine norm_ (a' := ?_) ?_ ?_
              rotate_left
              ·show Act.put _ (some 37) _ = _
               simp only [Act.put, usz_, utz_, uvz_, i64_w, i32_w]
               rfl
              refine pure_ (i := 9) (N := some 10) (v := ?_) (a' := ?_) #[true, true, true, true, true, true, true, true, true, true] rfl rfl (any_of HT_.out (by kernel_rfl)) (fun _ _ _ h => h) (Or.inl ⟨by rfl, ?_⟩) ?_ ?_
              rotate_left
              ·intro w'
               go_simp
               with_reducible rfl
              rotate_left
              ·simp only [Act.put, usz_, utz_, uvz_, i64_w, i32_w]
               rfl
              refine done_ (done_of HT_.out (by kernel_rfl)) ?_
              try go_wp2
              have n0_ := Az_ (rdz_ HO315.out)
              have n1_ := Az_ (bdz_ HB.out)
              clear HO315 HB
              have HO315 := n0_
              have HB := n1_
              clear n0_ n1_
              obtain ⟨Ao34, co34, eo34⟩ := Kd.R_slice HO315.out
              (first | subst eo34 | (injection eo34 with f1_ f2_ f3_; have f4_ := f1_.symm; have f5_ := f3_.symm; clear f1_ f2_ f3_; subst f4_; subst f5_))
              have q33 : (a3 : Int) ≤ ((y313.length : Int) : Int) := of_decide_eq_true asz_
              obtain ⟨i033, hi033, _, hsz33, _⟩ := info_parts info3
              have hroom33 : y313.length ≤ co34 := (Kd.R_reads' HO315.out).2.1
              have hC33 : Kd.C (Kd.int .i64) _ Ao34 y313.length y313 := (Kd.R_reads' HO315.out).2.2
              have hcut33 := cut_to (P := Tryd.prog) 49 3 .i64 Tryd.underlying49 hi033 Ao34 y313.length co34 a3 (of_decide_eq_true asz_) q33 hroom33
              have hr33 := Kd.C_take (m := (a3 : Int).toNat) hC33 (by omega)
              have hy33 : y316.length = (a3 : Int).toNat := (by rw [Ny316.out, List.length_take]; omega)
              rw [← Ny316.out] at hr33
              rw [← hy33] at hcut33
              have HR319 := Az_ hr33
              have HC319 := Az_ (show y316.length ≤ co34 from by omega)
              clear hr33 hC33 hroom33 hi033 hsz33
              have KY33 := Az_ hy33
              clear hy33
              have KL33 := Az_ (show (a3 : Int).toNat ≤ y313.length from by omega)
              replace q33 := eq_true q33
              obtain ⟨i035, hi035, _, hsz35, _⟩ := info_parts info3
              obtain ⟨A35, hcut35, hA35, hC35⟩ := print_mid_of (P := Tryd.prog) (Value.int .i64) 0 49 3 .i64 .i64 Tryd.underlying49 hi035 hsz35 A0 c0 l0 a1 (ji13) (of_decide_eq_true asz_) (by first | omega | exact of_decide_eq_true asz_) (of_decide_eq_true asz_) HC0.out
              have HR323 := Az_ (Kd.C_of_reads (h1 := fun _ => rfl) (hA35 _ (Kd.reads_of_C HR0.out)))
              have HC323 := Az_ hC35
              clear hA35 hC35 hi035 hsz35
              refine start_ (n := 11) (S := fun w' => True) (ds := []) #[false, false, false, false, false, false, false, false, false, false, false] (by kernel_rfl) rfl rfl trivial (fun hHeld => ?_); refine with_tabW spec_CutPart.tab4 spec_CutPart.bits4 (fun HT_ HW_ => ?_)
              generalize w31.drew = w32 at HO315 HB HR319 HR323 hHeld ⊢
              refine pure_ (i := 0) (N := some 38) (v := ?_) (a' := ?_) #[true, false, false, false, false, false, false, false, false, false, false] rfl rfl (any_of HT_.out (by kernel_rfl)) (fun _ _ _ h => h) (Or.inl ⟨by rfl, ?_⟩) ?_ ?_
              rotate_left
              ·intro w'
               go_simp
               with_reducible rfl
              rotate_left
              ·simp only [Act.put, usz_, utz_, uvz_, i64_w, i32_w]
               rfl
              refine pure_ (i := 1) (N := some 39) (v := ?_) (a' := ?_) #[true, true, false, false, false, false, false, false, false, false, false] rfl rfl (any_of HT_.out (by kernel_rfl)) (fun _ _ _ h => h) (Or.inl ⟨by rfl, ?_⟩) ?_ ?_
              rotate_left
              ·intro w'
               go_simp
               with_reducible rfl
              rotate_left
              ·simp only [Act.put, usz_, utz_, uvz_, i64_w, i32_w]
               rfl
              refine pure_ (i := 2) (N := some 40) (v := ?_) (a' := ?_) #[true, true, true, false, false, false, false, false, false, false, false] rfl rfl (any_of HT_.out (by kernel_rfl)) (fun _ _ _ h => h) (Or.inl ⟨by rfl, ?_⟩) ?_ ?_
              rotate_left
              ·intro w'
               go_simp
               with_reducible rfl
              rotate_left
              ·simp only [Act.put, usz_, utz_, uvz_, i64_w, i32_w]
               rfl
              refine pure_ (i := 4) (N := some 42) (v := ?_) (a' := ?_) #[true, true, true, false, true, false, false, false, false, false, false] rfl rfl (any_of HT_.out (by kernel_rfl)) (fun _ _ _ h => h) (Or.inl ⟨by rfl, ?_⟩) ?_ ?_
              rotate_left
              ·intro w'
               go_simp
               with_reducible rfl
              rotate_left
              ·simp only [Act.put, usz_, utz_, uvz_, i64_w, i32_w]
               rfl
              refine pure_ (i := 5) (N := some 43) (v := ?_) (a' := ?_) #[true, true, true, false, true, true, false, false, false, false, false] rfl rfl (any_of HT_.out (by kernel_rfl)) (fun _ _ _ h => h) (Or.inl ⟨by rfl, ?_⟩) ?_ ?_
              rotate_left
              ·intro w'
               go_simp
               with_reducible rfl
              rotate_left
              ·simp only [Act.put, usz_, utz_, uvz_, i64_w, i32_w]
               rfl
              refine pure_ (i := 6) (N := some 44) (v := ?_) (a' := ?_) #[true, true, true, false, true, true, true, false, false, false, false] rfl rfl (any_of HT_.out (by kernel_rfl)) (fun _ _ _ h => h) (Or.inl ⟨by rfl, ?_⟩) ?_ ?_
              rotate_left
              ·intro w'
               go_simp
               with_reducible rfl
              rotate_left
              ·simp only [Act.put, usz_, utz_, uvz_, i64_w, i32_w]
               rfl
              refine pure_ (i := 7) (N := some 45) (v := ?_) (a' := ?_) #[true, true, true, false, true, true, true, true, false, false, false] rfl rfl (any_of HT_.out (by kernel_rfl)) (fun _ _ _ h => h) (Or.inl ⟨by rfl, ?_⟩) ?_ ?_
              rotate_left
              ·intro w'
               go_simp
               with_reducible rfl
              rotate_left
              ·simp only [Act.put, usz_, utz_, uvz_, i64_w, i32_w]
               rfl
              refine pure_ (i := 8) (N := some 46) (v := ?_) (a' := ?_) #[true, true, true, false, true, true, true, true, true, false, false] rfl rfl (any_of HT_.out (by kernel_rfl)) (fun _ _ _ h => h) (Or.inl ⟨by rfl, ?_⟩) ?_ ?_
              rotate_left
              ·intro w'
               go_simp
               with_reducible rfl
              rotate_left
              ·simp only [Act.put, usz_, utz_, uvz_, i64_w, i32_w]
               rfl
              refine one_ (i := 3) (N := some 41) #[true, true, true, true, true, true, true, true, true, false, false] rfl rfl (one_of HT_.out (by kernel_rfl)) (by decide) (fun K hK => ?_)
              refine goes_ Tryd.func136 (by kernel_rfl) rfl #[.slice Ao34 y316.length co34] (by rfl) rfl rfl maz_ ?_
              with_reducible refine (spec_l1Own.calls _ _ y316 t320 _ ?side1 ?side2 A19.out).mono ?_
              (case side1 => repeat (first | exact (by repeat (first | (with_reducible exact HR319.out) | (with_reducible refine Kd.C_alloc ?_ _) | (with_reducible refine Kd.C_drewN ?_ _) | (with_reducible refine Kd.C_drew ?_) | exact HR319.out)) | (with_reducible refine Kd.C_alloc ?_ _) | (with_reducible refine Kd.C_drewN ?_ _) | (with_reducible refine Kd.C_drew ?_)))
              (case side2 => exact HC319.out)
              rintro e w36 ⟨v321, rfl, ho0, hb⟩
              refine ⟨_, rfl, ?_⟩
              have n0_ := Az_ (rez_ (by exact urz_ HO315.out) (Kd.R_base ho0) hb)
              have n1_ := Az_ (Kd.R_lower (Kd.R_new' ho0 (Kd.R_lt (by exact urz_ HO315.out))) (below_size (ubz_ HB.out)))
              have n2_ := Az_ (Kd.C_below (by repeat (first | (with_reducible exact HR319.out) | (with_reducible refine Kd.C_alloc ?_ _) | (with_reducible refine Kd.C_drewN ?_ _) | (with_reducible refine Kd.C_drew ?_) | exact HR319.out)) hb)
              have n3_ := Az_ (btz_ (ubz_ HB.out) hb)
              clear HO315 HR319 HB
              have HO315 := n0_
              have HO322 := n1_
              have HR319 := n2_
              have HB := n3_
              clear n0_ n1_ n2_ n3_
              clear hb
              clear ho0
              refine hK.out _ _ trivial (fun hHeld => ?_)
              clear hK K
              refine norm_ (a' := ?_) ?_ ?_
              rotate_left
              ·show Act.put _ (some 41) _ = _
               simp only [Act.put, usz_, utz_, uvz_, i64_w, i32_w]
               rfl
              refine one_ (i := 9) (N := some 47) #[true, true, true, true, true, true, true, true, true, true, false] rfl rfl (one_of HT_.out (by kernel_rfl)) (by decide) (fun K hK => ?_)
              refine Kd.R_append_rows_step (Kd.int .i64) (w0 := w) w.heap.size (by rfl) (.tmp 41) (.tmp 46) 49 3 (.int .i64 0) 8 rfl Tryd.underlying49 info3 rfl (by decide) (by omega) v321 t320 ((l0.take ((ji13) : Int).toNat).drop (a1 : Int).toNat) _ _ _ (fun k_ => some k_ ≠ (.slice Ao34 y313.length co34 : Value).ownBlock) (fun _ => False) rfl rfl ?aO ?aR (fun _ _ h => h) (fun _ h => h.elim) ?aF ?aB ?aS ?aL ?_
              (case aR => first | (rw [← show ((l0.take ((ji13) : Int).toNat).drop (a1 : Int).toNat).length = ((ji13).toNat - a1.toNat) from (by rw [List.length_drop, List.length_take]; have h_ : ((ji13) : Int) ≤ (l0.length : Int) := of_decide_eq_true asz_; omega)]; repeat (first | exact (Kd.C_below HR323.out HB.out) | (with_reducible refine Kd.C_alloc ?_ _) | (with_reducible refine Kd.C_drewN ?_ _) | (with_reducible refine Kd.C_drew ?_))) | (repeat (first | exact (Kd.C_below HR323.out HB.out) | (with_reducible refine Kd.C_alloc ?_ _) | (with_reducible refine Kd.C_drewN ?_ _) | (with_reducible refine Kd.C_drew ?_))))
              (case aB => exact (ubz_ HB.out))
              (case aF => exact (fun k_ hk => Kd.fresh' (Kd.R_lt (by exact urz_ HO315.out)) k_ hk))
              (case aO => exact (by (with_reducible repeat (first | apply raz_ | apply rnz_ | apply rdz_)); exact Kd.R_mono HO322.out (fun _ hk => hk.2)))
              (case aS => exact (below_size (ubz_ HB.out)))
              (case aL => have := LMc23.out; have hlx_ := (show ((l0.take ((ji13) : Int).toNat).drop (a1 : Int).toNat).length = ((ji13).toNat - a1.toNat) from (by rw [List.length_drop, List.length_take]; have h_ : ((ji13) : Int) ≤ (l0.length : Int) := of_decide_eq_true asz_; omega)); omega)
              intro v325 w37 ho hb hg hat
              rw [← Ny324.out] at ho
              have n0_ := Az_ (Kd.R_after (ok := (fun _ => True)) (by exact urz_ HO315.out) hg hat)
              have n1_ := Az_ (hb)
              have n2_ := Az_ ((show Kd.C (Kd.int .i64) w37 Ao34 y316.length y316 from by rw [Ny316.out]; exact Kd.C_take (m := (a3 : Int).toNat) ((Kd.R_reads' (Kd.R_after (ok := (fun _ => True)) (by exact urz_ HO315.out) hg hat)).2.2) KL33.out))
              have n3_ := Az_ (ho)
              clear HO315 HB HR319 HO322
              have HO315 := n0_
              have HB := n1_
              have HR319 := n2_
              have HO326 := n3_
              clear n0_ n1_ n2_ n3_ ho hb hg hat
              refine hK.out _ _ trivial (fun hHeld => ?_)
              clear hK K
              refine norm_ (a' := ?_) ?_ ?_
              rotate_left
              ·show Act.put _ (some 47) _ = _
               simp only [Act.put, usz_, utz_, uvz_, i64_w, i32_w]
               rfl
              refine pure_ (i := 10) (N := some 11) (v := ?_) (a' := ?_) #[true, true, true, true, true, true, true, true, true, true, true] rfl rfl (any_of HT_.out (by kernel_rfl)) (fun _ _ _ h => h) (Or.inl ⟨by rfl, ?_⟩) ?_ ?_
              rotate_left
              ·intro w'
               go_simp
               with_reducible rfl
              rotate_left
              ·simp only [Act.put, usz_, utz_, uvz_, i64_w, i32_w]
               rfl
              refine done_ (done_of HT_.out (by kernel_rfl)) ?_
              have q38 : (a3 : Int) ≤ ((y313.length : Int) : Int) := of_decide_eq_true asz_
              obtain ⟨i038, hi038, _, hsz38, _⟩ := info_parts info3
              have hroom38 : y313.length ≤ co34 := (Kd.R_reads' HO315.out).2.1
              have hC38 : Kd.C (Kd.int .i64) _ Ao34 y313.length y313 := (Kd.R_reads' HO315.out).2.2
              have q038 : (0 : Int) ≤ (a3 : Int) := of_decide_eq_true asz_
              have hcut38 := cut_from (P := Tryd.prog) 49 3 .i64 Tryd.underlying49 hi038 1 hsz38 Ao34 y313.length co34 a3 q038 q38
              have hr38 := Kd.C_drop (m := (a3 : Int).toNat) (c := co34) hC38 (by omega) hroom38
              obtain ⟨A38, hA38⟩ : ∃ A1, A1 = (if co34 = (a3 : Int).toNat then Ao34 else (Ao34 : Option Addr).map (·.add ((a3 : Int).toNat * 1))) := ⟨_, rfl⟩
              obtain ⟨c38, hc38⟩ : ∃ c1, c1 = co34 - (a3 : Int).toNat := ⟨_, rfl⟩
              have hy38 : y327.length = y313.length - (a3 : Int).toNat := (by rw [Ny327.out, List.length_drop] <;> omega)
              rw [show (y313).drop (a3 : Int).toNat = y327 from Ny327.out.symm] at hr38
              replace hr38 : Kd.C (Kd.int .i64) _ A38 y327.length y327 := (by rw [hA38]; exact hr38)
              rw [← hy38, ← hA38, ← hc38] at hcut38
              have HR330 := Az_ hr38
              have HC330 := Az_ (show y327.length ≤ c38 from by rw [hy38, hc38]; exact Nat.sub_le_sub_right hroom38 _)
              clear hr38 hC38 hroom38 hi038 hsz38 hc38
              have KY38 := Az_ hy38
              have KA38 := Az_ hA38
              clear hy38 hA38
              have KL38 := Az_ (show (a3 : Int).toNat ≤ y313.length from by omega)
              replace q38 := eq_true q38
              try go_wp2_with (first | ((with_reducible refine gate_builtin (b := .append) (xs := #[.tmp 48, .tmp 51]) rfl ?_); (try (refine gate_guard (by rfl) ?_; dsimp only)); at_builtin; refine Kd.R_append_rows (Kd.int .i64) (w0 := w) w.heap.size rfl (.tmp 48) (.tmp 51) 49 3 (.int .i64 0) 8 rfl Tryd.underlying49 info3 rfl (by decide) (by omega) v325 y324 y327 _ _ _ (fun k_ => some k_ ≠ (.slice Ao34 y313.length co34 : Value).ownBlock) (fun _ => False) rfl rfl ?aO ?aR (fun _ _ h => h) (fun _ h => h.elim) ?aF ?aB ?aS ?aL ?_; (case aR => repeat (first | exact (by repeat (first | (with_reducible exact HR330.out) | (with_reducible refine Kd.C_alloc ?_ _) | (with_reducible refine Kd.C_drewN ?_ _) | (with_reducible refine Kd.C_drew ?_) | exact HR330.out)) | (with_reducible refine Kd.C_alloc ?_ _) | (with_reducible refine Kd.C_drewN ?_ _) | (with_reducible refine Kd.C_drew ?_))); (case aB => exact (ubz_ HB.out)); (case aF => exact (fun k_ hk => Kd.fresh' (Kd.R_lt (by exact urz_ HO315.out)) k_ hk)); (case aO => exact (by exact urz_ HO326.out)); (case aS => exact (below_size (ubz_ HB.out))); (case aL => have := LMc26.out; omega); intro v332 w39 ho hb hg hat; rw [← Ny331.out] at ho; replace HB := Az_ (hb); replace HR319 := Az_ ((show Kd.C (Kd.int .i64) w39 Ao34 y316.length y316 from by rw [Ny316.out]; exact Kd.C_take (m := (a3 : Int).toNat) ((Kd.R_reads' (Kd.R_after (ok := (fun _ => True)) (by exact urz_ HO315.out) hg hat)).2.2) KL33.out)); replace HR330 := Az_ ((show Kd.C (Kd.int .i64) w39 A38 y327.length y327 from by rw [Ny327.out, KA38.out]; exact Kd.C_drop (m := (a3 : Int).toNat) (c := co34) ((Kd.R_reads' (Kd.R_after (ok := (fun _ => True)) (by exact urz_ HO315.out) hg hat)).2.2) KL38.out ((Kd.R_reads' (Kd.R_after (ok := (fun _ => True)) (by exact urz_ HO315.out) hg hat)).2.1))); replace HO315 := Az_ (Kd.R_after (ok := (fun _ => True)) (by exact urz_ HO315.out) hg hat); have HO333 := Az_ (ho); clear HO326; clear ho hb hg hat))
              go_ret2
              exact ⟨_, by first | rfl | (simp [errW_none, errW_some] <;> rfl) | (simp only [← hji13]; first | rfl | (simp [errW_none, errW_some] <;> rfl)) | (simp [*, errW_none, errW_some] <;> rfl), by (with_reducible repeat (first | apply raz_ | apply rnz_ | apply rdz_)); exact Kd.R_mono HO333.out (fun _ hk => trivial), by exact ubz_ HB.out⟩
             ·rw [if_neg c26] at H
              exact absurd H (by simp)
            ·rw [if_neg c23] at H
             exact absurd H (by simp)
           ·rw [if_neg c21] at H
            exact absurd H (by simp)
          ·rw [if_neg c18] at H
           exact absurd H (by simp)
         ·rw [if_neg c17] at H
          exact absurd H (by simp)
        ·rw [if_neg c16] at H
         exact absurd H (by simp)
       ·rw [if_neg c15] at H
        exact absurd H (by simp)
      ·rw [if_neg c14] at H
       exact absurd H (by simp)
     ·rw [if_neg c11] at H
      exact absurd H (by simp)
    ·rw [if_neg c10] at H
     exact absurd H (by simp)

end Go.Proofs.YtppbpefehpbejaaDoor.P
end

section
namespace Go.Proofs.YtppbpefehpbejaaDoor.P
open Go.RowKit Go.Proofs.YtppbpefehpbejaaDoorW.PrintWords Go.Proofs.YtppbpefehpbejaaDoorW.PrintLast Go.Proofs.YtppbpefehpbejaaDoorW.PrintMore
attribute [local go_sem] max2_int min2_int max_two min_two max_three min_three max_four min_four   -- for this text's walks alone
set_option linter.unusedVariables false
set_option linter.unusedSimpArgs false

/-! ### spec_l1Cur_among: function 94 -/
def spec_l1Cur_among.f (s0_0 : List Int) (s0_1 : Int) (s0_2 : Int) (l1 : List Int) : Option (Int × Int × Int) := (spec_l1Cur_pick.f s0_0 s0_1 s0_2 (l1.length : Int)).bind fun bt334 => (if 0 ≤ bt334.1 then (if bt334.1 < (l1.length : Int) then (some (rd l1 bt334.1, bt334.2.1, bt334.2.2)) else (none)) else (none))
set_option maxHeartbeats 8000000 in
set_option maxRecDepth 100000 in
theorem spec_l1Cur_among.calls (g : Nat) (s0_0 : List Int) (s0_1 : Int) (s0_2 : Int) (A1 : Option Addr) (c1 : Nat) (l1 : List Int) (r1 : Int) (r2 : Int) (r3 : Int) (w0 w : World) (hI : IsS111 w0 w g s0_0 s0_1 s0_2) (hB : Below w0.heap.size w0 w) (hr1 : Kd.C (Kd.int .i64) w A1 l1.length l1) (hc1 : l1.length ≤ c1) (hf1 : ∀ ad, A1 = some ad → 0 < l1.length → ad.block ≠ g) (h : spec_l1Cur_among.f s0_0 s0_1 s0_2 l1 = some (r1, r2, r3)) :
  Calls Tryd.prog 94 #[.pointer (some ⟨g, 0, none⟩), .slice A1 l1.length c1] w fun e w' => e = .returned (.int .i64 r1) ∧ IsS111 w0 w' g s0_0 r2 r3 ∧ Below w0.heap.size w0 w' ∧ KeepBut w w' g none := by
 have HR1 := Az_ hr1
 have HC1 := Az_ hc1
 clear hr1 hc1
 have HI0 := Az_ hI
 have HK := Az_ (KeepBut.refl w g none)
 have HL := Az_ hB.size
 clear hI
 have HW0 := Az_ hB.size
 have HB := Az_ hB
 clear hB
 have H : ((spec_l1Cur_pick.f s0_0 s0_1 s0_2 (l1.length : Int)).bind fun bt334 => (if 0 ≤ bt334.1 then (if bt334.1 < (l1.length : Int) then (some (rd l1 bt334.1, bt334.2.1, bt334.2.2)) else (none)) else (none))) = some (r1, r2, r3) := h
 clear h
 replace H := bqz_ H; obtain ⟨⟨t334, t335, t336⟩, A3, H⟩ := H
 replace H : (if 0 ≤ t334 then (if t334 < (l1.length : Int) then (some (rd l1 t334, t335, t336)) else (none)) else (none)) = some (r1, r2, r3) := H
 by_cases c4 : 0 ≤ t334
 ·rw [if_pos c4] at H
  have c4b0 := decide_eq_true c4
  clear c4
  by_cases c5 : t334 < (l1.length : Int)
  ·rw [if_pos c5] at H
   have c5b0 := decide_eq_true c5
   clear c5
   simp only [Option.some.injEq, Prod.mk.injEq] at H
   obtain ⟨rfl, rfl, rfl⟩ := H
   go_enter Tryd.func94, Tryd.ntmps94
   go_wp2_with (first | ((with_reducible refine gate_callee (f := 96) rfl ?_); refine goesL_ (some 9) rfl rfl Tryd.func96 (by kernel_rfl) rfl #[.pointer (some ⟨g, 0, none⟩), .int .i64 (l1.length : Int)] rfl maz_ ?_; (with_reducible refine (spec_l1Cur_pick.calls g s0_0 s0_1 s0_2 (l1.length : Int) t334 t335 t336 w0 _ ?side1 ?side2 A3.out).mono ?_); (case side1 => repeat (first | (with_reducible first | exact HI0.out | apply IsS111.alloc | apply IsS111.drewN | apply IsS111.drew | apply IsS111.set_1 | apply IsS111.set_2) | exact HI0.out)); (case side2 => repeat (first | (with_reducible first | exact HB.out | apply baz_ | apply bnz_ | apply bdz_ | refine bsz_ ?_ (IsS111.ge HI0.out)) | exact HB.out)); rintro e w6 ⟨rfl, hi, hb, hk⟩; refine ⟨_, rfl, ?_⟩; replace HK := Az_ (KeepBut.trans (by repeat (first | (with_reducible first | exact HK.out | apply KeepBut.set_ | apply keep_drewN | apply keep_drew | apply keep_alloc) | exact HK.out)) hk (.inl rfl)); replace HB := Az_ (hb); replace HI0 := Az_ (hi); (try clear hb); (try clear hk); (try clear hi); have p337 : 0 ≤ (t334 : Int) := of_decide_eq_true asz_; have q337 : t334 < (l1.length : Int) := of_decide_eq_true asz_; obtain ⟨ad337, e337, hx337_0⟩ := Kd.at_int HR1.out t334 p337 q337; cases e337; replace hx337_0 := keep_cell HK.out hx337_0 (by first | (rw [add_block]; exact hf1 _ rfl (by omega)) | exact hf1 _ rfl (by omega) | exact hf1 ad337 rfl (by omega)); replace p337 := eq_true p337; replace q337 := eq_true q337))
   go_ret
   exact ⟨by first | rfl | (simp [errW_none, errW_some] <;> rfl) | (simp [*, errW_none, errW_some] <;> rfl), by repeat (first | (with_reducible first | exact HI0.out | apply IsS111.alloc | apply IsS111.drewN | apply IsS111.drew | apply IsS111.set_1 | apply IsS111.set_2) | exact HI0.out), by repeat (first | (with_reducible first | exact HB.out | apply baz_ | apply bnz_ | apply bdz_ | refine bsz_ ?_ (IsS111.ge HI0.out)) | exact HB.out), by repeat (first | (with_reducible first | exact HK.out | apply KeepBut.set_ | apply keep_drewN | apply keep_drew | apply keep_alloc) | exact HK.out)⟩
  ·rw [if_neg c5] at H
   exact absurd H (by simp)
 ·rw [if_neg c4] at H
  exact absurd H (by simp)

/-! ### spec_DrawBindingOfRank: function 51 -/
def spec_DrawBindingOfRank.f (l0 : List Int) : Option (Int × Int) := (spec_l1Cur_among.f l0 0 0 (([1, 2, 3, 4, 5, 8, 9, 0] : List Int))).bind fun bt342 => ((spec_l1Cur_among.f l0 bt342.2.1 bt342.2.2 (([0, 1, 2, 5, 7, 8, 47, 48, 383, 1000, (-1), 4611686018427387904] : List Int))).bind fun bt348 => (some (bt342.1, bt348.1)))
set_option maxHeartbeats 8000000 in
set_option maxRecDepth 100000 in
theorem spec_DrawBindingOfRank.calls (A0 : Option Addr) (c0 : Nat) (l0 : List Int) (r1 : Int) (r2 : Int) (w : World) (hr0 : Kd.C (Kd.int .u8) w A0 l0.length l0) (hc0 : l0.length ≤ c0) (h : spec_DrawBindingOfRank.f l0 = some (r1, r2)) :
  Calls Tryd.prog 51 #[.slice A0 l0.length c0] w fun e w' => e = .returned (.tuple #[.int .i64 r1, .int .i64 r2]) ∧ Below w.heap.size w w' := by
 have hu111 := Tryd.underlying111
 have HR0 := Az_ hr0
 have HC0 := Az_ hc0
 clear hr0 hc0
 have HB := Az_ (Below.refl w.heap.size w)
 have H : ((spec_l1Cur_among.f l0 0 0 (([1, 2, 3, 4, 5, 8, 9, 0] : List Int))).bind fun bt342 => ((spec_l1Cur_among.f l0 bt342.2.1 bt342.2.2 (([0, 1, 2, 5, 7, 8, 47, 48, 383, 1000, (-1), 4611686018427387904] : List Int))).bind fun bt348 => (some (bt342.1, bt348.1)))) = some (r1, r2) := h
 clear h
 obtain ⟨y339, hy339⟩ : ∃ y_ : List Int, y_ = (([1, 2, 3, 4, 5, 8, 9, 0] : List Int)) := ⟨_, rfl⟩
 replace H : ((spec_l1Cur_among.f l0 0 0 y339).bind fun bt342 => ((spec_l1Cur_among.f l0 bt342.2.1 bt342.2.2 (([0, 1, 2, 5, 7, 8, 47, 48, 383, 1000, (-1), 4611686018427387904] : List Int))).bind fun bt348 => (some (bt342.1, bt348.1)))) = some (r1, r2) := by first | (rw [hy339]; with_reducible exact H) | (have H2_ := (Option.bind_some _ _).symm.trans H; rw [hy339]; with_reducible exact H2_) | (have H2_ := (Option.bind_some _ _).symm.trans H; with_reducible exact H2_) | with_reducible exact H | (rw [hy339]; exact H) | exact H
 have Ny339 := Az_ hy339
 clear hy339
 replace H := bqz_ H; obtain ⟨⟨t342, t343, t344⟩, A2, H⟩ := H
 replace H : ((spec_l1Cur_among.f l0 t343 t344 (([0, 1, 2, 5, 7, 8, 47, 48, 383, 1000, (-1), 4611686018427387904] : List Int))).bind fun bt348 => (some (t342, bt348.1))) = some (r1, r2) := H
 obtain ⟨y345, hy345⟩ : ∃ y_ : List Int, y_ = (([0, 1, 2, 5, 7, 8, 47, 48, 383, 1000, (-1), 4611686018427387904] : List Int)) := ⟨_, rfl⟩
 replace H : ((spec_l1Cur_among.f l0 t343 t344 y345).bind fun bt348 => (some (t342, bt348.1))) = some (r1, r2) := by first | (rw [hy345]; with_reducible exact H) | (have H2_ := (Option.bind_some _ _).symm.trans H; rw [hy345]; with_reducible exact H2_) | (have H2_ := (Option.bind_some _ _).symm.trans H; with_reducible exact H2_) | with_reducible exact H | (rw [hy345]; exact H) | exact H
 have Ny345 := Az_ hy345
 clear hy345
 replace H := bqz_ H; obtain ⟨⟨t348, t349, t350⟩, A3, H⟩ := H
 replace H : (some (t342, t348)) = some (r1, r2) := H
 simp only [Option.some.injEq, Prod.mk.injEq] at H
 obtain ⟨rfl, rfl⟩ := H
 go_enter Tryd.func51, Tryd.ntmps51
 go_wp2_with (first | ((with_reducible refine gate_dst (N := 8) rfl ?_); refine box_event ?hg (N := 8) ?hd (cs := #[.slice A0 l0.length c0, .int .i64 0, .int .u64 0]) (t := 111) ?hr ?_; (case hd => rfl); (case hg => rfl); (case hr => first | (go_simp; done) | (go_simp; rfl)); intro gb338 hg w4 hbox hb; have BK338 := Az_ (hbox); have GW338 := Az_ ((by rw [hg]; exact (below_size (ubz_ HB.out)) : w.heap.size ≤ gb338)); have GE338 := Az_ ((by rw [hg]; exact (below_size (ubz_ HB.out)) : w.heap.size ≤ gb338)); replace HB := Az_ (btz_ (ubz_ HB.out) hb); clear hb hbox hg) | ((with_reducible refine gate_dst (N := 10) rfl ?_); refine Kd.R_lit (Kd.int .i64) _ 3 ?hg (N := 10) ?hd (xs := ([1, 2, 3, 4, 5, 8, 9, 0] : List Int)) (inner := [.int .i64 1, .int .i64 2, .int .i64 3, .int .i64 4, .int .i64 5, .int .i64 8, .int .i64 9, .int .i64 0]) (ok := fun _ => True) (okp := fun _ => True) ?hr ?hp (fun _ hk => hk) trivial (Below.refl _ _) (Nat.le_refl _) (by simp) ?_; (case hd => rfl); (case hg => rfl); (case hr => first | (go_simp; done) | (go_simp; rfl)); (case hp => exact (Reps.one (show Kd.M (Kd.int .i64) _ _ _ 1 [.int .i64 1] from rfl) (Reps.one (show Kd.M (Kd.int .i64) _ _ _ 2 [.int .i64 2] from rfl) (Reps.one (show Kd.M (Kd.int .i64) _ _ _ 3 [.int .i64 3] from rfl) (Reps.one (show Kd.M (Kd.int .i64) _ _ _ 4 [.int .i64 4] from rfl) (Reps.one (show Kd.M (Kd.int .i64) _ _ _ 5 [.int .i64 5] from rfl) (Reps.one (show Kd.M (Kd.int .i64) _ _ _ 8 [.int .i64 8] from rfl) (Reps.one (show Kd.M (Kd.int .i64) _ _ _ 9 [.int .i64 9] from rfl) (Reps.one (show Kd.M (Kd.int .i64) _ _ _ 0 [.int .i64 0] from rfl) (Reps.none _ _)))))))))); intro v340 w5 ho6 hb hg_ hnew_; clear hg_ hnew_; (first | rw [← Ny339.out] at ho6 | (simp only [Int.reduceToNat] at ho6; rw [← Ny339.out] at ho6)); have n0_ := Az_ (Kd.R_lower ho6 (below_size (by repeat (first | (with_reducible first | exact HB.out | apply baz_ | apply bnz_ | apply bdz_ | refine ubsz_ ?_ (by assumption)) | exact HB.out)))); have n2_ := Az_ (btz_ (by repeat (first | (with_reducible first | exact HB.out | apply baz_ | apply bnz_ | apply bdz_ | refine ubsz_ ?_ (by assumption)) | exact HB.out)) hb); clear HB; have HO341 := n0_; replace BK338 := Az_ (ukbz_ BK338.out hb); have HB := n2_; clear n0_ n2_; clear hb ho6; obtain ⟨Ao7, co7, eo7⟩ := Kd.R_slice HO341.out; subst eo7) | ((with_reducible refine gate_callee (f := 94) rfl ?_); refine goesL_ (some 11) rfl rfl Tryd.func94 (by kernel_rfl) rfl #[.pointer (some ⟨gb338, 0, none⟩), .slice Ao7 y339.length co7] rfl maz_ ?_; have HI338 := Az_ (show IsS111 w w5 gb338 l0 0 0 from ⟨_, _, BK338.out, GE338.out, HR0.out⟩); (with_reducible refine (spec_l1Cur_among.calls gb338 l0 0 0 _ _ y339 t342 t343 t344 w _ ?side1 ?side2 ?side3 ?side4 ?side5 A2.out).mono ?_); (case side1 => repeat (first | (with_reducible first | exact HI338.out | apply IsS111.alloc | apply IsS111.drewN | apply IsS111.drew | apply IsS111.set_1 | apply IsS111.set_2) | exact HI338.out)); (case side2 => repeat (first | (with_reducible first | exact HB.out | apply baz_ | apply bnz_ | apply bdz_ | refine bsz_ ?_ (IsS111.ge HI338.out)) | exact HB.out)); (case side3 => exact ucz_ ((Kd.R_reads' HO341.out).2.2)); (case side4 => exact (Kd.R_reads' HO341.out).2.1); (case side5 => exact far_slice (IsS111.own_ne HI338.out HO341.out (by decide))); rintro e w8 ⟨rfl, hi, hb, hk⟩; refine ⟨_, rfl, ?_⟩; replace HO341 := Az_ (Kd.R_mono (Kd.R_keep (IsS111.apart (show IsS111 w _ gb338 l0 0 0 from by repeat (first | (with_reducible first | exact HI338.out | apply IsS111.alloc | apply IsS111.drewN | apply IsS111.drew | apply IsS111.set_1 | apply IsS111.set_2) | exact HI338.out)) (by exact urz_ HO341.out) (by decide)) hk (fun _ h => h.2)) (fun _ h => h.1)); replace HB := Az_ (hb); replace HI338 := Az_ (hi); (try clear hb); (try clear hk); (try clear hi)) | ((with_reducible refine gate_dst (N := 14) rfl ?_); refine Kd.R_lit (Kd.int .i64) _ 3 ?hg (N := 14) ?hd (xs := ([0, 1, 2, 5, 7, 8, 47, 48, 383, 1000, (-1), 4611686018427387904] : List Int)) (inner := [.int .i64 0, .int .i64 1, .int .i64 2, .int .i64 5, .int .i64 7, .int .i64 8, .int .i64 47, .int .i64 48, .int .i64 383, .int .i64 1000, .int .i64 (-1), .int .i64 4611686018427387904]) (ok := fun _ => True) (okp := fun _ => True) ?hr ?hp (fun _ hk => hk) trivial (Below.refl _ _) (Nat.le_refl _) (by simp) ?_; (case hd => rfl); (case hg => rfl); (case hr => first | (go_simp; done) | (go_simp; rfl)); (case hp => exact (Reps.one (show Kd.M (Kd.int .i64) _ _ _ 0 [.int .i64 0] from rfl) (Reps.one (show Kd.M (Kd.int .i64) _ _ _ 1 [.int .i64 1] from rfl) (Reps.one (show Kd.M (Kd.int .i64) _ _ _ 2 [.int .i64 2] from rfl) (Reps.one (show Kd.M (Kd.int .i64) _ _ _ 5 [.int .i64 5] from rfl) (Reps.one (show Kd.M (Kd.int .i64) _ _ _ 7 [.int .i64 7] from rfl) (Reps.one (show Kd.M (Kd.int .i64) _ _ _ 8 [.int .i64 8] from rfl) (Reps.one (show Kd.M (Kd.int .i64) _ _ _ 47 [.int .i64 47] from rfl) (Reps.one (show Kd.M (Kd.int .i64) _ _ _ 48 [.int .i64 48] from rfl) (Reps.one (show Kd.M (Kd.int .i64) _ _ _ 383 [.int .i64 383] from rfl) (Reps.one (show Kd.M (Kd.int .i64) _ _ _ 1000 [.int .i64 1000] from rfl) (Reps.one (show Kd.M (Kd.int .i64) _ _ _ (-1) [.int .i64 (-1)] from rfl) (Reps.one (show Kd.M (Kd.int .i64) _ _ _ 4611686018427387904 [.int .i64 4611686018427387904] from rfl) (Reps.none _ _)))))))))))))); intro v346 w9 ho10 hb hg_ hnew_; clear hg_ hnew_; (first | rw [← Ny345.out] at ho10 | (simp only [Int.reduceToNat] at ho10; rw [← Ny345.out] at ho10)); have HO347 := Az_ (Kd.R_lower (Kd.R_new' ho10 (Kd.R_lt (by exact urz_ HO341.out))) (below_size (by repeat (first | (with_reducible first | exact HB.out | apply baz_ | apply bnz_ | apply bdz_ | refine bsz_ ?_ (IsS111.ge HI338.out)) | exact HB.out)))); replace HO341 := Az_ (rez_ (by exact urz_ HO341.out) (Kd.R_base ho10) hb); replace HB := Az_ (btz_ (by repeat (first | (with_reducible first | exact HB.out | apply baz_ | apply bnz_ | apply bdz_ | refine bsz_ ?_ (IsS111.ge HI338.out)) | exact HB.out)) hb); replace HI338 := Az_ (IsS111.below (by repeat (first | (with_reducible first | exact HI338.out | apply IsS111.alloc | apply IsS111.drewN | apply IsS111.drew | apply IsS111.set_1 | apply IsS111.set_2) | exact HI338.out)) hb); clear hb ho10; obtain ⟨Ao11, co11, eo11⟩ := Kd.R_slice HO347.out; subst eo11) | ((with_reducible refine gate_callee (f := 94) rfl ?_); refine goesL_ (some 15) rfl rfl Tryd.func94 (by kernel_rfl) rfl #[.pointer (some ⟨gb338, 0, none⟩), .slice Ao11 y345.length co11] rfl maz_ ?_; (with_reducible refine (spec_l1Cur_among.calls gb338 l0 t343 t344 _ _ y345 t348 t349 t350 w _ ?side1 ?side2 ?side3 ?side4 ?side5 A3.out).mono ?_); (case side1 => repeat (first | (with_reducible first | exact HI338.out | apply IsS111.alloc | apply IsS111.drewN | apply IsS111.drew | apply IsS111.set_1 | apply IsS111.set_2) | exact HI338.out)); (case side2 => repeat (first | (with_reducible first | exact HB.out | apply baz_ | apply bnz_ | apply bdz_ | refine bsz_ ?_ (IsS111.ge HI338.out)) | exact HB.out)); (case side3 => exact ucz_ ((Kd.R_reads' HO347.out).2.2)); (case side4 => exact (Kd.R_reads' HO347.out).2.1); (case side5 => exact far_slice (IsS111.own_ne HI338.out HO347.out (by decide))); rintro e w12 ⟨rfl, hi, hb, hk⟩; refine ⟨_, rfl, ?_⟩; replace HO341 := Az_ (Kd.R_mono (Kd.R_keep (IsS111.apart (show IsS111 w _ gb338 l0 t343 t344 from by repeat (first | (with_reducible first | exact HI338.out | apply IsS111.alloc | apply IsS111.drewN | apply IsS111.drew | apply IsS111.set_1 | apply IsS111.set_2) | exact HI338.out)) (by exact urz_ HO341.out) (by decide)) hk (fun _ h => h.2)) (fun _ h => h.1)); replace HO347 := Az_ (Kd.R_mono (Kd.R_keep (IsS111.apart (show IsS111 w _ gb338 l0 t343 t344 from by repeat (first | (with_reducible first | exact HI338.out | apply IsS111.alloc | apply IsS111.drewN | apply IsS111.drew | apply IsS111.set_1 | apply IsS111.set_2) | exact HI338.out)) (by exact urz_ HO347.out) (by decide)) hk (fun _ h => h.2)) (fun _ h => h.1)); replace HB := Az_ (hb); replace HI338 := Az_ (hi); (try clear hb); (try clear hk); (try clear hi)))
 go_ret2
 exact ⟨by first | rfl | (simp [errW_none, errW_some] <;> rfl) | (simp [*, errW_none, errW_some] <;> rfl), by repeat (first | (with_reducible first | exact HB.out | apply baz_ | apply bnz_ | apply bdz_ | refine bsz_ ?_ (IsS111.ge HI338.out)) | exact HB.out)⟩

/-! ### impl_countBindings: function 137 -/
def impl_countBindings.l0 : Nat → Int → Int → Int → Option (Int)
 | 0, _, _, _ => none
 | k + 1, x0, x3, x4 => if x4 ≤ x0 then (impl_countBindings.l0 k x0 (wrap64 (x3 * (wrap64 (2 * x4)))) (wrap64 (x4 + 1))) else (some x3)
def impl_countBindings.f (k : Nat) (a0 : Int) : Option (Int) := impl_countBindings.l0 k a0 1 1
theorem impl_countBindings.mono_l : ∀ k, (∀ y0 y1 y2, LeO (impl_countBindings.l0 k y0 y1 y2) (impl_countBindings.l0 (k + 1) y0 y1 y2))
 | 0 => fun _ _ _ r h => by simp [impl_countBindings.l0] at h
 | k + 1 => by
  have ih0 := impl_countBindings.mono_l k
  ·intro y0 y1 y2
   unfold impl_countBindings.l0
   repeat' first
   | (with_reducible exact ih0 _ _ _)
   | (with_reducible exact LeO.refl _)
   | (with_reducible exact LeO.none _)
   | (with_reducible refine LeO.ite ?_ ?_)
   | (with_reducible refine LeO.bind ?_ (fun _ => ?_))
theorem impl_countBindings.mono : ∀ a0 k, LeO (impl_countBindings.f k a0) (impl_countBindings.f (k + 1) a0) := by
 intro a0 k
 have ih0 := impl_countBindings.mono_l k
 unfold impl_countBindings.f
 repeat' first
   | (with_reducible exact ih0 _ _ _)
   | (with_reducible exact LeO.refl _)
   | (with_reducible exact LeO.none _)
   | (with_reducible refine LeO.ite ?_ ?_)
   | (with_reducible refine LeO.bind ?_ (fun _ => ?_))
set_option maxHeartbeats 8000000 in
set_option maxRecDepth 100000 in
theorem impl_countBindings.calls (k : Nat) (a0 : Int) (r : Int) (w : World) (h : impl_countBindings.f k a0 = some r) :
  Calls Tryd.prog 137 #[.int .i64 a0] w fun e w' => e = .returned (.int .i64 r) ∧ Drawn0 w w' := by
 have H : (impl_countBindings.l0 k a0 1 1) = some r := h
 clear h
 have H' := Az_ H
 clear H
 go_enter Tryd.func137, Tryd.ntmps137
 go_wp2
 go_loopg [3, 4] k (fun kq v3 v4 w' => ∃ (x3_1 : Int) (x4_1 : Int), v3 = .int .i64 x3_1 ∧ v4 = .int .i64 x4_1 ∧ Aside0 (impl_countBindings.l0 kq a0 x3_1 x4_1 = some r) ∧ Aside0 (kq ≤ k) ∧ Drawn0 w w')
 case atStart => exact ⟨(1), (1), qaz_, qaz_, H', ⟨Nat.le_refl _⟩, by repeat (first | exact Drawn0.refl _ | apply Drawn0.step)⟩
 case round =>
  clear H'
  obtain ⟨x3_1, x4_1, rfl, rfl, HA, HK1, ⟨m1, rfl⟩⟩ := hrel
  cases gk with
  | zero => exact absurd HA.out (by simp [impl_countBindings.l0])
  | succ k1 =>
   have H := HA.out
   clear HA
   simp only [impl_countBindings.l0] at H
   by_cases c2 : x4_1 ≤ a0
   ·rw [if_pos c2] at H
    have c2b0 := decide_eq_true c2
    clear c2
    have H' := Az_ H
    clear H
    go_wp2
    go_roundg k1
    case measure => have := HK1.out; omega
    case rel => exact ⟨(wrap64 (x3_1 * (wrap64 (2 * x4_1)))), (wrap64 (x4_1 + 1)), qaz_, qaz_, H', ⟨by have := HK1.out; omega⟩, by repeat (first | exact Drawn0.refl _ | apply Drawn0.step)⟩
   ·rw [if_neg c2] at H
    have c2b0 := decide_eq_false c2
    clear c2
    obtain rfl := Option.some.inj H
    go_wp2
    go_ret
    exact ⟨by first | rfl | (simp; done) | (simp [*]; done), by repeat (first | exact Drawn0.refl _ | apply Drawn0.step)⟩

/-! ### impl_choices: function 138 -/
def impl_choices.l0 : Nat → Int → List Int → List Int → Int → Option (List Int)
 | 0, _, _, _, _ => none
 | k + 1, x0, x1, x5, x6 => if x6 ≤ x0 then (if x6 = 0 then (impl_choices.l0 k x0 x1 x5 (wrap64 (x6 + 1))) else ((slices_Contains_int_int.f k x1 x6).bind fun t354 => (if t354 = true then (impl_choices.l0 k x0 x1 x5 (wrap64 (x6 + 1))) else ((slices_Contains_int_int.f k x1 (wrap64 (-x6))).bind fun t355 => (if t355 = true then (impl_choices.l0 k x0 x1 x5 (wrap64 (x6 + 1))) else (if x5.length < 17592186044416 then (impl_choices.l0 k x0 x1 (x5 ++ [x6]) (wrap64 (x6 + 1))) else (none))))))) else (some x5)
def impl_choices.f (k : Nat) (a0 : Int) (l1 : List Int) : Option (List Int) := impl_choices.l0 k a0 l1 (([] : List Int)) (wrap64 (-a0))
theorem impl_choices.mono_l : ∀ k, (∀ y0 y1 y2 y3, LeO (impl_choices.l0 k y0 y1 y2 y3) (impl_choices.l0 (k + 1) y0 y1 y2 y3))
 | 0 => fun _ _ _ _ r h => by simp [impl_choices.l0] at h
 | k + 1 => by
  have ih0 := impl_choices.mono_l k
  ·intro y0 y1 y2 y3
   unfold impl_choices.l0
   repeat' first
   | (with_reducible exact ih0 _ _ _ _)
   | (with_reducible exact slices_Contains_int_int.mono _ _ _)
   | (with_reducible exact LeO.refl _)
   | (with_reducible exact LeO.none _)
   | (with_reducible refine LeO.ite ?_ ?_)
   | (with_reducible refine LeO.bind ?_ (fun _ => ?_))
theorem impl_choices.mono : ∀ a0 a1 k, LeO (impl_choices.f k a0 a1) (impl_choices.f (k + 1) a0 a1) := by
 intro a0 a1 k
 have ih0 := impl_choices.mono_l k
 unfold impl_choices.f
 repeat' first
   | (with_reducible exact ih0 _ _ _ _)
   | (with_reducible exact slices_Contains_int_int.mono _ _ _)
   | (with_reducible exact LeO.refl _)
   | (with_reducible exact LeO.none _)
   | (with_reducible refine LeO.ite ?_ ?_)
   | (with_reducible refine LeO.bind ?_ (fun _ => ?_))
set_option maxHeartbeats 8000000 in
set_option maxRecDepth 100000 in
theorem impl_choices.calls (k : Nat) (a0 : Int) (A1 : Option Addr) (c1 : Nat) (l1 : List Int) (r : List Int) (w : World) (hr1 : Kd.C (Kd.int .i64) w A1 l1.length l1) (hc1 : l1.length ≤ c1) (h : impl_choices.f k a0 l1 = some r) :
  Calls Tryd.prog 138 #[.int .i64 a0, .slice A1 l1.length c1] w fun e w' => ∃ v0_ : Value, e = .returned (v0_) ∧ Kd.R (Kd.int .i64) 3 w' w.heap.size (fun _ => True) v0_ r ∧ Below w.heap.size w w' := by
 have HR1 := Az_ hr1
 have HC1 := Az_ hc1
 clear hr1 hc1
 have HB := Az_ (Below.refl w.heap.size w)
 have H : (impl_choices.l0 k a0 l1 (([] : List Int)) (wrap64 (-a0))) = some r := h
 clear h
 obtain ⟨y351, hy351⟩ : ∃ y_ : List Int, y_ = (([] : List Int)) := ⟨_, rfl⟩
 replace H : (impl_choices.l0 k a0 l1 y351 (wrap64 (-a0))) = some r := by first | (rw [hy351]; with_reducible exact H) | (have H2_ := (Option.bind_some _ _).symm.trans H; rw [hy351]; with_reducible exact H2_) | (have H2_ := (Option.bind_some _ _).symm.trans H; with_reducible exact H2_) | with_reducible exact H | (rw [hy351]; exact H) | exact H
 have Ny351 := Az_ hy351
 clear hy351
 have H' := Az_ H
 clear H
 go_enter Tryd.func138, Tryd.ntmps138
 go_wp2_with (first | ((with_reducible refine gate_dst (N := 7) rfl ?_); refine Kd.R_lit (Kd.int .i64) _ 3 ?hg (N := 7) ?hd (xs := ([] : List Int)) (inner := []) (ok := fun _ => True) (okp := fun _ => True) ?hr ?hp (fun _ hk => hk) trivial (Below.refl _ _) (Nat.le_refl _) (by simp) ?_; (case hd => rfl); (case hg => rfl); (case hr => first | (go_simp; done) | (go_simp; rfl)); (case hp => exact (Reps.none _ _)); intro v352 w3 ho4 hb hg_ hnew_; clear hg_ hnew_; (first | rw [← Ny351.out] at ho4 | (simp only [Int.reduceToNat] at ho4; rw [← Ny351.out] at ho4)); have HO353 := Az_ (Kd.R_lower ho4 (below_size (ubz_ HB.out))); replace HB := Az_ (btz_ (ubz_ HB.out) hb); clear hb ho4))
 go_loopg [5, 6] k (fun kq v5 v6 w' => ∃ (x5_1 : List Int) (x6_1 : Int), v6 = .int .i64 x6_1 ∧ Aside0 (impl_choices.l0 kq a0 l1 x5_1 x6_1 = some r) ∧ Aside0 (kq ≤ k) ∧ Aside0 (Kd.R (Kd.int .i64) 3 w' w.heap.size (fun _ => True) v5 x5_1) ∧ Aside0 (Below w.heap.size w w'))
 case atStart => exact ⟨(y351), (wrap64 (-a0)), qaz_, H', ⟨Nat.le_refl _⟩, ⟨by (with_reducible repeat (first | apply raz_ | apply rnz_ | apply rdz_)); exact HO353.out⟩, ⟨by exact ubz_ HB.out⟩⟩
 case round =>
  clear H'
  obtain ⟨x5_1, x6_1, rfl, HA, HK1, HO_5, HB⟩ := hrel
  cases gk with
  | zero => exact absurd HA.out (by simp [impl_choices.l0])
  | succ k1 =>
   have H := HA.out
   clear HA
   simp only [impl_choices.l0] at H
   by_cases c5 : x6_1 ≤ a0
   ·rw [if_pos c5] at H
    have c5b0 := decide_eq_true c5
    clear c5
    by_cases c6 : x6_1 = 0
    ·rw [if_pos c6] at H
     have c6b0 : (x6_1 == 0) = true := beq_iff_eq.mpr c6
     have c6b1 : (x6_1 != 0) = false := bne_eq_false_iff_eq.mpr c6
     clear c6
     have H' := Az_ H
     clear H
     go_wp2
     go_roundg k1
     case measure => have := HK1.out; omega
     case rel => exact ⟨(x5_1), (wrap64 (x6_1 + 1)), qaz_, H', ⟨by have := HK1.out; omega⟩, ⟨by (with_reducible repeat (first | apply raz_ | apply rnz_ | apply rdz_)); exact HO_5.out⟩, ⟨by exact ubz_ HB.out⟩⟩
    ·rw [if_neg c6] at H
     have c6b0 : (x6_1 == 0) = false := beq_eq_false_iff_ne.mpr c6
     have c6b1 : (x6_1 != 0) = true := bne_iff_ne.mpr c6
     replace H := bqz_ H; obtain ⟨t354, A7, H⟩ := H
     replace H : (if t354 = true then (impl_choices.l0 k1 a0 l1 x5_1 (wrap64 (x6_1 + 1))) else ((slices_Contains_int_int.f k1 l1 (wrap64 (-x6_1))).bind fun t355 => (if t355 = true then (impl_choices.l0 k1 a0 l1 x5_1 (wrap64 (x6_1 + 1))) else (if x5_1.length < 17592186044416 then (impl_choices.l0 k1 a0 l1 (x5_1 ++ [x6_1]) (wrap64 (x6_1 + 1))) else (none))))) = some r := H
     by_cases c8 : t354 = true
     ·subst c8
      rw [if_pos rfl] at H
      have H' := Az_ H
      clear H
      go_wp2_with (first | (go_at_call 186; (with_reducible refine (slices_Contains_int_int.calls k1 _ _ l1 x6_1 true _ ?side1 ?side2 A7.out).mono ?_); (case side1 => exact ucz_ ((Kd.C_below HR1.out HB.out))); (case side2 => first | exact HC1.out | (rw [List.length_take]; have := HC1.out; omega)); rintro e w' ⟨rfl, ⟨nd, rfl⟩⟩))
      go_roundg k1
      case measure => have := HK1.out; omega
      case rel => exact ⟨(x5_1), (wrap64 (x6_1 + 1)), qaz_, H', ⟨by have := HK1.out; omega⟩, ⟨by (with_reducible repeat (first | apply raz_ | apply rnz_ | apply rdz_)); exact HO_5.out⟩, ⟨by exact ubz_ HB.out⟩⟩
     ·replace c8 := Bool.eq_false_iff.mpr c8
      subst c8
      rw [if_neg nfz_] at H
      replace H := bqz_ H; obtain ⟨t355, A9, H⟩ := H
      replace H : (if t355 = true then (impl_choices.l0 k1 a0 l1 x5_1 (wrap64 (x6_1 + 1))) else (if x5_1.length < 17592186044416 then (impl_choices.l0 k1 a0 l1 (x5_1 ++ [x6_1]) (wrap64 (x6_1 + 1))) else (none))) = some r := H
      by_cases c10 : t355 = true
      ·subst c10
       rw [if_pos rfl] at H
       have H' := Az_ H
       clear H
       go_wp2_with (first | (go_at_call 186; (with_reducible refine (slices_Contains_int_int.calls k1 _ _ l1 x6_1 false _ ?side1 ?side2 A7.out).mono ?_); (case side1 => exact ucz_ ((Kd.C_below HR1.out HB.out))); (case side2 => first | exact HC1.out | (rw [List.length_take]; have := HC1.out; omega)); rintro e w' ⟨rfl, ⟨nd, rfl⟩⟩) | (go_at_call 186; (with_reducible refine (slices_Contains_int_int.calls k1 _ _ l1 (wrap64 (-x6_1)) true _ ?side1 ?side2 A9.out).mono ?_); (case side1 => repeat (first | exact (Kd.C_below HR1.out (ubz_ HB.out)) | (with_reducible refine Kd.C_alloc ?_ _) | (with_reducible refine Kd.C_drewN ?_ _) | (with_reducible refine Kd.C_drew ?_))); (case side2 => first | exact HC1.out | (rw [List.length_take]; have := HC1.out; omega)); rintro e w' ⟨rfl, ⟨nd, rfl⟩⟩))
       go_roundg k1
       case measure => have := HK1.out; omega
       case rel => exact ⟨(x5_1), (wrap64 (x6_1 + 1)), qaz_, H', ⟨by have := HK1.out; omega⟩, ⟨by (with_reducible repeat (first | apply raz_ | apply rnz_ | apply rdz_)); exact HO_5.out⟩, ⟨by exact ubz_ HB.out⟩⟩
      ·replace c10 := Bool.eq_false_iff.mpr c10
       subst c10
       rw [if_neg nfz_] at H
       by_cases c11 : x5_1.length < 17592186044416
       ·rw [if_pos c11] at H
        have LMc11 := Az_ c11
        clear c11
        obtain ⟨y356, hy356⟩ : ∃ y_ : List Int, y_ = (x5_1 ++ [x6_1]) := ⟨_, rfl⟩
        replace H : (impl_choices.l0 k1 a0 l1 y356 (wrap64 (x6_1 + 1))) = some r := by first | (rw [hy356]; with_reducible exact H) | (have H2_ := (Option.bind_some _ _).symm.trans H; rw [hy356]; with_reducible exact H2_) | (have H2_ := (Option.bind_some _ _).symm.trans H; with_reducible exact H2_) | with_reducible exact H | (rw [hy356]; exact H) | exact H
        have Ny356 := Az_ hy356
        clear hy356
        have H' := Az_ H
        clear H
        go_wp2_with (first | (go_at_call 186; (with_reducible refine (slices_Contains_int_int.calls k1 _ _ l1 x6_1 false _ ?side1 ?side2 A7.out).mono ?_); (case side1 => exact ucz_ ((Kd.C_below HR1.out HB.out))); (case side2 => first | exact HC1.out | (rw [List.length_take]; have := HC1.out; omega)); rintro e w' ⟨rfl, ⟨nd, rfl⟩⟩) | (go_at_call 186; (with_reducible refine (slices_Contains_int_int.calls k1 _ _ l1 (wrap64 (-x6_1)) false _ ?side1 ?side2 A9.out).mono ?_); (case side1 => repeat (first | exact (Kd.C_below HR1.out (ubz_ HB.out)) | (with_reducible refine Kd.C_alloc ?_ _) | (with_reducible refine Kd.C_drewN ?_ _) | (with_reducible refine Kd.C_drew ?_))); (case side2 => first | exact HC1.out | (rw [List.length_take]; have := HC1.out; omega)); rintro e w' ⟨rfl, ⟨nd, rfl⟩⟩) | ((with_reducible refine gate_builtin (b := .append) (xs := #[.tmp 30, .tmp 32]) rfl ?_); at_builtin; refine Kd.R_append (Kd.int .i64) (w0 := w) w.heap.size rfl (.tmp 30) (.tmp 32) 49 3 (.int .i64 0) 8 rfl Tryd.underlying49 info3 rfl (by decide) (by omega) u5 x5_1 x6_1 [.int .i64 x6_1] (fun _ => True) (fun _ => False) rfl rfl ?aP (fun _ hk => hk.elim) ?aF ?aO ?aB ?aS ?aL ?_; (case aP => exact rfl); (case aB => exact (ubz_ HB.out)); (case aF => exact (fun _ _ => trivial)); (case aO => exact (by exact urz_ HO_5.out)); (case aS => exact (below_size (ubz_ HB.out))); (case aL => have := LMc11.out; omega); intro v357 w12 ho hb hg hat; rw [← Ny356.out] at ho; replace HB := Az_ (hb); have HO358 := Az_ (ho); clear HO_5; clear ho hb hg hat))
        go_roundg k1
        case measure => have := HK1.out; omega
        case rel => exact ⟨(y356), (wrap64 (x6_1 + 1)), qaz_, H', ⟨by have := HK1.out; omega⟩, ⟨by (with_reducible repeat (first | apply raz_ | apply rnz_ | apply rdz_)); exact HO358.out⟩, ⟨by exact ubz_ HB.out⟩⟩
       ·rw [if_neg c11] at H
        exact absurd H (by simp)
   ·rw [if_neg c5] at H
    have c5b0 := decide_eq_false c5
    clear c5
    obtain rfl := Option.some.inj H
    go_wp2
    go_ret
    exact ⟨_, by first | rfl | (simp [errW_none, errW_some] <;> rfl) | (simp [*, errW_none, errW_some] <;> rfl), by (with_reducible repeat (first | apply raz_ | apply rnz_ | apply rdz_)); exact HO_5.out, by exact ubz_ HB.out⟩

end Go.Proofs.YtppbpefehpbejaaDoor.P
end

section
namespace Go.Proofs.YtppbpefehpbejaaDoor.P
open Go.RowKit Go.Proofs.YtppbpefehpbejaaDoorW.PrintWords Go.Proofs.YtppbpefehpbejaaDoorW.PrintLast Go.Proofs.YtppbpefehpbejaaDoorW.PrintMore
attribute [local go_sem] max2_int min2_int max_two min_two max_three min_three max_four min_four   -- for this text's walks alone
set_option linter.unusedVariables false
set_option linter.unusedSimpArgs false

/-! ### impl_BindingOfRank: function 52 -/
mutual
def impl_BindingOfRank.j0 : Nat → Int → Int → Bool → Option (List Int × Bool)
 | 0, _, _, _ => none
 | k + 1, x0, x1, x18 => if x18 = true then (some (([] : List Int), false)) else (impl_BindingOfRank.l0 k x0 x1 (([] : List Int)))
def impl_BindingOfRank.l0 : Nat → Int → Int → List Int → Option (List Int × Bool)
 | 0, _, _, _ => none
 | k + 1, x0, x1, x6 => if (x6.length : Int) < x0 then ((impl_countBindings.f k (wrap64 ((wrap64 (x0 - (x6.length : Int))) - 1))).bind fun t365 => ((impl_choices.f k x0 x6).bind fun t366 => (if t365 = 0 then (none) else (if 0 ≤ (wrap64 (Int.tdiv x1 t365)) then (if (wrap64 (Int.tdiv x1 t365)) < (t366.length : Int) then (if x6.length < 17592186044416 then (impl_BindingOfRank.l0 k x0 (Int.tmod x1 t365) (x6 ++ [rd t366 (wrap64 (Int.tdiv x1 t365))])) else (none)) else (none)) else (none))))) else (some (x6, true))
end
def impl_BindingOfRank.f (k : Nat) (a0 : Int) (a1 : Int) : Option (List Int × Bool) := (impl_within.f a0 1 8).bind fun t359 => (if t359 = true then ((impl_countBindings.f k a0).bind fun t360 => ((impl_within.f a1 0 (wrap64 (t360 - 1))).bind fun t361 => (impl_BindingOfRank.j0 k a0 a1 (!t361)))) else (impl_BindingOfRank.j0 k a0 a1 true))
theorem impl_BindingOfRank.mono_l : ∀ k, (∀ y0 y1 y2, LeO (impl_BindingOfRank.j0 k y0 y1 y2) (impl_BindingOfRank.j0 (k + 1) y0 y1 y2)) ∧ (∀ y0 y1 y2, LeO (impl_BindingOfRank.l0 k y0 y1 y2) (impl_BindingOfRank.l0 (k + 1) y0 y1 y2))
 | 0 => ⟨fun _ _ _ r h => by simp [impl_BindingOfRank.j0] at h, fun _ _ _ r h => by simp [impl_BindingOfRank.l0] at h⟩
 | k + 1 => by
  obtain ⟨ih0, ih1⟩ := impl_BindingOfRank.mono_l k
  refine ⟨?_, ?_⟩
  ·intro y0 y1 y2
   unfold impl_BindingOfRank.j0
   repeat' first
   | (with_reducible exact ih0 _ _ _)
   | (with_reducible exact ih1 _ _ _)
   | (with_reducible exact impl_choices.mono _ _ _)
   | (with_reducible exact impl_countBindings.mono _ _)
   | (with_reducible exact LeO.refl _)
   | (with_reducible exact LeO.none _)
   | (with_reducible refine LeO.ite ?_ ?_)
   | (with_reducible refine LeO.bind ?_ (fun _ => ?_))
  ·intro y0 y1 y2
   unfold impl_BindingOfRank.l0
   repeat' first
   | (with_reducible exact ih0 _ _ _)
   | (with_reducible exact ih1 _ _ _)
   | (with_reducible exact impl_choices.mono _ _ _)
   | (with_reducible exact impl_countBindings.mono _ _)
   | (with_reducible exact LeO.refl _)
   | (with_reducible exact LeO.none _)
   | (with_reducible refine LeO.ite ?_ ?_)
   | (with_reducible refine LeO.bind ?_ (fun _ => ?_))
theorem impl_BindingOfRank.mono : ∀ a0 a1 k, LeO (impl_BindingOfRank.f k a0 a1) (impl_BindingOfRank.f (k + 1) a0 a1) := by
 intro a0 a1 k
 obtain ⟨ih0, ih1⟩ := impl_BindingOfRank.mono_l k
 unfold impl_BindingOfRank.f
 repeat' first
   | (with_reducible exact ih0 _ _ _)
   | (with_reducible exact ih1 _ _ _)
   | (with_reducible exact impl_choices.mono _ _ _)
   | (with_reducible exact impl_countBindings.mono _ _)
   | (with_reducible exact LeO.refl _)
   | (with_reducible exact LeO.none _)
   | (with_reducible refine LeO.ite ?_ ?_)
   | (with_reducible refine LeO.bind ?_ (fun _ => ?_))
def impl_BindingOfRank.T6 : Bool × List (List Nat × List Nat) := (true, [([], []), ([], []), ([], []), ([1, 2], [1, 2]), ([], []), ([], []), ([4, 5], [4, 5]), ([3, 6], [3, 6]), ([7], [7]), ([8], [8]), ([0, 9, 3], [0, 9]), ([10, 10, 0, 1, 2, 3, 4, 5, 6, 7, 8, 9, 10], [0, 2, 10])])
def impl_BindingOfRank.B6 : List Nat := [0, 0, 0, 6, 0, 0, 48, 126, 254, 510, 1023, 2047]
theorem impl_BindingOfRank.tab6 : rtab .any (opsOf Tryd.f52 6) = impl_BindingOfRank.T6 := by kernel_rfl
theorem impl_BindingOfRank.bits6 : waitsOk impl_BindingOfRank.T6.2 impl_BindingOfRank.B6 = true := by kernel_rfl
set_option maxHeartbeats 8000000 in
set_option maxRecDepth 100000 in
theorem impl_BindingOfRank.calls (k : Nat) (a0 : Int) (a1 : Int) (r1 : List Int) (r2 : Bool) (w : World) (h : impl_BindingOfRank.f k a0 a1 = some (r1, r2)) :
  Calls Tryd.prog 52 #[.int .i64 a0, .int .i64 a1] w fun e w' => ∃ v0_ : Value, e = .returned (.tuple #[v0_, .bool r2]) ∧ Kd.R (Kd.int .i64) 3 w' w.heap.size (fun _ => True) v0_ r1 ∧ Below w.heap.size w w' := by
 have HB := Az_ (Below.refl w.heap.size w)
 have H : ((impl_within.f a0 1 8).bind fun t359 => (if t359 = true then ((impl_countBindings.f k a0).bind fun t360 => ((impl_within.f a1 0 (wrap64 (t360 - 1))).bind fun t361 => (j0 k a0 a1 (!t361)))) else (j0 k a0 a1 true))) = some (r1, r2) := h
 clear h
 have HC3 := Az_ H
 clear H
 go_enter Tryd.func52, Tryd.ntmps52
 go_upto_region 1 with (fail)
 go_cut [18] (fun v18 wc => ∃ (kq : Nat) (x18_2 : Bool), v18 = .bool x18_2 ∧ Aside0 (j0 kq a0 a1 x18_2 = some (r1, r2)) ∧ Aside0 (kq ≤ k) ∧ Aside0 (Below w.heap.size w wc))
 case first =>
  have H := HC3.out
  clear HC3
  replace H := bqz_ H; obtain ⟨t359, A4, H⟩ := H
  replace H : (if t359 = true then ((impl_countBindings.f k a0).bind fun t360 => ((impl_within.f a1 0 (wrap64 (t360 - 1))).bind fun t361 => (j0 k a0 a1 (!t361)))) else (j0 k a0 a1 true)) = some (r1, r2) := H
  by_cases c5 : t359 = true
  ·subst c5
   rw [if_pos rfl] at H
   replace H := bqz_ H; obtain ⟨t360, A6, H⟩ := H
   replace H := bqz_ H; obtain ⟨t361, A7, H⟩ := H
   replace H : (j0 k a0 a1 (!t361)) = some (r1, r2) := H
   have H' := Az_ H
   clear H
   go_wp2_with (first | ((with_reducible refine gate_callee (f := 97) rfl ?_); refine goesL_ (some 9) rfl rfl Tryd.func97 (by kernel_rfl) rfl #[.int .i64 a0, .int .i64 1, .int .i64 8] rfl maz_ ?_; (with_reducible refine (impl_within.calls a0 1 8 true _ A4.out).mono ?_); rintro e w' ⟨rfl, ⟨nd, rfl⟩⟩; refine ⟨_, rfl, ?_⟩) | (go_at_call 137; (with_reducible refine (impl_countBindings.calls k a0 t360 _ A6.out).mono ?_); rintro e w' ⟨rfl, ⟨nd, rfl⟩⟩) | (go_at_call 97; (with_reducible refine (impl_within.calls a1 0 (wrap64 (t360 - 1)) t361 _ A7.out).mono ?_); rintro e w' ⟨rfl, ⟨nd, rfl⟩⟩))
   go_meet
   case rel => exact ⟨_, (!t361), qaz_, H', ⟨by first | omega | exact Nat.le_refl _⟩, ⟨by exact ubz_ HB.out⟩⟩
  ·replace c5 := Bool.eq_false_iff.mpr c5
   subst c5
   rw [if_neg nfz_] at H
   have H' := Az_ H
   clear H
   go_wp2_with (first | ((with_reducible refine gate_callee (f := 97) rfl ?_); refine goesL_ (some 9) rfl rfl Tryd.func97 (by kernel_rfl) rfl #[.int .i64 a0, .int .i64 1, .int .i64 8] rfl maz_ ?_; (with_reducible refine (impl_within.calls a0 1 8 false _ A4.out).mono ?_); rintro e w' ⟨rfl, ⟨nd, rfl⟩⟩; refine ⟨_, rfl, ?_⟩))
   go_meet
   case rel => exact ⟨_, (true), qaz_, H', ⟨by first | omega | exact Nat.le_refl _⟩, ⟨by exact ubz_ HB.out⟩⟩
 case rest =>
  clear HC3
  obtain ⟨kq, x18_2, rfl, HA, HJ2, HB⟩ := hcut
  cases kq with
  | zero => exact absurd HA.out (by simp [j0])
  | succ kj2 =>
   have H := HA.out
   clear HA
   simp only [j0] at H
   by_cases c8 : x18_2 = true
   ·subst c8
    rw [if_pos rfl] at H
    simp only [Option.some.injEq, Prod.mk.injEq] at H
    obtain ⟨rfl, rfl⟩ := H
    go_wp2
    go_ret2
    exact ⟨_, by first | rfl | (simp [errW_none, errW_some] <;> rfl) | (simp [*, errW_none, errW_some] <;> rfl), by first | exact Kd.R_nil _ _ _ _ _ | exact Kd.N_nil _ _ _ _ _ | exact Kd.V_nil _ _ _ _ _ | exact Kd.Q_nil _ _ _ _ _ | exact Kd.S_nil _ _ _ _ _, by exact ubz_ HB.out⟩
   ·replace c8 := Bool.eq_false_iff.mpr c8
    subst c8
    rw [if_neg nfz_] at H
    obtain ⟨y362, hy362⟩ : ∃ y_ : List Int, y_ = (([] : List Int)) := ⟨_, rfl⟩
    replace H : (impl_BindingOfRank.l0 kj2 a0 a1 y362) = some (r1, r2) := by first | (rw [hy362]; with_reducible exact H) | (have H2_ := (Option.bind_some _ _).symm.trans H; rw [hy362]; with_reducible exact H2_) | (have H2_ := (Option.bind_some _ _).symm.trans H; with_reducible exact H2_) | with_reducible exact H | (rw [hy362]; exact H) | exact H
    have Ny362 := Az_ hy362
    clear hy362
    have H' := Az_ H
    clear H
    go_wp2_with (first | ((with_reducible refine gate_dst (N := 19) rfl ?_); refine Kd.R_lit (Kd.int .i64) _ 3 ?hg (N := 19) ?hd (xs := ([] : List Int)) (inner := []) (ok := fun _ => True) (okp := fun _ => True) ?hr ?hp (fun _ hk => hk) trivial (Below.refl _ _) (Nat.le_refl _) (by simp) ?_; (case hd => rfl); (case hg => rfl); (case hr => first | (go_simp; done) | (go_simp; rfl)); (case hp => exact (Reps.none _ _)); intro v363 w9 ho10 hb hg_ hnew_; clear hg_ hnew_; (first | rw [← Ny362.out] at ho10 | (simp only [Int.reduceToNat] at ho10; rw [← Ny362.out] at ho10)); have HO364 := Az_ (Kd.R_lower ho10 (below_size (ubz_ HB.out))); replace HB := Az_ (btz_ (ubz_ HB.out) hb); clear hb ho10))
    go_loopg [1, 6] kj2 (fun kq v1 v6 w' => ∃ (x1_2 : Int) (x6_2 : List Int), v1 = .int .i64 x1_2 ∧ Aside0 (impl_BindingOfRank.l0 kq a0 x1_2 x6_2 = some (r1, r2)) ∧ Aside0 (kq ≤ kj2) ∧ Aside0 (Kd.R (Kd.int .i64) 3 w' w.heap.size (fun _ => True) v6 x6_2) ∧ Aside0 (Below w.heap.size w w'))
    case atStart => exact ⟨(a1), (y362), qaz_, H', ⟨Nat.le_refl _⟩, ⟨by (with_reducible repeat (first | apply raz_ | apply rnz_ | apply rdz_)); exact HO364.out⟩, ⟨by exact ubz_ HB.out⟩⟩
    case round =>
     clear H'
     obtain ⟨x1_2, x6_2, rfl, HA, HK2, HO_6, HB⟩ := hrel
     cases gk with
     | zero => exact absurd HA.out (by simp [impl_BindingOfRank.l0])
     | succ k2 =>
      have H := HA.out
      clear HA
      simp only [impl_BindingOfRank.l0] at H
      by_cases c11 : (x6_2.length : Int) < a0
      ·rw [if_pos c11] at H
       have c11b0 := decide_eq_true c11
       clear c11
       replace H := bqz_ H; obtain ⟨t365, A12, H⟩ := H
       replace H := bqz_ H; obtain ⟨t366, A13, H⟩ := H
       replace H : (if t365 = 0 then (none) else (if 0 ≤ (wrap64 (Int.tdiv x1_2 t365)) then (if (wrap64 (Int.tdiv x1_2 t365)) < (t366.length : Int) then (if x6_2.length < 17592186044416 then (impl_BindingOfRank.l0 k2 a0 (Int.tmod x1_2 t365) (x6_2 ++ [rd t366 (wrap64 (Int.tdiv x1_2 t365))])) else (none)) else (none)) else (none))) = some (r1, r2) := H
       by_cases c14 : t365 = 0
       ·rw [if_pos c14] at H
        exact absurd H (by simp)
       ·rw [if_neg c14] at H
        have c14b0 : (t365 == 0) = false := beq_eq_false_iff_ne.mpr c14
        have c14b1 : (t365 != 0) = true := bne_iff_ne.mpr c14
        obtain ⟨ji15, hji15⟩ : ∃ j_ : Int, (wrap64 (Int.tdiv x1_2 t365)) = j_ := ⟨_, rfl⟩
        replace H : (if 0 ≤ (ji15) then (if (ji15) < (t366.length : Int) then (if x6_2.length < 17592186044416 then (impl_BindingOfRank.l0 k2 a0 (Int.tmod x1_2 t365) (x6_2 ++ [rd t366 (ji15)])) else (none)) else (none)) else (none)) = some (r1, r2) := by first | (rw [hji15] at H; exact H) | (simp only [hji15] at H ⊢; exact H)
        (try rw [hji15] at A12)
        (try rw [hji15] at A13)
        have hji15w : (IntKind.i64.wrap (Int.tdiv x1_2 t365)) = ji15 := (i64_w _).trans hji15
        by_cases c16 : 0 ≤ (ji15)
        ·rw [if_pos c16] at H
         have c16b0 := decide_eq_true c16
         clear c16
         by_cases c17 : (ji15) < (t366.length : Int)
         ·rw [if_pos c17] at H
          have c17b0 := decide_eq_true c17
          clear c17
          by_cases c18 : x6_2.length < 17592186044416
          ·rw [if_pos c18] at H
           have LMc18 := Az_ c18
           clear c18
           obtain ⟨y370, hy370⟩ : ∃ y_ : List Int, y_ = (x6_2 ++ [rd t366 (ji15)]) := ⟨_, rfl⟩
           replace H : (impl_BindingOfRank.l0 k2 a0 (Int.tmod x1_2 t365) y370) = some (r1, r2) := by first | (rw [hy370]; with_reducible exact H) | (have H2_ := (Option.bind_some _ _).symm.trans H; rw [hy370]; with_reducible exact H2_) | (have H2_ := (Option.bind_some _ _).symm.trans H; with_reducible exact H2_) | with_reducible exact H | (rw [hy370]; exact H) | exact H
           have Ny370 := Az_ hy370
           clear hy370
           have H' := Az_ H
           clear H
           obtain ⟨Ao19, co19, eo19⟩ := Kd.R_slice HO_6.out
           subst eo19
           try go_wp2_with (first | ((with_reducible refine gate_callee (f := 137) rfl ?_); refine goesL_ (some 29) rfl rfl Tryd.func137 (by kernel_rfl) rfl #[.int .i64 (wrap64 ((wrap64 (a0 - (x6_2.length : Int))) - 1))] rfl maz_ ?_; (with_reducible refine (impl_countBindings.calls k2 (wrap64 ((wrap64 (a0 - (x6_2.length : Int))) - 1)) t365 _ A12.out).mono ?_); rintro e w' ⟨rfl, ⟨nd, rfl⟩⟩; refine ⟨_, rfl, ?_⟩))
           (try (rw [drewN_self wr]; generalize hq_ : World.drewN wr _ = wr; have n0_ : Aside0 (Kd.R (Kd.int .i64) 3 wr w.heap.size (fun _ => True) (.slice Ao19 x6_2.length co19) x6_2) := ⟨by rw [← hq_]; exact (by exact urz_ HO_6.out)⟩; have n1_ : Aside0 (Below w.heap.size w wr) := ⟨by rw [← hq_]; exact (ubz_ HB.out)⟩; clear HO_6 HB hq_; have HO_6 := n0_; have HB := n1_; clear n0_ n1_))
           have n0_ := Az_ (rdz_ HO_6.out)
           have n1_ := Az_ (bdz_ HB.out)
           clear HO_6 HB
           have HO_6 := n0_
           have HB := n1_
           clear n0_ n1_
           refine start_ (n := 12) (S := fun _ => True) (ds := [9, 10]) #[false, false, false, false, false, false, false, false, false, false, false, false] (by kernel_rfl) rfl rfl trivial (fun hHeld => ?_); refine with_tabW impl_BindingOfRank.tab6 impl_BindingOfRank.bits6 (fun HT_ HW_ => ?_)
           generalize wr.drew = w20 at HO_6 HB hHeld ⊢
           refine pure_ (i := 0) (N := some 30) (v := ?_) (a' := ?_) #[true, false, false, false, false, false, false, false, false, false, false, false] rfl rfl (any_of HT_.out (by kernel_rfl)) (fun _ _ _ h => h) (Or.inl ⟨by rfl, ?_⟩) ?_ ?_
           rotate_left
           ·intro w'
            go_simp
            with_reducible rfl
           rotate_left
           ·simp only [Act.put, usz_, utz_, uvz_, i64_w, i32_w]
            rfl
           refine pure_ (i := 1) (N := some 31) (v := ?_) (a' := ?_) #[true, true, false, false, false, false, false, false, false, false, false, false] rfl rfl (any_of HT_.out (by kernel_rfl)) (fun _ _ _ h => h) (Or.inl ⟨by rfl, ?_⟩) ?_ ?_
           rotate_left
           ·intro w'
            go_simp
            with_reducible rfl
           rotate_left
           ·simp only [Act.put, usz_, utz_, uvz_, i64_w, i32_w]
            rfl
           refine pure_ (i := 2) (N := some 32) (v := ?_) (a' := ?_) #[true, true, true, false, false, false, false, false, false, false, false, false] rfl rfl (any_of HT_.out (by kernel_rfl)) (fun _ _ _ h => h) (Or.inl ⟨by rfl, ?_⟩) ?_ ?_
           rotate_left
           ·intro w'
            go_simp
            with_reducible rfl
           rotate_left
           ·simp only [Act.put, usz_, utz_, uvz_, i64_w, i32_w]
            rfl
           refine pure_ (i := 4) (N := some 34) (v := ?_) (a' := ?_) #[true, true, true, false, true, false, false, false, false, false, false, false] rfl rfl (any_of HT_.out (by kernel_rfl)) (fun _ _ _ h => h) (Or.inl ⟨by rfl, ?_⟩) ?_ ?_
           rotate_left
           ·intro w'
            go_simp
            with_reducible rfl
           rotate_left
           ·simp only [Act.put, usz_, utz_, uvz_, i64_w, i32_w]
            rfl
           refine pure_ (i := 5) (N := some 35) (v := ?_) (a' := ?_) #[true, true, true, false, true, true, false, false, false, false, false, false] rfl rfl (any_of HT_.out (by kernel_rfl)) (fun _ _ _ h => h) (Or.inl ⟨by rfl, ?_⟩) ?_ ?_
           rotate_left
           ·intro w'
            go_simp
            with_reducible rfl
           rotate_left
           ·simp only [Act.put, usz_, utz_, uvz_, i64_w, i32_w]
            rfl
           refine pure_ (i := 6) (N := some 36) (v := ?_) (a' := ?_) #[true, true, true, false, true, true, true, false, false, false, false, false] rfl rfl (any_of HT_.out (by kernel_rfl)) (fun _ _ _ h => h) (Or.inl ⟨by rfl, ?_⟩) ?_ ?_
           rotate_left
           ·intro w'
            go_simp
            with_reducible rfl
           rotate_left
           ·simp only [Act.put, usz_, utz_, uvz_, i64_w, i32_w]
            rfl
           refine one_ (i := 3) (N := some 33) #[true, true, true, true, true, true, true, false, false, false, false, false] rfl rfl (one_of HT_.out (by kernel_rfl)) (by decide) (fun K hK => ?_)
           refine goes_ Tryd.func138 (by kernel_rfl) rfl #[.int .i64 a0, .slice Ao19 x6_2.length co19] (by rfl) rfl rfl maz_ ?_
           with_reducible refine (impl_choices.calls k2 a0 _ _ x6_2 t366 _ ?side1 ?side2 A13.out).mono ?_
           (case side1 => repeat (first | exact (Kd.R_reads' HO_6.out).2.2 | (with_reducible refine Kd.C_alloc ?_ _) | (with_reducible refine Kd.C_drewN ?_ _) | (with_reducible refine Kd.C_drew ?_)))
           (case side2 => exact (Kd.R_reads' HO_6.out).2.1)
           rintro e w21 ⟨v367, rfl, ho0, hb⟩
           have HS0_ := True.intro
           refine ⟨_, rfl, ?_⟩
           have n0_ := Az_ (rez_ (by exact urz_ HO_6.out) (Kd.R_base ho0) hb)
           have n1_ := Az_ (Kd.R_lower (Kd.R_new' ho0 (Kd.R_lt (by exact urz_ HO_6.out))) (below_size (ubz_ HB.out)))
           have n2_ := Az_ (btz_ (ubz_ HB.out) hb)
           clear HO_6 HB
           have HO_6 := n0_
           have HO368 := n1_
           have HB := n2_
           clear n0_ n1_ n2_
           clear hb
           clear ho0
           obtain ⟨Ao22, co22, eo22⟩ := Kd.R_slice HO368.out
           (first | subst eo22 | (injection eo22 with f1_ f2_ f3_; have f4_ := f1_.symm; have f5_ := f3_.symm; clear f1_ f2_ f3_; subst f4_; subst f5_))
           have p369 : 0 ≤ ((ji15) : Int) := of_decide_eq_true asz_
           have q369 : (ji15) < (t366.length : Int) := of_decide_eq_true asz_
           obtain ⟨ad369, e369, hx369_0⟩ := Kd.at_int (Kd.R_reads' HO368.out).2.2 (ji15) p369 q369
           cases e369
           replace p369 := eq_true p369
           replace q369 := eq_true q369
           refine hK.out _ _ (HS0_) (fun hHeld => ?_)
           clear hK K
           refine norm_ (a' := ?_) ?_ ?_
           rotate_left
           ·show Act.put _ (some 33) _ = _
            simp only [Act.put, usz_, utz_, uvz_, i64_w, i32_w]
            rfl
           refine pure_ (i := 7) (N := some 37) (v := ?_) (a' := ?_) #[true, true, true, true, true, true, true, true, false, false, false, false] rfl rfl (any_of HT_.out (by kernel_rfl)) (fun _ _ _ h => h) (Or.inl ⟨by rfl, ?_⟩) ?_ ?_
           rotate_left
           ·intro w'
            go_simp
            with_reducible rfl
           rotate_left
           ·simp only [Act.put, usz_, utz_, uvz_, i64_w, i32_w]
            rfl
           refine one_ (i := 8) (N := some 38) #[true, true, true, true, true, true, true, true, true, false, false, false] rfl rfl (one_of HT_.out (by kernel_rfl)) (by decide) (fun K hK => ?_)
           refine value_ (w1 := ?_) (v := ?_) (by rfl) rfl ?_ ?_
           rotate_left 2
           ·go_simp
            constructor <;> rfl
           refine hK.out _ _ trivial (fun hHeld => ?_)
           clear hK K
           refine norm_ (a' := ?_) ?_ ?_
           rotate_left
           ·show Act.put _ (some 38) _ = _
            simp only [Act.put, usz_, utz_, uvz_, i64_w, i32_w]
            rfl
           refine last_ (i := 9) (N := some 39) #[true, true, true, true, true, true, true, true, true, true, false, false] rfl rfl (one_of HT_.out (by kernel_rfl)) (by decide) (fun K hK => ?_)
           refine value_ (w1 := ?_) (v := ?_) (by rfl) rfl ?_ ?_
           rotate_left 2
           ·go_simp
            constructor
            ·rfl
            ·rfl
           refine hK.out _ _ ?_
           clear hK K
           refine norm_ (a' := ?_) ?_ ?_
           rotate_left
           ·show Act.put _ (some 39) _ = _
            simp only [Act.put, usz_, utz_, uvz_, i64_w, i32_w]
            rfl
           refine last_ (i := 10) (N := some 40) #[true, true, true, true, true, true, true, true, true, true, true, false] rfl rfl (one_of HT_.out (by kernel_rfl)) (by decide) (fun K hK => ?_)
           refine Kd.R_append_step (Kd.int .i64) (w0 := w) w.heap.size (by rfl) (.tmp 30) (.tmp 39) 49 3 (.int .i64 0) 8 rfl Tryd.underlying49 info3 rfl (by decide) (by omega) (.slice Ao19 x6_2.length co19) x6_2 (rd t366 (ji15)) [.int .i64 (rd t366 (ji15))] (fun k_ => some k_ ≠ (.slice (some ad369) t366.length co22 : Value).ownBlock) (fun _ => False) rfl rfl ?aP (fun _ hk => hk.elim) ?aF ?aO ?aB ?aS ?aL ?_
           (case aP => exact rfl)
           (case aB => exact (ubz_ HB.out))
           (case aF => exact (fun k_ hk => Kd.fresh' (Kd.R_lt (by exact urz_ HO368.out)) k_ hk))
           (case aO => exact (by (with_reducible repeat (first | apply raz_ | apply rnz_ | apply rdz_)); exact Kd.R_mono HO_6.out (fun _ hk => hk.2)))
           (case aS => exact (below_size (ubz_ HB.out)))
           (case aL => have := LMc18.out; omega)
           intro v371 w23 ho hb hg hat
           rw [← Ny370.out] at ho
           have n0_ := Az_ (Kd.R_after (ok := (fun _ => True)) (by exact urz_ HO368.out) hg hat)
           have n1_ := Az_ (hb)
           have n2_ := Az_ (ho)
           clear HO368 HB HO_6
           have HO368 := n0_
           have HB := n1_
           have HO372 := n2_
           clear n0_ n1_ n2_ ho hb hg hat
           refine hK.out _ _ ?_
           clear hK K
           refine norm_ (a' := ?_) ?_ ?_
           rotate_left
           ·show Act.put _ (some 40) _ = _
            simp only [Act.put, usz_, utz_, uvz_, i64_w, i32_w]
            rfl
           refine pure_ (i := 11) (N := some 6) (v := ?_) (a' := ?_) #[true, true, true, true, true, true, true, true, true, true, true, true] rfl rfl (any_of HT_.out (by kernel_rfl)) (fun _ _ _ h => h) (Or.inl ⟨by rfl, ?_⟩) ?_ ?_
           rotate_left
           ·intro w'
            go_simp
            with_reducible rfl
           rotate_left
           ·simp only [Act.put, usz_, utz_, uvz_, i64_w, i32_w]
            rfl
           refine done_ (done_of HT_.out (by kernel_rfl)) ?_
           try go_wp2
           go_roundg k2
           case measure => have := HJ2.out; have := HK2.out; omega
           case rel => exact ⟨(Int.tmod x1_2 t365), (y370), qaz_, H', ⟨by have := HJ2.out; have := HK2.out; omega⟩, ⟨by (with_reducible repeat (first | apply raz_ | apply rnz_ | apply rdz_)); exact Kd.R_mono HO372.out (fun _ hk => trivial)⟩, ⟨by exact ubz_ HB.out⟩⟩
          ·rw [if_neg c18] at H
           exact absurd H (by simp)
         ·rw [if_neg c17] at H
          exact absurd H (by simp)
        ·rw [if_neg c16] at H
         exact absurd H (by simp)
      ·rw [if_neg c11] at H
       have c11b0 := decide_eq_false c11
       clear c11
       simp only [Option.some.injEq, Prod.mk.injEq] at H
       obtain ⟨rfl, rfl⟩ := H
       obtain ⟨Ao24, co24, eo24⟩ := Kd.R_slice HO_6.out
       subst eo24
       go_wp2
       go_ret2
       exact ⟨_, by first | rfl | (simp [errW_none, errW_some] <;> rfl) | (simp [*, errW_none, errW_some] <;> rfl), by (with_reducible repeat (first | apply raz_ | apply rnz_ | apply rdz_)); exact HO_6.out, by exact ubz_ HB.out⟩

/-! ### spec_biLeaves: function 139 -/
def spec_biLeaves.f (a0 : Int) : Option (Bool) := (spec_l1In.f a0 1 8).bind fun t373 => (some t373)
set_option maxHeartbeats 8000000 in
set_option maxRecDepth 100000 in
theorem spec_biLeaves.calls (a0 : Int) (r : Bool) (w : World) (h : spec_biLeaves.f a0 = some r) :
  Calls Tryd.prog 139 #[.int .i64 a0] w fun e w' => e = .returned (.bool r) ∧ Drawn0 w w' := by
 have H : ((spec_l1In.f a0 1 8).bind fun t373 => (some t373)) = some r := h
 clear h
 replace H := bqz_ H; obtain ⟨t373, A2, H⟩ := H
 replace H : (some t373) = some r := H
 obtain rfl := Option.some.inj H
 go_enter Tryd.func139, Tryd.ntmps139
 go_wp2_with (first | ((with_reducible refine gate_callee (f := 101) rfl ?_); refine goesL_ (some 4) rfl rfl Tryd.func101 (by kernel_rfl) rfl #[.int .i64 a0, .int .i64 1, .int .i64 8] rfl maz_ ?_; (with_reducible refine (spec_l1In.calls a0 1 8 t373 _ A2.out).mono ?_); rintro e w' ⟨rfl, ⟨nd, rfl⟩⟩; refine ⟨_, rfl, ?_⟩))
 go_ret
 exact ⟨by first | rfl | (simp; done) | (simp [*]; done), by repeat (first | exact Drawn0.refl _ | apply Drawn0.step)⟩

end Go.Proofs.YtppbpefehpbejaaDoor.P
end

section
namespace Go.Proofs.YtppbpefehpbejaaDoor.P
open Go.RowKit Go.Proofs.YtppbpefehpbejaaDoorW.PrintWords Go.Proofs.YtppbpefehpbejaaDoorW.PrintLast Go.Proofs.YtppbpefehpbejaaDoorW.PrintMore
attribute [local go_sem] max2_int min2_int max_two min_two max_three min_three max_four min_four   -- for this text's walks alone
set_option linter.unusedVariables false
set_option linter.unusedSimpArgs false

/-! ### spec_BindingOfRank: function 53 -/
def spec_BindingOfRank.f (k : Nat) (a0 : Int) (a1 : Int) : Option (List Int × Bool) := (spec_biLeaves.f a0).bind fun t374 => (if t374 = true then (if a1 < 0 then (some (([] : List Int), false)) else ((spec_biAll.f k a0).bind fun t375 => (if a1 ≥ t375 then (some (([] : List Int), false)) else ((spec_biOf.f k a0 a1).bind fun t376 => (some (t376, true)))))) else (some (([] : List Int), false)))
theorem spec_BindingOfRank.mono : ∀ a0 a1 k, LeO (spec_BindingOfRank.f k a0 a1) (spec_BindingOfRank.f (k + 1) a0 a1) := by
 intro a0 a1 k
 unfold spec_BindingOfRank.f
 repeat' first
   | (with_reducible exact spec_biAll.mono _ _)
   | (with_reducible exact spec_biOf.mono _ _ _)
   | (with_reducible exact LeO.refl _)
   | (with_reducible exact LeO.none _)
   | (with_reducible refine LeO.ite ?_ ?_)
   | (with_reducible refine LeO.bind ?_ (fun _ => ?_))
set_option maxHeartbeats 8000000 in
set_option maxRecDepth 100000 in
theorem spec_BindingOfRank.calls (k : Nat) (a0 : Int) (a1 : Int) (r1 : List Int) (r2 : Bool) (w : World) (h : spec_BindingOfRank.f k a0 a1 = some (r1, r2)) :
  Calls Tryd.prog 53 #[.int .i64 a0, .int .i64 a1] w fun e w' => ∃ v0_ : Value, e = .returned (.tuple #[v0_, .bool r2]) ∧ Kd.R (Kd.int .i64) 3 w' w.heap.size (fun _ => True) v0_ r1 ∧ Below w.heap.size w w' := by
 have HB := Az_ (Below.refl w.heap.size w)
 have H : ((spec_biLeaves.f a0).bind fun t374 => (if t374 = true then (if a1 < 0 then (some (([] : List Int), false)) else ((spec_biAll.f k a0).bind fun t375 => (if a1 ≥ t375 then (some (([] : List Int), false)) else ((spec_biOf.f k a0 a1).bind fun t376 => (some (t376, true)))))) else (some (([] : List Int), false)))) = some (r1, r2) := h
 clear h
 replace H := bqz_ H; obtain ⟨t374, A3, H⟩ := H
 replace H : (if t374 = true then (if a1 < 0 then (some (([] : List Int), false)) else ((spec_biAll.f k a0).bind fun t375 => (if a1 ≥ t375 then (some (([] : List Int), false)) else ((spec_biOf.f k a0 a1).bind fun t376 => (some (t376, true)))))) else (some (([] : List Int), false))) = some (r1, r2) := H
 by_cases c4 : t374 = true
 ·subst c4
  rw [if_pos rfl] at H
  by_cases c5 : a1 < 0
  ·rw [if_pos c5] at H
   have c5b0 := decide_eq_true c5
   clear c5
   simp only [Option.some.injEq, Prod.mk.injEq] at H
   obtain ⟨rfl, rfl⟩ := H
   go_enter Tryd.func53, Tryd.ntmps53
   go_wp2_with (first | ((with_reducible refine gate_callee (f := 139) rfl ?_); refine goesL_ (some 7) rfl rfl Tryd.func139 (by kernel_rfl) rfl #[.int .i64 a0] rfl maz_ ?_; (with_reducible refine (spec_biLeaves.calls a0 true _ A3.out).mono ?_); rintro e w' ⟨rfl, ⟨nd, rfl⟩⟩; refine ⟨_, rfl, ?_⟩))
   go_ret2
   exact ⟨_, by first | rfl | (simp [errW_none, errW_some] <;> rfl) | (simp [*, errW_none, errW_some] <;> rfl), by first | exact Kd.R_nil _ _ _ _ _ | exact Kd.N_nil _ _ _ _ _ | exact Kd.V_nil _ _ _ _ _ | exact Kd.Q_nil _ _ _ _ _ | exact Kd.S_nil _ _ _ _ _, by exact ubz_ HB.out⟩
  ·rw [if_neg c5] at H
   have c5b0 := decide_eq_false c5
   clear c5
   replace H := bqz_ H; obtain ⟨t375, A6, H⟩ := H
   replace H : (if a1 ≥ t375 then (some (([] : List Int), false)) else ((spec_biOf.f k a0 a1).bind fun t376 => (some (t376, true)))) = some (r1, r2) := H
   by_cases c7 : a1 ≥ t375
   ·rw [if_pos c7] at H
    have c7b0 := decide_eq_true c7
    clear c7
    simp only [Option.some.injEq, Prod.mk.injEq] at H
    obtain ⟨rfl, rfl⟩ := H
    go_enter Tryd.func53, Tryd.ntmps53
    go_wp2_with (first | ((with_reducible refine gate_callee (f := 139) rfl ?_); refine goesL_ (some 7) rfl rfl Tryd.func139 (by kernel_rfl) rfl #[.int .i64 a0] rfl maz_ ?_; (with_reducible refine (spec_biLeaves.calls a0 true _ A3.out).mono ?_); rintro e w' ⟨rfl, ⟨nd, rfl⟩⟩; refine ⟨_, rfl, ?_⟩) | (go_at_call 140; (with_reducible refine (spec_biAll.calls k a0 t375 _ A6.out).mono ?_); rintro e w' ⟨rfl, ⟨nd, rfl⟩⟩))
    go_ret2
    exact ⟨_, by first | rfl | (simp [errW_none, errW_some] <;> rfl) | (simp [*, errW_none, errW_some] <;> rfl), by first | exact Kd.R_nil _ _ _ _ _ | exact Kd.N_nil _ _ _ _ _ | exact Kd.V_nil _ _ _ _ _ | exact Kd.Q_nil _ _ _ _ _ | exact Kd.S_nil _ _ _ _ _, by exact ubz_ HB.out⟩
   ·rw [if_neg c7] at H
    have c7b0 := decide_eq_false c7
    clear c7
    replace H := bqz_ H; obtain ⟨t376, A8, H⟩ := H
    replace H : (some (t376, true)) = some (r1, r2) := H
    simp only [Option.some.injEq, Prod.mk.injEq] at H
    obtain ⟨rfl, rfl⟩ := H
    go_enter Tryd.func53, Tryd.ntmps53
    go_wp2_with (first | ((with_reducible refine gate_callee (f := 139) rfl ?_); refine goesL_ (some 7) rfl rfl Tryd.func139 (by kernel_rfl) rfl #[.int .i64 a0] rfl maz_ ?_; (with_reducible refine (spec_biLeaves.calls a0 true _ A3.out).mono ?_); rintro e w' ⟨rfl, ⟨nd, rfl⟩⟩; refine ⟨_, rfl, ?_⟩) | (go_at_call 140; (with_reducible refine (spec_biAll.calls k a0 t375 _ A6.out).mono ?_); rintro e w' ⟨rfl, ⟨nd, rfl⟩⟩) | ((with_reducible refine gate_callee (f := 141) rfl ?_); refine goesL_ (some 21) rfl rfl Tryd.func141 (by kernel_rfl) rfl #[.int .i64 a0, .int .i64 a1] rfl maz_ ?_; (with_reducible refine (spec_biOf.calls k a0 a1 t376 _ A8.out).mono ?_); rintro e w9 ⟨v377, rfl, ho0, hb⟩; refine ⟨_, rfl, ?_⟩; have HO378 := Az_ (Kd.R_lower ho0 (below_size (ubz_ HB.out))); replace HB := Az_ (btz_ (ubz_ HB.out) hb); (try clear hb); (try clear ho0)))
    go_ret2
    exact ⟨_, by first | rfl | (simp [errW_none, errW_some] <;> rfl) | (simp [*, errW_none, errW_some] <;> rfl), by (with_reducible repeat (first | apply raz_ | apply rnz_ | apply rdz_)); exact HO378.out, by exact ubz_ HB.out⟩
 ·replace c4 := Bool.eq_false_iff.mpr c4
  subst c4
  rw [if_neg nfz_] at H
  simp only [Option.some.injEq, Prod.mk.injEq] at H
  obtain ⟨rfl, rfl⟩ := H
  go_enter Tryd.func53, Tryd.ntmps53
  go_wp2_with (first | ((with_reducible refine gate_callee (f := 139) rfl ?_); refine goesL_ (some 7) rfl rfl Tryd.func139 (by kernel_rfl) rfl #[.int .i64 a0] rfl maz_ ?_; (with_reducible refine (spec_biLeaves.calls a0 false _ A3.out).mono ?_); rintro e w' ⟨rfl, ⟨nd, rfl⟩⟩; refine ⟨_, rfl, ?_⟩))
  go_ret2
  exact ⟨_, by first | rfl | (simp [errW_none, errW_some] <;> rfl) | (simp [*, errW_none, errW_some] <;> rfl), by first | exact Kd.R_nil _ _ _ _ _ | exact Kd.N_nil _ _ _ _ _ | exact Kd.V_nil _ _ _ _ _ | exact Kd.Q_nil _ _ _ _ _ | exact Kd.S_nil _ _ _ _ _, by exact ubz_ HB.out⟩

/-! ### impl_CountBindings: function 54 -/
def impl_CountBindings.f (k : Nat) (a0 : Int) : Option (Int × Bool) := (impl_within.f a0 1 8).bind fun t379 => (if t379 = true then ((impl_countBindings.f k a0).bind fun t380 => (some (t380, true))) else (some (0, false)))
theorem impl_CountBindings.mono : ∀ a0 k, LeO (impl_CountBindings.f k a0) (impl_CountBindings.f (k + 1) a0) := by
 intro a0 k
 unfold impl_CountBindings.f
 repeat' first
   | (with_reducible exact impl_countBindings.mono _ _)
   | (with_reducible exact LeO.refl _)
   | (with_reducible exact LeO.none _)
   | (with_reducible refine LeO.ite ?_ ?_)
   | (with_reducible refine LeO.bind ?_ (fun _ => ?_))
set_option maxHeartbeats 8000000 in
set_option maxRecDepth 100000 in
theorem impl_CountBindings.calls (k : Nat) (a0 : Int) (r1 : Int) (r2 : Bool) (w : World) (h : impl_CountBindings.f k a0 = some (r1, r2)) :
  Calls Tryd.prog 54 #[.int .i64 a0] w fun e w' => e = .returned (.tuple #[.int .i64 r1, .bool r2]) ∧ Drawn0 w w' := by
 have H : ((impl_within.f a0 1 8).bind fun t379 => (if t379 = true then ((impl_countBindings.f k a0).bind fun t380 => (some (t380, true))) else (some (0, false)))) = some (r1, r2) := h
 clear h
 replace H := bqz_ H; obtain ⟨t379, A2, H⟩ := H
 replace H : (if t379 = true then ((impl_countBindings.f k a0).bind fun t380 => (some (t380, true))) else (some (0, false))) = some (r1, r2) := H
 by_cases c3 : t379 = true
 ·subst c3
  rw [if_pos rfl] at H
  replace H := bqz_ H; obtain ⟨t380, A4, H⟩ := H
  replace H : (some (t380, true)) = some (r1, r2) := H
  simp only [Option.some.injEq, Prod.mk.injEq] at H
  obtain ⟨rfl, rfl⟩ := H
  go_enter Tryd.func54, Tryd.ntmps54
  go_wp2_with (first | ((with_reducible refine gate_callee (f := 97) rfl ?_); refine goesL_ (some 5) rfl rfl Tryd.func97 (by kernel_rfl) rfl #[.int .i64 a0, .int .i64 1, .int .i64 8] rfl maz_ ?_; (with_reducible refine (impl_within.calls a0 1 8 true _ A2.out).mono ?_); rintro e w' ⟨rfl, ⟨nd, rfl⟩⟩; refine ⟨_, rfl, ?_⟩) | ((with_reducible refine gate_callee (f := 137) rfl ?_); refine goesL_ (some 8) rfl rfl Tryd.func137 (by kernel_rfl) rfl #[.int .i64 a0] rfl maz_ ?_; (with_reducible refine (impl_countBindings.calls k a0 t380 _ A4.out).mono ?_); rintro e w' ⟨rfl, ⟨nd, rfl⟩⟩; refine ⟨_, rfl, ?_⟩))
  go_ret2
  exact ⟨by first | rfl | (simp; done) | (simp [*]; done), by repeat (first | exact Drawn0.refl _ | apply Drawn0.step)⟩
 ·replace c3 := Bool.eq_false_iff.mpr c3
  subst c3
  rw [if_neg nfz_] at H
  simp only [Option.some.injEq, Prod.mk.injEq] at H
  obtain ⟨rfl, rfl⟩ := H
  go_enter Tryd.func54, Tryd.ntmps54
  go_wp2_with (first | ((with_reducible refine gate_callee (f := 97) rfl ?_); refine goesL_ (some 5) rfl rfl Tryd.func97 (by kernel_rfl) rfl #[.int .i64 a0, .int .i64 1, .int .i64 8] rfl maz_ ?_; (with_reducible refine (impl_within.calls a0 1 8 false _ A2.out).mono ?_); rintro e w' ⟨rfl, ⟨nd, rfl⟩⟩; refine ⟨_, rfl, ?_⟩))
  go_ret2
  exact ⟨by first | rfl | (simp; done) | (simp [*]; done), by repeat (first | exact Drawn0.refl _ | apply Drawn0.step)⟩

/-! ### spec_CountBindings: function 55 -/
def spec_CountBindings.f (k : Nat) (a0 : Int) : Option (Int × Bool) := (spec_biLeaves.f a0).bind fun t381 => (if t381 = true then ((spec_biAll.f k a0).bind fun t382 => (some (t382, true))) else (some (0, false)))
theorem spec_CountBindings.mono : ∀ a0 k, LeO (spec_CountBindings.f k a0) (spec_CountBindings.f (k + 1) a0) := by
 intro a0 k
 unfold spec_CountBindings.f
 repeat' first
   | (with_reducible exact spec_biAll.mono _ _)
   | (with_reducible exact LeO.refl _)
   | (with_reducible exact LeO.none _)
   | (with_reducible refine LeO.ite ?_ ?_)
   | (with_reducible refine LeO.bind ?_ (fun _ => ?_))
set_option maxHeartbeats 8000000 in
set_option maxRecDepth 100000 in
theorem spec_CountBindings.calls (k : Nat) (a0 : Int) (r1 : Int) (r2 : Bool) (w : World) (h : spec_CountBindings.f k a0 = some (r1, r2)) :
  Calls Tryd.prog 55 #[.int .i64 a0] w fun e w' => e = .returned (.tuple #[.int .i64 r1, .bool r2]) ∧ Drawn0 w w' := by
 have H : ((spec_biLeaves.f a0).bind fun t381 => (if t381 = true then ((spec_biAll.f k a0).bind fun t382 => (some (t382, true))) else (some (0, false)))) = some (r1, r2) := h
 clear h
 replace H := bqz_ H; obtain ⟨t381, A2, H⟩ := H
 replace H : (if t381 = true then ((spec_biAll.f k a0).bind fun t382 => (some (t382, true))) else (some (0, false))) = some (r1, r2) := H
 by_cases c3 : t381 = true
 ·subst c3
  rw [if_pos rfl] at H
  replace H := bqz_ H; obtain ⟨t382, A4, H⟩ := H
  replace H : (some (t382, true)) = some (r1, r2) := H
  simp only [Option.some.injEq, Prod.mk.injEq] at H
  obtain ⟨rfl, rfl⟩ := H
  go_enter Tryd.func55, Tryd.ntmps55
  go_wp2_with (first | ((with_reducible refine gate_callee (f := 139) rfl ?_); refine goesL_ (some 5) rfl rfl Tryd.func139 (by kernel_rfl) rfl #[.int .i64 a0] rfl maz_ ?_; (with_reducible refine (spec_biLeaves.calls a0 true _ A2.out).mono ?_); rintro e w' ⟨rfl, ⟨nd, rfl⟩⟩; refine ⟨_, rfl, ?_⟩) | ((with_reducible refine gate_callee (f := 140) rfl ?_); refine goesL_ (some 8) rfl rfl Tryd.func140 (by kernel_rfl) rfl #[.int .i64 a0] rfl maz_ ?_; (with_reducible refine (spec_biAll.calls k a0 t382 _ A4.out).mono ?_); rintro e w' ⟨rfl, ⟨nd, rfl⟩⟩; refine ⟨_, rfl, ?_⟩))
  go_ret2
  exact ⟨by first | rfl | (simp; done) | (simp [*]; done), by repeat (first | exact Drawn0.refl _ | apply Drawn0.step)⟩
 ·replace c3 := Bool.eq_false_iff.mpr c3
  subst c3
  rw [if_neg nfz_] at H
  simp only [Option.some.injEq, Prod.mk.injEq] at H
  obtain ⟨rfl, rfl⟩ := H
  go_enter Tryd.func55, Tryd.ntmps55
  go_wp2_with (first | ((with_reducible refine gate_callee (f := 139) rfl ?_); refine goesL_ (some 5) rfl rfl Tryd.func139 (by kernel_rfl) rfl #[.int .i64 a0] rfl maz_ ?_; (with_reducible refine (spec_biLeaves.calls a0 false _ A2.out).mono ?_); rintro e w' ⟨rfl, ⟨nd, rfl⟩⟩; refine ⟨_, rfl, ?_⟩))
  go_ret2
  exact ⟨by first | rfl | (simp; done) | (simp [*]; done), by repeat (first | exact Drawn0.refl _ | apply Drawn0.step)⟩

/-! ### spec_DrawCountByTurns: function 56 -/
def spec_DrawCountByTurns.f (l0 : List Int) : Option (Int × Int) := (spec_l1Cur_among.f l0 0 0 (([1, 2, 3, 4, 4, 6, 0] : List Int))).bind fun bt387 => ((spec_l1Cur_among.f l0 bt387.2.1 bt387.2.2 (([0, 1, 2, 3, 4, 5, 6, (-1), 4611686018427387904] : List Int))).bind fun bt393 => (some (bt387.1, bt393.1)))
set_option maxHeartbeats 8000000 in
set_option maxRecDepth 100000 in
theorem spec_DrawCountByTurns.calls (A0 : Option Addr) (c0 : Nat) (l0 : List Int) (r1 : Int) (r2 : Int) (w : World) (hr0 : Kd.C (Kd.int .u8) w A0 l0.length l0) (hc0 : l0.length ≤ c0) (h : spec_DrawCountByTurns.f l0 = some (r1, r2)) :
  Calls Tryd.prog 56 #[.slice A0 l0.length c0] w fun e w' => e = .returned (.tuple #[.int .i64 r1, .int .i64 r2]) ∧ Below w.heap.size w w' := by
 have hu111 := Tryd.underlying111
 have HR0 := Az_ hr0
 have HC0 := Az_ hc0
 clear hr0 hc0
 have HB := Az_ (Below.refl w.heap.size w)
 have H : ((spec_l1Cur_among.f l0 0 0 (([1, 2, 3, 4, 4, 6, 0] : List Int))).bind fun bt387 => ((spec_l1Cur_among.f l0 bt387.2.1 bt387.2.2 (([0, 1, 2, 3, 4, 5, 6, (-1), 4611686018427387904] : List Int))).bind fun bt393 => (some (bt387.1, bt393.1)))) = some (r1, r2) := h
 clear h
 obtain ⟨y384, hy384⟩ : ∃ y_ : List Int, y_ = (([1, 2, 3, 4, 4, 6, 0] : List Int)) := ⟨_, rfl⟩
 replace H : ((spec_l1Cur_among.f l0 0 0 y384).bind fun bt387 => ((spec_l1Cur_among.f l0 bt387.2.1 bt387.2.2 (([0, 1, 2, 3, 4, 5, 6, (-1), 4611686018427387904] : List Int))).bind fun bt393 => (some (bt387.1, bt393.1)))) = some (r1, r2) := by first | (rw [hy384]; with_reducible exact H) | (have H2_ := (Option.bind_some _ _).symm.trans H; rw [hy384]; with_reducible exact H2_) | (have H2_ := (Option.bind_some _ _).symm.trans H; with_reducible exact H2_) | with_reducible exact H | (rw [hy384]; exact H) | exact H
 have Ny384 := Az_ hy384
 clear hy384
 replace H := bqz_ H; obtain ⟨⟨t387, t388, t389⟩, A2, H⟩ := H
 replace H : ((spec_l1Cur_among.f l0 t388 t389 (([0, 1, 2, 3, 4, 5, 6, (-1), 4611686018427387904] : List Int))).bind fun bt393 => (some (t387, bt393.1))) = some (r1, r2) := H
 obtain ⟨y390, hy390⟩ : ∃ y_ : List Int, y_ = (([0, 1, 2, 3, 4, 5, 6, (-1), 4611686018427387904] : List Int)) := ⟨_, rfl⟩
 replace H : ((spec_l1Cur_among.f l0 t388 t389 y390).bind fun bt393 => (some (t387, bt393.1))) = some (r1, r2) := by first | (rw [hy390]; with_reducible exact H) | (have H2_ := (Option.bind_some _ _).symm.trans H; rw [hy390]; with_reducible exact H2_) | (have H2_ := (Option.bind_some _ _).symm.trans H; with_reducible exact H2_) | with_reducible exact H | (rw [hy390]; exact H) | exact H
 have Ny390 := Az_ hy390
 clear hy390
 replace H := bqz_ H; obtain ⟨⟨t393, t394, t395⟩, A3, H⟩ := H
 replace H : (some (t387, t393)) = some (r1, r2) := H
 simp only [Option.some.injEq, Prod.mk.injEq] at H
 obtain ⟨rfl, rfl⟩ := H
 go_enter Tryd.func56, Tryd.ntmps56
 go_wp2_with (first | ((with_reducible refine gate_dst (N := 8) rfl ?_); refine box_event ?hg (N := 8) ?hd (cs := #[.slice A0 l0.length c0, .int .i64 0, .int .u64 0]) (t := 111) ?hr ?_; (case hd => rfl); (case hg => rfl); (case hr => first | (go_simp; done) | (go_simp; rfl)); intro gb383 hg w4 hbox hb; have BK383 := Az_ (hbox); have GW383 := Az_ ((by rw [hg]; exact (below_size (ubz_ HB.out)) : w.heap.size ≤ gb383)); have GE383 := Az_ ((by rw [hg]; exact (below_size (ubz_ HB.out)) : w.heap.size ≤ gb383)); replace HB := Az_ (btz_ (ubz_ HB.out) hb); clear hb hbox hg) | ((with_reducible refine gate_dst (N := 10) rfl ?_); refine Kd.R_lit (Kd.int .i64) _ 3 ?hg (N := 10) ?hd (xs := ([1, 2, 3, 4, 4, 6, 0] : List Int)) (inner := [.int .i64 1, .int .i64 2, .int .i64 3, .int .i64 4, .int .i64 4, .int .i64 6, .int .i64 0]) (ok := fun _ => True) (okp := fun _ => True) ?hr ?hp (fun _ hk => hk) trivial (Below.refl _ _) (Nat.le_refl _) (by simp) ?_; (case hd => rfl); (case hg => rfl); (case hr => first | (go_simp; done) | (go_simp; rfl)); (case hp => exact (Reps.one (show Kd.M (Kd.int .i64) _ _ _ 1 [.int .i64 1] from rfl) (Reps.one (show Kd.M (Kd.int .i64) _ _ _ 2 [.int .i64 2] from rfl) (Reps.one (show Kd.M (Kd.int .i64) _ _ _ 3 [.int .i64 3] from rfl) (Reps.one (show Kd.M (Kd.int .i64) _ _ _ 4 [.int .i64 4] from rfl) (Reps.one (show Kd.M (Kd.int .i64) _ _ _ 4 [.int .i64 4] from rfl) (Reps.one (show Kd.M (Kd.int .i64) _ _ _ 6 [.int .i64 6] from rfl) (Reps.one (show Kd.M (Kd.int .i64) _ _ _ 0 [.int .i64 0] from rfl) (Reps.none _ _))))))))); intro v385 w5 ho6 hb hg_ hnew_; clear hg_ hnew_; (first | rw [← Ny384.out] at ho6 | (simp only [Int.reduceToNat] at ho6; rw [← Ny384.out] at ho6)); have n0_ := Az_ (Kd.R_lower ho6 (below_size (by repeat (first | (with_reducible first | exact HB.out | apply baz_ | apply bnz_ | apply bdz_ | refine ubsz_ ?_ (by assumption)) | exact HB.out)))); have n2_ := Az_ (btz_ (by repeat (first | (with_reducible first | exact HB.out | apply baz_ | apply bnz_ | apply bdz_ | refine ubsz_ ?_ (by assumption)) | exact HB.out)) hb); clear HB; have HO386 := n0_; replace BK383 := Az_ (ukbz_ BK383.out hb); have HB := n2_; clear n0_ n2_; clear hb ho6; obtain ⟨Ao7, co7, eo7⟩ := Kd.R_slice HO386.out; subst eo7) | ((with_reducible refine gate_callee (f := 94) rfl ?_); refine goesL_ (some 11) rfl rfl Tryd.func94 (by kernel_rfl) rfl #[.pointer (some ⟨gb383, 0, none⟩), .slice Ao7 y384.length co7] rfl maz_ ?_; have HI383 := Az_ (show IsS111 w w5 gb383 l0 0 0 from ⟨_, _, BK383.out, GE383.out, HR0.out⟩); (with_reducible refine (spec_l1Cur_among.calls gb383 l0 0 0 _ _ y384 t387 t388 t389 w _ ?side1 ?side2 ?side3 ?side4 ?side5 A2.out).mono ?_); (case side1 => repeat (first | (with_reducible first | exact HI383.out | apply IsS111.alloc | apply IsS111.drewN | apply IsS111.drew | apply IsS111.set_1 | apply IsS111.set_2) | exact HI383.out)); (case side2 => repeat (first | (with_reducible first | exact HB.out | apply baz_ | apply bnz_ | apply bdz_ | refine bsz_ ?_ (IsS111.ge HI383.out)) | exact HB.out)); (case side3 => exact ucz_ ((Kd.R_reads' HO386.out).2.2)); (case side4 => exact (Kd.R_reads' HO386.out).2.1); (case side5 => exact far_slice (IsS111.own_ne HI383.out HO386.out (by decide))); rintro e w8 ⟨rfl, hi, hb, hk⟩; refine ⟨_, rfl, ?_⟩; replace HO386 := Az_ (Kd.R_mono (Kd.R_keep (IsS111.apart (show IsS111 w _ gb383 l0 0 0 from by repeat (first | (with_reducible first | exact HI383.out | apply IsS111.alloc | apply IsS111.drewN | apply IsS111.drew | apply IsS111.set_1 | apply IsS111.set_2) | exact HI383.out)) (by exact urz_ HO386.out) (by decide)) hk (fun _ h => h.2)) (fun _ h => h.1)); replace HB := Az_ (hb); replace HI383 := Az_ (hi); (try clear hb); (try clear hk); (try clear hi)) | ((with_reducible refine gate_dst (N := 14) rfl ?_); refine Kd.R_lit (Kd.int .i64) _ 3 ?hg (N := 14) ?hd (xs := ([0, 1, 2, 3, 4, 5, 6, (-1), 4611686018427387904] : List Int)) (inner := [.int .i64 0, .int .i64 1, .int .i64 2, .int .i64 3, .int .i64 4, .int .i64 5, .int .i64 6, .int .i64 (-1), .int .i64 4611686018427387904]) (ok := fun _ => True) (okp := fun _ => True) ?hr ?hp (fun _ hk => hk) trivial (Below.refl _ _) (Nat.le_refl _) (by simp) ?_; (case hd => rfl); (case hg => rfl); (case hr => first | (go_simp; done) | (go_simp; rfl)); (case hp => exact (Reps.one (show Kd.M (Kd.int .i64) _ _ _ 0 [.int .i64 0] from rfl) (Reps.one (show Kd.M (Kd.int .i64) _ _ _ 1 [.int .i64 1] from rfl) (Reps.one (show Kd.M (Kd.int .i64) _ _ _ 2 [.int .i64 2] from rfl) (Reps.one (show Kd.M (Kd.int .i64) _ _ _ 3 [.int .i64 3] from rfl) (Reps.one (show Kd.M (Kd.int .i64) _ _ _ 4 [.int .i64 4] from rfl) (Reps.one (show Kd.M (Kd.int .i64) _ _ _ 5 [.int .i64 5] from rfl) (Reps.one (show Kd.M (Kd.int .i64) _ _ _ 6 [.int .i64 6] from rfl) (Reps.one (show Kd.M (Kd.int .i64) _ _ _ (-1) [.int .i64 (-1)] from rfl) (Reps.one (show Kd.M (Kd.int .i64) _ _ _ 4611686018427387904 [.int .i64 4611686018427387904] from rfl) (Reps.none _ _))))))))))); intro v391 w9 ho10 hb hg_ hnew_; clear hg_ hnew_; (first | rw [← Ny390.out] at ho10 | (simp only [Int.reduceToNat] at ho10; rw [← Ny390.out] at ho10)); have HO392 := Az_ (Kd.R_lower (Kd.R_new' ho10 (Kd.R_lt (by exact urz_ HO386.out))) (below_size (by repeat (first | (with_reducible first | exact HB.out | apply baz_ | apply bnz_ | apply bdz_ | refine bsz_ ?_ (IsS111.ge HI383.out)) | exact HB.out)))); replace HO386 := Az_ (rez_ (by exact urz_ HO386.out) (Kd.R_base ho10) hb); replace HB := Az_ (btz_ (by repeat (first | (with_reducible first | exact HB.out | apply baz_ | apply bnz_ | apply bdz_ | refine bsz_ ?_ (IsS111.ge HI383.out)) | exact HB.out)) hb); replace HI383 := Az_ (IsS111.below (by repeat (first | (with_reducible first | exact HI383.out | apply IsS111.alloc | apply IsS111.drewN | apply IsS111.drew | apply IsS111.set_1 | apply IsS111.set_2) | exact HI383.out)) hb); clear hb ho10; obtain ⟨Ao11, co11, eo11⟩ := Kd.R_slice HO392.out; subst eo11) | ((with_reducible refine gate_callee (f := 94) rfl ?_); refine goesL_ (some 15) rfl rfl Tryd.func94 (by kernel_rfl) rfl #[.pointer (some ⟨gb383, 0, none⟩), .slice Ao11 y390.length co11] rfl maz_ ?_; (with_reducible refine (spec_l1Cur_among.calls gb383 l0 t388 t389 _ _ y390 t393 t394 t395 w _ ?side1 ?side2 ?side3 ?side4 ?side5 A3.out).mono ?_); (case side1 => repeat (first | (with_reducible first | exact HI383.out | apply IsS111.alloc | apply IsS111.drewN | apply IsS111.drew | apply IsS111.set_1 | apply IsS111.set_2) | exact HI383.out)); (case side2 => repeat (first | (with_reducible first | exact HB.out | apply baz_ | apply bnz_ | apply bdz_ | refine bsz_ ?_ (IsS111.ge HI383.out)) | exact HB.out)); (case side3 => exact ucz_ ((Kd.R_reads' HO392.out).2.2)); (case side4 => exact (Kd.R_reads' HO392.out).2.1); (case side5 => exact far_slice (IsS111.own_ne HI383.out HO392.out (by decide))); rintro e w12 ⟨rfl, hi, hb, hk⟩; refine ⟨_, rfl, ?_⟩; replace HO386 := Az_ (Kd.R_mono (Kd.R_keep (IsS111.apart (show IsS111 w _ gb383 l0 t388 t389 from by repeat (first | (with_reducible first | exact HI383.out | apply IsS111.alloc | apply IsS111.drewN | apply IsS111.drew | apply IsS111.set_1 | apply IsS111.set_2) | exact HI383.out)) (by exact urz_ HO386.out) (by decide)) hk (fun _ h => h.2)) (fun _ h => h.1)); replace HO392 := Az_ (Kd.R_mono (Kd.R_keep (IsS111.apart (show IsS111 w _ gb383 l0 t388 t389 from by repeat (first | (with_reducible first | exact HI383.out | apply IsS111.alloc | apply IsS111.drewN | apply IsS111.drew | apply IsS111.set_1 | apply IsS111.set_2) | exact HI383.out)) (by exact urz_ HO392.out) (by decide)) hk (fun _ h => h.2)) (fun _ h => h.1)); replace HB := Az_ (hb); replace HI383 := Az_ (hi); (try clear hb); (try clear hk); (try clear hi)))
 go_ret2
 exact ⟨by first | rfl | (simp [errW_none, errW_some] <;> rfl) | (simp [*, errW_none, errW_some] <;> rfl), by repeat (first | (with_reducible first | exact HB.out | apply baz_ | apply bnz_ | apply bdz_ | refine bsz_ ?_ (IsS111.ge HI383.out)) | exact HB.out)⟩

/-! ### impl_right: function 187 -/
def impl_right.l0 : Nat → List Int → Int → Int → Option (List Int)
 | 0, _, _, _ => none
 | k + 1, x3, x6, x7 => if x7 < x6 then (if x3.length < 17592186044416 then (impl_right.l0 k (x3 ++ [wrap64 (x7 + 1)]) x6 (wrap64 (x7 + 1))) else (none)) else (some x3)
def impl_right.f (k : Nat) (a0 : Int) : Option (List Int) := impl_right.l0 k (([] : List Int)) a0 0
set_option maxHeartbeats 8000000 in
set_option maxRecDepth 100000 in
theorem impl_right.calls (k : Nat) (a0 : Int) (r : List Int) (w : World) (h : impl_right.f k a0 = some r) :
  Calls Tryd.prog 187 #[.int .i64 a0] w fun e w' => ∃ v0_ : Value, e = .returned (v0_) ∧ Kd.R (Kd.int .i64) 3 w' w.heap.size (fun _ => True) v0_ r ∧ Below w.heap.size w w' := by
 have HB := Az_ (Below.refl w.heap.size w)
 have H : (impl_right.l0 k (([] : List Int)) a0 0) = some r := h
 clear h
 obtain ⟨y396, hy396⟩ : ∃ y_ : List Int, y_ = (([] : List Int)) := ⟨_, rfl⟩
 replace H : (impl_right.l0 k y396 a0 0) = some r := by first | (rw [hy396]; with_reducible exact H) | (have H2_ := (Option.bind_some _ _).symm.trans H; rw [hy396]; with_reducible exact H2_) | (have H2_ := (Option.bind_some _ _).symm.trans H; with_reducible exact H2_) | with_reducible exact H | (rw [hy396]; exact H) | exact H
 have Ny396 := Az_ hy396
 clear hy396
 have H' := Az_ H
 clear H
 go_enter Tryd.func187, Tryd.ntmps187
 go_wp2_with (first | ((with_reducible refine gate_dst (N := 5) rfl ?_); refine Kd.R_lit (Kd.int .i64) _ 3 ?hg (N := 5) ?hd (xs := ([] : List Int)) (inner := []) (ok := fun _ => True) (okp := fun _ => True) ?hr ?hp (fun _ hk => hk) trivial (Below.refl _ _) (Nat.le_refl _) (by simp) ?_; (case hd => rfl); (case hg => rfl); (case hr => first | (go_simp; done) | (go_simp; rfl)); (case hp => exact (Reps.none _ _)); intro v397 w2 ho3 hb hg_ hnew_; clear hg_ hnew_; (first | rw [← Ny396.out] at ho3 | (simp only [Int.reduceToNat] at ho3; rw [← Ny396.out] at ho3)); have HO398 := Az_ (Kd.R_lower ho3 (below_size (ubz_ HB.out))); replace HB := Az_ (btz_ (ubz_ HB.out) hb); clear hb ho3))
 go_loopg [3, 7] k (fun kq v3 v7 w' => ∃ (x3_1 : List Int) (x7_1 : Int), v7 = .int .i64 x7_1 ∧ Aside0 (impl_right.l0 kq x3_1 a0 x7_1 = some r) ∧ Aside0 (kq ≤ k) ∧ Aside0 (Kd.R (Kd.int .i64) 3 w' w.heap.size (fun _ => True) v3 x3_1) ∧ Aside0 (Below w.heap.size w w'))
 case atStart => exact ⟨(y396), (0), qaz_, H', ⟨Nat.le_refl _⟩, ⟨by (with_reducible repeat (first | apply raz_ | apply rnz_ | apply rdz_)); exact HO398.out⟩, ⟨by exact ubz_ HB.out⟩⟩
 case round =>
  clear H'
  obtain ⟨x3_1, x7_1, rfl, HA, HK1, HO_3, HB⟩ := hrel
  cases gk with
  | zero => exact absurd HA.out (by simp [impl_right.l0])
  | succ k1 =>
   have H := HA.out
   clear HA
   simp only [impl_right.l0] at H
   by_cases c4 : x7_1 < a0
   ·rw [if_pos c4] at H
    have c4b0 := decide_eq_true c4
    clear c4
    by_cases c5 : x3_1.length < 17592186044416
    ·rw [if_pos c5] at H
     have LMc5 := Az_ c5
     clear c5
     obtain ⟨y399, hy399⟩ : ∃ y_ : List Int, y_ = (x3_1 ++ [wrap64 (x7_1 + 1)]) := ⟨_, rfl⟩
     replace H : (impl_right.l0 k1 y399 a0 (wrap64 (x7_1 + 1))) = some r := by first | (rw [hy399]; with_reducible exact H) | (have H2_ := (Option.bind_some _ _).symm.trans H; rw [hy399]; with_reducible exact H2_) | (have H2_ := (Option.bind_some _ _).symm.trans H; with_reducible exact H2_) | with_reducible exact H | (rw [hy399]; exact H) | exact H
     have Ny399 := Az_ hy399
     clear hy399
     have H' := Az_ H
     clear H
     go_wp2_with (first | ((with_reducible refine gate_builtin (b := .append) (xs := #[.tmp 10, .tmp 13]) rfl ?_); at_builtin; refine Kd.R_append (Kd.int .i64) (w0 := w) w.heap.size rfl (.tmp 10) (.tmp 13) 49 3 (.int .i64 0) 8 rfl Tryd.underlying49 info3 rfl (by decide) (by omega) u3 x3_1 (wrap64 (x7_1 + 1)) [.int .i64 (wrap64 (x7_1 + 1))] (fun _ => True) (fun _ => False) rfl rfl ?aP (fun _ hk => hk.elim) ?aF ?aO ?aB ?aS ?aL ?_; (case aP => exact rfl); (case aB => exact (ubz_ HB.out)); (case aF => exact (fun _ _ => trivial)); (case aO => exact (by exact urz_ HO_3.out)); (case aS => exact (below_size (ubz_ HB.out))); (case aL => have := LMc5.out; omega); intro v400 w6 ho hb hg hat; rw [← Ny399.out] at ho; replace HB := Az_ (hb); have HO401 := Az_ (ho); clear HO_3; clear ho hb hg hat))
     go_roundg k1
     case measure => have := HK1.out; omega
     case rel => exact ⟨(y399), (wrap64 (x7_1 + 1)), qaz_, H', ⟨by have := HK1.out; omega⟩, ⟨by (with_reducible repeat (first | apply raz_ | apply rnz_ | apply rdz_)); exact HO401.out⟩, ⟨by exact ubz_ HB.out⟩⟩
    ·rw [if_neg c5] at H
     exact absurd H (by simp)
   ·rw [if_neg c4] at H
    have c4b0 := decide_eq_false c4
    clear c4
    obtain rfl := Option.some.inj H
    go_wp2
    go_ret
    exact ⟨_, by first | rfl | (simp [errW_none, errW_some] <;> rfl) | (simp [*, errW_none, errW_some] <;> rfl), by (with_reducible repeat (first | apply raz_ | apply rnz_ | apply rdz_)); exact HO_3.out, by exact ubz_ HB.out⟩

end Go.Proofs.YtppbpefehpbejaaDoor.P
end

section
namespace Go.Proofs.YtppbpefehpbejaaDoor.P
open Go.RowKit Go.Proofs.YtppbpefehpbejaaDoorW.PrintWords Go.Proofs.YtppbpefehpbejaaDoorW.PrintLast Go.Proofs.YtppbpefehpbejaaDoorW.PrintMore
set_option linter.unusedVariables false
set_option linter.unusedSimpArgs false

def clone_Int.f (l0 : List Int) : Option (List Int) := if l0.length < 17592186044416 then some l0 else none
theorem info_cloneInt : (Tryd.prog.info? 3).map (fun i => (i.zero, i.size, i.bytes)) = some (some (.int .i64 0), 1, 8) := by kernel_rfl
set_option maxHeartbeats 8000000 in
set_option maxRecDepth 100000 in
theorem clone_Int.calls (A0 : Option Addr) (c0 : Nat) (l0 : List Int) (r : List Int) (w : World) (hr0 : Kd.C (Kd.int .i64) w A0 l0.length l0) (hc0 : l0.length ≤ c0) (h : clone_Int.f l0 = some r) :
    Calls Tryd.prog 133 #[.slice A0 l0.length c0] w fun e w' => ∃ v0_ : Value, e = .returned (v0_) ∧ Kd.R (Kd.int .i64) 3 w' w.heap.size (fun _ => True) v0_ r ∧ Below w.heap.size w w' := by
  unfold clone_Int.f at h
  by_cases c2 : l0.length < 17592186044416
  · rw [if_pos c2] at h
    obtain rfl := Option.some.inj h
    have hnil := fun W => Lib.run_eql_slice_nil (P := Tryd.prog) W 49 3 A0 l0.length c0 0 0 Tryd.underlying49
    have HR0 := Aside0.mk hr0
    have LMc2 := Aside0.mk c2
    have HB := Aside0.mk (Below.refl w.heap.size w)
    clear hr0 c2 h hc0
    cases A0 with
    | none =>
      have e : l0 = [] := by
        cases l0 with
        | nil => rfl
        | cons x l =>
          obtain ⟨ad, he, _⟩ := HR0.out.2.2 (by simp)
          cases he
      subst e
      simp only [Option.isNone_none, List.length_nil] at hnil
      simp only [List.length_nil]
      go_enter Tryd.func133, Tryd.ntmps133
      go_wp2
      go_ret
      exact ⟨_, rfl, Kd.R_nil _ _ _ _ _, HB.out⟩
    | some ad =>
      simp only [Option.isNone_some] at hnil
      go_enter Tryd.func133, Tryd.ntmps133
      go_wp2_with (first | ((with_reducible refine gate_dst (N := 5) rfl ?_); refine Kd.R_lit (Kd.int .i64) _ 3 ?hg (N := 5) ?hd (xs := ([] : List Int)) (inner := []) (ok := fun _ => True) (okp := fun _ => True) ?hr ?hp (fun _ hk => hk) trivial (Below.refl _ _) (Nat.le_refl _) (by simp) ?_; (case hd => rfl); (case hg => rfl); (case hr => first | (go_simp; done) | (go_simp; rfl)); (case hp => exact (Reps.none _ _)); intro v195 w3 ho4 hb hg_ hnew_; clear hg_ hnew_; have n0_ := Aside0.mk (Kd.R_lower ho4 (below_size (by repeat (first | (with_reducible first | exact HB.out | apply below_alloc | apply pw_below_drewN | apply below_drew1) | exact HB.out)))); have n1_ := Aside0.mk (below_step (by repeat (first | (with_reducible first | exact HB.out | apply below_alloc | apply pw_below_drewN | apply below_drew1) | exact HB.out)) hb); clear HB; have HO196 := n0_; have HB := n1_; clear n0_ n1_; clear hb ho4) | ((with_reducible refine gate_builtin (b := .append) (xs := #[.tmp 5, .tmp 6]) rfl ?_); at_builtin; refine Kd.R_append_rows (Kd.int .i64) (w0 := w) w.heap.size rfl (.tmp 5) (.tmp 6) 49 3 (.int .i64 0) 8 rfl Tryd.underlying49 info_cloneInt rfl (by decide) (by omega) v195 [] l0 _ _ _ (fun _ => True) (fun _ => False) rfl rfl ?aO ?aR (fun _ _ h => h) (fun _ h => h.elim) ?aF ?aB ?aS ?aL ?_; (case aR => repeat (first | exact (Kd.C_below HR0.out HB.out) | (with_reducible refine Kd.C_alloc ?_ _) | (with_reducible refine Kd.C_drewN ?_ _) | (with_reducible refine Kd.C_drew ?_))); (case aB => exact (by repeat (first | (with_reducible first | exact HB.out | apply below_alloc | apply pw_below_drewN | apply below_drew1) | exact HB.out))); (case aF => exact (fun _ _ => trivial)); (case aO => exact (by (with_reducible repeat (first | apply Kd.R_alloc | apply Kd.R_drewN | apply Kd.R_drew)); exact HO196.out)); (case aS => exact (below_size (by repeat (first | (with_reducible first | exact HB.out | apply below_alloc | apply pw_below_drewN | apply below_drew1) | exact HB.out)))); (case aL => have := LMc2.out; simp; omega); intro v198 w5 ho hb hg hat; rw [List.nil_append] at ho; have n0_ := Aside0.mk (hb); have n1_ := Aside0.mk (ho); clear HB; clear HO196; have HB := n0_; have HO199 := n1_; clear n0_ n1_; clear ho hb hg hat))
      go_ret
      exact ⟨_, rfl, by (with_reducible repeat (first | apply Kd.R_alloc | apply Kd.R_drewN | apply Kd.R_drew)); exact HO199.out, by repeat (first | (with_reducible first | exact HB.out | apply below_alloc | apply pw_below_drewN | apply below_drew1) | exact HB.out)⟩
  · rw [if_neg c2] at h
    cases h
end Go.Proofs.YtppbpefehpbejaaDoor.P
end

section
namespace Go.Proofs.YtppbpefehpbejaaDoor.P
open Go.RowKit Go.Proofs.YtppbpefehpbejaaDoorW.PrintWords Go.Proofs.YtppbpefehpbejaaDoorW.PrintLast Go.Proofs.YtppbpefehpbejaaDoorW.PrintMore
attribute [local go_sem] max2_int min2_int max_two min_two max_three min_three max_four min_four   -- for this text's walks alone
set_option linter.unusedVariables false
set_option linter.unusedSimpArgs false

/-! ### impl_turned: function 188 -/
def impl_turned.l0 : Nat → List Int → Int → Int → List Int → Int → Option (List Int)
 | 0, _, _, _, _, _ => none
 | k + 1, x0, x1, x2, x7, x8 => if x8 ≤ x2 then (if 0 ≤ (wrap64 ((wrap64 (x1 + x2)) - x8)) then (if (wrap64 ((wrap64 (x1 + x2)) - x8)) < (x0.length : Int) then (if 0 ≤ x8 then (if x8 < (x7.length : Int) then (impl_turned.l0 k x0 x1 x2 (x7.set (x8 : Int).toNat (wrap64 (-(rd x0 (wrap64 ((wrap64 (x1 + x2)) - x8)))))) (wrap64 (x8 + 1))) else (none)) else (none)) else (none)) else (none)) else (some x7)
def impl_turned.f (k : Nat) (l0 : List Int) (a1 : Int) (a2 : Int) : Option (List Int) := (clone_Int.f l0).bind fun t402 => (impl_turned.l0 k l0 a1 a2 t402 a1)
set_option maxHeartbeats 8000000 in
set_option maxRecDepth 100000 in
theorem impl_turned.calls (k : Nat) (A0 : Option Addr) (c0 : Nat) (l0 : List Int) (a1 : Int) (a2 : Int) (r : List Int) (w : World) (hr0 : Kd.C (Kd.int .i64) w A0 l0.length l0) (hc0 : l0.length ≤ c0) (h : impl_turned.f k l0 a1 a2 = some r) :
  Calls Tryd.prog 188 #[.slice A0 l0.length c0, .int .i64 a1, .int .i64 a2] w fun e w' => ∃ v0_ : Value, e = .returned (v0_) ∧ Kd.R (Kd.int .i64) 3 w' w.heap.size (fun _ => True) v0_ r ∧ Below w.heap.size w w' := by
 have HR0 := Az_ hr0
 have HC0 := Az_ hc0
 clear hr0 hc0
 have HB := Az_ (Below.refl w.heap.size w)
 have H : ((clone_Int.f l0).bind fun t402 => (impl_turned.l0 k l0 a1 a2 t402 a1)) = some r := h
 clear h
 replace H := bqz_ H; obtain ⟨t402, A4, H⟩ := H
 replace H : (impl_turned.l0 k l0 a1 a2 t402 a1) = some r := H
 have H' := Az_ H
 clear H
 go_enter Tryd.func188, Tryd.ntmps188
 go_wp2_with (first | ((with_reducible refine gate_callee (f := 133) rfl ?_); refine goesL_ (some 10) rfl rfl Tryd.func133 (by kernel_rfl) rfl #[.slice A0 l0.length c0] rfl maz_ ?_; (with_reducible refine (clone_Int.calls _ _ l0 t402 _ ?side1 ?side2 A4.out).mono ?_); (case side1 => exact ucz_ (HR0.out)); (case side2 => exact HC0.out); rintro e w5 ⟨v403, rfl, ho0, hb⟩; refine ⟨_, rfl, ?_⟩; have HO404 := Az_ (Kd.R_lower ho0 (below_size (ubz_ HB.out))); replace HB := Az_ (btz_ (ubz_ HB.out) hb); (try clear hb); (try clear ho0)))
 go_loopg [8] k (fun kq v8 w' => ∃ (x7_1 : List Int) (x8_1 : Int), v8 = .int .i64 x8_1 ∧ Aside0 (impl_turned.l0 kq l0 a1 a2 x7_1 x8_1 = some r) ∧ Aside0 (kq ≤ k) ∧ Aside0 (Kd.R (Kd.int .i64) 3 w' w.heap.size (fun _ => True) v403 x7_1) ∧ Aside0 (Below w.heap.size w w'))
 case atStart => exact ⟨(t402), (a1), qaz_, H', ⟨Nat.le_refl _⟩, ⟨by (with_reducible repeat (first | apply raz_ | apply rnz_ | apply rdz_)); exact HO404.out⟩, ⟨by exact ubz_ HB.out⟩⟩
 case round =>
  clear H'
  obtain ⟨x7_1, x8_1, rfl, HA, HK1, HO_7, HB⟩ := hrel
  cases gk with
  | zero => exact absurd HA.out (by simp [impl_turned.l0])
  | succ k1 =>
   have H := HA.out
   clear HA
   simp only [impl_turned.l0] at H
   by_cases c6 : x8_1 ≤ a2
   ·rw [if_pos c6] at H
    have c6b0 := decide_eq_true c6
    clear c6
    obtain ⟨ji7, hji7⟩ : ∃ j_ : Int, (wrap64 ((wrap64 (a1 + a2)) - x8_1)) = j_ := ⟨_, rfl⟩
    replace H : (if 0 ≤ (ji7) then (if (ji7) < (l0.length : Int) then (if 0 ≤ x8_1 then (if x8_1 < (x7_1.length : Int) then (impl_turned.l0 k1 l0 a1 a2 (x7_1.set (x8_1 : Int).toNat (wrap64 (-(rd l0 (ji7))))) (wrap64 (x8_1 + 1))) else (none)) else (none)) else (none)) else (none)) = some r := by first | (rw [hji7] at H; exact H) | (simp only [hji7] at H ⊢; exact H)
    have hji7w : (IntKind.i64.wrap ((wrap64 (a1 + a2)) - x8_1)) = ji7 := (i64_w _).trans hji7
    by_cases c8 : 0 ≤ (ji7)
    ·rw [if_pos c8] at H
     have c8b0 := decide_eq_true c8
     clear c8
     by_cases c9 : (ji7) < (l0.length : Int)
     ·rw [if_pos c9] at H
      have c9b0 := decide_eq_true c9
      clear c9
      by_cases c10 : 0 ≤ x8_1
      ·rw [if_pos c10] at H
       have c10b0 := decide_eq_true c10
       clear c10
       by_cases c11 : x8_1 < (x7_1.length : Int)
       ·rw [if_pos c11] at H
        have c11b0 := decide_eq_true c11
        clear c11
        obtain ⟨y406, hy406⟩ : ∃ y_ : List Int, y_ = (x7_1.set (x8_1 : Int).toNat (wrap64 (-(rd l0 (ji7))))) := ⟨_, rfl⟩
        replace H : (impl_turned.l0 k1 l0 a1 a2 y406 (wrap64 (x8_1 + 1))) = some r := by first | (rw [hy406]; with_reducible exact H) | (have H2_ := (Option.bind_some _ _).symm.trans H; rw [hy406]; with_reducible exact H2_) | (have H2_ := (Option.bind_some _ _).symm.trans H; with_reducible exact H2_) | with_reducible exact H | (rw [hy406]; exact H) | exact H
        have Ny406 := Az_ hy406
        clear hy406
        have H' := Az_ H
        clear H
        have p405 : 0 ≤ ((ji7) : Int) := of_decide_eq_true asz_
        have q405 : (ji7) < (l0.length : Int) := of_decide_eq_true asz_
        obtain ⟨ad405, e405, hx405_0⟩ := Kd.at_int HR0.out (ji7) p405 q405
        cases e405
        replace hx405_0 := (HB.out.cell (World.block_lt_of_cell? w _ hx405_0)).trans hx405_0
        replace p405 := eq_true p405
        replace q405 := eq_true q405
        have p12 : 0 ≤ (x8_1 : Int) := of_decide_eq_true asz_
        have q12 : (x8_1 : Int) < ((x7_1.length : Int) : Int) := of_decide_eq_true asz_
        obtain ⟨go12, co12, eo12, gb12, gl12, cl12, HG12⟩ := Kd.R_form HO_7.out (by omega)
        (first | cases eo12 | (injection eo12 with ea_ en_ ec_; (first | subst ea_ | (injection ea_ with ea_; subst ea_)); subst ec_; clear en_))
        have GB12 := Az_ gb12
        have GG12 := Az_ HG12
        clear gb12 gl12 HG12
        obtain ⟨hx12_0, hf12_0⟩ := Kd.R_celln 0 HO_7.out (x8_1 : Int) p12 q12
        replace p12 := eq_true p12
        replace q12 := eq_true q12
        have HP13 := Kd.R_putg HO_7.out (x8_1 : Int) (wrap64 (-(rd l0 (ji7))))
        go_wp2_with (first | ((with_reducible refine gate_store (t := 3) (p := 28) rfl ?_); refine store_event (t := 3) (p := 28) (v := ?vo_w14) (w1 := (wr.setCell ⟨go12, (x8_1 : Int).toNat, none⟩ (.int .i64 (wrap64 (-(rd l0 (ji7))))))) ?hg ?ho ?hn ?hr ?_; (case ho => rfl); (case hg => rfl); (case hn => rfl); (case hr => first | (go_simp; done) | (go_simp; rfl)); intro w14 hw; have hg : wr.grownBy w14 (some go12) := (by rw [hw]; exact HP13.2); have hp_ : Kd.R (Kd.int .i64) 3 w14 w.heap.size (fun _ => True) (.slice (some ⟨go12, 0, none⟩) x7_1.length co12) y406 := (by rw [hw, Ny406.out]; exact HP13.1); clear HP13; replace HO_7 := Az_ (hp_); replace HB := Az_ ((by rw [hw]; exact bsz_ (HB.out) GB12.out : Below w.heap.size w w14)); clear hg hw hp_))
        go_roundg k1
        case measure => have := HK1.out; omega
        case rel => exact ⟨(y406), (wrap64 (x8_1 + 1)), qaz_, H', ⟨by have := HK1.out; omega⟩, ⟨by (with_reducible repeat (first | apply raz_ | apply rnz_ | apply rdz_)); exact HO_7.out⟩, ⟨by exact ubz_ HB.out⟩⟩
       ·rw [if_neg c11] at H
        exact absurd H (by simp)
      ·rw [if_neg c10] at H
       exact absurd H (by simp)
     ·rw [if_neg c9] at H
      exact absurd H (by simp)
    ·rw [if_neg c8] at H
     exact absurd H (by simp)
   ·rw [if_neg c6] at H
    have c6b0 := decide_eq_false c6
    clear c6
    obtain rfl := Option.some.inj H
    go_wp2
    go_ret
    exact ⟨_, by first | rfl | (simp [errW_none, errW_some] <;> rfl) | (simp [*, errW_none, errW_some] <;> rfl), by (with_reducible repeat (first | apply raz_ | apply rnz_ | apply rdz_)); exact HO_7.out, by exact ubz_ HB.out⟩

/-! ### spec_biRank: function 189 -/
mutual
def spec_biRank.l0 : Nat → List Int → Int → List Int → Int → Int → Option (Int)
 | 0, _, _, _, _, _ => none
 | k + 1, x0, x3, x8, x9, x10 => if x10 < x9 then (if 0 ≤ x10 then (if x10 < (x8.length : Int) then (spec_biRank.l1 k x0 x3 x10 (rd x8 x10) 0 (wrap64 (-(x0.length : Int))) x8 x9 x10) else (none)) else (none)) else (some x3)
def spec_biRank.l1 : Nat → List Int → Int → Int → Int → Int → Int → List Int → Int → Int → Option (Int)
 | 0, _, _, _, _, _, _, _, _, _ => none
 | k + 1, x0, x3, x4, x5, x6, x7, x8, x9, x10 => if x7 < x5 then (if x7 = 0 then (spec_biRank.l1 k x0 x3 x4 x5 x6 (wrap64 (x7 + 1)) x8 x9 x10) else (if 0 ≤ x4 then (if x4 ≤ (x0.length : Int) then ((spec_l1Has.f k (x0.take (x4 : Int).toNat) x7).bind fun t409 => (if t409 = true then (spec_biRank.l1 k x0 x3 x4 x5 x6 (wrap64 (x7 + 1)) x8 x9 x10) else ((spec_l1Has.f k (x0.take (x4 : Int).toNat) (wrap64 (-x7))).bind fun t411 => (if t411 = true then (spec_biRank.l1 k x0 x3 x4 x5 x6 (wrap64 (x7 + 1)) x8 x9 x10) else (spec_biRank.l1 k x0 x3 x4 x5 (wrap64 (x6 + 1)) (wrap64 (x7 + 1)) x8 x9 x10))))) else (none)) else (none))) else (spec_biRank.l0 k x0 (wrap64 ((wrap64 ((wrap64 (x3 * 2)) * (wrap64 ((x0.length : Int) - x4)))) + x6)) x8 x9 (wrap64 (x10 + 1)))
end
def spec_biRank.f (k : Nat) (l0 : List Int) : Option (Int) := spec_biRank.l0 k l0 0 l0 (l0.length : Int) 0
set_option maxHeartbeats 8000000 in
set_option maxRecDepth 100000 in
theorem spec_biRank.calls (k : Nat) (A0 : Option Addr) (c0 : Nat) (l0 : List Int) (r : Int) (w : World) (hr0 : Kd.C (Kd.int .i64) w A0 l0.length l0) (hc0 : l0.length ≤ c0) (h : spec_biRank.f k l0 = some r) :
  Calls Tryd.prog 189 #[.slice A0 l0.length c0] w fun e w' => e = .returned (.int .i64 r) ∧ Drawn0 w w' := by
 have HR0 := Az_ hr0
 have HC0 := Az_ hc0
 clear hr0 hc0
 have H : (spec_biRank.l0 k l0 0 l0 (l0.length : Int) 0) = some r := h
 clear h
 have H' := Az_ H
 clear H
 go_enter Tryd.func189, Tryd.ntmps189
 go_wp2
 go_loopg [3, 10] k (fun kq v3 v10 w' => ∃ (x3_1 : Int) (x10_1 : Int), v3 = .int .i64 x3_1 ∧ v10 = .int .i64 x10_1 ∧ Aside0 (spec_biRank.l0 kq l0 x3_1 l0 (l0.length : Int) x10_1 = some r) ∧ Aside0 (kq ≤ k) ∧ Drawn0 w w')
 case atStart => exact ⟨(0), (0), qaz_, qaz_, H', ⟨Nat.le_refl _⟩, by repeat (first | exact Drawn0.refl _ | apply Drawn0.step)⟩
 case round =>
  clear H'
  obtain ⟨x3_1, x10_1, rfl, rfl, HA, HK1, ⟨m1, rfl⟩⟩ := hrel
  cases gk with
  | zero => exact absurd HA.out (by simp [spec_biRank.l0])
  | succ k1 =>
   have H := HA.out
   clear HA
   simp only [spec_biRank.l0] at H
   by_cases c2 : x10_1 < (l0.length : Int)
   ·rw [if_pos c2] at H
    have c2b0 := decide_eq_true c2
    clear c2
    by_cases c3 : 0 ≤ x10_1
    ·rw [if_pos c3] at H
     have c3b0 := decide_eq_true c3
     clear c3
     by_cases c4 : x10_1 < (l0.length : Int)
     ·rw [if_pos c4] at H
      have c4b0 := decide_eq_true c4
      clear c4
      have H' := Az_ H
      clear H
      have p407 : 0 ≤ (x10_1 : Int) := of_decide_eq_true asz_
      have q407 : x10_1 < (l0.length : Int) := of_decide_eq_true asz_
      obtain ⟨ad407, e407, hx407_0⟩ := Kd.at_int HR0.out x10_1 p407 q407
      cases e407
      replace p407 := eq_true p407
      replace q407 := eq_true q407
      go_wp2
      go_loopg [6, 7] k1 (fun kq v6 v7 w' => ∃ (x6_2 : Int) (x7_2 : Int), v6 = .int .i64 x6_2 ∧ v7 = .int .i64 x7_2 ∧ Aside0 (spec_biRank.l1 kq l0 x3_1 x10_1 (rd l0 x10_1) x6_2 x7_2 l0 (l0.length : Int) x10_1 = some r) ∧ Aside0 (kq ≤ k1) ∧ Drawn0 w w')
      case atStart => exact ⟨(0), (wrap64 (-(l0.length : Int))), qaz_, qaz_, H', ⟨Nat.le_refl _⟩, by repeat (first | exact Drawn0.refl _ | apply Drawn0.step)⟩
      case round =>
       clear H'
       clear c2b0 c3b0 c4b0 hx407_0 p407 q407
       obtain ⟨x6_2, x7_2, rfl, rfl, HA, HK2, ⟨m2, rfl⟩⟩ := hrel
       cases gk with
       | zero => exact absurd HA.out (by simp [spec_biRank.l1])
       | succ k2 =>
        have H := HA.out
        clear HA
        simp only [spec_biRank.l1] at H
        by_cases c5 : x7_2 < (rd l0 x10_1)
        ·rw [if_pos c5] at H
         have c5b0 := decide_eq_true c5
         clear c5
         by_cases c6 : x7_2 = 0
         ·rw [if_pos c6] at H
          have c6b0 : (x7_2 == 0) = true := beq_iff_eq.mpr c6
          have c6b1 : (x7_2 != 0) = false := bne_eq_false_iff_eq.mpr c6
          clear c6
          have H' := Az_ H
          clear H
          go_wp2
          go_roundg k2
          case measure => have := HK1.out; have := HK2.out; omega
          case rel => exact ⟨(x6_2), (wrap64 (x7_2 + 1)), qaz_, qaz_, H', ⟨by have := HK1.out; have := HK2.out; omega⟩, by repeat (first | exact Drawn0.refl _ | apply Drawn0.step)⟩
         ·rw [if_neg c6] at H
          have c6b0 : (x7_2 == 0) = false := beq_eq_false_iff_ne.mpr c6
          have c6b1 : (x7_2 != 0) = true := bne_iff_ne.mpr c6
          by_cases c7 : 0 ≤ x10_1
          ·rw [if_pos c7] at H
           have c7b0 := eq_true c7
           have c7b1 := decide_eq_true c7
           clear c7
           by_cases c8 : x10_1 ≤ (l0.length : Int)
           ·rw [if_pos c8] at H
            have c8b0 := eq_true c8
            have c8b1 := decide_eq_true c8
            clear c8
            replace H := bqz_ H; obtain ⟨t409, A9, H⟩ := H
            replace H : (if t409 = true then (spec_biRank.l1 k2 l0 x3_1 x10_1 (rd l0 x10_1) x6_2 (wrap64 (x7_2 + 1)) l0 (l0.length : Int) x10_1) else ((spec_l1Has.f k2 (l0.take (x10_1 : Int).toNat) (wrap64 (-x7_2))).bind fun t411 => (if t411 = true then (spec_biRank.l1 k2 l0 x3_1 x10_1 (rd l0 x10_1) x6_2 (wrap64 (x7_2 + 1)) l0 (l0.length : Int) x10_1) else (spec_biRank.l1 k2 l0 x3_1 x10_1 (rd l0 x10_1) (wrap64 (x6_2 + 1)) (wrap64 (x7_2 + 1)) l0 (l0.length : Int) x10_1)))) = some r := H
            by_cases c10 : t409 = true
            ·subst c10
             rw [if_pos rfl] at H
             have H' := Az_ H
             clear H
             obtain ⟨i011, hi011, _, hsz11, _⟩ := info_parts info3
             obtain ⟨hcut11, hA11, hC11⟩ := print_take_of (P := Tryd.prog) (Value.int .i64) 0 49 3 .i64 Tryd.underlying49 hi011 hsz11 (some ad407) c0 l0 x10_1 (of_decide_eq_true asz_) (of_decide_eq_true asz_) HC0.out
             have HR408 := Az_ (Kd.C_of_reads (h1 := fun _ => rfl) (hA11 _ (Kd.reads_of_C HR0.out)))
             have HC408 := Az_ hC11
             clear hA11 hC11 hi011 hsz11
             go_wp2_with (first | (go_at_call 182; rw [show (x10_1 : Int).toNat = (l0.take (x10_1 : Int).toNat).length from (by rw [List.length_take]; first | (have b_ : x10_1 < (l0.length : Int) := of_decide_eq_true asz_; omega) | (have b_ : x10_1 ≤ (l0.length : Int) := of_decide_eq_true asz_; omega))]; (with_reducible refine (spec_l1Has.calls k2 _ _ (l0.take (x10_1 : Int).toNat) x7_2 true _ ?side1 ?side2 A9.out).mono ?_); (case side1 => exact ucz_ (HR408.out)); (case side2 => first | exact HC408.out | (rw [List.length_take]; have := HC408.out; omega)); rintro e w' ⟨rfl, ⟨nd, rfl⟩⟩))
             go_roundg k2
             case measure => have := HK1.out; have := HK2.out; omega
             case rel => exact ⟨(x6_2), (wrap64 (x7_2 + 1)), qaz_, qaz_, H', ⟨by have := HK1.out; have := HK2.out; omega⟩, by repeat (first | exact Drawn0.refl _ | apply Drawn0.step)⟩
            ·replace c10 := Bool.eq_false_iff.mpr c10
             subst c10
             rw [if_neg nfz_] at H
             have c12b0 := eq_true (of_decide_eq_true asz_ : 0 ≤ x10_1)
             have c13b0 := eq_true (of_decide_eq_true asz_ : x10_1 ≤ (l0.length : Int))
             replace H := bqz_ H; obtain ⟨t411, A14, H⟩ := H
             replace H : (if t411 = true then (spec_biRank.l1 k2 l0 x3_1 x10_1 (rd l0 x10_1) x6_2 (wrap64 (x7_2 + 1)) l0 (l0.length : Int) x10_1) else (spec_biRank.l1 k2 l0 x3_1 x10_1 (rd l0 x10_1) (wrap64 (x6_2 + 1)) (wrap64 (x7_2 + 1)) l0 (l0.length : Int) x10_1)) = some r := H
             by_cases c15 : t411 = true
             ·subst c15
              rw [if_pos rfl] at H
              have H' := Az_ H
              clear H
              obtain ⟨i016, hi016, _, hsz16, _⟩ := info_parts info3
              obtain ⟨hcut16, hA16, hC16⟩ := print_take_of (P := Tryd.prog) (Value.int .i64) 0 49 3 .i64 Tryd.underlying49 hi016 hsz16 (some ad407) c0 l0 x10_1 (of_decide_eq_true asz_) (of_decide_eq_true asz_) HC0.out
              have HR408 := Az_ (Kd.C_of_reads (h1 := fun _ => rfl) (hA16 _ (Kd.reads_of_C HR0.out)))
              have HC408 := Az_ hC16
              clear hA16 hC16 hi016 hsz16
              go_wp2_with (first | (go_at_call 182; rw [show (x10_1 : Int).toNat = (l0.take (x10_1 : Int).toNat).length from (by rw [List.length_take]; first | (have b_ : x10_1 < (l0.length : Int) := of_decide_eq_true asz_; omega) | (have b_ : x10_1 ≤ (l0.length : Int) := of_decide_eq_true asz_; omega))]; (with_reducible refine (spec_l1Has.calls k2 _ _ (l0.take (x10_1 : Int).toNat) x7_2 false _ ?side1 ?side2 A9.out).mono ?_); (case side1 => exact ucz_ (HR408.out)); (case side2 => first | exact HC408.out | (rw [List.length_take]; have := HC408.out; omega)); rintro e w' ⟨rfl, ⟨nd, rfl⟩⟩; obtain ⟨i017, hi017, _, hsz17, _⟩ := info_parts info3; obtain ⟨hcut17, hA17, hC17⟩ := print_take_of (P := Tryd.prog) (Value.int .i64) 0 49 3 .i64 Tryd.underlying49 hi017 hsz17 (some ad407) c0 l0 x10_1 (of_decide_eq_true asz_) (of_decide_eq_true asz_) HC0.out; have HR410 := Az_ (Kd.C_of_reads (h1 := fun _ => rfl) (hA17 _ (Kd.reads_of_C HR0.out))); have HC410 := Az_ hC17; clear hA17 hC17 hi017 hsz17) | (go_at_call 182; rw [show (x10_1 : Int).toNat = (l0.take (x10_1 : Int).toNat).length from (by rw [List.length_take]; first | (have b_ : x10_1 < (l0.length : Int) := of_decide_eq_true asz_; omega) | (have b_ : x10_1 ≤ (l0.length : Int) := of_decide_eq_true asz_; omega))]; (with_reducible refine (spec_l1Has.calls k2 _ _ (l0.take (x10_1 : Int).toNat) (wrap64 (-x7_2)) true _ ?side1 ?side2 A14.out).mono ?_); (case side1 => exact ucz_ (HR410.out)); (case side2 => first | exact HC410.out | (rw [List.length_take]; have := HC410.out; omega)); rintro e w' ⟨rfl, ⟨nd, rfl⟩⟩))
              go_roundg k2
              case measure => have := HK1.out; have := HK2.out; omega
              case rel => exact ⟨(x6_2), (wrap64 (x7_2 + 1)), qaz_, qaz_, H', ⟨by have := HK1.out; have := HK2.out; omega⟩, by repeat (first | exact Drawn0.refl _ | apply Drawn0.step)⟩
             ·replace c15 := Bool.eq_false_iff.mpr c15
              subst c15
              rw [if_neg nfz_] at H
              have H' := Az_ H
              clear H
              obtain ⟨i018, hi018, _, hsz18, _⟩ := info_parts info3
              obtain ⟨hcut18, hA18, hC18⟩ := print_take_of (P := Tryd.prog) (Value.int .i64) 0 49 3 .i64 Tryd.underlying49 hi018 hsz18 (some ad407) c0 l0 x10_1 (of_decide_eq_true asz_) (of_decide_eq_true asz_) HC0.out
              have HR408 := Az_ (Kd.C_of_reads (h1 := fun _ => rfl) (hA18 _ (Kd.reads_of_C HR0.out)))
              have HC408 := Az_ hC18
              clear hA18 hC18 hi018 hsz18
              go_wp2_with (first | (go_at_call 182; rw [show (x10_1 : Int).toNat = (l0.take (x10_1 : Int).toNat).length from (by rw [List.length_take]; first | (have b_ : x10_1 < (l0.length : Int) := of_decide_eq_true asz_; omega) | (have b_ : x10_1 ≤ (l0.length : Int) := of_decide_eq_true asz_; omega))]; (with_reducible refine (spec_l1Has.calls k2 _ _ (l0.take (x10_1 : Int).toNat) x7_2 false _ ?side1 ?side2 A9.out).mono ?_); (case side1 => exact ucz_ (HR408.out)); (case side2 => first | exact HC408.out | (rw [List.length_take]; have := HC408.out; omega)); rintro e w' ⟨rfl, ⟨nd, rfl⟩⟩; obtain ⟨i019, hi019, _, hsz19, _⟩ := info_parts info3; obtain ⟨hcut19, hA19, hC19⟩ := print_take_of (P := Tryd.prog) (Value.int .i64) 0 49 3 .i64 Tryd.underlying49 hi019 hsz19 (some ad407) c0 l0 x10_1 (of_decide_eq_true asz_) (of_decide_eq_true asz_) HC0.out; have HR410 := Az_ (Kd.C_of_reads (h1 := fun _ => rfl) (hA19 _ (Kd.reads_of_C HR0.out))); have HC410 := Az_ hC19; clear hA19 hC19 hi019 hsz19) | (go_at_call 182; rw [show (x10_1 : Int).toNat = (l0.take (x10_1 : Int).toNat).length from (by rw [List.length_take]; first | (have b_ : x10_1 < (l0.length : Int) := of_decide_eq_true asz_; omega) | (have b_ : x10_1 ≤ (l0.length : Int) := of_decide_eq_true asz_; omega))]; (with_reducible refine (spec_l1Has.calls k2 _ _ (l0.take (x10_1 : Int).toNat) (wrap64 (-x7_2)) false _ ?side1 ?side2 A14.out).mono ?_); (case side1 => exact ucz_ (HR410.out)); (case side2 => first | exact HC410.out | (rw [List.length_take]; have := HC410.out; omega)); rintro e w' ⟨rfl, ⟨nd, rfl⟩⟩))
              go_roundg k2
              case measure => have := HK1.out; have := HK2.out; omega
              case rel => exact ⟨(wrap64 (x6_2 + 1)), (wrap64 (x7_2 + 1)), qaz_, qaz_, H', ⟨by have := HK1.out; have := HK2.out; omega⟩, by repeat (first | exact Drawn0.refl _ | apply Drawn0.step)⟩
           ·rw [if_neg c8] at H
            exact absurd H (by simp)
          ·rw [if_neg c7] at H
           exact absurd H (by simp)
        ·rw [if_neg c5] at H
         have c5b0 := decide_eq_false c5
         clear c5
         have H' := Az_ H
         clear H
         go_wp2
         go_roundg k2
         case measure => have := HK1.out; have := HK2.out; omega
         case rel => exact ⟨(wrap64 ((wrap64 ((wrap64 (x3_1 * 2)) * (wrap64 ((l0.length : Int) - x10_1)))) + x6_2)), (wrap64 (x10_1 + 1)), qaz_, qaz_, H', ⟨by have := HK1.out; have := HK2.out; omega⟩, by repeat (first | exact Drawn0.refl _ | apply Drawn0.step)⟩
     ·rw [if_neg c4] at H
      exact absurd H (by simp)
    ·rw [if_neg c3] at H
     exact absurd H (by simp)
   ·rw [if_neg c2] at H
    have c2b0 := decide_eq_false c2
    clear c2
    obtain rfl := Option.some.inj H
    go_wp2
    go_ret
    exact ⟨by first | rfl | (simp; done) | (simp [*]; done), by repeat (first | exact Drawn0.refl _ | apply Drawn0.step)⟩

end Go.Proofs.YtppbpefehpbejaaDoor.P
end

section
namespace Go.Proofs.YtppbpefehpbejaaDoor.P
open Go.RowKit Go.Proofs.YtppbpefehpbejaaDoorW.PrintWords Go.Proofs.YtppbpefehpbejaaDoorW.PrintLast Go.Proofs.YtppbpefehpbejaaDoorW.PrintMore
attribute [local go_sem] max2_int min2_int max_two min_two max_three min_three max_four min_four   -- for this text's walks alone
set_option linter.unusedVariables false
set_option linter.unusedSimpArgs false

/-! ### spec_biTurn: function 190 -/
def spec_biTurn.l0 : Nat → List Int → Int → Int → List Int → Int → Option (List Int)
 | 0, _, _, _, _, _ => none
 | k + 1, x0, x1, x2, x7, x8 => if x8 ≤ x2 then (if 0 ≤ (wrap64 ((wrap64 (x1 + x2)) - x8)) then (if (wrap64 ((wrap64 (x1 + x2)) - x8)) < (x0.length : Int) then (if 0 ≤ x8 then (if x8 < (x7.length : Int) then (spec_biTurn.l0 k x0 x1 x2 (x7.set (x8 : Int).toNat (wrap64 (-(rd x0 (wrap64 ((wrap64 (x1 + x2)) - x8)))))) (wrap64 (x8 + 1))) else (none)) else (none)) else (none)) else (none)) else (some x7)
def spec_biTurn.f (k : Nat) (l0 : List Int) (a1 : Int) (a2 : Int) : Option (List Int) := (spec_l1Own.f l0).bind fun t412 => (spec_biTurn.l0 k l0 a1 a2 t412 a1)
set_option maxHeartbeats 8000000 in
set_option maxRecDepth 100000 in
theorem spec_biTurn.calls (k : Nat) (A0 : Option Addr) (c0 : Nat) (l0 : List Int) (a1 : Int) (a2 : Int) (r : List Int) (w : World) (hr0 : Kd.C (Kd.int .i64) w A0 l0.length l0) (hc0 : l0.length ≤ c0) (h : spec_biTurn.f k l0 a1 a2 = some r) :
  Calls Tryd.prog 190 #[.slice A0 l0.length c0, .int .i64 a1, .int .i64 a2] w fun e w' => ∃ v0_ : Value, e = .returned (v0_) ∧ Kd.R (Kd.int .i64) 3 w' w.heap.size (fun _ => True) v0_ r ∧ Below w.heap.size w w' := by
 have HR0 := Az_ hr0
 have HC0 := Az_ hc0
 clear hr0 hc0
 have HB := Az_ (Below.refl w.heap.size w)
 have H : ((spec_l1Own.f l0).bind fun t412 => (spec_biTurn.l0 k l0 a1 a2 t412 a1)) = some r := h
 clear h
 replace H := bqz_ H; obtain ⟨t412, A4, H⟩ := H
 replace H : (spec_biTurn.l0 k l0 a1 a2 t412 a1) = some r := H
 have H' := Az_ H
 clear H
 go_enter Tryd.func190, Tryd.ntmps190
 go_wp2_with (first | ((with_reducible refine gate_callee (f := 136) rfl ?_); refine goesL_ (some 10) rfl rfl Tryd.func136 (by kernel_rfl) rfl #[.slice A0 l0.length c0] rfl maz_ ?_; (with_reducible refine (spec_l1Own.calls _ _ l0 t412 _ ?side1 ?side2 A4.out).mono ?_); (case side1 => exact ucz_ (HR0.out)); (case side2 => exact HC0.out); rintro e w5 ⟨v413, rfl, ho0, hb⟩; refine ⟨_, rfl, ?_⟩; have HO414 := Az_ (Kd.R_lower ho0 (below_size (ubz_ HB.out))); replace HB := Az_ (btz_ (ubz_ HB.out) hb); (try clear hb); (try clear ho0)))
 go_loopg [8] k (fun kq v8 w' => ∃ (x7_1 : List Int) (x8_1 : Int), v8 = .int .i64 x8_1 ∧ Aside0 (spec_biTurn.l0 kq l0 a1 a2 x7_1 x8_1 = some r) ∧ Aside0 (kq ≤ k) ∧ Aside0 (Kd.R (Kd.int .i64) 3 w' w.heap.size (fun _ => True) v413 x7_1) ∧ Aside0 (Below w.heap.size w w'))
 case atStart => exact ⟨(t412), (a1), qaz_, H', ⟨Nat.le_refl _⟩, ⟨by (with_reducible repeat (first | apply raz_ | apply rnz_ | apply rdz_)); exact HO414.out⟩, ⟨by exact ubz_ HB.out⟩⟩
 case round =>
  clear H'
  obtain ⟨x7_1, x8_1, rfl, HA, HK1, HO_7, HB⟩ := hrel
  cases gk with
  | zero => exact absurd HA.out (by simp [spec_biTurn.l0])
  | succ k1 =>
   have H := HA.out
   clear HA
   simp only [spec_biTurn.l0] at H
   by_cases c6 : x8_1 ≤ a2
   ·rw [if_pos c6] at H
    have c6b0 := decide_eq_true c6
    clear c6
    obtain ⟨ji7, hji7⟩ : ∃ j_ : Int, (wrap64 ((wrap64 (a1 + a2)) - x8_1)) = j_ := ⟨_, rfl⟩
    replace H : (if 0 ≤ (ji7) then (if (ji7) < (l0.length : Int) then (if 0 ≤ x8_1 then (if x8_1 < (x7_1.length : Int) then (spec_biTurn.l0 k1 l0 a1 a2 (x7_1.set (x8_1 : Int).toNat (wrap64 (-(rd l0 (ji7))))) (wrap64 (x8_1 + 1))) else (none)) else (none)) else (none)) else (none)) = some r := by first | (rw [hji7] at H; exact H) | (simp only [hji7] at H ⊢; exact H)
    have hji7w : (IntKind.i64.wrap ((wrap64 (a1 + a2)) - x8_1)) = ji7 := (i64_w _).trans hji7
    by_cases c8 : 0 ≤ (ji7)
    ·rw [if_pos c8] at H
     have c8b0 := decide_eq_true c8
     clear c8
     by_cases c9 : (ji7) < (l0.length : Int)
     ·rw [if_pos c9] at H
      have c9b0 := decide_eq_true c9
      clear c9
      by_cases c10 : 0 ≤ x8_1
      ·rw [if_pos c10] at H
       have c10b0 := decide_eq_true c10
       clear c10
       by_cases c11 : x8_1 < (x7_1.length : Int)
       ·rw [if_pos c11] at H
        have c11b0 := decide_eq_true c11
        clear c11
        obtain ⟨y416, hy416⟩ : ∃ y_ : List Int, y_ = (x7_1.set (x8_1 : Int).toNat (wrap64 (-(rd l0 (ji7))))) := ⟨_, rfl⟩
        replace H : (spec_biTurn.l0 k1 l0 a1 a2 y416 (wrap64 (x8_1 + 1))) = some r := by first | (rw [hy416]; with_reducible exact H) | (have H2_ := (Option.bind_some _ _).symm.trans H; rw [hy416]; with_reducible exact H2_) | (have H2_ := (Option.bind_some _ _).symm.trans H; with_reducible exact H2_) | with_reducible exact H | (rw [hy416]; exact H) | exact H
        have Ny416 := Az_ hy416
        clear hy416
        have H' := Az_ H
        clear H
        have p415 : 0 ≤ ((ji7) : Int) := of_decide_eq_true asz_
        have q415 : (ji7) < (l0.length : Int) := of_decide_eq_true asz_
        obtain ⟨ad415, e415, hx415_0⟩ := Kd.at_int HR0.out (ji7) p415 q415
        cases e415
        replace hx415_0 := (HB.out.cell (World.block_lt_of_cell? w _ hx415_0)).trans hx415_0
        replace p415 := eq_true p415
        replace q415 := eq_true q415
        have p12 : 0 ≤ (x8_1 : Int) := of_decide_eq_true asz_
        have q12 : (x8_1 : Int) < ((x7_1.length : Int) : Int) := of_decide_eq_true asz_
        obtain ⟨go12, co12, eo12, gb12, gl12, cl12, HG12⟩ := Kd.R_form HO_7.out (by omega)
        (first | cases eo12 | (injection eo12 with ea_ en_ ec_; (first | subst ea_ | (injection ea_ with ea_; subst ea_)); subst ec_; clear en_))
        have GB12 := Az_ gb12
        have GG12 := Az_ HG12
        clear gb12 gl12 HG12
        obtain ⟨hx12_0, hf12_0⟩ := Kd.R_celln 0 HO_7.out (x8_1 : Int) p12 q12
        replace p12 := eq_true p12
        replace q12 := eq_true q12
        have HP13 := Kd.R_putg HO_7.out (x8_1 : Int) (wrap64 (-(rd l0 (ji7))))
        go_wp2_with (first | ((with_reducible refine gate_store (t := 3) (p := 28) rfl ?_); refine store_event (t := 3) (p := 28) (v := ?vo_w14) (w1 := (wr.setCell ⟨go12, (x8_1 : Int).toNat, none⟩ (.int .i64 (wrap64 (-(rd l0 (ji7))))))) ?hg ?ho ?hn ?hr ?_; (case ho => rfl); (case hg => rfl); (case hn => rfl); (case hr => first | (go_simp; done) | (go_simp; rfl)); intro w14 hw; have hg : wr.grownBy w14 (some go12) := (by rw [hw]; exact HP13.2); have hp_ : Kd.R (Kd.int .i64) 3 w14 w.heap.size (fun _ => True) (.slice (some ⟨go12, 0, none⟩) x7_1.length co12) y416 := (by rw [hw, Ny416.out]; exact HP13.1); clear HP13; replace HO_7 := Az_ (hp_); replace HB := Az_ ((by rw [hw]; exact bsz_ (HB.out) GB12.out : Below w.heap.size w w14)); clear hg hw hp_))
        go_roundg k1
        case measure => have := HK1.out; omega
        case rel => exact ⟨(y416), (wrap64 (x8_1 + 1)), qaz_, H', ⟨by have := HK1.out; omega⟩, ⟨by (with_reducible repeat (first | apply raz_ | apply rnz_ | apply rdz_)); exact HO_7.out⟩, ⟨by exact ubz_ HB.out⟩⟩
       ·rw [if_neg c11] at H
        exact absurd H (by simp)
      ·rw [if_neg c10] at H
       exact absurd H (by simp)
     ·rw [if_neg c9] at H
      exact absurd H (by simp)
    ·rw [if_neg c8] at H
     exact absurd H (by simp)
   ·rw [if_neg c6] at H
    have c6b0 := decide_eq_false c6
    clear c6
    obtain rfl := Option.some.inj H
    go_wp2
    go_ret
    exact ⟨_, by first | rfl | (simp [errW_none, errW_some] <;> rfl) | (simp [*, errW_none, errW_some] <;> rfl), by (with_reducible repeat (first | apply raz_ | apply rnz_ | apply rdz_)); exact HO_7.out, by exact ubz_ HB.out⟩

end Go.Proofs.YtppbpefehpbejaaDoor.P
end
