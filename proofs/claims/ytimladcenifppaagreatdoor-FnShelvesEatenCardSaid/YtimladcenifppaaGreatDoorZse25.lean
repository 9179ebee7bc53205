/- Lean functions with the answers of the program's Go functions, and for each the proof that the Go code comes to these answers; no condition. -/
import Derived.Test.YtimladcenifppaaGreatDoorZse21
import Derived.Test.YtimladcenifppaaGreatDoorZse22
import Derived.Test.YtimladcenifppaaGreatDoorZse23
import Derived.Test.YtimladcenifppaaGreatDoorZse24
section
namespace Go.Proofs.YtimladcenifppaaGreatDoor.P
open Go.RowKit Go.Proofs.YtimladcenifppaaGreatDoorW.PrintWords Go.Proofs.YtimladcenifppaaGreatDoorW.PrintLast Go.Proofs.YtimladcenifppaaGreatDoorW.PrintMore
attribute [local go_sem] max2_int min2_int max_two min_two max_three min_three max_four min_four   -- for this text's walks alone
set_option linter.unusedVariables false
set_option linter.unusedSimpArgs false

def spec_l1Split.l0 : Nat → ByteArray → Int → List ByteArray → Int → Int → Option (List ByteArray)
 | 0, _, _, _, _, _ => none
 | k + 1, x0, x1, x5, x6, x7 => if x7 < (x0.size : Int) then (if 0 ≤ x7 then (if (bt x0 x7) = x1 then (if 0 ≤ x6 then (if x6 ≤ x7 then (if x7 ≤ (x0.size : Int) then (if x5.length < 8796093022208 then (spec_l1Split.l0 k x0 x1 (x5 ++ [x0.extract (x6 : Int).toNat (x7 : Int).toNat]) (wrap64 (x7 + 1)) (wrap64 (x7 + 1))) else (none)) else (none)) else (none)) else (none)) else (spec_l1Split.l0 k x0 x1 x5 x6 (wrap64 (x7 + 1)))) else (none)) else (if 0 ≤ x6 then (if x6 ≤ (x0.size : Int) then (if x5.length < 8796093022208 then (some (x5 ++ [x0.extract (x6 : Int).toNat x0.size])) else (none)) else (none)) else (none))
def spec_l1Split.f (k : Nat) (a0 : ByteArray) (a1 : Int) : Option (List ByteArray) := spec_l1Split.l0 k a0 a1 ([] : List ByteArray) 0 0
set_option maxHeartbeats 8000000 in
set_option maxRecDepth 100000 in
theorem spec_l1Split.calls (k : Nat) (a0 : ByteArray) (a1 : Int) (r : List ByteArray) (w : World) (h : spec_l1Split.f k a0 a1 = some r) :
  Calls Tryz.prog 72 #[.string a0, .int .u8 a1] w fun e w' => ∃ v0_ : Value, e = .returned (v0_) ∧ Kd.R Kd.string 9 w' w.heap.size (fun _ => True) v0_ r ∧ Below w.heap.size w w' := by
 have HB := Az_ (Below.refl w.heap.size w)
 have H : (spec_l1Split.l0 k a0 a1 ([] : List ByteArray) 0 0) = some r := h
 clear h
 have H' := Az_ H
 clear H
 go_enter Tryz.func72, Tryz.ntmps72
 go_wp2
 go_loopg [5, 6, 7] k (fun kq v5 v6 v7 w' => ∃ (x5_1 : List ByteArray) (x6_1 : Int) (x7_1 : Int), v6 = .int .i64 x6_1 ∧ v7 = .int .i64 x7_1 ∧ Aside0 (spec_l1Split.l0 kq a0 a1 x5_1 x6_1 x7_1 = some r) ∧ Aside0 (kq ≤ k) ∧ Aside0 (Kd.R Kd.string 9 w' w.heap.size (fun _ => True) v5 x5_1) ∧ Aside0 (Below w.heap.size w w'))
 case atStart => exact ⟨(([] : List ByteArray)), (0), (0), qaz_, qaz_, H', ⟨Nat.le_refl _⟩, ⟨w53_⟩, ⟨w92_⟩⟩
 case round =>
  clear H'
  obtain ⟨x5_1, x6_1, x7_1, rfl, rfl, HA, HK1, HO_5, HB⟩ := hrel
  cases gk with
  | zero => exact absurd HA.out (by simp [spec_l1Split.l0])
  | succ k1 =>
   have H := HA.out
   clear HA
   simp only [spec_l1Split.l0] at H
   by_cases c3 : x7_1 < (a0.size : Int)
   ·rw [if_pos c3] at H
    have c3b0 := decide_eq_true c3
    clear c3
    by_cases c4 : 0 ≤ x7_1; rotate_left
    ·rw [if_neg c4] at H
     exact absurd H (by simp)
    rw [if_pos c4] at H
    have c4b0 := decide_eq_true c4
    clear c4
    by_cases c6 : (bt a0 x7_1) = a1; rotate_left
    ·rw [if_neg c6] at H
     have c6b0 : ((bt a0 x7_1) == a1) = false := beq_eq_false_iff_ne.mpr c6
     have c6b1 : ((bt a0 x7_1) != a1) = true := bne_iff_ne.mpr c6
     have H' := Az_ H
     clear H
     have p5 : 0 ≤ (x7_1 : Int) := od_
     have q5 : x7_1 < (a0.size : Int) := od_
     have hx5 := bt_at a0 x7_1
     replace p5 := eq_true p5
     replace q5 := eq_true q5
     go_wp2
     go_roundg k1
     case measure => have := HK1.out; omega
     case rel => exact ⟨(x5_1), (x6_1), (wrap64 (x7_1 + 1)), qaz_, qaz_, H', ⟨w85_⟩, ⟨by (with_reducible repeat (first | apply raz_ | apply rnz_ | apply rdz_)); exact HO_5.out⟩, ⟨w92_⟩⟩
    rw [if_pos c6] at H
    have c6b0 : ((bt a0 x7_1) == a1) = true := beq_iff_eq.mpr c6
    have c6b1 : ((bt a0 x7_1) != a1) = false := bne_eq_false_iff_eq.mpr c6
    clear c6
    by_cases c7 : 0 ≤ x6_1; rotate_left
    ·rw [if_neg c7] at H
     exact absurd H (by simp)
    rw [if_pos c7] at H
    have c7b0 := eq_true c7
    have c7b1 := decide_eq_true c7
    clear c7
    by_cases c8 : x6_1 ≤ x7_1; rotate_left
    ·rw [if_neg c8] at H
     exact absurd H (by simp)
    rw [if_pos c8] at H
    have c8b0 := eq_true c8
    have c8b1 := decide_eq_true c8
    clear c8
    by_cases c9 : x7_1 ≤ (a0.size : Int); rotate_left
    ·rw [if_neg c9] at H
     exact absurd H (by simp)
    rw [if_pos c9] at H
    have c9b0 := eq_true c9
    have c9b1 := decide_eq_true c9
    clear c9
    by_cases c10 : x5_1.length < 8796093022208; rotate_left
    ·rw [if_neg c10] at H
     exact absurd H (by simp)
    rw [if_pos c10] at H
    have LMc10 := Az_ c10
    clear c10
    obtain ⟨y465, hy465⟩ : ∃ y_ : List ByteArray, y_ = (x5_1 ++ [a0.extract (x6_1 : Int).toNat (x7_1 : Int).toNat]) := ⟨_, rfl⟩
    replace H : (spec_l1Split.l0 k1 a0 a1 y465 (wrap64 (x7_1 + 1)) (wrap64 (x7_1 + 1))) = some r := by first | (rw [hy465]; with_reducible exact H) | (have H2_ := (Option.bind_some _ _).symm.trans H; rw [hy465]; with_reducible exact H2_) | (have H2_ := (Option.bind_some _ _).symm.trans H; with_reducible exact H2_) | with_reducible exact H | (rw [hy465]; exact H) | exact H
    have Ny465 := Az_ hy465
    clear hy465
    have H' := Az_ H
    clear H
    have p5 : 0 ≤ (x7_1 : Int) := od_
    have q5 : x7_1 < (a0.size : Int) := od_
    have hx5 := bt_at a0 x7_1
    replace p5 := eq_true p5
    replace q5 := eq_true q5
    go_wp2_with (((with_reducible refine gate_builtin (b := .append) (xs := #[.tmp 19, .tmp 24]) rfl ?_); at_builtin; refine Kd.R_append Kd.string (w0 := w) w.heap.size rfl (.tmp 19) (.tmp 24) 84 9 (.string ⟨#[]⟩) 16 rfl Tryz.underlying84 info9 rfl (by decide) (by omega) u5 x5_1 (a0.extract (x6_1 : Int).toNat (x7_1 : Int).toNat) [.string (a0.extract (x6_1 : Int).toNat (x7_1 : Int).toNat)] (fun _ => True) (fun _ => False) rfl rfl ?aP (fun _ hk => hk.elim) ?aF ?aO ?aB ?aS ?aL ?_; (case aP => exact rfl); (case aB => exact (ubz_ HB.out)); (case aF => exact (fun _ _ => trivial)); (case aO => exact (by exact urz_ HO_5.out)); (case aS => exact (below_size (ubz_ HB.out))); (case aL => have := LMc10.out; omega); intro v466 w11 ho hb hg hat; rw [← Ny465.out] at ho; replace HB := Az_ (hb); have HO467 := Az_ (ho); clear HO_5; clear ho hb hg hat))
    go_roundg k1
    case measure => have := HK1.out; omega
    case rel => exact ⟨(y465), (wrap64 (x7_1 + 1)), (wrap64 (x7_1 + 1)), qaz_, qaz_, H', ⟨w85_⟩, ⟨by (with_reducible repeat (first | apply raz_ | apply rnz_ | apply rdz_)); exact HO467.out⟩, ⟨w92_⟩⟩
   ·rw [if_neg c3] at H
    have c3b0 := decide_eq_false c3
    clear c3
    by_cases c12 : 0 ≤ x6_1
    ·rw [if_pos c12] at H
     have c12b0 := eq_true c12
     have c12b1 := decide_eq_true c12
     clear c12
     by_cases c13 : x6_1 ≤ (a0.size : Int); rotate_left
     ·rw [if_neg c13] at H
      exact absurd H (by simp)
     rw [if_pos c13] at H
     have c13b0 := eq_true c13
     have c13b1 := decide_eq_true c13
     clear c13
     by_cases c14 : x5_1.length < 8796093022208; rotate_left
     ·rw [if_neg c14] at H
      exact absurd H (by simp)
     rw [if_pos c14] at H
     have LMc14 := Az_ c14
     clear c14
     obtain ⟨y468, hy468⟩ : ∃ y_ : List ByteArray, y_ = (x5_1 ++ [a0.extract (x6_1 : Int).toNat a0.size]) := ⟨_, rfl⟩
     replace H : (some y468) = some r := by first | (rw [hy468]; with_reducible exact H) | (have H2_ := (Option.bind_some _ _).symm.trans H; rw [hy468]; with_reducible exact H2_) | (have H2_ := (Option.bind_some _ _).symm.trans H; with_reducible exact H2_) | with_reducible exact H | (rw [hy468]; exact H) | exact H
     have Ny468 := Az_ hy468
     clear hy468
     obtain rfl := Option.some.inj H
     go_wp2_with (((with_reducible refine gate_builtin (b := .append) (xs := #[.tmp 28, .tmp 32]) rfl ?_); at_builtin; refine Kd.R_append Kd.string (w0 := w) w.heap.size rfl (.tmp 28) (.tmp 32) 84 9 (.string ⟨#[]⟩) 16 rfl Tryz.underlying84 info9 rfl (by decide) (by omega) u5 x5_1 (a0.extract (x6_1 : Int).toNat a0.size) [.string (a0.extract (x6_1 : Int).toNat a0.size)] (fun _ => True) (fun _ => False) rfl rfl ?aP (fun _ hk => hk.elim) ?aF ?aO ?aB ?aS ?aL ?_; (case aP => exact rfl); (case aB => exact (ubz_ HB.out)); (case aF => exact (fun _ _ => trivial)); (case aO => exact (by exact urz_ HO_5.out)); (case aS => exact (below_size (ubz_ HB.out))); (case aL => have := LMc14.out; omega); intro v469 w15 ho hb hg hat; rw [← Ny468.out] at ho; replace HB := Az_ (hb); have HO470 := Az_ (ho); clear HO_5; clear ho hb hg hat))
     go_ret
     exact ⟨_, w74_, by (with_reducible repeat (first | apply raz_ | apply rnz_ | apply rdz_)); exact HO470.out, w92_⟩
    ·rw [if_neg c12] at H
     exact absurd H (by simp)

mutual
def spec_l1Read.j0 : Nat → ByteArray → Bool → Option (Int)
 | 0, _, _ => none
 | k + 1, x0, x18 => if x18 = true then (some (-1)) else (spec_l1Read.l0 k x0 0 0)
def spec_l1Read.l0 : Nat → ByteArray → Int → Int → Option (Int)
 | 0, _, _, _ => none
 | k + 1, x0, x3, x4 => if x4 < (x0.size : Int) then (if 0 ≤ x4 then (if (bt x0 x4) < 48 then (some (-1)) else (if (bt x0 x4) > 57 then (some (-1)) else (spec_l1Read.l0 k x0 (wrap64 ((wrap64 (10 * x3)) + (((bt x0 x4) - 48) % 256))) (wrap64 (x4 + 1))))) else (none)) else (some x3)
end
def spec_l1Read.f (k : Nat) (a0 : ByteArray) : Option (Int) := (spec_l1In.f (a0.size : Int) 1 6).bind fun t471 => (if t471 = true then (if 0 < (a0.size : Int) then (if (bt a0 0) = 48 then (spec_l1Read.j0 k a0 (decide ((a0.size : Int) > 1))) else (spec_l1Read.j0 k a0 false)) else (none)) else (spec_l1Read.j0 k a0 true))
set_option maxHeartbeats 8000000 in
set_option maxRecDepth 100000 in
theorem spec_l1Read.calls (k : Nat) (a0 : ByteArray) (r : Int) (w : World) (h : spec_l1Read.f k a0 = some r) :
  Calls Tryz.prog 73 #[.string a0] w fun e w' => e = .returned (.int .i64 r) ∧ Drawn0 w w' := by
 have H : ((spec_l1In.f (a0.size : Int) 1 6).bind fun t471 => (if t471 = true then (if 0 < (a0.size : Int) then (if (bt a0 0) = 48 then (j0 k a0 (decide ((a0.size : Int) > 1))) else (j0 k a0 false)) else (none)) else (j0 k a0 true))) = some r := h
 clear h
 have HC2 := Az_ H
 clear H
 go_enter Tryz.func73, Tryz.ntmps73
 go_upto_region 1 with (fail)
 go_cut [18] (fun v18 wc => ∃ (kq : Nat) (x18_1 : Bool), v18 = .bool x18_1 ∧ Aside0 (j0 kq a0 x18_1 = some r) ∧ Aside0 (kq ≤ k) ∧ Drawn0 w wc)
 case first =>
  have H := HC2.out
  clear HC2
  replace H := bqz_ H; obtain ⟨t471, A3, H⟩ := H
  replace H : (if t471 = true then (if 0 < (a0.size : Int) then (if (bt a0 0) = 48 then (j0 k a0 (decide ((a0.size : Int) > 1))) else (j0 k a0 false)) else (none)) else (j0 k a0 true)) = some r := H
  by_cases c4 : t471 = true; rotate_left
  ·replace c4 := Bool.eq_false_iff.mpr c4
   subst c4
   rw [if_neg nfz_] at H
   have H' := Az_ H
   clear H
   go_wp2_with (((with_reducible refine gate_callee (f := 59) rfl ?_); refine goesL_ (some 7) rfl rfl Tryz.func59 (w94_) rfl #[.int .i64 (a0.size : Int), .int .i64 1, .int .i64 6] rfl maz_ ?_; (with_reducible refine (spec_l1In.calls (a0.size : Int) 1 6 false _ A3.out).mono ?_); rintro e w' ⟨rfl, ⟨nd, rfl⟩⟩; refine ⟨_, rfl, ?_⟩))
   go_meet
   case rel => exact ⟨_, (true), qaz_, H', ⟨w80_⟩, w77_⟩
  subst c4
  rw [if_pos rfl] at H
  by_cases c5 : 0 < (a0.size : Int); rotate_left
  ·rw [if_neg c5] at H
   exact absurd H (by simp)
  rw [if_pos c5] at H
  have c5b0 := decide_eq_true c5
  have c5b1 : decide (0 < a0.size) = true := decide_eq_true (by omega)
  clear c5
  (first | rw [c5b0] | (simp only [i64_w, i32_w]; rw [c5b0]) | skip)
  by_cases c7 : (bt a0 0) = 48; rotate_left
  ·rw [if_neg c7] at H
   have c7b0 : ((bt a0 0) == 48) = false := beq_eq_false_iff_ne.mpr c7
   have c7b1 : ((bt a0 0) != 48) = true := bne_iff_ne.mpr c7
   have H' := Az_ H
   clear H
   go_wp2_with (((with_reducible refine gate_callee (f := 59) rfl ?_); refine goesL_ (some 7) rfl rfl Tryz.func59 (w94_) rfl #[.int .i64 (a0.size : Int), .int .i64 1, .int .i64 6] rfl maz_ ?_; (with_reducible refine (spec_l1In.calls (a0.size : Int) 1 6 true _ A3.out).mono ?_); rintro e w' ⟨rfl, ⟨nd, rfl⟩⟩; refine ⟨_, rfl, ?_⟩; have p6 : 0 ≤ (0 : Int) := (by omega); have q6 : 0 < a0.size := (by have : (0 : Int) < (a0.size : Int) := od_; omega); have hx6 : ∀ h : 0 < a0.size, ((a0[0]'h).toNat : Int) = bt a0 0 := bt_at a0 0; clear p6; have qi6 : (0 < (a0.size : Int)) = True := eq_true (od_); replace q6 := eq_true q6))
   go_meet
   case rel => exact ⟨_, (false), qaz_, H', ⟨w80_⟩, w77_⟩
  rw [if_pos c7] at H
  have c7b0 : ((bt a0 0) == 48) = true := beq_iff_eq.mpr c7
  have c7b1 : ((bt a0 0) != 48) = false := bne_eq_false_iff_eq.mpr c7
  clear c7
  have H' := Az_ H
  clear H
  go_wp2_with (((with_reducible refine gate_callee (f := 59) rfl ?_); refine goesL_ (some 7) rfl rfl Tryz.func59 (w94_) rfl #[.int .i64 (a0.size : Int), .int .i64 1, .int .i64 6] rfl maz_ ?_; (with_reducible refine (spec_l1In.calls (a0.size : Int) 1 6 true _ A3.out).mono ?_); rintro e w' ⟨rfl, ⟨nd, rfl⟩⟩; refine ⟨_, rfl, ?_⟩; have p6 : 0 ≤ (0 : Int) := (by omega); have q6 : 0 < a0.size := (by have : (0 : Int) < (a0.size : Int) := od_; omega); have hx6 : ∀ h : 0 < a0.size, ((a0[0]'h).toNat : Int) = bt a0 0 := bt_at a0 0; clear p6; have qi6 : (0 < (a0.size : Int)) = True := eq_true (od_); replace q6 := eq_true q6))
  go_meet
  case rel => exact ⟨_, (decide ((a0.size : Int) > 1)), qaz_, H', ⟨w80_⟩, w77_⟩
 case rest =>
  clear HC2
  obtain ⟨kq, x18_1, rfl, HA, HJ1, ⟨mc1, rfl⟩⟩ := hcut
  cases kq with
  | zero => exact absurd HA.out (by simp [j0])
  | succ kj1 =>
   have H := HA.out
   clear HA
   simp only [j0] at H
   by_cases c8 : x18_1 = true
   ·subst c8
    rw [if_pos rfl] at H
    obtain rfl := Option.some.inj H
    go_wp2
    go_ret
    exact ⟨w79_, w77_⟩
   ·replace c8 := Bool.eq_false_iff.mpr c8
    subst c8
    rw [if_neg nfz_] at H
    have H' := Az_ H
    clear H
    go_wp2
    go_loopg [3, 4] kj1 (fun kq v3 v4 w' => ∃ (x3_2 : Int) (x4_2 : Int), v3 = .int .i64 x3_2 ∧ v4 = .int .i64 x4_2 ∧ Aside0 (spec_l1Read.l0 kq a0 x3_2 x4_2 = some r) ∧ Aside0 (kq ≤ kj1) ∧ Drawn0 w w')
    case atStart => exact ⟨(0), (0), qaz_, qaz_, H', ⟨Nat.le_refl _⟩, w77_⟩
    case round =>
     clear H'
     obtain ⟨x3_2, x4_2, rfl, rfl, HA, HK2, ⟨m2, rfl⟩⟩ := hrel
     cases gk with
     | zero => exact absurd HA.out (by simp [spec_l1Read.l0])
     | succ k2 =>
      have H := HA.out
      clear HA
      simp only [spec_l1Read.l0] at H
      by_cases c9 : x4_2 < (a0.size : Int)
      ·rw [if_pos c9] at H
       have c9b0 := decide_eq_true c9
       clear c9
       by_cases c10 : 0 ≤ x4_2; rotate_left
       ·rw [if_neg c10] at H
        exact absurd H (by simp)
       rw [if_pos c10] at H
       have c10b0 := decide_eq_true c10
       clear c10
       by_cases c12 : (bt a0 x4_2) < 48
       ·rw [if_pos c12] at H
        have c12b0 := decide_eq_true c12
        clear c12
        obtain rfl := Option.some.inj H
        have p11 : 0 ≤ (x4_2 : Int) := od_
        have q11 : x4_2 < (a0.size : Int) := od_
        have hx11 := bt_at a0 x4_2
        replace p11 := eq_true p11
        replace q11 := eq_true q11
        go_wp2
        go_ret
        exact ⟨w79_, w77_⟩
       rw [if_neg c12] at H
       have c12b0 := decide_eq_false c12
       clear c12
       by_cases c14 : (bt a0 x4_2) > 57
       ·rw [if_pos c14] at H
        have c14b0 := decide_eq_true c14
        clear c14
        obtain rfl := Option.some.inj H
        have p11 : 0 ≤ (x4_2 : Int) := od_
        have q11 : x4_2 < (a0.size : Int) := od_
        have hx11 := bt_at a0 x4_2
        replace p11 := eq_true p11
        replace q11 := eq_true q11
        have p13 : 0 ≤ (x4_2 : Int) := od_
        have q13 : x4_2 < (a0.size : Int) := od_
        have hx13 := bt_at a0 x4_2
        replace p13 := eq_true p13
        replace q13 := eq_true q13
        go_wp2
        go_ret
        exact ⟨w79_, w77_⟩
       rw [if_neg c14] at H
       have c14b0 := decide_eq_false c14
       clear c14
       have H' := Az_ H
       clear H
       have p11 : 0 ≤ (x4_2 : Int) := od_
       have q11 : x4_2 < (a0.size : Int) := od_
       have hx11 := bt_at a0 x4_2
       replace p11 := eq_true p11
       replace q11 := eq_true q11
       have p13 : 0 ≤ (x4_2 : Int) := od_
       have q13 : x4_2 < (a0.size : Int) := od_
       have hx13 := bt_at a0 x4_2
       replace p13 := eq_true p13
       replace q13 := eq_true q13
       have p15 : 0 ≤ (x4_2 : Int) := od_
       have q15 : x4_2 < (a0.size : Int) := od_
       have hx15 := bt_at a0 x4_2
       replace p15 := eq_true p15
       replace q15 := eq_true q15
       go_wp2
       go_roundg k2
       case measure => have := HJ1.out; have := HK2.out; omega
       case rel => exact ⟨(wrap64 ((wrap64 (10 * x3_2)) + (((bt a0 x4_2) - 48) % 256))), (wrap64 (x4_2 + 1)), qaz_, qaz_, H', ⟨by have := HJ1.out; have := HK2.out; omega⟩, w77_⟩
      ·rw [if_neg c9] at H
       have c9b0 := decide_eq_false c9
       clear c9
       obtain rfl := Option.some.inj H
       go_wp2
       go_ret
       exact ⟨w79_, w77_⟩


mutual
def spec_shParse.j0 : Nat → List ByteArray → Bool → Option (List Int × Int × Bool)
 | 0, _, _ => none
 | k + 1, x4, x17 => if x17 = true then (some (([] : List Int), 0, false)) else (if 1 < (x4.length : Int) then ((spec_l1Read.f k (rdOf ByteArray.empty x4 1)).bind fun t477 => (if 0 < (x4.length : Int) then ((spec_l1Split.f k (rdOf ByteArray.empty x4 0) 44).bind fun t480 => (spec_shParse.l0 k t480 (t480.length : Int) 0 ([] : List Int) t477)) else (none))) else (none))
def spec_shParse.l0 : Nat → List ByteArray → Int → Int → List Int → Int → Option (List Int × Int × Bool)
 | 0, _, _, _, _, _ => none
 | k + 1, x27, x28, x29, x479000, x479001 => if x29 < x28 then (if 0 ≤ x29 then (if x29 < (x27.length : Int) then ((spec_l1Read.f k (rdOf ByteArray.empty x27 x29)).bind fun t484 => (if x479000.length < 17592186044416 then (spec_shParse.l0 k x27 x28 (wrap64 (x29 + 1)) (x479000 ++ [t484]) x479001) else (none))) else (none)) else (none)) else ((spec_shGood.f k x479000 x479001).bind fun t488 => (if t488 = true then (some (x479000, x479001, true)) else (some (([] : List Int), 0, false))))
end
def spec_shParse.f (k : Nat) (a0 : ByteArray) : Option (List Int × Int × Bool) := (spec_l1Split.f k a0 99).bind fun t473 => (if (a0.size : Int) > 34 then (spec_shParse.j0 k t473 true) else (spec_shParse.j0 k t473 ((t473.length : Int) != 2)))
def spec_shParse.T8 : Bool × List (List Nat × List Nat) := (true, [([], []), ([0], [0]), ([], []), ([2], [2]), ([3], [3]), ([1, 4, 3], [1, 4]), ([0, 1, 2, 3, 4, 5], []), ([6, 5, 5, 0, 1, 2, 3, 4, 5], [5, 6])])
def spec_shParse.B8 : List Nat := [0, 1, 0, 4, 12, 31, 63, 127]
theorem spec_shParse.tab8 : rtab .any (opsOf Tryz.f56 8) = spec_shParse.T8 := by kernel_rfl
theorem spec_shParse.bits8 : waitsOk spec_shParse.T8.2 spec_shParse.B8 = true := by kernel_rfl
set_option maxHeartbeats 8000000 in
set_option maxRecDepth 100000 in
theorem spec_shParse.calls (k : Nat) (a0 : ByteArray) (r1 : List Int) (r2 : Int) (r3 : Bool) (w : World) (h : spec_shParse.f k a0 = some (r1, r2, r3)) :
  Calls Tryz.prog 56 #[.string a0] w fun e w' => ∃ v0_ : Value, e = .returned (.tuple #[.agg #[v0_, .int .i64 r2], .bool r3]) ∧ Kd.R (Kd.int .i64) 3 w' w.heap.size (fun _ => True) v0_ r1 ∧ Below w.heap.size w w' := by
 have hu26 := Tryz.underlying26
 have HB := Az_ (Below.refl w.heap.size w)
 have H : ((spec_l1Split.f k a0 99).bind fun t473 => (if (a0.size : Int) > 34 then (j0 k t473 true) else (j0 k t473 ((t473.length : Int) != 2)))) = some (r1, r2, r3) := h
 clear h
 replace H := bqz_ H; obtain ⟨t473, A2, H⟩ := H
 replace H : (if (a0.size : Int) > 34 then (j0 k t473 true) else (j0 k t473 ((t473.length : Int) != 2))) = some (r1, r2, r3) := H
 have HC3 := Az_ H
 clear H
 go_enter Tryz.func56, Tryz.ntmps56
 go_upto_region 2 with (first | ((with_reducible refine gate_dst (N := 2) rfl ?_); (try (refine gate_guard (by rfl) ?_; dsimp only)); refine box_event ?hg (N := 2) ?hd (cs := #[.slice none 0 0, .int .i64 0]) (t := 26) ?hr ?_; (case hd => rfl); (case hg => rfl); (case hr => first | (go_simp; done) | (go_simp; rfl)); intro gb472 hg w4 hbox hb; have BK472 := Az_ (hbox); have GW472 := Az_ ((by rw [hg]; exact (below_size (ubz_ HB.out)) : w.heap.size ≤ gb472)); have GE472 := Az_ ((by rw [hg]; exact (below_size (ubz_ HB.out)) : w.heap.size ≤ gb472)); replace HB := Az_ (btz_ (ubz_ HB.out) hb); clear hb hbox hg) | ((with_reducible refine gate_callee (f := 72) rfl ?_); refine goesL_ (some 9) rfl rfl Tryz.func72 (w94_) rfl #[.string a0, .int .u8 99] rfl maz_ ?_; (with_reducible refine (spec_l1Split.calls k a0 99 t473 _ A2.out).mono ?_); rintro e w5 ⟨v474, rfl, ho0, hb⟩; refine ⟨_, rfl, ?_⟩; have n0_ := Az_ (Kd.R_lower ho0 (below_size (w52_))); have n2_ := Az_ (btz_ (w52_) hb); clear HB; have HO475 := n0_; replace BK472 := Az_ (ukbz_ BK472.out hb); have HB := n2_; clear n0_ n2_; (try clear hb); (try clear ho0)))
 (try simp only [Act.put, List.setIfInBounds_toArray, List.set_cons_zero, List.set_cons_succ])
 go_cut [17] (fun v17 wc => ∃ (kq : Nat) (x17_2 : Bool), v17 = .bool x17_2 ∧ Aside0 (j0 kq t473 x17_2 = some (r1, r2, r3)) ∧ Aside0 (kq ≤ k) ∧ Aside0 (Kd.R Kd.string 9 wc w.heap.size (fun _ => True) v474 t473) ∧ Aside0 (wc.heap[gb472]? = some (.cells #[(.slice none 0 0), .int .i64 0] 26 (0, 0))) ∧ Aside0 (Below w.heap.size w wc))
 case first =>
  have H := HC3.out
  clear HC3
  by_cases c6 : (a0.size : Int) > 34
  ·rw [if_pos c6] at H
   have c6b0 := decide_eq_true c6
   have c6b1 : decide (34 < a0.size) = true := decide_eq_true (by omega)
   clear c6
   (first | rw [c6b0] | (simp only [i64_w, i32_w]; rw [c6b0]) | skip)
   have H' := Az_ H
   clear H
   go_wp2
   go_meet
   case rel => exact ⟨_, (true), qaz_, H', ⟨w80_⟩, ⟨by (with_reducible repeat (first | apply raz_ | apply rnz_ | apply rdz_)); exact HO475.out⟩, ⟨w70_⟩, ⟨w52_⟩⟩
  rw [if_neg c6] at H
  have c6b0 := decide_eq_false c6
  have c6b1 : decide (34 < a0.size) = false := decide_eq_false (by omega)
  clear c6
  (first | rw [c6b0] | (simp only [i64_w, i32_w]; rw [c6b0]) | skip)
  have H' := Az_ H
  clear H
  obtain ⟨Ao7, co7, eo7⟩ := Kd.R_slice HO475.out
  subst eo7
  go_wp2
  go_meet
  case rel => exact ⟨_, (((t473.length : Int) != 2)), qaz_, H', ⟨w80_⟩, ⟨by (with_reducible repeat (first | apply raz_ | apply rnz_ | apply rdz_)); exact HO475.out⟩, ⟨w70_⟩, ⟨w52_⟩⟩
 case rest =>
  clear HC3
  obtain ⟨kq, x17_2, rfl, HA, HJ2, HO_4, BK472, HB⟩ := hcut
  cases kq with
  | zero => exact absurd HA.out (by simp [j0])
  | succ kj2 =>
   have H := HA.out
   clear HA
   simp only [j0] at H
   by_cases c8 : x17_2 = true
   ·subst c8
    rw [if_pos rfl] at H
    simp only [Option.some.injEq, Prod.mk.injEq] at H
    obtain ⟨rfl, rfl, rfl⟩ := H
    have hcz9_0 : wc.cell? ⟨gb472, 0, none⟩ = some (.slice none 0 0) := (blk_cell BK472.out 0).trans rfl
    have hcz9_1 : wc.cell? ⟨gb472, 1, none⟩ = some (.int .i64 0) := (blk_cell BK472.out 1).trans rfl
    have hfz9_0 := blk_frozen BK472.out 0
    have hfz9_1 := blk_frozen BK472.out 1
    go_wp2
    refine bodyPost_ret (results_ct rfl _ _ gb472 26 #[.slice none 0 0, .int .i64 0] (0, 0) _ rfl (w5_) Tryz.underlying26 rfl (w94_)) rfl ?_
    exact ⟨_, w74_, w53_, w52_⟩
   ·replace c8 := Bool.eq_false_iff.mpr c8
    subst c8
    rw [if_neg nfz_] at H
    by_cases c10 : 1 < (t473.length : Int)
    ·rw [if_pos c10] at H
     have c10b0 := decide_eq_true c10
     have c10b1 : decide (1 < t473.length) = true := decide_eq_true (by omega)
     clear c10
     replace H := bqz_ H; obtain ⟨t477, A11, H⟩ := H
     replace H : (if 0 < (t473.length : Int) then ((spec_l1Split.f kj2 (rdOf ByteArray.empty t473 0) 44).bind fun t480 => (spec_shParse.l0 kj2 t480 (t480.length : Int) 0 ([] : List Int) t477)) else (none)) = some (r1, r2, r3) := H
     by_cases c12 : 0 < (t473.length : Int); rotate_left
     ·rw [if_neg c12] at H
      exact absurd H (by simp)
     rw [if_pos c12] at H
     have c12b0 := decide_eq_true c12
     have c12b1 : decide (0 < t473.length) = true := decide_eq_true (by omega)
     clear c12
     replace H := bqz_ H; obtain ⟨t480, A13, H⟩ := H
     replace H : (spec_shParse.l0 kj2 t480 (t480.length : Int) 0 ([] : List Int) t477) = some (r1, r2, r3) := H
     have H' := Az_ H
     clear H
     obtain ⟨Ao14, co14, eo14⟩ := Kd.R_slice HO_4.out
     subst eo14
     have p476 : 0 ≤ (1 : Int) := (by omega)
     have q476 : 1 < (t473.length : Int) := od_
     obtain ⟨ad476, e476, hx476_0⟩ := Kd.at_string (Kd.R_reads' HO_4.out).2.2 1 p476 q476
     cases e476
     (try simp only [show (1 : Int).toNat = 1 from rfl, Nat.reduceMul, Nat.reduceEqDiff, Go.Addr.add, ↓reduceIte] at hx476_0)
     have qi476 : (1 < t473.length) = True := eq_true (by omega)
     (try rw [show ((1 : Int)).toNat = 1 from rfl] at hx476_0)
     replace p476 := eq_true p476
     replace q476 := eq_true q476
     go_wp2_with (first | ((with_reducible refine gate_callee (f := 73) rfl ?_); refine goesL_ (some 22) rfl rfl Tryz.func73 (w94_) rfl #[.string (rdOf ByteArray.empty t473 1)] rfl maz_ ?_; (with_reducible refine (spec_l1Read.calls kj2 (rdOf ByteArray.empty t473 1) t477 _ A11.out).mono ?_); rintro e w' ⟨rfl, ⟨nd, rfl⟩⟩; refine ⟨_, rfl, ?_⟩; (try (rw [drewN_self wc]; generalize hq_ : World.drewN wc _ = wc; have n0_ : Aside0 (Kd.R Kd.string 9 wc w.heap.size (fun _ => True) (.slice (some ad476) t473.length co14) t473) := ⟨by rw [← hq_]; exact (by exact urz_ HO_4.out)⟩; have n1_ : Aside0 (wc.heap[gb472]? = some (.cells #[.slice none 0 0, .int .i64 0] 26 (0, 0))) := ⟨by rw [← hq_]; exact (by exact ukz_ BK472.out)⟩; have n2_ : Aside0 (Below w.heap.size w wc) := ⟨by rw [← hq_]; exact (w52_)⟩; clear HO_4 BK472 HB hq_; have HO_4 := n0_; have BK472 := n1_; have HB := n2_; clear n0_ n1_ n2_))) | ((with_reducible refine gate_dst (N := 5) rfl ?_); (try (refine gate_guard (by rfl) ?_; dsimp only)); refine box_event ?hg (N := 5) ?hd (cs := #[.slice none 0 0, .int .i64 0]) (t := 26) ?hr ?_; (case hd => rfl); (case hg => rfl); (case hr => first | (go_simp; done) | (go_simp; rfl)); intro gb478 hg w15 hbox hb; have n0_ := Az_ (Kd.R_below (by exact urz_ HO_4.out) hb); have n2_ := Az_ (btz_ (w52_) hb); have n3_ := Az_ (hbox); have n4_ := Az_ ((by rw [hg]; exact (below_size (w52_)) : w.heap.size ≤ gb478)); have n5_ := Az_ ((by rw [hg]; exact (below_size (w52_)) : w.heap.size ≤ gb478)); have n6_ := Az_ ((by rw [hg]; exact Nat.ne_of_lt (uklz_ BK472.out) : gb472 ≠ gb478)); have n7_ := Az_ ((by rw [hg]; exact Nat.ne_of_gt (uklz_ BK472.out) : gb478 ≠ gb472)); clear HO_4; clear HB; have HO_4 := n0_; replace BK472 := Az_ (ukbz_ BK472.out hb); have HB := n2_; have BK478 := n3_; have GW478 := n4_; have GE478 := n5_; have NB472_478 := n6_; have NB478_472 := n7_; clear n0_ n2_ n3_ n4_ n5_ n6_ n7_; clear hb hbox hg; have hnb16 := NB478_472.out; have hnc16 := NB472_478.out; have hcz17_0 : w15.cell? ⟨gb478, 0, none⟩ = some (.slice none 0 0) := (blk_cell BK478.out 0).trans rfl; have hcz17_1 : w15.cell? ⟨gb478, 1, none⟩ = some (.int .i64 0) := (blk_cell BK478.out 1).trans rfl; have hfz17_0 := blk_frozen BK478.out 0; have hfz17_1 := blk_frozen BK478.out 1; have p479 : 0 ≤ (0 : Int) := (by omega); have q479 : 0 < (t473.length : Int) := od_; obtain ⟨ad479, e479, hx479_0⟩ := Kd.at_string (Kd.R_reads' HO_4.out).2.2 0 p479 q479; obtain rfl : ad476 = ad479 := (by injection e479); have qi479 : (0 < t473.length) = True := eq_true (by omega); (try rw [show ((0 : Int)).toNat = 0 from rfl] at hx479_0); (try rw [Addr.add_zero'] at hx479_0); have hn479_0 : ad476.block ≠ gb478 := (w56_); have hn479_1 : ad476.block ≠ gb478 := (w56_); replace hx479_0 := (cell_far (p := ⟨gb478, 0, none⟩) (by first | (rw [add_block]; exact hn479_0) | (show (Addr.add _ _).block ≠ _; rw [add_block]; exact hn479_0) | exact hn479_0) (.slice none 0 0)).trans hx479_0; replace hx479_0 := (cell_far (p := ⟨gb478, 1, none⟩) (by first | (rw [add_block]; exact hn479_1) | (show (Addr.add _ _).block ≠ _; rw [add_block]; exact hn479_1) | exact hn479_1) (.int .i64 t477)).trans hx479_0; clear hn479_0; clear hn479_1; replace p479 := eq_true p479; replace q479 := eq_true q479) | ((with_reducible refine gate_callee (f := 72) rfl ?_); refine goesL_ (some 27) rfl rfl Tryz.func72 (w94_) rfl #[.string (rdOf ByteArray.empty t473 0), .int .u8 44] rfl maz_ ?_; (with_reducible refine (spec_l1Split.calls kj2 (rdOf ByteArray.empty t473 0) 44 t480 _ A13.out).mono ?_); rintro e w18 ⟨v481, rfl, ho0, hb⟩; refine ⟨_, rfl, ?_⟩; have HO482 := Az_ (Kd.R_lower (Kd.R_new' ho0 (Kd.R_lt (w26_))) (below_size (w52_))); replace HO_4 := Az_ (rez_ (w26_) (Kd.R_base ho0) hb); replace BK472 := Az_ (kbz_ (g := gb472) (o := .cells #[.slice none 0 0, .int .i64 0] 26 (0, 0)) (by (with_reducible repeat (first | refine knz_ ?_ _ | refine kdz_ ?_ | refine kaz_ ?_ _)); refine blk_far ?_ NB472_478.out _; (with_reducible repeat (first | refine knz_ ?_ _ | refine kdz_ ?_ | refine kaz_ ?_ _)); refine blk_far ?_ NB472_478.out _; (with_reducible repeat (first | refine knz_ ?_ _ | refine kdz_ ?_ | refine kaz_ ?_ _)); exact BK472.out) hb); replace BK478 := Az_ (kbz_ (g := gb478) (o := .cells #[.slice none 0 0, .int .i64 t477] 26 (0, 0)) (by (with_reducible repeat (first | refine knz_ ?_ _ | refine kdz_ ?_ | refine kaz_ ?_ _)); refine blk_put (cs := #[.slice none 0 0, .int .i64 0]) ?_ 1 _ rfl; (with_reducible repeat (first | refine knz_ ?_ _ | refine kdz_ ?_ | refine kaz_ ?_ _)); refine blk_put (cs := #[.slice none 0 0, .int .i64 0]) ?_ 0 _ rfl; (with_reducible repeat (first | refine knz_ ?_ _ | refine kdz_ ?_ | refine kaz_ ?_ _)); exact BK478.out) hb); replace HB := Az_ (btz_ (w52_) hb); (try clear hb); (try clear ho0); obtain ⟨Ao19, co19, eo19⟩ := Kd.R_slice HO482.out; subst eo19))
     go_loopg [29] kj2 (fun kq v29 w' => ∃ (x29_2 : Int) (x479000_2 : List Int) (u479000 : Value), v29 = .int .i64 x29_2 ∧ Aside0 (spec_shParse.l0 kq t480 (t480.length : Int) x29_2 x479000_2 t477 = some (r1, r2, r3)) ∧ Aside0 (kq ≤ kj2) ∧ Aside0 (Kd.R Kd.string 9 w' w.heap.size (fun _ => True) (.slice Ao19 t480.length co19) t480) ∧ Aside0 (Kd.R (Kd.int .i64) 3 w' w.heap.size (fun _ => True) u479000 x479000_2) ∧ Aside0 (w'.heap[gb472]? = some (.cells #[(.slice none 0 0), .int .i64 0] 26 (0, 0))) ∧ Aside0 (w'.heap[gb478]? = some (.cells #[u479000, .int .i64 t477] 26 (0, 0))) ∧ Aside0 (Below w.heap.size w w'))
     case atStart => exact ⟨(0), (([] : List Int)), (.slice none 0 0), qaz_, H', ⟨Nat.le_refl _⟩, ⟨by (with_reducible repeat (first | apply raz_ | apply rnz_ | apply rdz_)); exact Kd.R_mono HO482.out (fun _ hk => trivial)⟩, ⟨w53_⟩, ⟨w70_⟩, ⟨by (with_reducible repeat (first | refine knz_ ?_ _ | refine kdz_ ?_ | refine kaz_ ?_ _)); exact BK478.out⟩, ⟨w52_⟩⟩
     case round =>
      clear H'
      clear c10b0 c10b1 c12b0 c12b1 hcz17_0 hcz17_1 hfz17_0 hfz17_1 hx476_0 hx479_0 p476 p479 q476 q479
      obtain ⟨x29_2, x479000_2, u479000, rfl, HA, HK2, HO_27, HO_479000, BK472, BK478, HB⟩ := hrel
      cases gk with
      | zero => exact absurd HA.out (by simp [spec_shParse.l0])
      | succ k2 =>
       have H := HA.out
       clear HA
       simp only [spec_shParse.l0] at H
       by_cases c20 : x29_2 < (t480.length : Int); rotate_left
       ·rw [if_neg c20] at H
        have c20b0 := decide_eq_false c20
        clear c20
        replace H := bqz_ H; obtain ⟨t488, A29, H⟩ := H
        replace H : (if t488 = true then (some (x479000_2, t477, true)) else (some (([] : List Int), 0, false))) = some (r1, r2, r3) := H
        by_cases c30 : t488 = true
        ·subst c30
         rw [if_pos rfl] at H
         simp only [Option.some.injEq, Prod.mk.injEq] at H
         obtain ⟨rfl, rfl, rfl⟩ := H
         have hnb31 := NB478_472.out
         have hnc31 := NB472_478.out
         have hcz32_0 : wr.cell? ⟨gb478, 0, none⟩ = some (u479000) := (blk_cell BK478.out 0).trans rfl
         have hcz32_1 : wr.cell? ⟨gb478, 1, none⟩ = some (.int .i64 t477) := (blk_cell BK478.out 1).trans rfl
         have hfz32_0 := blk_frozen BK478.out 0
         have hfz32_1 := blk_frozen BK478.out 1
         obtain ⟨Ao33, co33, eo33⟩ := Kd.R_slice HO_479000.out
         subst eo33
         go_wp2_with (((with_reducible refine gate_callee (f := 43) rfl ?_); refine goesL_ (some 42) rfl rfl Tryz.func43 (w94_) rfl #[.agg #[.slice Ao33 x479000_2.length co33, .int .i64 t477]] rfl maz_ ?_; (with_reducible refine (spec_shGood.calls k2 _ _ x479000_2 t477 true _ ?side1 ?side2 A29.out).mono ?_); (case side1 => exact ucz_ ((Kd.R_reads' HO_479000.out).2.2)); (case side2 => exact (Kd.R_reads' HO_479000.out).2.1); rintro e w34 ⟨rfl, hb⟩; refine ⟨_, rfl, ?_⟩; have n0_ := Az_ (Kd.R_below (by exact urz_ HO_27.out) hb); have n1_ := Az_ (Kd.R_below (by exact urz_ HO_479000.out) hb); have n4_ := Az_ (btz_ (w52_) hb); clear HO_27; clear HO_479000; clear HB; have HO_27 := n0_; have HO_479000 := n1_; replace BK472 := Az_ (ukbz_ BK472.out hb); replace BK478 := Az_ (ukbz_ BK478.out hb); have HB := n4_; clear n0_ n1_ n4_; (try clear hb); have hcz35_0 : w34.cell? ⟨gb478, 0, none⟩ = some (.slice Ao33 x479000_2.length co33) := (blk_cell BK478.out 0).trans rfl; have hcz35_1 : w34.cell? ⟨gb478, 1, none⟩ = some (.int .i64 t477) := (blk_cell BK478.out 1).trans rfl; have hfz35_0 := blk_frozen BK478.out 0; have hfz35_1 := blk_frozen BK478.out 1; have hcz36_0 : w34.cell? ⟨gb472, 0, none⟩ = some (.slice none 0 0) := (blk_cell BK472.out 0).trans rfl; have hcz36_1 : w34.cell? ⟨gb472, 1, none⟩ = some (.int .i64 0) := (blk_cell BK472.out 1).trans rfl; have hfz36_0 := blk_frozen BK472.out 0; have hfz36_1 := blk_frozen BK472.out 1))
         refine bodyPost_ret (results_ct rfl _ _ gb472 26 #[.slice Ao33 x479000_2.length co33, .int .i64 t477] (0, 0) _ rfl (by (with_reducible repeat (first | refine knz_ ?_ _ | refine kdz_ ?_ | refine kaz_ ?_ _)); refine blk_put (cs := #[.slice Ao33 x479000_2.length co33, .int .i64 0]) ?_ 1 _ rfl; (with_reducible repeat (first | refine knz_ ?_ _ | refine kdz_ ?_ | refine kaz_ ?_ _)); refine blk_put (cs := #[.slice none 0 0, .int .i64 0]) ?_ 0 _ rfl; (with_reducible repeat (first | refine knz_ ?_ _ | refine kdz_ ?_ | refine kaz_ ?_ _)); exact BK472.out) Tryz.underlying26 rfl (w94_)) rfl ?_
         exact ⟨_, w74_, by (with_reducible repeat (first | apply raz_ | apply rnz_ | apply rdz_)); exact Kd.R_mono (Kd.R_far (p := ⟨gb472, 1, none⟩) (Kd.R_far (p := ⟨gb472, 0, none⟩) (Kd.R_types HO_479000.out BK472.out (by decide)) (fun _ hk => hk.2) (.slice Ao33 x479000_2.length co33)) (fun _ hk => hk.2) (.int .i64 t477)) (fun _ hk => trivial), w52_⟩
        replace c30 := Bool.eq_false_iff.mpr c30
        subst c30
        rw [if_neg nfz_] at H
        simp only [Option.some.injEq, Prod.mk.injEq] at H
        obtain ⟨rfl, rfl, rfl⟩ := H
        have hnb37 := NB478_472.out
        have hnc37 := NB472_478.out
        have hcz38_0 : wr.cell? ⟨gb478, 0, none⟩ = some (u479000) := (blk_cell BK478.out 0).trans rfl
        have hcz38_1 : wr.cell? ⟨gb478, 1, none⟩ = some (.int .i64 t477) := (blk_cell BK478.out 1).trans rfl
        have hfz38_0 := blk_frozen BK478.out 0
        have hfz38_1 := blk_frozen BK478.out 1
        obtain ⟨Ao39, co39, eo39⟩ := Kd.R_slice HO_479000.out
        subst eo39
        go_wp2_with (((with_reducible refine gate_callee (f := 43) rfl ?_); refine goesL_ (some 42) rfl rfl Tryz.func43 (w94_) rfl #[.agg #[.slice Ao39 x479000_2.length co39, .int .i64 t477]] rfl maz_ ?_; (with_reducible refine (spec_shGood.calls k2 _ _ x479000_2 t477 false _ ?side1 ?side2 A29.out).mono ?_); (case side1 => exact ucz_ ((Kd.R_reads' HO_479000.out).2.2)); (case side2 => exact (Kd.R_reads' HO_479000.out).2.1); rintro e w40 ⟨rfl, hb⟩; refine ⟨_, rfl, ?_⟩; have n0_ := Az_ (Kd.R_below (by exact urz_ HO_27.out) hb); have n1_ := Az_ (Kd.R_below (by exact urz_ HO_479000.out) hb); have n4_ := Az_ (btz_ (w52_) hb); clear HO_27; clear HO_479000; clear HB; have HO_27 := n0_; have HO_479000 := n1_; replace BK472 := Az_ (ukbz_ BK472.out hb); replace BK478 := Az_ (ukbz_ BK478.out hb); have HB := n4_; clear n0_ n1_ n4_; (try clear hb); have hcz41_0 : w40.cell? ⟨gb472, 0, none⟩ = some (.slice none 0 0) := (blk_cell BK472.out 0).trans rfl; have hcz41_1 : w40.cell? ⟨gb472, 1, none⟩ = some (.int .i64 0) := (blk_cell BK472.out 1).trans rfl; have hfz41_0 := blk_frozen BK472.out 0; have hfz41_1 := blk_frozen BK472.out 1))
        refine bodyPost_ret (results_ct rfl _ _ gb472 26 #[.slice none 0 0, .int .i64 0] (0, 0) _ rfl (w5_) Tryz.underlying26 rfl (w94_)) rfl ?_
        exact ⟨_, w74_, w53_, w52_⟩
       rw [if_pos c20] at H
       have c20b0 := decide_eq_true c20
       clear c20
       by_cases c21 : 0 ≤ x29_2; rotate_left
       ·rw [if_neg c21] at H
        exact absurd H (by simp)
       rw [if_pos c21] at H
       have c21b0 := decide_eq_true c21
       clear c21
       by_cases c22 : x29_2 < (t480.length : Int); rotate_left
       ·rw [if_neg c22] at H
        exact absurd H (by simp)
       rw [if_pos c22] at H
       have c22b0 := decide_eq_true c22
       clear c22
       replace H := bqz_ H; obtain ⟨t484, A23, H⟩ := H
       replace H : (if x479000_2.length < 17592186044416 then (spec_shParse.l0 k2 t480 (t480.length : Int) (wrap64 (x29_2 + 1)) (x479000_2 ++ [t484]) t477) else (none)) = some (r1, r2, r3) := H
       by_cases c24 : x479000_2.length < 17592186044416; rotate_left
       ·rw [if_neg c24] at H
        exact absurd H (by simp)
       rw [if_pos c24] at H
       have LMc24 := Az_ c24
       clear c24
       obtain ⟨y485, hy485⟩ : ∃ y_ : List Int, y_ = (x479000_2 ++ [t484]) := ⟨_, rfl⟩
       replace H : (spec_shParse.l0 k2 t480 (t480.length : Int) (wrap64 (x29_2 + 1)) y485 t477) = some (r1, r2, r3) := by first | (rw [hy485]; with_reducible exact H) | (have H2_ := (Option.bind_some _ _).symm.trans H; rw [hy485]; with_reducible exact H2_) | (have H2_ := (Option.bind_some _ _).symm.trans H; with_reducible exact H2_) | with_reducible exact H | (rw [hy485]; exact H) | exact H
       have Ny485 := Az_ hy485
       clear hy485
       have H' := Az_ H
       clear H
       have p483 : 0 ≤ (x29_2 : Int) := od_
       have q483 : x29_2 < (t480.length : Int) := od_
       obtain ⟨ad483, e483, hx483_0⟩ := Kd.at_string (Kd.R_reads' HO_27.out).2.2 x29_2 p483 q483
       cases e483
       replace p483 := eq_true p483
       replace q483 := eq_true q483
       try go_wp2
       have n0_ := Az_ (rdz_ HO_27.out)
       have n1_ := Az_ (rdz_ HO_479000.out)
       have n2_ := Az_ (kdz_ BK472.out)
       have n3_ := Az_ (kdz_ BK478.out)
       have n4_ := Az_ (bdz_ HB.out)
       clear HO_27 HO_479000 BK472 BK478 HB
       have HO_27 := n0_
       have HO_479000 := n1_
       have BK472 := n2_
       have BK478 := n3_
       have HB := n4_
       clear n0_ n1_ n2_ n3_ n4_
       refine start_ (n := 8) (S := fun w' => w'.cell? ⟨gb478, 0, none⟩ = some (u479000) ∧ w'.cell? ⟨gb478, 1, none⟩ = some (.int .i64 t477)) (ds := [7]) #[false, false, false, false, false, false, false, false] (w94_) rfl rfl ⟨(blk_cell BK478.out 0).trans rfl, (blk_cell BK478.out 1).trans rfl⟩ (fun hHeld => ?_); refine with_tabW spec_shParse.tab8 spec_shParse.bits8 (fun HT_ HW_ => ?_)
       generalize wr.drew = w25 at HO_27 HO_479000 BK472 BK478 HB hHeld ⊢
       refine pz_ 0 33 [1,7] ?_
       refine pz_ 2 35 [1,1,1,5] ?_
       refine tz2_ 1 34 [3,5] ?_
       refine one_ (i := 3) (N := some 36) (mz_ [4,4]) rfl rfl (one_of HT_.out (w94_)) (by decide) (fun K hK => ?_)
       refine goes_ Tryz.func73 (w94_) rfl #[.string (rdOf ByteArray.empty t480 x29_2)] (by rfl) rfl rfl maz_ ?_
       with_reducible refine (spec_l1Read.calls k2 (rdOf ByteArray.empty t480 x29_2) t484 _ A23.out).mono ?_
       rintro e w' ⟨rfl, ⟨nd, rfl⟩⟩
       refine ⟨_, rfl, ?_⟩
       refine hK.out _ _ ⟨(blk_cell BK478.out 0).trans rfl, (blk_cell BK478.out 1).trans rfl⟩ (fun hHeld => ?_)
       clear hK K
       refine nz_ 36 ?_
       refine one_ (i := 4) (N := some 37) (mz_ [5,3]) rfl rfl (one_of HT_.out (w94_)) (by decide) (fun K hK => ?_)
       refine value_ (w1 := ?_) (v := ?_) (by rfl) rfl ?_ ?_
       rotate_left 2
       ·go_simp
        constructor
        ·rfl
        ·rfl
       refine hK.out _ _ ⟨(blk_cell (kaz_ BK478.out _) 0).trans rfl, (blk_cell (kaz_ BK478.out _) 1).trans rfl⟩ (fun hHeld => ?_)
       clear hK K
       refine nz_ 37 ?_
       refine one_ (i := 5) (N := some 38) (mz_ [6,2]) rfl rfl (one_of HT_.out (w94_)) (by decide) (fun K hK => ?_)
       refine Kd.R_append_step (Kd.int .i64) (w0 := w) w.heap.size (by rfl) (.tmp 34) (.tmp 37) 24 3 (.int .i64 0) 8 rfl Tryz.underlying24 info3 rfl (by decide) (by omega) u479000 x479000_2 t484 [.int .i64 t484] (fun _ => True) (fun _ => False) rfl rfl ?aP (fun _ hk => hk.elim) ?aF ?aO ?aB ?aS ?aL ?_
       (case aP => exact rfl)
       (case aB => exact (w52_))
       (case aF => exact (fun _ _ => trivial))
       (case aO => exact (by exact urz_ HO_479000.out))
       (case aS => exact (below_size (w52_)))
       (case aL => have := LMc24.out; omega)
       intro v486 w26 ho hb hg hat
       rw [← Ny485.out] at ho
       have n0_ := Az_ (Kd.R_over' (by exact urz_ HO_27.out) (Kd.R_typed (by exact urz_ HO_479000.out)) (by decide) hg)
       have n1_ := Az_ (blk_grown (g := gb472) (o := .cells #[.slice none 0 0, .int .i64 0] 26 (0, 0)) (by exact ukz_ BK472.out) hg (Kd.R_ne HO_479000.out BK472.out (by decide)))
       have n2_ := Az_ (blk_grown (g := gb478) (o := .cells #[u479000, .int .i64 t477] 26 (0, 0)) (by exact ukz_ BK478.out) hg (Kd.R_ne HO_479000.out BK478.out (by decide)))
       have n3_ := Az_ (hb)
       have n4_ := Az_ (ho)
       clear HO_27 BK472 BK478 HB HO_479000
       have HO_27 := n0_
       have BK472 := n1_
       have BK478 := n2_
       have HB := n3_
       have HO487 := n4_
       clear n0_ n1_ n2_ n3_ n4_ ho hb hg hat
       obtain ⟨Ao27, co27, eo27⟩ := Kd.R_slice HO487.out
       (first | subst eo27 | (injection eo27 with f1_ f2_ f3_; have f4_ := f1_.symm; have f5_ := f3_.symm; clear f1_ f2_ f3_; subst f4_; subst f5_))
       refine hK.out _ _ ⟨(blk_cell BK478.out 0).trans rfl, (blk_cell BK478.out 1).trans rfl⟩ (fun hHeld => ?_)
       clear hK K
       refine nz_ 38 ?_
       refine pz_ 6 39 [7,1] ?_
       refine last_ (i := 7) (N := none) (mz_ [8]) rfl rfl (one_of HT_.out (w94_)) (by decide) (fun K hK => ?_)
       have hs28 : w26.cell? ⟨gb478, 0, none⟩ = some (u479000) := (blk_cell BK478.out 0).trans rfl
       have hfs28 := blk_frozen BK478.out 0
       have hns28_0 := NB472_478.out
       have hms28_0 := NB478_472.out
       refine skip_ (w1 := ?_) (by rfl) rfl ?_ ?_
       rotate_left
       ·go_simp
        rfl
       refine hK.out _ _ ?_
       clear hK K
       refine done_ (done_of HT_.out (w94_)) ?_
       try go_wp2
       go_roundg k2
       case measure => have := HJ2.out; have := HK2.out; omega
       case rel => exact ⟨(wrap64 (x29_2 + 1)), (y485), (.slice Ao27 y485.length co27), qaz_, H', ⟨by have := HJ2.out; have := HK2.out; omega⟩, ⟨by (with_reducible repeat (first | apply raz_ | apply rnz_ | apply rdz_)); exact Kd.R_mono (Kd.R_far (p := ⟨gb478, 0, none⟩) (Kd.R_types HO_27.out BK478.out (by decide)) (fun _ hk => hk.2) (.slice Ao27 y485.length co27)) (fun _ hk => trivial)⟩, ⟨by (with_reducible repeat (first | apply raz_ | apply rnz_ | apply rdz_)); exact Kd.R_mono (Kd.R_far (p := ⟨gb478, 0, none⟩) (Kd.R_types HO487.out BK478.out (by decide)) (fun _ hk => hk.2) (.slice Ao27 y485.length co27)) (fun _ hk => trivial)⟩, ⟨by (with_reducible repeat (first | refine knz_ ?_ _ | refine kdz_ ?_ | refine kaz_ ?_ _)); refine blk_far ?_ NB472_478.out _; (with_reducible repeat (first | refine knz_ ?_ _ | refine kdz_ ?_ | refine kaz_ ?_ _)); exact BK472.out⟩, ⟨by (with_reducible repeat (first | refine knz_ ?_ _ | refine kdz_ ?_ | refine kaz_ ?_ _)); refine blk_put (cs := #[u479000, .int .i64 t477]) ?_ 0 _ rfl; (with_reducible repeat (first | refine knz_ ?_ _ | refine kdz_ ?_ | refine kaz_ ?_ _)); exact BK478.out⟩, ⟨w52_⟩⟩
    ·rw [if_neg c10] at H
     exact absurd H (by simp)

def spec_ParseShelf.f (k : Nat) (a0 : ByteArray) : Option (List Int × Int × Bool) := (spec_shParse.f k a0).bind fun bt490 => (some (bt490.1, bt490.2.1, bt490.2.2))
set_option maxHeartbeats 8000000 in
set_option maxRecDepth 100000 in
theorem spec_ParseShelf.calls (k : Nat) (a0 : ByteArray) (r1 : List Int) (r2 : Int) (r3 : Bool) (w : World) (h : spec_ParseShelf.f k a0 = some (r1, r2, r3)) :
  Calls Tryz.prog 31 #[.string a0] w fun e w' => ∃ v0_ : Value, e = .returned (.tuple #[.agg #[v0_, .int .i64 r2], .bool r3]) ∧ Kd.R (Kd.int .i64) 3 w' w.heap.size (fun _ => True) v0_ r1 ∧ Below w.heap.size w w' := by
 have hu26 := Tryz.underlying26
 have HB := Az_ (Below.refl w.heap.size w)
 have H : ((spec_shParse.f k a0).bind fun bt490 => (some (bt490.1, bt490.2.1, bt490.2.2))) = some (r1, r2, r3) := h
 clear h
 replace H := bqz_ H; obtain ⟨⟨t490, t493, t494⟩, A2, H⟩ := H
 replace H : (some (t490, t493, t494)) = some (r1, r2, r3) := H
 simp only [Option.some.injEq, Prod.mk.injEq] at H
 obtain ⟨rfl, rfl, rfl⟩ := H
 go_enter Tryz.func31, Tryz.ntmps31
 go_wp2_with (first | ((with_reducible refine gate_dst (N := 2) rfl ?_); refine box_event ?hg (N := 2) ?hd (cs := #[.slice none 0 0, .int .i64 0]) (t := 26) ?hr ?_; (case hd => rfl); (case hg => rfl); (case hr => first | (go_simp; done) | (go_simp; rfl)); intro gb489 hg w3 hbox hb; have BK489 := Az_ (hbox); have GW489 := Az_ ((by rw [hg]; exact (below_size (ubz_ HB.out)) : w.heap.size ≤ gb489)); have GE489 := Az_ ((by rw [hg]; exact (below_size (ubz_ HB.out)) : w.heap.size ≤ gb489)); replace HB := Az_ (btz_ (ubz_ HB.out) hb); clear hb hbox hg) | ((with_reducible refine gate_callee (f := 56) rfl ?_); refine goesL_ (some 5) rfl rfl Tryz.func56 (w94_) rfl #[.string a0] rfl maz_ ?_; (with_reducible refine (spec_shParse.calls k a0 t490 t493 t494 _ A2.out).mono ?_); rintro e w4 ⟨v491, rfl, ho0, hb⟩; refine ⟨_, rfl, ?_⟩; have n0_ := Az_ (Kd.R_lower ho0 (below_size (w52_))); have n2_ := Az_ (btz_ (w52_) hb); clear HB; have HO492 := n0_; replace BK489 := Az_ (ukbz_ BK489.out hb); have HB := n2_; clear n0_ n2_; (try clear hb); (try clear ho0); obtain ⟨Ao5, co5, eo5⟩ := Kd.R_slice HO492.out; subst eo5; have hcz6_0 : w4.cell? ⟨gb489, 0, none⟩ = some (.slice none 0 0) := (blk_cell BK489.out 0).trans rfl; have hcz6_1 : w4.cell? ⟨gb489, 1, none⟩ = some (.int .i64 0) := (blk_cell BK489.out 1).trans rfl; have hfz6_0 := blk_frozen BK489.out 0; have hfz6_1 := blk_frozen BK489.out 1))
 refine bodyPost_ret (results_ct rfl _ _ gb489 26 #[.slice Ao5 t490.length co5, .int .i64 t493] (0, 0) _ rfl (by (with_reducible repeat (first | refine knz_ ?_ _ | refine kdz_ ?_ | refine kaz_ ?_ _)); refine blk_put (cs := #[.slice Ao5 t490.length co5, .int .i64 0]) ?_ 1 _ rfl; (with_reducible repeat (first | refine knz_ ?_ _ | refine kdz_ ?_ | refine kaz_ ?_ _)); refine blk_put (cs := #[.slice none 0 0, .int .i64 0]) ?_ 0 _ rfl; (with_reducible repeat (first | refine knz_ ?_ _ | refine kdz_ ?_ | refine kaz_ ?_ _)); exact BK489.out) Tryz.underlying26 rfl (w94_)) rfl ?_
 exact ⟨_, w74_, by (with_reducible repeat (first | apply raz_ | apply rnz_ | apply rdz_)); exact Kd.R_mono (Kd.R_far (p := ⟨gb489, 1, none⟩) (Kd.R_far (p := ⟨gb489, 0, none⟩) (Kd.R_types HO492.out BK489.out (by decide)) (fun _ hk => hk.2) (.slice Ao5 t490.length co5)) (fun _ hk => hk.2) (.int .i64 t493)) (fun _ hk => trivial), w52_⟩


mutual
def laws_FnShelvesEaten.j0 : Nat → List Int → Int → Bool → Int → Bool → Int → Bool → Int → List Int → Int → Bool → Int → Int → Bool → ByteArray → Bool → List Int → Int → Option (Bool)
 | 0, _, _, _, _, _, _, _, _, _, _, _, _, _, _, _, _, _, _ => none
 | k + 1, x1, x6, x7, x8, x9, x10, x11, x14, x18, x22, x23, x26, x27, x28, x32, x287, x505000, x505001 => if x287 = true then (some false) else (if x11 = true then ((impl_FaceOf.f k x505000 x505001 x6 x7).bind fun bt542 => ((impl_FaceOf.f k x505000 x505001 x8 x9).bind fun bt544 => ((impl_WormEats.f k x505000 x505001 x8 x9 x6 x7).bind fun bt546 => ((impl_CoversEaten.f k x505000 x505001 x8 x9 x6 x7).bind fun bt548 => (laws_FnShelvesEaten.l0 k x1 x10 x14 x18 x22 x23 x26 x27 x28 x32 bt542.1 bt542.2 bt544.1 bt544.2 bt546.1 bt546.2 bt548.1 bt548.2 (wrap64 (x14 * x505001)) x18 (x18.length : Int) 0 x505000 x505001))))) else (laws_FnShelvesEaten.j2 k x1 x22 x23 x26 x27 x28 x32 x505000 x505001))
def laws_FnShelvesEaten.j2 : Nat → List Int → Int → Bool → Int → Int → Bool → ByteArray → List Int → Int → Option (Bool)
 | 0, _, _, _, _, _, _, _, _, _ => none
 | k + 1, x1, x22, x23, x26, x27, x28, x32, x505000, x505001 => if x23 = true then ((impl_ParseShelf.f k x32).bind fun bt554 => ((laws_fSum.f k x505000).bind fun t560 => (if x22 = (wrap64 (t560 + (wrap64 ((wrap64 (2 * x505001)) * (x505000.length : Int))))) then (if bt554.2.2 = true then ((laws_fShelf.f k bt554.1 bt554.2.1 x505000 x505001).bind fun t561 => (if t561 = true then (laws_FnShelvesEaten.j3 k x1 x22 x26 x27 x28 (x28 != (decide ((x505000.length : Int) > 1))) x505000 x505001) else (laws_FnShelvesEaten.j3 k x1 x22 x26 x27 x28 true x505000 x505001))) else (laws_FnShelvesEaten.j3 k x1 x22 x26 x27 x28 true x505000 x505001)) else (laws_FnShelvesEaten.j3 k x1 x22 x26 x27 x28 true x505000 x505001)))) else (laws_FnShelvesEaten.j5 k x1 x26 x27 x28 x505000 x505001)
def laws_FnShelvesEaten.j5 : Nat → List Int → Int → Int → Bool → List Int → Int → Option (Bool)
 | 0, _, _, _, _, _, _ => none
 | k + 1, x1, x26, x27, x28, x505000, x505001 => if x28 = true then ((impl_WormEats.f k x505000 x505001 x26 false x27 true).bind fun bt570 => (if bt570.2 = true then (laws_FnShelvesEaten.j6 k x1 x26 x27 bt570.1 (x26 == x27) x505000 x505001) else (laws_FnShelvesEaten.j6 k x1 x26 x27 bt570.1 true x505000 x505001))) else (laws_FnShelvesEaten.j9 k x1)
def laws_FnShelvesEaten.j9 : Nat → List Int → Option (Bool)
 | 0, _ => none
 | k + 1, x1 => (spec_DrawSwapVolumes.f k x1).bind fun bt574 => ((impl_SwapVolumes.f k bt574.1 bt574.2.1 bt574.2.2.1 bt574.2.2.2).bind fun bt581 => ((spec_SwapVolumes.f k bt574.1 bt574.2.1 bt574.2.2.1 bt574.2.2.2).bind fun bt587 => ((spec_DrawParseShelf.f k x1).bind fun t593 => ((impl_ParseShelf.f k t593).bind fun bt594 => ((spec_ParseShelf.f k t593).bind fun bt600 => (if (bt581.2.2 != bt587.2.2) = true then (laws_FnShelvesEaten.j10 k bt574.2.2.1 bt574.2.2.2 bt581.2.2 t593 bt594.2.2 true bt574.1 bt574.2.1 bt581.1 bt581.2.1 bt594.1 bt594.2.1) else ((laws_fShelf.f k bt581.1 bt581.2.1 bt587.1 bt587.2.1).bind fun t606 => (if t606 = true then (if (bt594.2.2 != bt600.2.2) = true then (laws_FnShelvesEaten.j10 k bt574.2.2.1 bt574.2.2.2 bt581.2.2 t593 bt594.2.2 true bt574.1 bt574.2.1 bt581.1 bt581.2.1 bt594.1 bt594.2.1) else ((laws_fShelf.f k bt594.1 bt594.2.1 bt600.1 bt600.2.1).bind fun t607 => (laws_FnShelvesEaten.j10 k bt574.2.2.1 bt574.2.2.2 bt581.2.2 t593 bt594.2.2 (!t607) bt574.1 bt574.2.1 bt581.1 bt581.2.1 bt594.1 bt594.2.1))) else (laws_FnShelvesEaten.j10 k bt574.2.2.1 bt574.2.2.2 bt581.2.2 t593 bt594.2.2 true bt574.1 bt574.2.1 bt581.1 bt581.2.1 bt594.1 bt594.2.1)))))))))
def laws_FnShelvesEaten.j10 : Nat → Int → Int → Bool → ByteArray → Bool → Bool → List Int → Int → List Int → Int → List Int → Int → Option (Bool)
 | 0, _, _, _, _, _, _, _, _, _, _, _, _ => none
 | k + 1, x66, x67, x69, x72, x74, x622, x581000, x581001, x587000, x587001, x600000, x600001 => if x622 = true then (some false) else (if x69 = true then ((impl_SwapVolumes.f k x587000 x587001 x66 x67).bind fun bt608 => ((impl_WidthOf.f k x581000 x581001).bind fun bt614 => ((impl_WidthOf.f k x587000 x587001).bind fun bt616 => (if bt608.2.2 = true then ((laws_fShelf.f k bt608.1 bt608.2.1 x581000 x581001).bind fun t618 => (if t618 = true then (if bt614.2 = true then (if bt616.2 = true then (laws_FnShelvesEaten.j11 k x72 x74 (bt614.1 != bt616.1) x600000 x600001) else (laws_FnShelvesEaten.j11 k x72 x74 true x600000 x600001)) else (laws_FnShelvesEaten.j11 k x72 x74 true x600000 x600001)) else (laws_FnShelvesEaten.j11 k x72 x74 true x600000 x600001))) else (laws_FnShelvesEaten.j11 k x72 x74 true x600000 x600001))))) else (if x74 = true then ((impl_ShelfText.f k x600000 x600001).bind fun bt621 => (if bt621.2 = true then (some (bt621.1.toList == x72.toList)) else (some false))) else (some true)))
def laws_FnShelvesEaten.j11 : Nat → ByteArray → Bool → Bool → List Int → Int → Option (Bool)
 | 0, _, _, _, _, _ => none
 | k + 1, x72, x74, x661, x600000, x600001 => if x661 = true then (some false) else (if x74 = true then ((impl_ShelfText.f k x600000 x600001).bind fun bt619 => (if bt619.2 = true then (some (bt619.1.toList == x72.toList)) else (some false))) else (some true))
def laws_FnShelvesEaten.j6 : Nat → List Int → Int → Int → Int → Bool → List Int → Int → Option (Bool)
 | 0, _, _, _, _, _, _, _ => none
 | k + 1, x1, x26, x27, x59, x517, x505000, x505001 => if x517 = true then (some false) else (laws_FnShelvesEaten.l2 k x1 x26 x27 x59 (x505000.length : Int) 0 x505000 x505001)
def laws_FnShelvesEaten.l2 : Nat → List Int → Int → Int → Int → Int → Int → List Int → Int → Option (Bool)
 | 0, _, _, _, _, _, _, _, _ => none
 | k + 1, x1, x26, x27, x59, x520, x521, x505000, x505001 => if x521 < x520 then (laws_FnShelvesEaten.l3 k x1 x26 x27 x59 x521 x520 x521 (x505000.length : Int) 0 x505000 x505001) else (laws_FnShelvesEaten.j9 k x1)
def laws_FnShelvesEaten.l3 : Nat → List Int → Int → Int → Int → Int → Int → Int → Int → Int → List Int → Int → Option (Bool)
 | 0, _, _, _, _, _, _, _, _, _, _, _ => none
 | k + 1, x1, x26, x27, x59, x61, x520, x521, x526, x527, x505000, x505001 => if x527 < x526 then ((impl_WormEats.f k x505000 x505001 x61 false x527 true).bind fun bt572 => (if x61 = x527 then (laws_FnShelvesEaten.l3 k x1 x26 x27 x59 x61 x520 x521 x526 (wrap64 (x527 + 1)) x505000 x505001) else (if bt572.2 = true then (if bt572.1 > x59 then (some false) else (if bt572.1 = x59 then (if x61 < x26 then (some false) else (if x61 = x26 then (if x527 < x27 then (some false) else (laws_FnShelvesEaten.l3 k x1 x26 x27 x59 x61 x520 x521 x526 (wrap64 (x527 + 1)) x505000 x505001)) else (laws_FnShelvesEaten.l3 k x1 x26 x27 x59 x61 x520 x521 x526 (wrap64 (x527 + 1)) x505000 x505001))) else (laws_FnShelvesEaten.l3 k x1 x26 x27 x59 x61 x520 x521 x526 (wrap64 (x527 + 1)) x505000 x505001))) else (some false)))) else (laws_FnShelvesEaten.l2 k x1 x26 x27 x59 x520 (wrap64 (x521 + 1)) x505000 x505001)
def laws_FnShelvesEaten.j3 : Nat → List Int → Int → Int → Int → Bool → Bool → List Int → Int → Option (Bool)
 | 0, _, _, _, _, _, _, _, _ => none
 | k + 1, x1, x22, x26, x27, x28, x428, x505000, x505001 => if x428 = true then (some false) else (laws_FnShelvesEaten.l1 k x1 x22 x26 x27 x28 0 x505000 (x505000.length : Int) 0 x505000 x505001)
def laws_FnShelvesEaten.l1 : Nat → List Int → Int → Int → Int → Bool → Int → List Int → Int → Int → List Int → Int → Option (Bool)
 | 0, _, _, _, _, _, _, _, _, _, _, _ => none
 | k + 1, x1, x22, x26, x27, x28, x49, x430, x431, x432, x505000, x505001 => if x432 < x431 then (if 0 ≤ x432 then (if x432 < (x430.length : Int) then ((impl_PlaceOfVolume.f k x505000 x505001 x432).bind fun bt563 => ((impl_FaceOf.f k x505000 x505001 x432 false).bind fun bt566 => ((impl_FaceOf.f k x505000 x505001 x432 true).bind fun bt568 => (if bt563.2.2 = true then (if bt563.1 = x49 then (if bt563.2.1 = (wrap64 ((wrap64 (bt563.1 + (rd x430 x432))) + (wrap64 (2 * x505001)))) then (if bt566.2 = true then (if bt566.1 = (wrap64 (bt563.2.1 - x505001)) then (if bt568.2 = true then (if bt568.1 = (wrap64 (bt563.1 + x505001)) then (laws_FnShelvesEaten.l1 k x1 x22 x26 x27 x28 bt563.2.1 x430 x431 (wrap64 (x432 + 1)) x505000 x505001) else (some false)) else (some false)) else (some false)) else (some false)) else (some false)) else (some false)) else (some false))))) else (none)) else (none)) else (if x49 = x22 then (laws_FnShelvesEaten.j5 k x1 x26 x27 x28 x505000 x505001) else (some false))
def laws_FnShelvesEaten.l0 : Nat → List Int → Int → Int → List Int → Int → Bool → Int → Int → Bool → ByteArray → Int → Bool → Int → Bool → Int → Bool → Int → Bool → Int → List Int → Int → Int → List Int → Int → Option (Bool)
 | 0, _, _, _, _, _, _, _, _, _, _, _, _, _, _, _, _, _, _, _, _, _, _, _, _ => none
 | k + 1, x1, x10, x14, x18, x22, x23, x26, x27, x28, x32, x36, x37, x38, x39, x40, x41, x42, x43, x44, x325, x326, x327, x505000, x505001 => if x327 < x326 then (if 0 ≤ x327 then (if x327 < (x325.length : Int) then (if 0 ≤ (rd x325 x327) then (if (rd x325 x327) < (x505000.length : Int) then (laws_FnShelvesEaten.l0 k x1 x10 x14 x18 x22 x23 x26 x27 x28 x32 x36 x37 x38 x39 x40 x41 x42 x43 (wrap64 (x44 + (rd x505000 (rd x325 x327)))) x325 x326 (wrap64 (x327 + 1)) x505000 x505001) else (none)) else (none)) else (none)) else (none)) else (if x37 = true then (if x39 = true then (if x10 = (wrap64 (x36 - x38)) then (if x41 = true then (if x40 = x10 then (if x43 = true then (if x42 = x14 then (if x44 = x10 then (if (Int.tmod x14 2) = 0 then ((laws_fRises.f k x18).bind fun t552 => (if t552 = true then (laws_FnShelvesEaten.j2 k x1 x22 x23 x26 x27 x28 x32 x505000 x505001) else (some false))) else (some false)) else (some false)) else (some false)) else (some false)) else (some false)) else (some false)) else (if x10 = (wrap64 (x38 - x36)) then (if x41 = true then (if x40 = x10 then (if x43 = true then (if x42 = x14 then (if x44 = x10 then (if (Int.tmod x14 2) = 0 then ((laws_fRises.f k x18).bind fun t553 => (if t553 = true then (laws_FnShelvesEaten.j2 k x1 x22 x23 x26 x27 x28 x32 x505000 x505001) else (some false))) else (some false)) else (some false)) else (some false)) else (some false)) else (some false)) else (some false)) else (some false))) else (some false)) else (some false))
end
def laws_FnShelvesEaten.f (k : Nat) (l0 : List Int) (l1 : List Int) : Option (Bool) := (laws_big.f l0 l1).bind fun t495 => (if t495 = true then (some true) else ((spec_DrawWormEats.f k l0).bind fun bt496 => ((impl_WormEats.f k bt496.1 bt496.2.1 bt496.2.2.1 bt496.2.2.2.1 bt496.2.2.2.2.1 bt496.2.2.2.2.2).bind fun bt505 => ((spec_WormEats.f k bt496.1 bt496.2.1 bt496.2.2.1 bt496.2.2.2.1 bt496.2.2.2.2.1 bt496.2.2.2.2.2).bind fun bt507 => ((impl_CoversEaten.f k bt496.1 bt496.2.1 bt496.2.2.1 bt496.2.2.2.1 bt496.2.2.2.2.1 bt496.2.2.2.2.2).bind fun bt509 => ((spec_CoversEaten.f k bt496.1 bt496.2.1 bt496.2.2.1 bt496.2.2.2.1 bt496.2.2.2.2.1 bt496.2.2.2.2.2).bind fun bt511 => ((impl_PagesEaten.f k bt496.1 bt496.2.1 bt496.2.2.1 bt496.2.2.2.1 bt496.2.2.2.2.1 bt496.2.2.2.2.2).bind fun bt513 => ((spec_PagesEaten.f k bt496.1 bt496.2.1 bt496.2.2.1 bt496.2.2.2.1 bt496.2.2.2.2.1 bt496.2.2.2.2.2).bind fun bt517 => ((impl_WidthOf.f k bt496.1 bt496.2.1).bind fun bt521 => ((spec_WidthOf.f k bt496.1 bt496.2.1).bind fun bt523 => ((impl_LongestWorm.f k bt496.1 bt496.2.1).bind fun bt525 => ((spec_LongestWorm.f k bt496.1 bt496.2.1).bind fun bt528 => ((impl_ShelfText.f k bt496.1 bt496.2.1).bind fun bt531 => ((spec_ShelfText.f k bt496.1 bt496.2.1).bind fun bt533 => (if (bt505.2 != bt507.2) = true then (laws_FnShelvesEaten.j0 k l1 bt496.2.2.1 bt496.2.2.2.1 bt496.2.2.2.2.1 bt496.2.2.2.2.2 bt505.1 bt505.2 bt509.1 bt513.1 bt521.1 bt521.2 bt525.1 bt525.2.1 bt525.2.2 bt531.1 true bt496.1 bt496.2.1) else (if bt505.1 = bt507.1 then (if (bt509.2 != bt511.2) = true then (laws_FnShelvesEaten.j0 k l1 bt496.2.2.1 bt496.2.2.2.1 bt496.2.2.2.2.1 bt496.2.2.2.2.2 bt505.1 bt505.2 bt509.1 bt513.1 bt521.1 bt521.2 bt525.1 bt525.2.1 bt525.2.2 bt531.1 true bt496.1 bt496.2.1) else (if bt509.1 = bt511.1 then (if (bt513.2 != bt517.2) = true then (laws_FnShelvesEaten.j0 k l1 bt496.2.2.1 bt496.2.2.2.1 bt496.2.2.2.2.1 bt496.2.2.2.2.2 bt505.1 bt505.2 bt509.1 bt513.1 bt521.1 bt521.2 bt525.1 bt525.2.1 bt525.2.2 bt531.1 true bt496.1 bt496.2.1) else ((laws_fSame.f k bt513.1 bt517.1).bind fun t535 => (if t535 = true then (if (bt521.2 != bt523.2) = true then (laws_FnShelvesEaten.j0 k l1 bt496.2.2.1 bt496.2.2.2.1 bt496.2.2.2.2.1 bt496.2.2.2.2.2 bt505.1 bt505.2 bt509.1 bt513.1 bt521.1 bt521.2 bt525.1 bt525.2.1 bt525.2.2 bt531.1 true bt496.1 bt496.2.1) else (if bt521.1 = bt523.1 then (if (bt525.2.2 != bt528.2.2) = true then (laws_FnShelvesEaten.j0 k l1 bt496.2.2.1 bt496.2.2.2.1 bt496.2.2.2.2.1 bt496.2.2.2.2.2 bt505.1 bt505.2 bt509.1 bt513.1 bt521.1 bt521.2 bt525.1 bt525.2.1 bt525.2.2 bt531.1 true bt496.1 bt496.2.1) else (if bt525.1 = bt528.1 then (if bt525.2.1 = bt528.2.1 then (if (bt531.2 != bt533.2) = true then (laws_FnShelvesEaten.j0 k l1 bt496.2.2.1 bt496.2.2.2.1 bt496.2.2.2.2.1 bt496.2.2.2.2.2 bt505.1 bt505.2 bt509.1 bt513.1 bt521.1 bt521.2 bt525.1 bt525.2.1 bt525.2.2 bt531.1 true bt496.1 bt496.2.1) else (if bt531.1.toList = bt533.1.toList then (if (bt509.2 != bt505.2) = true then (laws_FnShelvesEaten.j0 k l1 bt496.2.2.1 bt496.2.2.2.1 bt496.2.2.2.2.1 bt496.2.2.2.2.2 bt505.1 bt505.2 bt509.1 bt513.1 bt521.1 bt521.2 bt525.1 bt525.2.1 bt525.2.2 bt531.1 true bt496.1 bt496.2.1) else (if (bt513.2 != bt505.2) = true then (laws_FnShelvesEaten.j0 k l1 bt496.2.2.1 bt496.2.2.2.1 bt496.2.2.2.2.1 bt496.2.2.2.2.2 bt505.1 bt505.2 bt509.1 bt513.1 bt521.1 bt521.2 bt525.1 bt525.2.1 bt525.2.2 bt531.1 true bt496.1 bt496.2.1) else (if bt505.2 = true then (if bt521.2 = true then ((impl_IsShelf.f k bt496.1 bt496.2.1).bind fun t536 => (if (bt521.2 != t536) = true then (laws_FnShelvesEaten.j0 k l1 bt496.2.2.1 bt496.2.2.2.1 bt496.2.2.2.2.1 bt496.2.2.2.2.2 bt505.1 bt505.2 bt509.1 bt513.1 bt521.1 bt521.2 bt525.1 bt525.2.1 bt525.2.2 bt531.1 true bt496.1 bt496.2.1) else ((impl_IsShelf.f k bt496.1 bt496.2.1).bind fun t537 => ((spec_IsShelf.f k bt496.1 bt496.2.1).bind fun t538 => (if (t537 != t538) = true then (laws_FnShelvesEaten.j0 k l1 bt496.2.2.1 bt496.2.2.2.1 bt496.2.2.2.2.1 bt496.2.2.2.2.2 bt505.1 bt505.2 bt509.1 bt513.1 bt521.1 bt521.2 bt525.1 bt525.2.1 bt525.2.2 bt531.1 true bt496.1 bt496.2.1) else (if (bt531.2 != bt521.2) = true then (laws_FnShelvesEaten.j0 k l1 bt496.2.2.1 bt496.2.2.2.1 bt496.2.2.2.2.1 bt496.2.2.2.2.2 bt505.1 bt505.2 bt509.1 bt513.1 bt521.1 bt521.2 bt525.1 bt525.2.1 bt525.2.2 bt531.1 true bt496.1 bt496.2.1) else (if bt525.2.2 = true then (laws_FnShelvesEaten.j0 k l1 bt496.2.2.1 bt496.2.2.2.1 bt496.2.2.2.2.1 bt496.2.2.2.2.2 bt505.1 bt505.2 bt509.1 bt513.1 bt521.1 bt521.2 bt525.1 bt525.2.1 bt525.2.2 bt531.1 (!bt521.2) bt496.1 bt496.2.1) else (laws_FnShelvesEaten.j0 k l1 bt496.2.2.1 bt496.2.2.2.1 bt496.2.2.2.2.1 bt496.2.2.2.2.2 bt505.1 bt505.2 bt509.1 bt513.1 bt521.1 bt521.2 bt525.1 bt525.2.1 bt525.2.2 bt531.1 false bt496.1 bt496.2.1)))))))) else (laws_FnShelvesEaten.j0 k l1 bt496.2.2.1 bt496.2.2.2.1 bt496.2.2.2.2.1 bt496.2.2.2.2.2 bt505.1 bt505.2 bt509.1 bt513.1 bt521.1 bt521.2 bt525.1 bt525.2.1 bt525.2.2 bt531.1 true bt496.1 bt496.2.1)) else ((impl_IsShelf.f k bt496.1 bt496.2.1).bind fun t539 => (if (bt521.2 != t539) = true then (laws_FnShelvesEaten.j0 k l1 bt496.2.2.1 bt496.2.2.2.1 bt496.2.2.2.2.1 bt496.2.2.2.2.2 bt505.1 bt505.2 bt509.1 bt513.1 bt521.1 bt521.2 bt525.1 bt525.2.1 bt525.2.2 bt531.1 true bt496.1 bt496.2.1) else ((impl_IsShelf.f k bt496.1 bt496.2.1).bind fun t540 => ((spec_IsShelf.f k bt496.1 bt496.2.1).bind fun t541 => (if (t540 != t541) = true then (laws_FnShelvesEaten.j0 k l1 bt496.2.2.1 bt496.2.2.2.1 bt496.2.2.2.2.1 bt496.2.2.2.2.2 bt505.1 bt505.2 bt509.1 bt513.1 bt521.1 bt521.2 bt525.1 bt525.2.1 bt525.2.2 bt531.1 true bt496.1 bt496.2.1) else (if (bt531.2 != bt521.2) = true then (laws_FnShelvesEaten.j0 k l1 bt496.2.2.1 bt496.2.2.2.1 bt496.2.2.2.2.1 bt496.2.2.2.2.2 bt505.1 bt505.2 bt509.1 bt513.1 bt521.1 bt521.2 bt525.1 bt525.2.1 bt525.2.2 bt531.1 true bt496.1 bt496.2.1) else (if bt525.2.2 = true then (laws_FnShelvesEaten.j0 k l1 bt496.2.2.1 bt496.2.2.2.1 bt496.2.2.2.2.1 bt496.2.2.2.2.2 bt505.1 bt505.2 bt509.1 bt513.1 bt521.1 bt521.2 bt525.1 bt525.2.1 bt525.2.2 bt531.1 (!bt521.2) bt496.1 bt496.2.1) else (laws_FnShelvesEaten.j0 k l1 bt496.2.2.1 bt496.2.2.2.1 bt496.2.2.2.2.1 bt496.2.2.2.2.2 bt505.1 bt505.2 bt509.1 bt513.1 bt521.1 bt521.2 bt525.1 bt525.2.1 bt525.2.2 bt531.1 false bt496.1 bt496.2.1))))))))))) else (laws_FnShelvesEaten.j0 k l1 bt496.2.2.1 bt496.2.2.2.1 bt496.2.2.2.2.1 bt496.2.2.2.2.2 bt505.1 bt505.2 bt509.1 bt513.1 bt521.1 bt521.2 bt525.1 bt525.2.1 bt525.2.2 bt531.1 true bt496.1 bt496.2.1))) else (laws_FnShelvesEaten.j0 k l1 bt496.2.2.1 bt496.2.2.2.1 bt496.2.2.2.2.1 bt496.2.2.2.2.2 bt505.1 bt505.2 bt509.1 bt513.1 bt521.1 bt521.2 bt525.1 bt525.2.1 bt525.2.2 bt531.1 true bt496.1 bt496.2.1)) else (laws_FnShelvesEaten.j0 k l1 bt496.2.2.1 bt496.2.2.2.1 bt496.2.2.2.2.1 bt496.2.2.2.2.2 bt505.1 bt505.2 bt509.1 bt513.1 bt521.1 bt521.2 bt525.1 bt525.2.1 bt525.2.2 bt531.1 true bt496.1 bt496.2.1))) else (laws_FnShelvesEaten.j0 k l1 bt496.2.2.1 bt496.2.2.2.1 bt496.2.2.2.2.1 bt496.2.2.2.2.2 bt505.1 bt505.2 bt509.1 bt513.1 bt521.1 bt521.2 bt525.1 bt525.2.1 bt525.2.2 bt531.1 true bt496.1 bt496.2.1))) else (laws_FnShelvesEaten.j0 k l1 bt496.2.2.1 bt496.2.2.2.1 bt496.2.2.2.2.1 bt496.2.2.2.2.2 bt505.1 bt505.2 bt509.1 bt513.1 bt521.1 bt521.2 bt525.1 bt525.2.1 bt525.2.2 bt531.1 true bt496.1 bt496.2.1)))) else (laws_FnShelvesEaten.j0 k l1 bt496.2.2.1 bt496.2.2.2.1 bt496.2.2.2.2.1 bt496.2.2.2.2.2 bt505.1 bt505.2 bt509.1 bt513.1 bt521.1 bt521.2 bt525.1 bt525.2.1 bt525.2.2 bt531.1 true bt496.1 bt496.2.1))) else (laws_FnShelvesEaten.j0 k l1 bt496.2.2.1 bt496.2.2.2.1 bt496.2.2.2.2.1 bt496.2.2.2.2.2 bt505.1 bt505.2 bt509.1 bt513.1 bt521.1 bt521.2 bt525.1 bt525.2.1 bt525.2.2 bt531.1 true bt496.1 bt496.2.1)))))))))))))))))
def laws_FnShelvesEaten.T16 : Bool × List (List Nat × List Nat) := (true, [([], []), ([], []), ([0, 1], [0, 1]), ([2], [2]), ([3], [3]), ([3], [3]), ([4, 5, 3], [3, 4, 5]), ([3, 6], [3, 6]), ([7, 3], [7]), ([8], [8]), ([8], [8]), ([9, 10, 8], [8, 9, 10]), ([8, 11], [8, 11]), ([12, 8], [12]), ([13], [13]), ([13], [13]), ([14, 15, 13], [13, 14, 15]), ([13, 16], [13, 16]), ([17, 13], [17]), ([18], [18]), ([18], [18]), ([19, 20, 18], [18, 19, 20]), ([18, 21], [18, 21]), ([22, 18], [22]), ([23], [23]), ([23], [23]), ([24, 25, 23, 23], [23, 24, 25]), ([26, 23], [23, 26]), ([23, 27], [23, 27]), ([28, 26], [28]), ([29], [29]), ([29], [29]), ([30, 31, 29], [29, 30, 31]), ([29, 32], [29, 32]), ([33, 29], [33]), ([34], [34]), ([34], [34]), ([35, 36, 34], [34, 35, 36]), ([34, 37], [34, 37]), ([38, 34], [38]), ([39], [39]), ([39], [39]), ([40, 41, 39], [39, 40, 41]), ([39, 42], [39, 42]), ([43, 39], [43]), ([44], [44]), ([44], [44]), ([45, 46, 44], [44, 45, 46]), ([44, 47], [44, 47]), ([48, 44], [48]), ([49], [49]), ([49], [49]), ([50, 51, 49], [49, 50, 51]), ([49, 52], [49, 52]), ([53, 49], [53]), ([54], [54]), ([54], [54]), ([55, 56, 54], [54, 55, 56]), ([54, 57], [54, 57]), ([58, 54], [58]), ([59], [59]), ([59], [59]), ([60, 61, 59], [59, 60, 61]), ([59, 62], [59, 62]), ([63, 59], [63]), ([64], [64]), ([64], [64]), ([65, 66, 64], [64, 65, 66]), ([64, 67], [64, 67]), ([68, 64], [68]), ([69], [69]), ([69], [69]), ([70, 71, 69], [69, 70, 71]), ([69, 72], [69, 72]), ([73, 69], [73]), ([74], [74]), ([75, 74, 74], [74, 75]), ([76], [76]), ([77, 76], [76, 77]), ([76, 78, 74], [74, 76, 78]), ([74, 79], [74, 79]), ([80, 76], [80]), ([81], [81]), ([81], [81]), ([83, 81, 81], [81, 83]), ([82, 84, 81], [81, 82, 84]), ([81, 85], [81, 85]), ([86, 84], [86]), ([87], [87]), ([88, 87, 87], [87, 88]), ([87], [87]), ([90, 89, 87], [87, 90]), ([89, 91, 87], [87, 89, 91]), ([87, 92], [87, 92]), ([93, 91], [93]), ([94], [94]), ([94], [94]), ([95, 96, 94], [94, 95, 96]), ([94, 97], [94, 97]), ([98, 94], [98]), ([99], [99]), ([100, 99, 99], [99, 100]), ([101], [101]), ([102, 101], [101, 102]), ([101, 103, 99], [99, 101, 103]), ([99, 104], [99, 104])])
def laws_FnShelvesEaten.B16 : List Nat := [0, 0, 3, 7, 15, 15, 63, 127, 255, 511, 511, 2047, 4095, 8191, 16383, 16383, 65535, 131071, 262143, 524287, 524287, 2097151, 4194303, 8388607, 16777215, 16777215, 67108863, 134217727, 268435455, 536870911, 1073741823, 1073741823, 4294967295, 8589934591, 17179869183, 34359738367, 34359738367, 137438953471, 274877906943, 549755813887, 1099511627775, 1099511627775, 4398046511103, 8796093022207, 17592186044415, 35184372088831, 35184372088831, 140737488355327, 281474976710655, 562949953421311, 1125899906842623, 1125899906842623, 4503599627370495, 9007199254740991, 18014398509481983, 36028797018963967, 36028797018963967, 144115188075855871, 288230376151711743, 576460752303423487, 1152921504606846975, 1152921504606846975, 4611686018427387903, 9223372036854775807, 18446744073709551615, 36893488147419103231, 36893488147419103231, 147573952589676412927, 295147905179352825855, 590295810358705651711, 1180591620717411303423, 1180591620717411303423, 4722366482869645213695, 9444732965739290427391, 18889465931478580854783, 37778931862957161709567, 75557863725914323419135, 151115727451828646838271, 302231454903657293676543, 604462909807314587353087, 1208925819614629174706175, 2417851639229258349412351, 4835703278458516698824703, 4835703278458516698824703, 14507109835375550096474111, 38685626227668133590597631, 77371252455336267181195263, 154742504910672534362390527, 309485009821345068724781055, 618970019642690137449562111, 309485009821345068724781055, 2475880078570760549798248447, 4951760157141521099596496895, 9903520314283042199192993791, 19807040628566084398385987583, 39614081257132168796771975167, 39614081257132168796771975167, 158456325028528675187087900671, 316912650057057350374175801343, 633825300114114700748351602687, 1267650600228229401496703205375, 2535301200456458802993406410751, 5070602400912917605986812821503, 10141204801825835211973625643007, 20282409603651670423947251286015, 40564819207303340847894502572031]
theorem laws_FnShelvesEaten.tab16 : rtab .any (opsOf Tryz.f3 16) = laws_FnShelvesEaten.T16 := by kernel_rfl
theorem laws_FnShelvesEaten.bits16 : waitsOk laws_FnShelvesEaten.T16.2 laws_FnShelvesEaten.B16 = true := by kernel_rfl
def laws_FnShelvesEaten.T33 : Bool × List (List Nat × List Nat) := (true, [([], []), ([], []), ([1], [1]), ([2], [2]), ([], []), ([4], [4]), ([5], [5]), ([], []), ([7], [7]), ([8], [8]), ([6, 9], [6, 9]), ([3, 10], [3, 10]), ([0, 11], [0, 11]), ([12, 3], [12]), ([13], [13]), ([14, 13], [13, 14]), ([13, 15], [13, 15]), ([16, 13], [16]), ([17], [17]), ([17], [17]), ([18, 19, 17, 17], [17, 18, 19]), ([20, 17], [17, 20]), ([17, 21], [17, 21]), ([22, 20], [22]), ([23], [23]), ([23], [23]), ([25, 23], [23, 25]), ([26, 23], [23, 26]), ([27, 23], [23, 27]), ([24, 28, 23], [23, 24, 28]), ([23, 29], [23, 29])])
def laws_FnShelvesEaten.B33 : List Nat := [0, 0, 2, 6, 0, 16, 48, 0, 128, 384, 1008, 2046, 4095, 8191, 16383, 32767, 65535, 131071, 262143, 262143, 1048575, 2097151, 4194303, 8388607, 16777215, 16777215, 50331647, 117440511, 251658239, 536870911, 1073741823]
theorem laws_FnShelvesEaten.tab33 : rtab .any (opsOf Tryz.f3 33) = laws_FnShelvesEaten.T33 := by kernel_rfl
theorem laws_FnShelvesEaten.bits33 : waitsOk laws_FnShelvesEaten.T33.2 laws_FnShelvesEaten.B33 = true := by kernel_rfl
theorem laws_FnShelvesEaten.j0_no (k : Nat) (y0_ : List Int) (y1_ : Int) (y2_ : Bool) (y3_ : Int) (y4_ : Bool) (y5_ : Int) (y6_ : Bool) (y7_ : Int) (y8_ : List Int) (y9_ : Int) (y10_ : Bool) (y11_ : Int) (y12_ : Int) (y13_ : Bool) (y14_ : ByteArray) (y16_ : List Int) (y17_ : Int) (r : Bool) (hr : r = true) (H : laws_FnShelvesEaten.j0 k y0_ y1_ y2_ y3_ y4_ y5_ y6_ y7_ y8_ y9_ y10_ y11_ y12_ y13_ y14_ true y16_ y17_ = some r) : False := by
 subst hr
 cases k with
 | zero => simp [laws_FnShelvesEaten.j0] at H
 | succ k => rw [laws_FnShelvesEaten.j0, if_pos rfl] at H; cases H
theorem laws_FnShelvesEaten.j10_no (k : Nat) (y0_ : Int) (y1_ : Int) (y2_ : Bool) (y3_ : ByteArray) (y4_ : Bool) (y6_ : List Int) (y7_ : Int) (y8_ : List Int) (y9_ : Int) (y10_ : List Int) (y11_ : Int) (r : Bool) (hr : r = true) (H : laws_FnShelvesEaten.j10 k y0_ y1_ y2_ y3_ y4_ true y6_ y7_ y8_ y9_ y10_ y11_ = some r) : False := by
 subst hr
 cases k with
 | zero => simp [laws_FnShelvesEaten.j10] at H
 | succ k => rw [laws_FnShelvesEaten.j10, if_pos rfl] at H; cases H
theorem laws_FnShelvesEaten.j11_no (k : Nat) (y0_ : ByteArray) (y1_ : Bool) (y3_ : List Int) (y4_ : Int) (r : Bool) (hr : r = true) (H : laws_FnShelvesEaten.j11 k y0_ y1_ true y3_ y4_ = some r) : False := by
 subst hr
 cases k with
 | zero => simp [laws_FnShelvesEaten.j11] at H
 | succ k => rw [laws_FnShelvesEaten.j11, if_pos rfl] at H; cases H
theorem laws_FnShelvesEaten.j6_no (k : Nat) (y0_ : List Int) (y1_ : Int) (y2_ : Int) (y3_ : Int) (y5_ : List Int) (y6_ : Int) (r : Bool) (hr : r = true) (H : laws_FnShelvesEaten.j6 k y0_ y1_ y2_ y3_ true y5_ y6_ = some r) : False := by
 subst hr
 cases k with
 | zero => simp [laws_FnShelvesEaten.j6] at H
 | succ k => rw [laws_FnShelvesEaten.j6, if_pos rfl] at H; cases H
theorem laws_FnShelvesEaten.j3_no (k : Nat) (y0_ : List Int) (y1_ : Int) (y2_ : Int) (y3_ : Int) (y4_ : Bool) (y6_ : List Int) (y7_ : Int) (r : Bool) (hr : r = true) (H : laws_FnShelvesEaten.j3 k y0_ y1_ y2_ y3_ y4_ true y6_ y7_ = some r) : False := by
 subst hr
 cases k with
 | zero => simp [laws_FnShelvesEaten.j3] at H
 | succ k => rw [laws_FnShelvesEaten.j3, if_pos rfl] at H; cases H

def laws_FnShelvesEaten.Pure : Prop := ∀ (l0 : List Int) (l1 : List Int), (l0.length ≤ maxLen ∧ ∀ x0_, x0_ ∈ l0 → (Lit.int .u8 x0_).wf = true) → (l1.length ≤ maxLen ∧ ∀ x0_, x0_ ∈ l1 → (Lit.int .u8 x0_).wf = true) → ∃ k, laws_FnShelvesEaten.f k l0 l1 = some true

end Go.Proofs.YtimladcenifppaaGreatDoor.P
end
