/- Lean functions with the answers of the program's Go functions, and for each the proof that the Go code comes to these answers; no condition. -/
import Derived.Test.YtimladcenifppaaGreatDoorZse21
import Derived.Test.YtimladcenifppaaGreatDoorZse22
import Derived.Shelf.Strings.Builder1
import Derived.Shelf.Strings.Builder2
import Derived.Shelf.Strings.OnBuilder
import Derived.Shelf.Utf8.RuneCount
import Derived.Shelf.Strconv.Atoi
import Derived.Shelf.Strconv.Itoa0
import Derived.Shelf.Strconv.Itoa1
import Derived.Shelf.LaysM
import Derived.Shelf.Strconv.Itoa2
import Derived.Shelf.Strconv.Itoa3
import Derived.Shelf.Strconv.AtoiErrFast
import Derived.Shelf.Strconv.ParseIntEmpty
import Derived.Shelf.Strconv.AtoiFail
import Derived.Shelf.Strconv.Clone
import Derived.Shelf.Strconv.SyntaxError
import Derived.Shelf.LaysC
import Derived.Shelf.Strconv.ToError
import Derived.Shelf.Strconv.Lower
import Derived.Shelf.Strconv.ParseUint10
import Derived.Shelf.Strconv.ParseUint10Empty
import Derived.Shelf.Strconv.ParseUint10Any
import Derived.Shelf.Strconv.ParseInt10
import Derived.Shelf.Strconv.AtoiLong
import Derived.Shelf.Strconv.AtoiInnerAll
import Derived.Shelf.Strconv.RangeError
import Derived.Shelf.Strconv.ToErrorRange
import Derived.Shelf.Strconv.AtoiAll
import Derived.Shelf.Strconv.ErrVarAll
import Derived.Shelf.Strings.Search1
import Derived.Shelf.Strings.Search2
import Derived.Shelf.Strings.Search3
import Derived.Shelf.Strings.Cut
import Derived.Shelf.Strings.Count
import Derived.Shelf.Strings.Shaped
import Derived.Shelf.Strings.Split
import Derived.Shelf.Strings.SplitShaped
import Derived.Shelf.Unicode.DecodeSlow
import Derived.Test.YtimladcenifppaaGreatDoorProg
import Derived.Lib.AppendIntMem
import Derived.Lib.LaidTab
import Derived.LaidSub
import Derived.MakeChecks
import Derived.Shelf.Vars
import Derived.HandedShaped
import Derived.Handed
import Derived.Stop.LaidErr
import Derived.LaidLaws
section
namespace Go.Proofs.YtimladcenifppaaGreatDoor.P
open Go.RowKit Go.Proofs.YtimladcenifppaaGreatDoorW.PrintWords Go.Proofs.YtimladcenifppaaGreatDoorW.PrintLast Go.Proofs.YtimladcenifppaaGreatDoorW.PrintMore
attribute [local go_sem] max2_int min2_int max_two min_two max_three min_three max_four min_four   -- for this text's walks alone
set_option linter.unusedVariables false
set_option linter.unusedSimpArgs false

mutual
def spec_LongestWorm.j0 : Nat → Bool → List Int → Int → Option (Int × Int × Bool)
 | 0, _, _, _ => none
 | k + 1, x19, x302000, x302001 => if x19 = true then (some (0, 0, false)) else (spec_LongestWorm.l0 k 0 0 (-1) (x302000.length : Int) 0 x302000 x302001)
def spec_LongestWorm.l0 : Nat → Int → Int → Int → Int → Int → List Int → Int → Option (Int × Int × Bool)
 | 0, _, _, _, _, _, _, _ => none
 | k + 1, x5, x6, x7, x22, x23, x302000, x302001 => if x23 < x22 then (spec_LongestWorm.l1 k x5 x6 x7 x23 x22 x23 (x302000.length : Int) 0 x302000 x302001) else (some (x5, x6, true))
def spec_LongestWorm.l1 : Nat → Int → Int → Int → Int → Int → Int → Int → Int → List Int → Int → Option (Int × Int × Bool)
 | 0, _, _, _, _, _, _, _, _, _, _ => none
 | k + 1, x5, x6, x7, x8, x22, x23, x28, x29, x302000, x302001 => if x29 < x28 then ((spec_shFace.f k x302000 x302001 x8 false).bind fun t303 => ((spec_shFace.f k x302000 x302001 x29 true).bind fun t304 => ((spec_l1Abs.f (wrap64 (t303 - t304))).bind fun t305 => (if x8 = x29 then (spec_LongestWorm.l1 k x5 x6 x7 x8 x22 x23 x28 (wrap64 (x29 + 1)) x302000 x302001) else (if t305 > x7 then (spec_LongestWorm.l1 k x8 x29 t305 x8 x22 x23 x28 (wrap64 (x29 + 1)) x302000 x302001) else (spec_LongestWorm.l1 k x5 x6 x7 x8 x22 x23 x28 (wrap64 (x29 + 1)) x302000 x302001)))))) else (spec_LongestWorm.l0 k x5 x6 x7 x22 (wrap64 (x23 + 1)) x302000 x302001)
end
def spec_LongestWorm.f (k : Nat) (l0_0 : List Int) (a0_1 : Int) : Option (Int × Int × Bool) := (spec_shGood.f k l0_0 a0_1).bind fun t302 => (if t302 = true then (spec_LongestWorm.j0 k ((l0_0.length : Int) == 1) l0_0 a0_1) else (spec_LongestWorm.j0 k true l0_0 a0_1))
def spec_LongestWorm.T10 : Bool × List (List Nat × List Nat) := (true, [([], []), ([], []), ([0, 1], [0, 1]), ([], []), ([], []), ([3, 4, 2], [3, 4]), ([2, 5], [2, 5]), ([6, 5], [6]), ([7, 7, 0, 1, 2, 3, 4, 5, 6, 7], [7])])
def spec_LongestWorm.B10 : List Nat := [0, 0, 3, 0, 0, 31, 63, 127, 255]
theorem spec_LongestWorm.tab10 : rtab .any (opsOf Tryz.f15 10) = spec_LongestWorm.T10 := by kernel_rfl
theorem spec_LongestWorm.bits10 : waitsOk spec_LongestWorm.T10.2 spec_LongestWorm.B10 = true := by kernel_rfl
set_option maxHeartbeats 8000000 in
set_option maxRecDepth 100000 in
theorem spec_LongestWorm.calls (k : Nat) (A0_0 : Option Addr) (c0_0 : Nat) (l0_0 : List Int) (a0_1 : Int) (r1 : Int) (r2 : Int) (r3 : Bool) (w : World) (hr0_0 : Kd.C (Kd.int .i64) w A0_0 l0_0.length l0_0) (hc0_0 : l0_0.length ≤ c0_0) (h : spec_LongestWorm.f k l0_0 a0_1 = some (r1, r2, r3)) :
  Calls Tryz.prog 15 #[.agg #[.slice A0_0 l0_0.length c0_0, .int .i64 a0_1]] w fun e w' => e = .returned (.tuple #[.int .i64 r1, .int .i64 r2, .bool r3]) ∧ Below w.heap.size w w' := by
 have hu26 := Tryz.underlying26
 have HR0_0 := Az_ hr0_0
 have HC0_0 := Az_ hc0_0
 clear hr0_0 hc0_0
 have HB := Az_ (Below.refl w.heap.size w)
 have H : ((spec_shGood.f k l0_0 a0_1).bind fun t302 => (if t302 = true then (j0 k ((l0_0.length : Int) == 1) l0_0 a0_1) else (j0 k true l0_0 a0_1))) = some (r1, r2, r3) := h
 clear h
 have HC2 := Az_ H
 clear H
 go_enter Tryz.func15, Tryz.ntmps15
 go_upto_region 1 with (((with_reducible refine gate_dst (N := 1) rfl ?_); (try (refine gate_guard (by rfl) ?_; dsimp only)); refine box_event ?hg (N := 1) ?hd (cs := #[.slice A0_0 l0_0.length c0_0, .int .i64 a0_1]) (t := 26) ?hr ?_; (case hd => rfl); (case hg => rfl); (case hr => first | (go_simp; done) | (go_simp; rfl)); intro gb301 hg w3 hbox hb; have BK301 := Az_ (hbox); have GW301 := Az_ ((by rw [hg]; exact (below_size (ubz_ HB.out)) : w.heap.size ≤ gb301)); have GE301 := Az_ ((by rw [hg]; exact (below_size (ubz_ HB.out)) : w.heap.size ≤ gb301)); replace HB := Az_ (btz_ (ubz_ HB.out) hb); clear hb hbox hg))
 (try simp only [Act.put, List.setIfInBounds_toArray, List.set_cons_zero, List.set_cons_succ])
 go_cut [19] (fun v19 wc => ∃ (kq : Nat) (x19_1 : Bool), v19 = .bool x19_1 ∧ Aside0 (j0 kq x19_1 l0_0 a0_1 = some (r1, r2, r3)) ∧ Aside0 (kq ≤ k) ∧ Aside0 (wc.heap[gb301]? = some (.cells #[(.slice A0_0 l0_0.length c0_0), .int .i64 a0_1] 26 (0, 0))) ∧ Aside0 (Below w.heap.size w wc))
 case first =>
  have H := HC2.out
  clear HC2
  replace H := bqz_ H; obtain ⟨t302, A4, H⟩ := H
  replace H : (if t302 = true then (j0 k ((l0_0.length : Int) == 1) l0_0 a0_1) else (j0 k true l0_0 a0_1)) = some (r1, r2, r3) := H
  by_cases c5 : t302 = true
  ·subst c5
   rw [if_pos rfl] at H
   have H' := Az_ H
   clear H
   have hcz6_0 : w3.cell? ⟨gb301, 0, none⟩ = some (.slice A0_0 l0_0.length c0_0) := (blk_cell BK301.out 0).trans rfl
   have hcz6_1 : w3.cell? ⟨gb301, 1, none⟩ = some (.int .i64 a0_1) := (blk_cell BK301.out 1).trans rfl
   have hfz6_0 := blk_frozen BK301.out 0
   have hfz6_1 := blk_frozen BK301.out 1
   go_wp2_with (((with_reducible refine gate_callee (f := 43) rfl ?_); refine goesL_ (some 12) rfl rfl Tryz.func43 (w94_) rfl #[.agg #[.slice A0_0 l0_0.length c0_0, .int .i64 a0_1]] rfl maz_ ?_; (with_reducible refine (spec_shGood.calls k _ _ l0_0 a0_1 true _ ?side1 ?side2 A4.out).mono ?_); (case side1 => exact ucz_ ((Kd.C_below HR0_0.out HB.out))); (case side2 => exact HC0_0.out); rintro e w7 ⟨rfl, hb⟩; refine ⟨_, rfl, ?_⟩; have n1_ := Az_ (btz_ (w52_) hb); clear HB; replace BK301 := Az_ (ukbz_ BK301.out hb); have HB := n1_; clear n1_; (try clear hb); have hcz8_0 : w7.cell? ⟨gb301, 0, none⟩ = some (.slice A0_0 l0_0.length c0_0) := (blk_cell BK301.out 0).trans rfl; have hcz8_1 : w7.cell? ⟨gb301, 1, none⟩ = some (.int .i64 a0_1) := (blk_cell BK301.out 1).trans rfl; have hfz8_0 := blk_frozen BK301.out 0; have hfz8_1 := blk_frozen BK301.out 1))
   go_meet
   case rel => exact ⟨_, (((l0_0.length : Int) == 1)), qaz_, H', ⟨w80_⟩, ⟨w68_⟩, ⟨w52_⟩⟩
  replace c5 := Bool.eq_false_iff.mpr c5
  subst c5
  rw [if_neg nfz_] at H
  have H' := Az_ H
  clear H
  have hcz9_0 : w3.cell? ⟨gb301, 0, none⟩ = some (.slice A0_0 l0_0.length c0_0) := (blk_cell BK301.out 0).trans rfl
  have hcz9_1 : w3.cell? ⟨gb301, 1, none⟩ = some (.int .i64 a0_1) := (blk_cell BK301.out 1).trans rfl
  have hfz9_0 := blk_frozen BK301.out 0
  have hfz9_1 := blk_frozen BK301.out 1
  go_wp2_with (((with_reducible refine gate_callee (f := 43) rfl ?_); refine goesL_ (some 12) rfl rfl Tryz.func43 (w94_) rfl #[.agg #[.slice A0_0 l0_0.length c0_0, .int .i64 a0_1]] rfl maz_ ?_; (with_reducible refine (spec_shGood.calls k _ _ l0_0 a0_1 false _ ?side1 ?side2 A4.out).mono ?_); (case side1 => exact ucz_ ((Kd.C_below HR0_0.out HB.out))); (case side2 => exact HC0_0.out); rintro e w10 ⟨rfl, hb⟩; refine ⟨_, rfl, ?_⟩; have n1_ := Az_ (btz_ (w52_) hb); clear HB; replace BK301 := Az_ (ukbz_ BK301.out hb); have HB := n1_; clear n1_; (try clear hb)))
  go_meet
  case rel => exact ⟨_, (true), qaz_, H', ⟨w80_⟩, ⟨w68_⟩, ⟨w52_⟩⟩
 case rest =>
  clear HC2
  obtain ⟨kq, x19_1, rfl, HA, HJ1, BK301, HB⟩ := hcut
  cases kq with
  | zero => exact absurd HA.out (by simp [j0])
  | succ kj1 =>
   have H := HA.out
   clear HA
   simp only [j0] at H
   by_cases c11 : x19_1 = true
   ·subst c11
    rw [if_pos rfl] at H
    simp only [Option.some.injEq, Prod.mk.injEq] at H
    obtain ⟨rfl, rfl, rfl⟩ := H
    go_wp2
    go_ret3
    exact ⟨w74_, w52_⟩
   ·replace c11 := Bool.eq_false_iff.mpr c11
    subst c11
    rw [if_neg nfz_] at H
    have H' := Az_ H
    clear H
    have hcz12_0 : wc.cell? ⟨gb301, 0, none⟩ = some (.slice A0_0 l0_0.length c0_0) := (blk_cell BK301.out 0).trans rfl
    have hcz12_1 : wc.cell? ⟨gb301, 1, none⟩ = some (.int .i64 a0_1) := (blk_cell BK301.out 1).trans rfl
    have hfz12_0 := blk_frozen BK301.out 0
    have hfz12_1 := blk_frozen BK301.out 1
    go_wp2
    go_loopg [5, 6, 7, 23] kj1 (fun kq v5 v6 v7 v23 w' => ∃ (x5_2 : Int) (x6_2 : Int) (x7_2 : Int) (x23_2 : Int), v5 = .int .i64 x5_2 ∧ v6 = .int .i64 x6_2 ∧ v7 = .int .i64 x7_2 ∧ v23 = .int .i64 x23_2 ∧ Aside0 (spec_LongestWorm.l0 kq x5_2 x6_2 x7_2 (l0_0.length : Int) x23_2 l0_0 a0_1 = some (r1, r2, r3)) ∧ Aside0 (kq ≤ kj1) ∧ Aside0 (w'.heap[gb301]? = some (.cells #[(.slice A0_0 l0_0.length c0_0), .int .i64 a0_1] 26 (0, 0))) ∧ Aside0 (Below w.heap.size w w'))
    case atStart => exact ⟨(0), (0), ((-1)), (0), qaz_, qaz_, qaz_, qaz_, H', ⟨Nat.le_refl _⟩, ⟨w68_⟩, ⟨w52_⟩⟩
    case round =>
     clear H'
     clear hcz12_0 hcz12_1 hfz12_0 hfz12_1
     obtain ⟨x5_2, x6_2, x7_2, x23_2, rfl, rfl, rfl, rfl, HA, HK2, BK301, HB⟩ := hrel
     cases gk with
     | zero => exact absurd HA.out (by simp [spec_LongestWorm.l0])
     | succ k2 =>
      have H := HA.out
      clear HA
      simp only [spec_LongestWorm.l0] at H
      by_cases c13 : x23_2 < (l0_0.length : Int)
      ·rw [if_pos c13] at H
       have c13b0 := decide_eq_true c13
       clear c13
       have H' := Az_ H
       clear H
       have hcz14_0 : wr.cell? ⟨gb301, 0, none⟩ = some (.slice A0_0 l0_0.length c0_0) := (blk_cell BK301.out 0).trans rfl
       have hcz14_1 : wr.cell? ⟨gb301, 1, none⟩ = some (.int .i64 a0_1) := (blk_cell BK301.out 1).trans rfl
       have hfz14_0 := blk_frozen BK301.out 0
       have hfz14_1 := blk_frozen BK301.out 1
       go_wp2
       go_loopg [5, 6, 7, 29] k2 (fun kq v5 v6 v7 v29 w' => ∃ (x5_3 : Int) (x6_3 : Int) (x7_3 : Int) (x29_3 : Int), v5 = .int .i64 x5_3 ∧ v6 = .int .i64 x6_3 ∧ v7 = .int .i64 x7_3 ∧ v29 = .int .i64 x29_3 ∧ Aside0 (spec_LongestWorm.l1 kq x5_3 x6_3 x7_3 x23_2 (l0_0.length : Int) x23_2 (l0_0.length : Int) x29_3 l0_0 a0_1 = some (r1, r2, r3)) ∧ Aside0 (kq ≤ k2) ∧ Aside0 (w'.heap[gb301]? = some (.cells #[(.slice A0_0 l0_0.length c0_0), .int .i64 a0_1] 26 (0, 0))) ∧ Aside0 (Below w.heap.size w w'))
       case atStart => exact ⟨(x5_2), (x6_2), (x7_2), (0), qaz_, qaz_, qaz_, qaz_, H', ⟨Nat.le_refl _⟩, ⟨w68_⟩, ⟨w52_⟩⟩
       case round =>
        clear H'
        clear c13b0 hcz14_0 hcz14_1 hfz14_0 hfz14_1
        obtain ⟨x5_3, x6_3, x7_3, x29_3, rfl, rfl, rfl, rfl, HA, HK3, BK301, HB⟩ := hrel
        cases gk with
        | zero => exact absurd HA.out (by simp [spec_LongestWorm.l1])
        | succ k3 =>
         have H := HA.out
         clear HA
         simp only [spec_LongestWorm.l1] at H
         by_cases c15 : x29_3 < (l0_0.length : Int); rotate_left
         ·rw [if_neg c15] at H
          have c15b0 := decide_eq_false c15
          clear c15
          have H' := Az_ H
          clear H
          go_wp2
          go_roundg k3
          case measure => have := HJ1.out; have := HK2.out; have := HK3.out; omega
          case rel => exact ⟨(x5_3), (x6_3), (x7_3), (wrap64 (x23_2 + 1)), qaz_, qaz_, qaz_, qaz_, H', ⟨w78_⟩, ⟨w68_⟩, ⟨w52_⟩⟩
         rw [if_pos c15] at H
         have c15b0 := decide_eq_true c15
         clear c15
         replace H := bqz_ H; obtain ⟨t303, A16, H⟩ := H
         replace H := bqz_ H; obtain ⟨t304, A17, H⟩ := H
         replace H := bqz_ H; obtain ⟨t305, A18, H⟩ := H
         replace H : (if x23_2 = x29_3 then (spec_LongestWorm.l1 k3 x5_3 x6_3 x7_3 x23_2 (l0_0.length : Int) x23_2 (l0_0.length : Int) (wrap64 (x29_3 + 1)) l0_0 a0_1) else (if t305 > x7_3 then (spec_LongestWorm.l1 k3 x23_2 x29_3 t305 x23_2 (l0_0.length : Int) x23_2 (l0_0.length : Int) (wrap64 (x29_3 + 1)) l0_0 a0_1) else (spec_LongestWorm.l1 k3 x5_3 x6_3 x7_3 x23_2 (l0_0.length : Int) x23_2 (l0_0.length : Int) (wrap64 (x29_3 + 1)) l0_0 a0_1))) = some (r1, r2, r3) := H
         by_cases c19 : x23_2 = x29_3
         ·rw [if_pos c19] at H
          have c19b0 : (x23_2 == x29_3) = true := beq_iff_eq.mpr c19
          have c19b1 : (x23_2 != x29_3) = false := bne_eq_false_iff_eq.mpr c19
          clear c19
          have H' := Az_ H
          clear H
          try go_wp2
          have n0_ := Az_ (kdz_ BK301.out)
          have n1_ := Az_ (bdz_ HB.out)
          clear BK301 HB
          have BK301 := n0_
          have HB := n1_
          clear n0_ n1_
          refine start_ (n := 9) (S := fun w' => w'.cell? ⟨gb301, 0, none⟩ = some (.slice A0_0 l0_0.length c0_0) ∧ w'.cell? ⟨gb301, 1, none⟩ = some (.int .i64 a0_1)) (ds := []) #[false, false, false, false, false, false, false, false, false] (w94_) rfl rfl ⟨(blk_cell BK301.out 0).trans rfl, (blk_cell BK301.out 1).trans rfl⟩ (fun hHeld => ?_); refine with_tabW spec_LongestWorm.tab10 spec_LongestWorm.bits10 (fun HT_ HW_ => ?_)
          generalize wr.drew = w20 at BK301 HB hHeld ⊢
          refine pz_ 1 33 [0,1,1,7] ?_
          refine pz_ 4 36 [0,1,1,2,1,4] ?_
          refine tz2_ 0 32 [2,2,1,4] ?_
          refine tz2_ 3 35 [2,1,2,4] ?_
          refine one_ (i := 2) (N := some 34) (mz_ [5,4]) rfl rfl (one_of HT_.out (w94_)) (by decide) (fun K hK => ?_)
          refine goes_ Tryz.func39 (w94_) rfl #[.agg #[.slice A0_0 l0_0.length c0_0, .int .i64 a0_1], .int .i64 x23_2, .bool false] (by rfl) rfl rfl maz_ ?_
          with_reducible refine (spec_shFace.calls k3 _ _ l0_0 a0_1 x23_2 false t303 _ ?side1 ?side2 A16.out).mono ?_
          (case side1 => repeat (first | exact (Kd.C_below HR0_0.out HB.out) | (with_reducible refine Kd.C_alloc ?_ _) | (with_reducible refine Kd.C_drewN ?_ _) | (with_reducible refine Kd.C_drew ?_)))
          (case side2 => exact HC0_0.out)
          rintro e w21 ⟨rfl, hb⟩
          refine ⟨_, rfl, ?_⟩
          have n1_ := Az_ (btz_ (w52_) hb)
          clear HB
          replace BK301 := Az_ (ukbz_ BK301.out hb)
          have HB := n1_
          clear n1_
          clear hb
          refine hK.out _ _ ⟨(blk_cell BK301.out 0).trans rfl, (blk_cell BK301.out 1).trans rfl⟩ (fun hHeld => ?_)
          clear hK K
          refine nz_ 34 ?_
          refine one_ (i := 5) (N := some 37) (mz_ [6,3]) rfl rfl (one_of HT_.out (w94_)) (by decide) (fun K hK => ?_)
          refine goes_ Tryz.func39 (w94_) rfl #[.agg #[.slice A0_0 l0_0.length c0_0, .int .i64 a0_1], .int .i64 x29_3, .bool true] (by rfl) rfl rfl maz_ ?_
          with_reducible refine (spec_shFace.calls k3 _ _ l0_0 a0_1 x29_3 true t304 _ ?side1 ?side2 A17.out).mono ?_
          (case side1 => repeat (first | exact (Kd.C_below HR0_0.out HB.out) | (with_reducible refine Kd.C_alloc ?_ _) | (with_reducible refine Kd.C_drewN ?_ _) | (with_reducible refine Kd.C_drew ?_)))
          (case side2 => exact HC0_0.out)
          rintro e w22 ⟨rfl, hb⟩
          refine ⟨_, rfl, ?_⟩
          have n1_ := Az_ (btz_ (w52_) hb)
          clear HB
          replace BK301 := Az_ (ukbz_ BK301.out hb)
          have HB := n1_
          clear n1_
          clear hb
          refine hK.out _ _ ⟨(blk_cell BK301.out 0).trans rfl, (blk_cell BK301.out 1).trans rfl⟩ (fun hHeld => ?_)
          clear hK K
          refine nz_ 37 ?_
          refine pz_ 6 38 [7,2] ?_
          refine one_ (i := 7) (N := some 39) (mz_ [8,1]) rfl rfl (one_of HT_.out (w94_)) (by decide) (fun K hK => ?_)
          refine goes_ Tryz.func38 (w94_) rfl #[.int .i64 (wrap64 (t303 - t304))] (by rfl) rfl rfl maz_ ?_
          with_reducible refine (spec_l1Abs.calls (wrap64 (t303 - t304)) t305 _ A18.out).mono ?_
          rintro e w' ⟨rfl, ⟨nd, rfl⟩⟩
          refine ⟨_, rfl, ?_⟩
          refine hK.out _ _ ⟨(blk_cell BK301.out 0).trans rfl, (blk_cell BK301.out 1).trans rfl⟩ (fun hHeld => ?_)
          clear hK K
          refine nz_ 39 ?_
          refine pz_ 8 10 [9] ?_
          refine done_ (done_of HT_.out (w94_)) ?_
          try go_wp2
          go_roundg k3
          case measure => have := HJ1.out; have := HK2.out; have := HK3.out; omega
          case rel => exact ⟨(x5_3), (x6_3), (x7_3), (wrap64 (x29_3 + 1)), qaz_, qaz_, qaz_, qaz_, H', ⟨w78_⟩, ⟨w68_⟩, ⟨w52_⟩⟩
         rw [if_neg c19] at H
         have c19b0 : (x23_2 == x29_3) = false := beq_eq_false_iff_ne.mpr c19
         have c19b1 : (x23_2 != x29_3) = true := bne_iff_ne.mpr c19
         by_cases c23 : t305 > x7_3; rotate_left
         ·rw [if_neg c23] at H
          have c23b0 := decide_eq_false c23
          clear c23
          have H' := Az_ H
          clear H
          try go_wp2
          have n0_ := Az_ (kdz_ BK301.out)
          have n1_ := Az_ (bdz_ HB.out)
          clear BK301 HB
          have BK301 := n0_
          have HB := n1_
          clear n0_ n1_
          refine start_ (n := 9) (S := fun w' => w'.cell? ⟨gb301, 0, none⟩ = some (.slice A0_0 l0_0.length c0_0) ∧ w'.cell? ⟨gb301, 1, none⟩ = some (.int .i64 a0_1)) (ds := []) #[false, false, false, false, false, false, false, false, false] (w94_) rfl rfl ⟨(blk_cell BK301.out 0).trans rfl, (blk_cell BK301.out 1).trans rfl⟩ (fun hHeld => ?_); refine with_tabW spec_LongestWorm.tab10 spec_LongestWorm.bits10 (fun HT_ HW_ => ?_)
          generalize wr.drew = w27 at BK301 HB hHeld ⊢
          refine pz_ 1 33 [0,1,1,7] ?_
          refine pz_ 4 36 [0,1,1,2,1,4] ?_
          refine tz2_ 0 32 [2,2,1,4] ?_
          refine tz2_ 3 35 [2,1,2,4] ?_
          refine one_ (i := 2) (N := some 34) (mz_ [5,4]) rfl rfl (one_of HT_.out (w94_)) (by decide) (fun K hK => ?_)
          refine goes_ Tryz.func39 (w94_) rfl #[.agg #[.slice A0_0 l0_0.length c0_0, .int .i64 a0_1], .int .i64 x23_2, .bool false] (by rfl) rfl rfl maz_ ?_
          with_reducible refine (spec_shFace.calls k3 _ _ l0_0 a0_1 x23_2 false t303 _ ?side1 ?side2 A16.out).mono ?_
          (case side1 => repeat (first | exact (Kd.C_below HR0_0.out HB.out) | (with_reducible refine Kd.C_alloc ?_ _) | (with_reducible refine Kd.C_drewN ?_ _) | (with_reducible refine Kd.C_drew ?_)))
          (case side2 => exact HC0_0.out)
          rintro e w28 ⟨rfl, hb⟩
          refine ⟨_, rfl, ?_⟩
          have n1_ := Az_ (btz_ (w52_) hb)
          clear HB
          replace BK301 := Az_ (ukbz_ BK301.out hb)
          have HB := n1_
          clear n1_
          clear hb
          refine hK.out _ _ ⟨(blk_cell BK301.out 0).trans rfl, (blk_cell BK301.out 1).trans rfl⟩ (fun hHeld => ?_)
          clear hK K
          refine nz_ 34 ?_
          refine one_ (i := 5) (N := some 37) (mz_ [6,3]) rfl rfl (one_of HT_.out (w94_)) (by decide) (fun K hK => ?_)
          refine goes_ Tryz.func39 (w94_) rfl #[.agg #[.slice A0_0 l0_0.length c0_0, .int .i64 a0_1], .int .i64 x29_3, .bool true] (by rfl) rfl rfl maz_ ?_
          with_reducible refine (spec_shFace.calls k3 _ _ l0_0 a0_1 x29_3 true t304 _ ?side1 ?side2 A17.out).mono ?_
          (case side1 => repeat (first | exact (Kd.C_below HR0_0.out HB.out) | (with_reducible refine Kd.C_alloc ?_ _) | (with_reducible refine Kd.C_drewN ?_ _) | (with_reducible refine Kd.C_drew ?_)))
          (case side2 => exact HC0_0.out)
          rintro e w29 ⟨rfl, hb⟩
          refine ⟨_, rfl, ?_⟩
          have n1_ := Az_ (btz_ (w52_) hb)
          clear HB
          replace BK301 := Az_ (ukbz_ BK301.out hb)
          have HB := n1_
          clear n1_
          clear hb
          refine hK.out _ _ ⟨(blk_cell BK301.out 0).trans rfl, (blk_cell BK301.out 1).trans rfl⟩ (fun hHeld => ?_)
          clear hK K
          refine nz_ 37 ?_
          refine pz_ 6 38 [7,2] ?_
          refine one_ (i := 7) (N := some 39) (mz_ [8,1]) rfl rfl (one_of HT_.out (w94_)) (by decide) (fun K hK => ?_)
          refine goes_ Tryz.func38 (w94_) rfl #[.int .i64 (wrap64 (t303 - t304))] (by rfl) rfl rfl maz_ ?_
          with_reducible refine (spec_l1Abs.calls (wrap64 (t303 - t304)) t305 _ A18.out).mono ?_
          rintro e w' ⟨rfl, ⟨nd, rfl⟩⟩
          refine ⟨_, rfl, ?_⟩
          refine hK.out _ _ ⟨(blk_cell BK301.out 0).trans rfl, (blk_cell BK301.out 1).trans rfl⟩ (fun hHeld => ?_)
          clear hK K
          refine nz_ 39 ?_
          refine pz_ 8 10 [9] ?_
          refine done_ (done_of HT_.out (w94_)) ?_
          try go_wp2
          go_roundg k3
          case measure => have := HJ1.out; have := HK2.out; have := HK3.out; omega
          case rel => exact ⟨(x5_3), (x6_3), (x7_3), (wrap64 (x29_3 + 1)), qaz_, qaz_, qaz_, qaz_, H', ⟨w78_⟩, ⟨w68_⟩, ⟨w52_⟩⟩
         rw [if_pos c23] at H
         have c23b0 := decide_eq_true c23
         clear c23
         have H' := Az_ H
         clear H
         try go_wp2
         have n0_ := Az_ (kdz_ BK301.out)
         have n1_ := Az_ (bdz_ HB.out)
         clear BK301 HB
         have BK301 := n0_
         have HB := n1_
         clear n0_ n1_
         refine start_ (n := 9) (S := fun w' => w'.cell? ⟨gb301, 0, none⟩ = some (.slice A0_0 l0_0.length c0_0) ∧ w'.cell? ⟨gb301, 1, none⟩ = some (.int .i64 a0_1)) (ds := []) #[false, false, false, false, false, false, false, false, false] (w94_) rfl rfl ⟨(blk_cell BK301.out 0).trans rfl, (blk_cell BK301.out 1).trans rfl⟩ (fun hHeld => ?_); refine with_tabW spec_LongestWorm.tab10 spec_LongestWorm.bits10 (fun HT_ HW_ => ?_)
         generalize wr.drew = w24 at BK301 HB hHeld ⊢
         refine pz_ 1 33 [0,1,1,7] ?_
         refine pz_ 4 36 [0,1,1,2,1,4] ?_
         refine tz2_ 0 32 [2,2,1,4] ?_
         refine tz2_ 3 35 [2,1,2,4] ?_
         refine one_ (i := 2) (N := some 34) (mz_ [5,4]) rfl rfl (one_of HT_.out (w94_)) (by decide) (fun K hK => ?_)
         refine goes_ Tryz.func39 (w94_) rfl #[.agg #[.slice A0_0 l0_0.length c0_0, .int .i64 a0_1], .int .i64 x23_2, .bool false] (by rfl) rfl rfl maz_ ?_
         with_reducible refine (spec_shFace.calls k3 _ _ l0_0 a0_1 x23_2 false t303 _ ?side1 ?side2 A16.out).mono ?_
         (case side1 => repeat (first | exact (Kd.C_below HR0_0.out HB.out) | (with_reducible refine Kd.C_alloc ?_ _) | (with_reducible refine Kd.C_drewN ?_ _) | (with_reducible refine Kd.C_drew ?_)))
         (case side2 => exact HC0_0.out)
         rintro e w25 ⟨rfl, hb⟩
         refine ⟨_, rfl, ?_⟩
         have n1_ := Az_ (btz_ (w52_) hb)
         clear HB
         replace BK301 := Az_ (ukbz_ BK301.out hb)
         have HB := n1_
         clear n1_
         clear hb
         refine hK.out _ _ ⟨(blk_cell BK301.out 0).trans rfl, (blk_cell BK301.out 1).trans rfl⟩ (fun hHeld => ?_)
         clear hK K
         refine nz_ 34 ?_
         refine one_ (i := 5) (N := some 37) (mz_ [6,3]) rfl rfl (one_of HT_.out (w94_)) (by decide) (fun K hK => ?_)
         refine goes_ Tryz.func39 (w94_) rfl #[.agg #[.slice A0_0 l0_0.length c0_0, .int .i64 a0_1], .int .i64 x29_3, .bool true] (by rfl) rfl rfl maz_ ?_
         with_reducible refine (spec_shFace.calls k3 _ _ l0_0 a0_1 x29_3 true t304 _ ?side1 ?side2 A17.out).mono ?_
         (case side1 => repeat (first | exact (Kd.C_below HR0_0.out HB.out) | (with_reducible refine Kd.C_alloc ?_ _) | (with_reducible refine Kd.C_drewN ?_ _) | (with_reducible refine Kd.C_drew ?_)))
         (case side2 => exact HC0_0.out)
         rintro e w26 ⟨rfl, hb⟩
         refine ⟨_, rfl, ?_⟩
         have n1_ := Az_ (btz_ (w52_) hb)
         clear HB
         replace BK301 := Az_ (ukbz_ BK301.out hb)
         have HB := n1_
         clear n1_
         clear hb
         refine hK.out _ _ ⟨(blk_cell BK301.out 0).trans rfl, (blk_cell BK301.out 1).trans rfl⟩ (fun hHeld => ?_)
         clear hK K
         refine nz_ 37 ?_
         refine pz_ 6 38 [7,2] ?_
         refine one_ (i := 7) (N := some 39) (mz_ [8,1]) rfl rfl (one_of HT_.out (w94_)) (by decide) (fun K hK => ?_)
         refine goes_ Tryz.func38 (w94_) rfl #[.int .i64 (wrap64 (t303 - t304))] (by rfl) rfl rfl maz_ ?_
         with_reducible refine (spec_l1Abs.calls (wrap64 (t303 - t304)) t305 _ A18.out).mono ?_
         rintro e w' ⟨rfl, ⟨nd, rfl⟩⟩
         refine ⟨_, rfl, ?_⟩
         refine hK.out _ _ ⟨(blk_cell BK301.out 0).trans rfl, (blk_cell BK301.out 1).trans rfl⟩ (fun hHeld => ?_)
         clear hK K
         refine nz_ 39 ?_
         refine pz_ 8 10 [9] ?_
         refine done_ (done_of HT_.out (w94_)) ?_
         try go_wp2
         go_roundg k3
         case measure => have := HJ1.out; have := HK2.out; have := HK3.out; omega
         case rel => exact ⟨(x23_2), (x29_3), (t305), (wrap64 (x29_3 + 1)), qaz_, qaz_, qaz_, qaz_, H', ⟨w78_⟩, ⟨w68_⟩, ⟨w52_⟩⟩
      ·rw [if_neg c13] at H
       have c13b0 := decide_eq_false c13
       clear c13
       simp only [Option.some.injEq, Prod.mk.injEq] at H
       obtain ⟨rfl, rfl, rfl⟩ := H
       go_wp2
       go_ret3
       exact ⟨w74_, w52_⟩

end Go.Proofs.YtimladcenifppaaGreatDoor.P
end

section
namespace Go.Proofs.YtimladcenifppaaGreatDoor
open Go.Shelf

def Tryz.lays156_ren : Go.Shelf.Ren := ⟨fun | 156 => 75 | 165 => 84 | 166 => 85 | 169 => 86 | 240 => 98 | 241 => 99 | 276 => 111 | 277 => 112 | n => n, fun | 31 => 84 | 9 => 9 | 3 => 3 | 4 => 4 | 0 => 0 | 20 => 20 | 72 => 102 | 76 => 76 | 70 => 100 | 37 => 22 | 75 => 75 | 127 => 114 | 164 => 130 | 5 => 5 | 80 => 104 | n => n, fun | n => n⟩

theorem Tryz.lays156 : Go.Proofs.Lays.n156 Tryz.prog Tryz.lays156_ren := {
  mixed := by kernel_rfl
  f156 := Tryz.func75.trans (congrArg some (w94_))
  f165 := Tryz.func84.trans (congrArg some (w94_))
  f166 := Tryz.func85.trans (congrArg some (w94_))
  f169 := Tryz.func86.trans (congrArg some (w94_))
  f240 := Tryz.func98.trans (congrArg some (w94_))
  f241 := Tryz.func99.trans (congrArg some (w94_))
  f276 := Tryz.func111.trans (congrArg some (w94_))
  f277 := Tryz.func112.trans (congrArg some (w94_))
  t0 := Tryz.underlying0
  a0 := Tryz.isAgg0
  z0 := Tryz.sizeOf0
  v0 := Tryz.zeroValue0
  t3 := Tryz.underlying3
  a3 := Tryz.isAgg3
  z3 := Tryz.sizeOf3
  v3 := Tryz.zeroValue3
  t4 := Tryz.underlying4
  a4 := Tryz.isAgg4
  z4 := Tryz.sizeOf4
  v4 := Tryz.zeroValue4
  t9 := Tryz.underlying9
  a9 := Tryz.isAgg9
  z9 := Tryz.sizeOf9
  v9 := Tryz.zeroValue9
  t20 := Tryz.underlying20
  a20 := Tryz.isAgg20
  z20 := Tryz.sizeOf20
  v20 := Tryz.zeroValue20
  t31 := Tryz.underlying84
  a31 := Tryz.isAgg84
  z31 := Tryz.sizeOf84
  v31 := Tryz.zeroValue84
  t37 := Tryz.underlying22
  a37 := Tryz.isAgg22
  z37 := Tryz.sizeOf22
  v37 := Tryz.zeroValue22
  t70 := Tryz.underlying100
  a70 := Tryz.isAgg100
  z70 := Tryz.sizeOf100
  v70 := Tryz.zeroValue100
  t72 := Tryz.underlying102
  a72 := Tryz.isAgg102
  z72 := Tryz.sizeOf102
  v72 := Tryz.zeroValue102
  t75 := Tryz.underlying75
  a75 := Tryz.isAgg75
  z75 := Tryz.sizeOf75
  v75 := Tryz.zeroValue75
  t76 := Tryz.underlying76
  a76 := Tryz.isAgg76
  z76 := Tryz.sizeOf76
  v76 := Tryz.zeroValue76
  t127 := Tryz.underlying114
  a127 := Tryz.isAgg114
  z127 := Tryz.sizeOf114
  v127 := Tryz.zeroValue114
  t164 := Tryz.underlying130
  a164 := Tryz.isAgg130
  z164 := Tryz.sizeOf130
  v164 := Tryz.zeroValue130 }

theorem Tryz.Builder_Extra_156 : Builder.Extra Tryz.prog Tryz.lays156_ren := {
  sizeBuilder := by kernel_rfl
  liesBuilder := by kernel_rfl
  t5 := Tryz.underlying5
  a5 := Tryz.isAgg5
  z5 := Tryz.sizeOf5
  v5 := Tryz.zeroValue5
  infoByte := by kernel_rfl
  cellsByte := by kernel_rfl
  sizeByte := by kernel_rfl
  neB5 := by decide }

open Go.RowKit in
theorem Tryz.strings_Join_none (a : Option Addr) (c : Nat) (sep : ByteArray) (w : World) :
    Calls Tryz.prog 75 #[.slice a 0 c, .string sep] w fun e w' => e = .returned (.string ⟨#[]⟩) ∧ w' = w := Any.strings_Join_none Tryz.lays156 Tryz.Builder_Extra_156 a c sep w

open Go.RowKit in
theorem Tryz.strings_Join (bk o c : Nat) (xs : List ByteArray) (sep : ByteArray) (w : World) (hcells : ∀ (j : Nat) x, xs[j]? = some x → w.cell? ⟨bk, o + j, none⟩ = some (.string x)) (hbk : bk < w.heap.size) (hN : xs.length ≤ 140737488355328) (hcap : xs.length ≤ c) (hlen : (Lib.join (xs.map (·.data.toList)) sep.data.toList).length ≤ 140737488355328) :
    Calls Tryz.prog 75 #[.slice (some ⟨bk, o, none⟩) xs.length c, .string sep] w fun e w' => e = .returned (.string ⟨(Lib.join (xs.map (·.data.toList)) sep.data.toList).toArray⟩) ∧ Below w.heap.size w w' := Any.strings_Join Tryz.lays156 Tryz.Builder_Extra_156 bk o c xs sep w hcells hbk hN hcap hlen

def Tryz.laysM171_ren : Go.Shelf.Ren := ⟨fun | 171 => 66 | 243 => 76 | 246 => 87 | 283 => 100 | 284 => 101 | 285 => 102 | 286 => 103 | 129 => 114 | 317 => 113 | 318 => 115 | 319 => 116 | 320 => 117 | 337 => 119 | 338 => 120 | n => n, fun | 3 => 3 | 9 => 9 | 2 => 2 | 4 => 4 | 171 => 115 | 0 => 0 | 53 => 52 | 37 => 22 | 5 => 5 | 173 => 118 | 212 => 134 | 51 => 120 | 20 => 20 | 213 => 135 | 46 => 99 | 232 => 142 | 233 => 143 | n => n, fun | 17 => 3 | 18 => 6 | 19 => 7 | n => n⟩

theorem Tryz.laysM171 : Go.Proofs.LaysM.n171 Tryz.prog Tryz.laysM171_ren := {
  mixed := by kernel_rfl
  f129 := Tryz.func114.trans (congrArg some (w94_))
  f171 := Tryz.func66.trans (congrArg some (w94_))
  f243 := Tryz.func76.trans (congrArg some (w94_))
  f246 := Tryz.func87.trans (congrArg some (w94_))
  f283 := Tryz.func100.trans (congrArg some (w94_))
  f284 := Tryz.func101.trans (congrArg some (w94_))
  f285 := Tryz.func102.trans (congrArg some (w94_))
  f286 := Tryz.func103.trans (congrArg some (w94_))
  f317 := Tryz.func113.trans (congrArg some (w94_))
  f318 := Tryz.func115.trans (congrArg some (w94_))
  f319 := Tryz.func116.trans (congrArg some (w94_))
  f320 := Tryz.func117.trans (congrArg some (w94_))
  f337 := Tryz.func119.trans (congrArg some (w94_))
  f338 := Tryz.func120.trans (congrArg some (w94_))
  t0 := Tryz.underlying0
  a0 := Tryz.isAgg0
  z0 := Tryz.sizeOf0
  v0 := Tryz.zeroValue0
  t2 := Tryz.underlying2
  a2 := Tryz.isAgg2
  z2 := Tryz.sizeOf2
  v2 := Tryz.zeroValue2
  t3 := Tryz.underlying3
  a3 := Tryz.isAgg3
  z3 := Tryz.sizeOf3
  v3 := Tryz.zeroValue3
  t4 := Tryz.underlying4
  a4 := Tryz.isAgg4
  z4 := Tryz.sizeOf4
  v4 := Tryz.zeroValue4
  t5 := Tryz.underlying5
  a5 := Tryz.isAgg5
  z5 := Tryz.sizeOf5
  v5 := Tryz.zeroValue5
  t9 := Tryz.underlying9
  a9 := Tryz.isAgg9
  z9 := Tryz.sizeOf9
  v9 := Tryz.zeroValue9
  t20 := Tryz.underlying20
  a20 := Tryz.isAgg20
  z20 := Tryz.sizeOf20
  v20 := Tryz.zeroValue20
  t37 := Tryz.underlying22
  a37 := Tryz.isAgg22
  z37 := Tryz.sizeOf22
  v37 := Tryz.zeroValue22
  t46 := Tryz.underlying99
  a46 := Tryz.isAgg99
  z46 := Tryz.sizeOf99
  v46 := Tryz.zeroValue99
  t51 := Tryz.underlying120
  a51 := Tryz.isAgg120
  z51 := Tryz.sizeOf120
  v51 := Tryz.zeroValue120
  t53 := Tryz.underlying52
  a53 := Tryz.isAgg52
  z53 := Tryz.sizeOf52
  v53 := Tryz.zeroValue52
  t171 := Tryz.underlying115
  a171 := Tryz.isAgg115
  z171 := Tryz.sizeOf115
  v171 := Tryz.zeroValue115
  t173 := Tryz.underlying118
  a173 := Tryz.isAgg118
  z173 := Tryz.sizeOf118
  v173 := Tryz.zeroValue118
  t212 := Tryz.underlying134
  a212 := Tryz.isAgg134
  z212 := Tryz.sizeOf134
  v212 := Tryz.zeroValue134
  t213 := Tryz.underlying135
  a213 := Tryz.isAgg135
  z213 := Tryz.sizeOf135
  t232 := Tryz.underlying142
  a232 := Tryz.isAgg142
  z232 := Tryz.sizeOf142
  v232 := Tryz.zeroValue142
  t233 := Tryz.underlying143
  a233 := Tryz.isAgg143
  z233 := Tryz.sizeOf143
  v233 := Tryz.zeroValue143
  g17 := by kernel_rfl
  g18 := by kernel_rfl
  g19 := by kernel_rfl
  i0 := by kernel_rfl
  i2 := by kernel_rfl
  i3 := by kernel_rfl
  i4 := by kernel_rfl
  i5 := by kernel_rfl
  i9 := by kernel_rfl
  i20 := by kernel_rfl
  i37 := by kernel_rfl
  i46 := by kernel_rfl
  i51 := by kernel_rfl
  i53 := by kernel_rfl
  i171 := by kernel_rfl
  i173 := by kernel_rfl
  i212 := by kernel_rfl
  i232 := by kernel_rfl
  i233 := by kernel_rfl
  m17 := by kernel_rfl
  m18 := by kernel_rfl
  m19 := w94_ }

open Go.RowKit Go.Sort Go.Lib in
theorem Tryz.strconv_Itoa (n : Int) (h0 : -9223372036854775808 ≤ n) (h1 : n ≤ 9223372036854775807) (w : World) (htab : Lib.TabIs Tryz.prog w "internal/strconv.uint64pow10" .u64 Lib.pow10Tab) :
    Calls Tryz.prog 66 #[.int .i64 n] w fun e w' => e = .returned (.string ⟨(Lib.itoa n).toArray⟩) ∧ ∃ k os, w' = grow (w.drewN k) os := Any.strconv_Itoa Tryz.laysM171 n h0 h1 w htab

def Tryz.laysC172_ren : Go.Shelf.Ren := ⟨fun | 172 => 51 | 244 => 70 | 245 => 71 | 247 => 79 | 279 => 80 | 280 => 81 | 281 => 82 | 282 => 83 | 287 => 95 | 316 => 96 | 171 => 66 | 205 => 97 | 321 => 109 | 322 => 110 | 243 => 76 | 246 => 87 | 283 => 100 | 284 => 101 | 285 => 102 | 286 => 103 | 129 => 114 | 317 => 113 | 318 => 115 | 319 => 116 | 320 => 117 | 337 => 119 | 338 => 120 | n => n, fun | 9 => 9 | 3 => 3 | 75 => 75 | 76 => 76 | 4 => 4 | 5 => 5 | 167 => 93 | 37 => 22 | 0 => 0 | 85 => 94 | 2 => 2 | 168 => 96 | 53 => 52 | 175 => 108 | 46 => 99 | 210 => 112 | 127 => 114 | 145 => 129 | 143 => 127 | 21 => 21 | 171 => 115 | 173 => 118 | 212 => 134 | 51 => 120 | 20 => 20 | 213 => 135 | 232 => 142 | 233 => 143 | 80 => 104 | n => n, fun | 15 => 1 | 16 => 2 | 17 => 3 | 18 => 6 | 19 => 7 | n => n⟩

theorem Tryz.laysC172 : Go.Proofs.LaysC.n172 Tryz.prog Tryz.laysC172_ren := {
  mixed := by kernel_rfl
  f129 := Tryz.func114.trans (congrArg some (w94_))
  f171 := Tryz.func66.trans (congrArg some (w94_))
  f172 := Tryz.func51.trans (congrArg some (w94_))
  f205 := Tryz.func97.trans (congrArg some (w94_))
  f243 := Tryz.func76.trans (congrArg some (w94_))
  f244 := Tryz.func70.trans (congrArg some (w94_))
  f245 := Tryz.func71.trans (congrArg some (w94_))
  f246 := Tryz.func87.trans (congrArg some (w94_))
  f247 := Tryz.func79.trans (congrArg some (w94_))
  f279 := Tryz.func80.trans (congrArg some (w94_))
  f280 := Tryz.func81.trans (congrArg some (w94_))
  f281 := Tryz.func82.trans (congrArg some (w94_))
  f282 := Tryz.func83.trans (congrArg some (w94_))
  f283 := Tryz.func100.trans (congrArg some (w94_))
  f284 := Tryz.func101.trans (congrArg some (w94_))
  f285 := Tryz.func102.trans (congrArg some (w94_))
  f286 := Tryz.func103.trans (congrArg some (w94_))
  f287 := Tryz.func95.trans (congrArg some (w94_))
  f316 := Tryz.func96.trans (congrArg some (w94_))
  f317 := Tryz.func113.trans (congrArg some (w94_))
  f318 := Tryz.func115.trans (congrArg some (w94_))
  f319 := Tryz.func116.trans (congrArg some (w94_))
  f320 := Tryz.func117.trans (congrArg some (w94_))
  f321 := Tryz.func109.trans (congrArg some (w94_))
  f322 := Tryz.func110.trans (congrArg some (w94_))
  f337 := Tryz.func119.trans (congrArg some (w94_))
  f338 := Tryz.func120.trans (congrArg some (w94_))
  t0 := Tryz.underlying0
  a0 := Tryz.isAgg0
  z0 := Tryz.sizeOf0
  v0 := Tryz.zeroValue0
  t2 := Tryz.underlying2
  a2 := Tryz.isAgg2
  z2 := Tryz.sizeOf2
  v2 := Tryz.zeroValue2
  t3 := Tryz.underlying3
  a3 := Tryz.isAgg3
  z3 := Tryz.sizeOf3
  v3 := Tryz.zeroValue3
  t4 := Tryz.underlying4
  a4 := Tryz.isAgg4
  z4 := Tryz.sizeOf4
  v4 := Tryz.zeroValue4
  t5 := Tryz.underlying5
  a5 := Tryz.isAgg5
  z5 := Tryz.sizeOf5
  v5 := Tryz.zeroValue5
  t9 := Tryz.underlying9
  a9 := Tryz.isAgg9
  z9 := Tryz.sizeOf9
  v9 := Tryz.zeroValue9
  t20 := Tryz.underlying20
  a20 := Tryz.isAgg20
  z20 := Tryz.sizeOf20
  v20 := Tryz.zeroValue20
  t21 := Tryz.underlying21
  a21 := Tryz.isAgg21
  z21 := Tryz.sizeOf21
  v21 := Tryz.zeroValue21
  t37 := Tryz.underlying22
  a37 := Tryz.isAgg22
  z37 := Tryz.sizeOf22
  v37 := Tryz.zeroValue22
  t46 := Tryz.underlying99
  a46 := Tryz.isAgg99
  z46 := Tryz.sizeOf99
  v46 := Tryz.zeroValue99
  t51 := Tryz.underlying120
  a51 := Tryz.isAgg120
  z51 := Tryz.sizeOf120
  v51 := Tryz.zeroValue120
  t53 := Tryz.underlying52
  a53 := Tryz.isAgg52
  z53 := Tryz.sizeOf52
  v53 := Tryz.zeroValue52
  t75 := Tryz.underlying75
  a75 := Tryz.isAgg75
  z75 := Tryz.sizeOf75
  v75 := Tryz.zeroValue75
  t76 := Tryz.underlying76
  a76 := Tryz.isAgg76
  z76 := Tryz.sizeOf76
  v76 := Tryz.zeroValue76
  t85 := Tryz.underlying94
  a85 := Tryz.isAgg94
  z85 := Tryz.sizeOf94
  v85 := Tryz.zeroValue94
  t127 := Tryz.underlying114
  a127 := Tryz.isAgg114
  z127 := Tryz.sizeOf114
  v127 := Tryz.zeroValue114
  t143 := Tryz.underlying127
  a143 := Tryz.isAgg127
  z143 := Tryz.sizeOf127
  v143 := Tryz.zeroValue127
  t145 := Tryz.underlying129
  a145 := Tryz.isAgg129
  z145 := Tryz.sizeOf129
  v145 := Tryz.zeroValue129
  t167 := Tryz.underlying93
  a167 := Tryz.isAgg93
  z167 := Tryz.sizeOf93
  v167 := Tryz.zeroValue93
  t168 := Tryz.underlying96
  a168 := Tryz.isAgg96
  z168 := Tryz.sizeOf96
  v168 := Tryz.zeroValue96
  t171 := Tryz.underlying115
  a171 := Tryz.isAgg115
  z171 := Tryz.sizeOf115
  v171 := Tryz.zeroValue115
  t173 := Tryz.underlying118
  a173 := Tryz.isAgg118
  z173 := Tryz.sizeOf118
  v173 := Tryz.zeroValue118
  t175 := Tryz.underlying108
  a175 := Tryz.isAgg108
  z175 := Tryz.sizeOf108
  v175 := Tryz.zeroValue108
  t210 := Tryz.underlying112
  a210 := Tryz.isAgg112
  z210 := Tryz.sizeOf112
  v210 := Tryz.zeroValue112
  t212 := Tryz.underlying134
  a212 := Tryz.isAgg134
  z212 := Tryz.sizeOf134
  v212 := Tryz.zeroValue134
  t213 := Tryz.underlying135
  a213 := Tryz.isAgg135
  z213 := Tryz.sizeOf135
  t232 := Tryz.underlying142
  a232 := Tryz.isAgg142
  z232 := Tryz.sizeOf142
  v232 := Tryz.zeroValue142
  t233 := Tryz.underlying143
  a233 := Tryz.isAgg143
  z233 := Tryz.sizeOf143
  v233 := Tryz.zeroValue143
  g15 := by kernel_rfl
  g16 := by kernel_rfl
  g17 := by kernel_rfl
  g18 := by kernel_rfl
  g19 := by kernel_rfl
  t80 := Tryz.underlying104
  a80 := Tryz.isAgg104
  z80 := Tryz.sizeOf104
  v80 := Tryz.zeroValue104
  i0 := by kernel_rfl
  i2 := by kernel_rfl
  i3 := by kernel_rfl
  i4 := by kernel_rfl
  i5 := by kernel_rfl
  i9 := by kernel_rfl
  i20 := by kernel_rfl
  i21 := by kernel_rfl
  i37 := by kernel_rfl
  i46 := by kernel_rfl
  i51 := by kernel_rfl
  i53 := by kernel_rfl
  i75 := by kernel_rfl
  i76 := by kernel_rfl
  i80 := by kernel_rfl
  i85 := by kernel_rfl
  i127 := by kernel_rfl
  i143 := by kernel_rfl
  i145 := by kernel_rfl
  i167 := by kernel_rfl
  i168 := by kernel_rfl
  i171 := by kernel_rfl
  i173 := by kernel_rfl
  i175 := by kernel_rfl
  i210 := by kernel_rfl
  i212 := by kernel_rfl
  i232 := by kernel_rfl
  i233 := by kernel_rfl
  m15 := by kernel_rfl
  m16 := by kernel_rfl
  m17 := by kernel_rfl
  m18 := by kernel_rfl
  m19 := by kernel_rfl
  c0 := by kernel_rfl
  c2 := by kernel_rfl
  c3 := by kernel_rfl
  c4 := by kernel_rfl
  c5 := by kernel_rfl
  c9 := by kernel_rfl
  c20 := by kernel_rfl
  c21 := by kernel_rfl
  c37 := by kernel_rfl
  c46 := by kernel_rfl
  c51 := by kernel_rfl
  c53 := by kernel_rfl
  c75 := by kernel_rfl
  c76 := by kernel_rfl
  c80 := by kernel_rfl
  c85 := by kernel_rfl
  c127 := by kernel_rfl
  c143 := by kernel_rfl
  c145 := by kernel_rfl
  c167 := by kernel_rfl
  c168 := by kernel_rfl
  c171 := by kernel_rfl
  c173 := by kernel_rfl
  c175 := by kernel_rfl
  c210 := by kernel_rfl
  c212 := by kernel_rfl
  c213 := by kernel_rfl
  c232 := by kernel_rfl
  c233 := w94_ }

open Go.RowKit in
theorem Tryz.strconv_Atoi_ok (s : ByteArray) (hmax : s.size ≤ 9223372036854775806) (v : Int) (h : Lib.atoiAll s.data.toList = .ok v) (w : World) :
    Calls Tryz.prog 51 #[.string s] w fun e w' => e = .returned (.tuple #[.int .i64 v, .nilIface]) ∧ (w' = w ∨ ∃ t, w' = Lib.bytesWorld w 5 t) := Any.strconv_Atoi_ok Tryz.laysC172 s hmax v h w

open Go.RowKit in
theorem Tryz.strconv_Atoi_range (s : ByteArray) (hlim : s.size ≤ 281474976710656) (h : Lib.atoiAll s.data.toList = .range) (ev : Value) (w : World) (hv : w.cell? ⟨2, 0, none⟩ = some ev) (hev : ev = .nilIface ∨ ∃ te pe, ev = .iface te pe) :
    Calls Tryz.prog 51 #[.string s] w fun e w' => ∃ N, e = .returned (.tuple #[.int .i64 (Lib.atoiSat s.data.toList), .iface 96 (.pointer (some ⟨N, 0, none⟩))]) ∧ w.heap.size ≤ N ∧ w'.heap[N]? = some (.cells #[.string ⟨#[65, 116, 111, 105]⟩, .string s, ev] 112 (0, 0)) ∧ Below w.heap.size w w' := Any.strconv_Atoi_range Tryz.laysC172 s hlim h ev w hv hev

def Tryz.lays145_ren : Go.Shelf.Ren := ⟨fun | 145 => 49 | 220 => 68 | 219 => 77 | 217 => 88 | 225 => 89 | 224 => 90 | 267 => 91 | 266 => 104 | 314 => 105 | n => n, fun | 9 => 9 | 4 => 4 | 59 => 71 | 3 => 3 | 5 => 5 | 46 => 99 | 146 => 121 | 51 => 120 | n => n, fun | 1 => 0 | n => n⟩

theorem Tryz.lays145 : Go.Proofs.Lays.n145 Tryz.prog Tryz.lays145_ren := {
  mixed := by kernel_rfl
  f145 := Tryz.func49.trans (congrArg some (w94_))
  f217 := Tryz.func88.trans (congrArg some (w94_))
  f219 := Tryz.func77.trans (congrArg some (w94_))
  f220 := Tryz.func68.trans (congrArg some (w94_))
  f224 := Tryz.func90.trans (congrArg some (w94_))
  f225 := Tryz.func89.trans (congrArg some (w94_))
  f266 := Tryz.func104.trans (congrArg some (w94_))
  f267 := Tryz.func91.trans (congrArg some (w94_))
  f314 := Tryz.func105.trans (congrArg some (w94_))
  t3 := Tryz.underlying3
  a3 := Tryz.isAgg3
  z3 := Tryz.sizeOf3
  v3 := Tryz.zeroValue3
  t4 := Tryz.underlying4
  a4 := Tryz.isAgg4
  z4 := Tryz.sizeOf4
  v4 := Tryz.zeroValue4
  t5 := Tryz.underlying5
  a5 := Tryz.isAgg5
  z5 := Tryz.sizeOf5
  v5 := Tryz.zeroValue5
  t9 := Tryz.underlying9
  a9 := Tryz.isAgg9
  z9 := Tryz.sizeOf9
  v9 := Tryz.zeroValue9
  t46 := Tryz.underlying99
  a46 := Tryz.isAgg99
  z46 := Tryz.sizeOf99
  v46 := Tryz.zeroValue99
  t51 := Tryz.underlying120
  a51 := Tryz.isAgg120
  z51 := Tryz.sizeOf120
  v51 := Tryz.zeroValue120
  t59 := Tryz.underlying71
  a59 := Tryz.isAgg71
  z59 := Tryz.sizeOf71
  v59 := Tryz.zeroValue71
  t146 := Tryz.underlying121
  a146 := Tryz.isAgg121
  z146 := Tryz.sizeOf121
  v146 := Tryz.zeroValue121
  g1 := w94_ }

open Go.RowKit Go.Lib in
theorem Tryz.strings_Cut (s sep : ByteArray) (m : Int) (w : World) (hs : s.size < 4294967281) (hm : w.cell? ⟨0, 0, none⟩ = some (.int .i64 m)) :
    Calls Tryz.prog 49 #[.string s, .string sep] w fun e w' => e = .returned (.tuple #[.string ⟨(Lib.cut s.data.toList sep.data.toList).1.toArray⟩, .string ⟨(Lib.cut s.data.toList sep.data.toList).2.1.toArray⟩, .bool (Lib.cut s.data.toList sep.data.toList).2.2]) ∧ ∃ n, w' = w.drewN n := Any.strings_Cut Tryz.lays145 s sep m w hs hm

def Tryz.lays147_ren : Go.Shelf.Ren := ⟨fun | 147 => 69 | 221 => 78 | 268 => 92 | 138 => 93 | 143 => 94 | 195 => 106 | 197 => 107 | 218 => 108 | 219 => 77 | 260 => 118 | 217 => 88 | 225 => 89 | 224 => 90 | 267 => 91 | 266 => 104 | 314 => 105 | n => n, fun | 9 => 9 | 3 => 3 | 31 => 84 | 4 => 4 | 0 => 0 | 105 => 123 | 21 => 21 | 5 => 5 | 46 => 99 | 119 => 138 | 139 => 141 | 138 => 140 | 146 => 121 | 51 => 120 | n => n, fun | 1 => 0 | 3 => 4 | 4 => 5 | n => n⟩

theorem Tryz.lays147 : Go.Proofs.Lays.n147 Tryz.prog Tryz.lays147_ren := {
  mixed := by kernel_rfl
  f138 := Tryz.func93.trans (congrArg some (w94_))
  f143 := Tryz.func94.trans (congrArg some (w94_))
  f147 := Tryz.func69.trans (congrArg some (w94_))
  f195 := Tryz.func106.trans (congrArg some (w94_))
  f197 := Tryz.func107.trans (congrArg some (w94_))
  f217 := Tryz.func88.trans (congrArg some (w94_))
  f218 := Tryz.func108.trans (congrArg some (w94_))
  f219 := Tryz.func77.trans (congrArg some (w94_))
  f221 := Tryz.func78.trans (congrArg some (w94_))
  f224 := Tryz.func90.trans (congrArg some (w94_))
  f225 := Tryz.func89.trans (congrArg some (w94_))
  f260 := Tryz.func118.trans (congrArg some (w94_))
  f266 := Tryz.func104.trans (congrArg some (w94_))
  f267 := Tryz.func91.trans (congrArg some (w94_))
  f268 := Tryz.func92.trans (congrArg some (w94_))
  f314 := Tryz.func105.trans (congrArg some (w94_))
  t0 := Tryz.underlying0
  a0 := Tryz.isAgg0
  z0 := Tryz.sizeOf0
  v0 := Tryz.zeroValue0
  t3 := Tryz.underlying3
  a3 := Tryz.isAgg3
  z3 := Tryz.sizeOf3
  v3 := Tryz.zeroValue3
  t4 := Tryz.underlying4
  a4 := Tryz.isAgg4
  z4 := Tryz.sizeOf4
  v4 := Tryz.zeroValue4
  t5 := Tryz.underlying5
  a5 := Tryz.isAgg5
  z5 := Tryz.sizeOf5
  v5 := Tryz.zeroValue5
  t9 := Tryz.underlying9
  a9 := Tryz.isAgg9
  z9 := Tryz.sizeOf9
  v9 := Tryz.zeroValue9
  t21 := Tryz.underlying21
  a21 := Tryz.isAgg21
  z21 := Tryz.sizeOf21
  v21 := Tryz.zeroValue21
  t31 := Tryz.underlying84
  a31 := Tryz.isAgg84
  z31 := Tryz.sizeOf84
  v31 := Tryz.zeroValue84
  t46 := Tryz.underlying99
  a46 := Tryz.isAgg99
  z46 := Tryz.sizeOf99
  v46 := Tryz.zeroValue99
  t51 := Tryz.underlying120
  a51 := Tryz.isAgg120
  z51 := Tryz.sizeOf120
  v51 := Tryz.zeroValue120
  t105 := Tryz.underlying123
  a105 := Tryz.isAgg123
  z105 := Tryz.sizeOf123
  v105 := Tryz.zeroValue123
  t119 := Tryz.underlying138
  a119 := Tryz.isAgg138
  z119 := Tryz.sizeOf138
  t138 := Tryz.underlying140
  a138 := Tryz.isAgg140
  z138 := Tryz.sizeOf140
  v138 := Tryz.zeroValue140
  t139 := Tryz.underlying141
  a139 := Tryz.isAgg141
  z139 := Tryz.sizeOf141
  v139 := Tryz.zeroValue141
  t146 := Tryz.underlying121
  a146 := Tryz.isAgg121
  z146 := Tryz.sizeOf121
  v146 := Tryz.zeroValue121
  g1 := by kernel_rfl
  g3 := by kernel_rfl
  g4 := w94_ }

open Go.RowKit Go.Lib in
theorem Tryz.strings_SplitN (s sep : ByteArray) (n : Nat) (m : Int) (w : World) (hs : s.size < 4294967281) (hm : w.cell? ⟨0, 0, none⟩ = some (.int .i64 m)) (h1 : 1 ≤ sep.size) (hn : 1 ≤ n) (hn63 : n ≤ 9223372036854775807) :
    Calls Tryz.prog 69 #[.string s, .string sep, .int .i64 n] w fun e w' =>
      e = .returned (.slice (some ⟨w.heap.size, 0, none⟩) (Lib.splitB sep 0 (min n (s.size + 1) - 1) s).length (min n (s.size + 1))) ∧ w' = w.alloc (.cells (Lib.cellsOf (Lib.splitB sep 0 (min n (s.size + 1) - 1) s) (min n (s.size + 1))) 9) := Any.strings_SplitN Tryz.lays147 (w94_) s sep n m w hs hm h1 hn hn63

end Go.Proofs.YtimladcenifppaaGreatDoor
end

section
namespace Go.Proofs.YtimladcenifppaaGreatDoor.P
open Go.RowKit Go.Proofs.YtimladcenifppaaGreatDoorW.PrintWords Go.Proofs.YtimladcenifppaaGreatDoorW.PrintLast Go.Proofs.YtimladcenifppaaGreatDoorW.PrintMore
set_option linter.unusedVariables false

def joinB (l : List ByteArray) (s : ByteArray) : List UInt8 := Lib.join (l.map (·.data.toList)) s.data.toList
def strjoin.f (l : List ByteArray) (s : ByteArray) : Option ByteArray := if (joinB l s).length ≤ 140737488355328 ∧ l.length ≤ 140737488355328 then some ⟨(joinB l s).toArray⟩ else none
theorem strjoin.calls (A0 : Option Addr) (c0 : Nat) (l0 : List ByteArray) (a1 : ByteArray) (r : ByteArray) (w : World) (hr0 : ∃ base ok, Kd.R Kd.string 9 w base ok (.slice A0 l0.length c0) l0) (hc0 : l0.length ≤ c0) (h : strjoin.f l0 a1 = some r) :
    Calls Tryz.prog 75 #[.slice A0 l0.length c0, .string a1] w fun e w' => e = .returned (.string r) ∧ Below w.heap.size w w' := by
  obtain ⟨base, ok, hrow⟩ := hr0
  unfold strjoin.f at h
  by_cases hl : (joinB l0 a1).length ≤ 140737488355328 ∧ l0.length ≤ 140737488355328; rotate_left
  · rw [if_neg hl] at h
    cases h
  rw [if_pos hl] at h
  obtain rfl := Option.some.inj h
  rcases Nat.eq_zero_or_pos l0.length with h0 | h0
  · have hn := List.length_eq_zero_iff.1 h0
    subst hn
    exact (Tryz.strings_Join_none A0 c0 a1 w).mono fun e w' ⟨he, hw⟩ => ⟨he, hw ▸ Below.refl _ _⟩
  · obtain ⟨g, cap, e, hb, hg, _⟩ := Kd.R_form hrow h0
    injection e with e1 e2 e3
    subst e1 e3
    refine Tryz.strings_Join g 0 c0 l0 a1 w (fun j x hj => ?_) hg hl.2 hc0 hl.1
    have hjl := (List.getElem?_eq_some_iff.1 hj).1
    have := (Kd.R_celln ByteArray.empty hrow (j : Int) (by omega) (by omega)).1
    rw [Int.toNat_natCast] at this
    rw [Nat.zero_add, this]
    unfold rdOf
    rw [Int.toNat_natCast, List.getD_eq_getElem?_getD, hj]
    rfl
end Go.Proofs.YtimladcenifppaaGreatDoor.P
end

section
namespace Go.Proofs.YtimladcenifppaaGreatDoor.P
open Go.ChangeShapes Go.WideShapes Go.RowKit Go.Proofs.YtimladcenifppaaGreatDoorW.PrintWords Go.Proofs.YtimladcenifppaaGreatDoorW.PrintLast Go.Proofs.YtimladcenifppaaGreatDoorW.PrintMore
set_option linter.unusedVariables false

def TabW (w : World) : Prop := Lib.TabIs Tryz.prog w "internal/strconv.uint64pow10" .u64 Lib.pow10Tab
theorem pow_named : Tryz.prog.globalNamed "internal/strconv.uint64pow10" = some ((Tryz.prog.globalNamed "internal/strconv.uint64pow10").getD 0) := by kernel_rfl
theorem tabW_below {w w' : World} (h : TabW w) (hb : Below w.heap.size w w') : TabW w' := by
  have hg := pow_named
  generalize (Tryz.prog.globalNamed "internal/strconv.uint64pow10").getD 0 = g at hg
  unfold TabW Lib.TabIs World.var? at h ⊢
  rw [hg, Option.bind_some] at h ⊢
  rcases Nat.lt_or_ge g w.heap.size with hlt | hge
  · rw [hb.block g hlt]
    exact h
  · rw [Array.getElem?_eq_none hge] at h
    cases h
set_option maxRecDepth 100000 in
theorem tabW_of_laid {l : List (String × DataW Unit)} {W : World} (h : laidMetH Tryz.prog l W) (hf : (l.filter fun x => x.1 == "internal/strconv.uint64pow10") = [("internal/strconv.uint64pow10", Lib.tabData .u64 Lib.pow10Tab)]) : TabW W := by
  have h1 := h.filter (fun x => x.1 == "internal/strconv.uint64pow10")
  rw [hf, Go.MakeChecks.laidMetH_plain _ _ _ (w94_)] at h1
  exact Lib.tabIs_of_head (t := ((Tryz.prog.globals[(Tryz.prog.globalNamed "internal/strconv.uint64pow10").getD 0]?).map (·.type)).getD 0) (n := 20) (e := 52) pow_named (w94_) (w94_) Tryz.underlying52 (w94_) (w94_) h1
def ErrAt (g : Nat) (w : World) : Prop := ∃ ev, w.cell? ⟨g, 0, none⟩ = some ev ∧ (ev = .nilIface ∨ ∃ te pe, ev = .iface te pe)
def LibW (w : World) : Prop := TabW w ∧ (∃ m, w.cell? ⟨0, 0, none⟩ = some (.int .i64 m)) ∧ ErrAt 1 w ∧ ErrAt 2 w
theorem cell_lt {w : World} {g : Nat} {v : Value} (h : w.cell? ⟨g, 0, none⟩ = some v) : g < w.heap.size := by
  rcases Nat.lt_or_ge g w.heap.size with hlt | hge
  · exact hlt
  · unfold World.cell? at h
    simp only [Array.getElem?_eq_none hge] at h
    simp at h
theorem cell_stays {w w' : World} {g : Nat} {v : Value} (h : w.cell? ⟨g, 0, none⟩ = some v) (hb : Below w.heap.size w w') : w'.cell? ⟨g, 0, none⟩ = some v :=
  (hb.cell (p := ⟨g, 0, none⟩) (cell_lt h)).trans h
theorem errAt_below {g : Nat} {w w' : World} (h : ErrAt g w) (hb : Below w.heap.size w w') : ErrAt g w' := by
  obtain ⟨ev, h1, h2⟩ := h
  exact ⟨ev, cell_stays h1 hb, h2⟩
theorem libW_below {w w' : World} (h : LibW w) (hb : Below w.heap.size w w') : LibW w' := by
  obtain ⟨h1, ⟨m, h2⟩, h3, h4⟩ := h
  exact ⟨tabW_below h1 hb, ⟨m, cell_stays h2 hb⟩, errAt_below h3 hb, errAt_below h4 hb⟩
theorem starN : "*" ++ "errors.errorString" = "*errors.errorString" := by decide
theorem row_err (u : TypeId) (h : Tryz.prog.typeName? 3 u = some "*errors.errorString") : u = 127 :=
  typeName_ptr_named (nm := "errors.errorString") (by rw [starN]; kernel_rfl) (w94_) (by decide) u (by rw [starN]; exact h)
set_option maxRecDepth 100000 in
theorem errS_of_laid {l : List (String × DataW Unit)} {W : World} (h : laidMetH Tryz.prog l W) (hf : (l.filter fun x => x.1 == "strconv.ErrSyntax") = [("strconv.ErrSyntax", .iface "*errors.errorString" (.ptr (.agg [.lit (.string [105, 110, 118, 97, 108, 105, 100, 32, 115, 121, 110, 116, 97, 120])])))]) : ErrAt 1 W := by
  have h1 := h.filter (fun x => x.1 == "strconv.ErrSyntax")
  rw [hf, Go.MakeChecks.laidMetH_plain _ _ _ (w94_)] at h1
  have hg : Tryz.prog.globalNamed "strconv.ErrSyntax" = some 1 := by kernel_rfl
  obtain ⟨a, s, hv, _⟩ := laid_sentinel (te := 129) h1 hg (w94_) Tryz.underlying75 row_err Tryz.underlying127 Tryz.underlying129 rfl rfl Tryz.underlying9 (w94_) (w94_)
  exact ⟨_, by have := World.var?_cell hg hv 0; simpa using this, .inr ⟨_, _, rfl⟩⟩
set_option maxRecDepth 100000 in
theorem errR_of_laid {l : List (String × DataW Unit)} {W : World} (h : laidMetH Tryz.prog l W) (hf : (l.filter fun x => x.1 == "strconv.ErrRange") = [("strconv.ErrRange", .iface "*errors.errorString" (.ptr (.agg [.lit (.string [118, 97, 108, 117, 101, 32, 111, 117, 116, 32, 111, 102, 32, 114, 97, 110, 103, 101])])))]) : ErrAt 2 W := by
  have h1 := h.filter (fun x => x.1 == "strconv.ErrRange")
  rw [hf, Go.MakeChecks.laidMetH_plain _ _ _ (w94_)] at h1
  have hg : Tryz.prog.globalNamed "strconv.ErrRange" = some 2 := by kernel_rfl
  obtain ⟨a, s, hv, _⟩ := laid_sentinel (te := 129) h1 hg (w94_) Tryz.underlying75 row_err Tryz.underlying127 Tryz.underlying129 rfl rfl Tryz.underlying9 (w94_) (w94_)
  exact ⟨_, by have := World.var?_cell hg hv 0; simpa using this, .inr ⟨_, _, rfl⟩⟩
theorem libW_of {l : List (String × DataW Unit)} {W : World} (h : laidMetH Tryz.prog l W) (hS : W.ShapedOpen Tryz.prog) (hf : (l.filter fun x => x.1 == "internal/strconv.uint64pow10") = [("internal/strconv.uint64pow10", Lib.tabData .u64 Lib.pow10Tab)])
    (hs : (l.filter fun x => x.1 == "strconv.ErrSyntax") = [("strconv.ErrSyntax", .iface "*errors.errorString" (.ptr (.agg [.lit (.string [105, 110, 118, 97, 108, 105, 100, 32, 115, 121, 110, 116, 97, 120])])))])
    (hr : (l.filter fun x => x.1 == "strconv.ErrRange") = [("strconv.ErrRange", .iface "*errors.errorString" (.ptr (.agg [.lit (.string [118, 97, 108, 117, 101, 32, 111, 117, 116, 32, 111, 102, 32, 114, 97, 110, 103, 101])])))]) : LibW W :=
  ⟨tabW_of_laid h hf,
   cell_of_shapedOpen_int (zero := #[.int .i64 0]) (t := 3) hS (of_decide_eq_true (w94_)) (w94_) rfl (w94_) (w94_) Tryz.underlying3,
   errS_of_laid h hs, errR_of_laid h hr⟩
theorem lift_shaped {H : Type} {enc : TypeId × Value → H} {a : Assume} {C : Checked} {os : Os} {f : FuncId} {fn : Func} {s : ChangeSpec} {conds : List PathCond} {apart fresh handsOn again : Bool} {X : World → Array Value → Prop}
    (hX : ∀ (w w' : World) (args : Array Value), w.heap = w'.heap → X w args → X w' args)
    (own : ownKnob C.prog.godebug = none) (started : os.Started) (noInit : C.prog.inits.idxOf? f = none) (hfn : C.prog.funcs[f]? = some fn)
    (witness : ∃ (w : World) (tape : Tape) (i : Input), w.os = os ∧ (w.forCall tape i).Shaped C.prog ∧ i.vars = [] ∧ Input.okWide C.prog (w.forCall tape i) .any w.heap.size f i ∧
      ((s.pre enc C.prog fn conds apart (w.forCall tape i).memory i.args ∧ X (w.forCall tape i).memory i.args) ∧ sizedMet enc C.prog fn (OpenSpec.ofChange s) apart (w.forCall tape i).memory i.args) ∧ a.holds C.prog (lone (Frame.enter C.prog f i.args .normal) [] (w.forCall tape i)))
    (contract : ∀ (W : World) (base : Nat) (args : Array Value) (ds gs : List (DataW H)) (before : List MemPlace), W.ShapedOpen C.prog →
      (∀ (j : Nat) t v, fn.params[j]? = some t → args[j]? = some v → Value.okWide C.prog W .any base t v) →
      DataW.Whole enc C.prog fn.params.toList s.vars apart W args.toList ds gs before →
      conds.all (PathCond.test C.prog ⟨fn.params.toList, ds, s.plain.varTypes C.prog, gs⟩) = true →
      (DataW.weightsEach C.prog (fn.params.toList ++ s.plain.varTypes C.prog) (ds ++ gs)).all (· ≤ reachBytes) = true → X W args →
      a.holds C.prog (lone (Frame.enter C.prog f args .normal) [] W) →
      Calls C.prog f args W fun e W' => ∃ v, e = .returned v ∧ s.post enc C.prog fn apart fresh handsOn again W args v W') :
    ReturnsInHanded a C os f .any (fun w args => (s.pre enc C.prog fn conds apart w args ∧ X w args) ∧ sizedMet enc C.prog fn (OpenSpec.ofChange s) apart w args) (s.post enc C.prog fn apart fresh handsOn again) := by
  refine returnsInHanded_of_calls own started noInit witness ?_
  intro w tape i _ hsh _ hok hpre hholds
  obtain ⟨_, _, _, fn', hfn', _, _, _, _, hval⟩ := hok
  have e : fn' = fn := Option.some.inj (hfn'.symm.trans hfn)
  subst e
  obtain ⟨⟨⟨ds, gs, before, hw, hc⟩, hx⟩, hz⟩ := hpre
  have hw' := DataW.Whole.of_heap (w' := w.forCall tape i) (by rfl) hw
  refine (contract (w.forCall tape i) w.heap.size i.args ds gs before hsh hval hw' hc (hz.weights hw) (hX _ _ _ (by rfl) hx) hholds).mono fun e W' ⟨v, he, hp⟩ => ?_
  subst he
  exact ChangeSpec.post_blind hp
def itoa.f (n : Int) : Option ByteArray := if -9223372036854775808 ≤ n ∧ n ≤ 9223372036854775807 then some ⟨(Lib.itoa n).toArray⟩ else none
theorem itoa.calls (n : Int) (r : ByteArray) (w : World) (hT : LibW w) (h : itoa.f n = some r) :
    Calls Tryz.prog 66 #[.int .i64 n] w fun e w' => e = .returned (.string r) ∧ Below w.heap.size w w' := by
  unfold itoa.f at h
  by_cases hn : -9223372036854775808 ≤ n ∧ n ≤ 9223372036854775807; rotate_left
  · rw [if_neg hn] at h
    cases h
  rw [if_pos hn] at h
  obtain rfl := Option.some.inj h
  refine (Tryz.strconv_Itoa n hn.1 hn.2 w hT.1).mono fun e w' he => ?_
  obtain ⟨rfl, k, os, rfl⟩ := he
  exact ⟨rfl, Lib.below_grow _ w (Nat.le_refl _) k os⟩
def ErrIs : Option Int → Value → Prop
  | none, ev => ev = .nilIface
  | some _, ev => ∃ N, ev = .iface 96 (.pointer (some ⟨N, 0, none⟩))
def atoi.f (s : ByteArray) : Option (Int × Option Int) :=
  if s.size ≤ 281474976710656 then (match Lib.atoiAll s.data.toList with | .ok v => some (v, none) | .range => some (Lib.atoiSat s.data.toList, some 0) | _ => some (0, some 0)) else none
theorem atoi.calls (s : ByteArray) (r1 : Int) (r2 : Option Int) (w : World) (hT : LibW w) (h : atoi.f s = some (r1, r2)) :
    Calls Tryz.prog 51 #[.string s] w fun e w' => ∃ ev, e = .returned (.tuple #[.int .i64 r1, ev]) ∧ ErrIs r2 ev ∧ Below w.heap.size w w' := by
  unfold atoi.f at h
  by_cases hn : s.size ≤ 281474976710656; rotate_left
  · rw [if_neg hn] at h
    cases h
  rw [if_pos hn] at h
  cases ha : Lib.atoiAll s.data.toList with
  | ok v =>
    simp only [ha, Option.some.injEq, Prod.mk.injEq] at h
    obtain ⟨rfl, rfl⟩ := h
    refine (Tryz.strconv_Atoi_ok s (by omega) v ha w).mono fun e w' ⟨he, hw⟩ => ⟨.nilIface, he, rfl, ?_⟩
    rcases hw with rfl | ⟨t, rfl⟩
    · exact Below.refl _ _
    · exact bytes_below (Below.refl _ _) (Nat.le_refl _) _ _
  | range =>
    simp only [ha, Option.some.injEq, Prod.mk.injEq] at h
    obtain ⟨rfl, rfl⟩ := h
    obtain ⟨ev, h1, h2⟩ := hT.2.2.2
    exact (Tryz.strconv_Atoi_range s hn ha ev w h1 h2).mono fun e w' ⟨N, he, _, _, hb⟩ => ⟨_, he, ⟨N, rfl⟩, hb⟩
  | _ =>
    simp only [ha, Option.some.injEq, Prod.mk.injEq] at h
    obtain ⟨rfl, rfl⟩ := h
    obtain ⟨ev, h1, h2⟩ := hT.2.2.1
    exact (Any.strconv_Atoi_syntax Tryz.laysC172 s hn ha ev w h1 h2).mono fun e w' ⟨N, he, _, _, hb⟩ => ⟨_, he, ⟨N, rfl⟩, hb⟩
def splitn.f (s sep : ByteArray) (n : Int) : Option (List ByteArray) :=
  if s.size < 4294967281 ∧ 1 ≤ sep.size ∧ 1 ≤ n ∧ n ≤ 9223372036854775807 then some (Lib.splitB sep 0 (min n.toNat (s.size + 1) - 1) s) else none
theorem row_new {w : World} {g base cap : Nat} {xs : List ByteArray} (h : w.heap[g]? = some (.cells (Lib.cellsOf xs cap) 9 (0, 0))) (hb : base ≤ g) (hc : xs.length ≤ cap) (hm : cap ≤ 4294967282) : Kd.R Kd.string 9 w base (fun _ => True) (.slice (some ⟨g, 0, none⟩) xs.length cap) xs := by
  have ho : w.ownsRow base 9 1 (.slice (some ⟨g, 0, none⟩) xs.length cap) xs.length (encs Value.string xs) := by
    refine ⟨?_, .inr ⟨g, cap, _, rfl, hb, h, ?_, by unfold maxLen; omega, ?_, ?_⟩⟩
    · rw [encs, List.length_map, Nat.mul_one]
    · exact hc
    · rw [Lib.cellsOf_size hc, Nat.mul_one]
    · unfold Lib.cellsOf
      rw [encs, Nat.mul_one, List.toList_toArray, List.take_append_of_le_length (by rw [List.length_map]; exact Nat.le_refl _), List.take_of_length_le (by rw [List.length_map]; exact Nat.le_refl _)]
  exact Kd.R_of_own ho (fun _ _ => trivial)
theorem splitn.calls (s sep : ByteArray) (n : Int) (r : List ByteArray) (w : World) (hT : LibW w) (h : splitn.f s sep n = some r) :
    Calls Tryz.prog 69 #[.string s, .string sep, .int .i64 n] w fun e w' => ∃ v0_ : Value, e = .returned (v0_) ∧ Kd.R Kd.string 9 w' w.heap.size (fun _ => True) v0_ r ∧ Below w.heap.size w w' := by
  unfold splitn.f at h
  by_cases hn : s.size < 4294967281 ∧ 1 ≤ sep.size ∧ 1 ≤ n ∧ n ≤ 9223372036854775807; rotate_left
  · rw [if_neg hn] at h
    cases h
  rw [if_pos hn] at h
  obtain rfl := Option.some.inj h
  obtain ⟨h1, h2, h3, h4⟩ := hn
  obtain ⟨m, hm⟩ := hT.2.1
  have hN := Tryz.strings_SplitN s sep n.toNat m w h1 hm h2 (by omega) (by omega)
  rw [show ((n.toNat : Nat) : Int) = n by omega] at hN
  refine hN.mono fun e w' ⟨he, hw⟩ => ⟨_, he, ?_, ?_⟩
  · subst hw
    have hl := Lib.splitB_length_le sep 0 (min n.toNat (s.size + 1) - 1) s
    exact row_new (by unfold World.alloc; simp) (Nat.le_refl _) (by omega) (by omega)
  · subst hw
    exact (Below.refl _ _).alloc (Nat.le_refl _) _
end Go.Proofs.YtimladcenifppaaGreatDoor.P
end

section
namespace Go.Proofs.YtimladcenifppaaGreatDoor.P
open Go.RowKit Go.Proofs.YtimladcenifppaaGreatDoorW.PrintWords Go.Proofs.YtimladcenifppaaGreatDoorW.PrintLast Go.Proofs.YtimladcenifppaaGreatDoorW.PrintMore
attribute [local go_sem] max2_int min2_int max_two min_two max_three min_three max_four min_four   -- for this text's walks alone
set_option linter.unusedVariables false
set_option linter.unusedSimpArgs false

def impl_joined.l0 : Nat → ByteArray → List ByteArray → List Int → Int → Int → Option (ByteArray)
 | 0, _, _, _, _, _ => none
 | k + 1, x1, x5, x9, x10, x11 => if x11 < x10 then (if 0 ≤ x11 then (if x11 < (x9.length : Int) then ((itoa.f (rd x9 x11)).bind fun t310 => (if x5.length < 8796093022208 then (impl_joined.l0 k x1 (x5 ++ [t310]) x9 x10 (wrap64 (x11 + 1))) else (none))) else (none)) else (none)) else ((strjoin.f x5 x1).bind fun t314 => (some t314))
def impl_joined.f (k : Nat) (l0 : List Int) (a1 : ByteArray) : Option (ByteArray) := impl_joined.l0 k a1 (([] : List ByteArray)) l0 (l0.length : Int) 0
set_option maxHeartbeats 8000000 in
set_option maxRecDepth 100000 in
theorem impl_joined.calls (k : Nat) (A0 : Option Addr) (c0 : Nat) (l0 : List Int) (a1 : ByteArray) (r : ByteArray) (w : World) (hT : LibW w) (hr0 : Kd.C (Kd.int .i64) w A0 l0.length l0) (hc0 : l0.length ≤ c0) (h : impl_joined.f k l0 a1 = some r) :
  Calls Tryz.prog 65 #[.slice A0 l0.length c0, .string a1] w fun e w' => e = .returned (.string r) ∧ Below w.heap.size w w' := by
 have HTAB := Az_ hT
 clear hT
 have HR0 := Az_ hr0
 have HC0 := Az_ hc0
 clear hr0 hc0
 have HB := Az_ (Below.refl w.heap.size w)
 have H : (impl_joined.l0 k a1 (([] : List ByteArray)) l0 (l0.length : Int) 0) = some r := h
 clear h
 obtain ⟨y306, hy306⟩ : ∃ y_ : List ByteArray, y_ = (([] : List ByteArray)) := ⟨_, rfl⟩
 replace H : (impl_joined.l0 k a1 y306 l0 (l0.length : Int) 0) = some r := by first | (rw [hy306]; with_reducible exact H) | (have H2_ := (Option.bind_some _ _).symm.trans H; rw [hy306]; with_reducible exact H2_) | (have H2_ := (Option.bind_some _ _).symm.trans H; with_reducible exact H2_) | with_reducible exact H | (rw [hy306]; exact H) | exact H
 have Ny306 := Az_ hy306
 clear hy306
 have H' := Az_ H
 clear H
 go_enter Tryz.func65, Tryz.ntmps65
 go_wp2_with (((with_reducible refine gate_dst (N := 8) rfl ?_); refine Kd.R_lit Kd.string _ 9 ?hg (N := 8) ?hd (xs := ([] : List ByteArray)) (inner := []) (ok := fun _ => True) (okp := fun _ => True) ?hr ?hp (fun _ hk => hk) trivial (Below.refl _ _) (Nat.le_refl _) (by simp) ?_; (case hd => rfl); (case hg => rfl); (case hr => first | (go_simp; done) | (go_simp; rfl)); (case hp => exact (Reps.none _ _)); intro v307 w3 ho4 hb hg_ hnew_; clear hg_ hnew_; (first | rw [← Ny306.out] at ho4 | (simp only [Int.reduceToNat] at ho4; rw [← Ny306.out] at ho4)); have HO308 := Az_ (Kd.R_lower ho4 (below_size (ubz_ HB.out))); replace HB := Az_ (btz_ (ubz_ HB.out) hb); clear hb ho4))
 go_loopg [5, 11] k (fun kq v5 v11 w' => ∃ (x5_1 : List ByteArray) (x11_1 : Int), v11 = .int .i64 x11_1 ∧ Aside0 (impl_joined.l0 kq a1 x5_1 l0 (l0.length : Int) x11_1 = some r) ∧ Aside0 (kq ≤ k) ∧ Aside0 (Kd.R Kd.string 9 w' w.heap.size (fun _ => True) v5 x5_1) ∧ Aside0 (Below w.heap.size w w'))
 case atStart => exact ⟨(y306), (0), qaz_, H', ⟨Nat.le_refl _⟩, ⟨by (with_reducible repeat (first | apply raz_ | apply rnz_ | apply rdz_)); exact HO308.out⟩, ⟨w92_⟩⟩
 case round =>
  clear H'
  obtain ⟨x5_1, x11_1, rfl, HA, HK1, HO_5, HB⟩ := hrel
  cases gk with
  | zero => exact absurd HA.out (by simp [impl_joined.l0])
  | succ k1 =>
   have H := HA.out
   clear HA
   simp only [impl_joined.l0] at H
   by_cases c5 : x11_1 < (l0.length : Int)
   ·rw [if_pos c5] at H
    have c5b0 := decide_eq_true c5
    clear c5
    by_cases c6 : 0 ≤ x11_1; rotate_left
    ·rw [if_neg c6] at H
     exact absurd H (by simp)
    rw [if_pos c6] at H
    have c6b0 := decide_eq_true c6
    clear c6
    by_cases c7 : x11_1 < (l0.length : Int); rotate_left
    ·rw [if_neg c7] at H
     exact absurd H (by simp)
    rw [if_pos c7] at H
    have c7b0 := decide_eq_true c7
    clear c7
    replace H := bqz_ H; obtain ⟨t310, A8, H⟩ := H
    replace H : (if x5_1.length < 8796093022208 then (impl_joined.l0 k1 a1 (x5_1 ++ [t310]) l0 (l0.length : Int) (wrap64 (x11_1 + 1))) else (none)) = some r := H
    by_cases c9 : x5_1.length < 8796093022208; rotate_left
    ·rw [if_neg c9] at H
     exact absurd H (by simp)
    rw [if_pos c9] at H
    have LMc9 := Az_ c9
    clear c9
    obtain ⟨y311, hy311⟩ : ∃ y_ : List ByteArray, y_ = (x5_1 ++ [t310]) := ⟨_, rfl⟩
    replace H : (impl_joined.l0 k1 a1 y311 l0 (l0.length : Int) (wrap64 (x11_1 + 1))) = some r := by first | (rw [hy311]; with_reducible exact H) | (have H2_ := (Option.bind_some _ _).symm.trans H; rw [hy311]; with_reducible exact H2_) | (have H2_ := (Option.bind_some _ _).symm.trans H; with_reducible exact H2_) | with_reducible exact H | (rw [hy311]; exact H) | exact H
    have Ny311 := Az_ hy311
    clear hy311
    have H' := Az_ H
    clear H
    have p309 : 0 ≤ (x11_1 : Int) := od_
    have q309 : x11_1 < (l0.length : Int) := od_
    obtain ⟨ad309, e309, hx309_0⟩ := Kd.at_int HR0.out x11_1 p309 q309
    cases e309
    replace hx309_0 := hbz_ HB.out hx309_0
    replace p309 := eq_true p309
    replace q309 := eq_true q309
    go_wp2_with (first | ((with_reducible refine gate_callee (f := 66) rfl ?_); refine goesL_ (some 17) rfl rfl Tryz.func66 (w94_) rfl #[.int .i64 (rd l0 x11_1)] rfl maz_ ?_; (with_reducible refine (itoa.calls (rd l0 x11_1) t310 _ (libW_below HTAB.out (ubz_ HB.out)) A8.out).mono ?_); rintro e w10 ⟨rfl, hb⟩; refine ⟨_, rfl, ?_⟩; replace HO_5 := Az_ (Kd.R_below (by exact urz_ HO_5.out) hb); replace HB := Az_ (btz_ (ubz_ HB.out) hb); (try clear hb)) | ((with_reducible refine gate_builtin (b := .append) (xs := #[.tmp 15, .tmp 18]) rfl ?_); at_builtin; refine Kd.R_append Kd.string (w0 := w) w.heap.size rfl (.tmp 15) (.tmp 18) 84 9 (.string ⟨#[]⟩) 16 rfl Tryz.underlying84 info9 rfl (by decide) (by omega) u5 x5_1 t310 [.string t310] (fun _ => True) (fun _ => False) rfl rfl ?aP (fun _ hk => hk.elim) ?aF ?aO ?aB ?aS ?aL ?_; (case aP => exact rfl); (case aB => exact (ubz_ HB.out)); (case aF => exact (fun _ _ => trivial)); (case aO => exact (by exact urz_ HO_5.out)); (case aS => exact (below_size (ubz_ HB.out))); (case aL => have := LMc9.out; omega); intro v312 w11 ho hb hg hat; rw [← Ny311.out] at ho; replace HB := Az_ (hb); have HO313 := Az_ (ho); clear HO_5; clear ho hb hg hat))
    go_roundg k1
    case measure => have := HK1.out; omega
    case rel => exact ⟨(y311), (wrap64 (x11_1 + 1)), qaz_, H', ⟨w85_⟩, ⟨by (with_reducible repeat (first | apply raz_ | apply rnz_ | apply rdz_)); exact HO313.out⟩, ⟨w92_⟩⟩
   ·rw [if_neg c5] at H
    have c5b0 := decide_eq_false c5
    clear c5
    replace H := bqz_ H; obtain ⟨t314, A12, H⟩ := H
    replace H : (some t314) = some r := H
    obtain rfl := Option.some.inj H
    obtain ⟨Ao13, co13, eo13⟩ := Kd.R_slice HO_5.out
    subst eo13
    go_wp2_with (((with_reducible refine gate_callee (f := 75) rfl ?_); refine goesL_ (some 23) rfl rfl Tryz.func75 (w94_) rfl #[.slice Ao13 x5_1.length co13, .string a1] rfl maz_ ?_; (with_reducible refine (strjoin.calls _ _ x5_1 a1 t314 _ ?side1 ?side2 A12.out).mono ?_); (case side1 => exact ⟨_, _, (by exact urz_ HO_5.out)⟩); (case side2 => exact (Kd.R_reads' HO_5.out).2.1); rintro e w14 ⟨rfl, hb⟩; refine ⟨_, rfl, ?_⟩; replace HO_5 := Az_ (Kd.R_below (by exact urz_ HO_5.out) hb); replace HB := Az_ (btz_ (ubz_ HB.out) hb); (try clear hb)))
    go_ret
    exact ⟨w74_, w92_⟩

def impl_shelfText.f (k : Nat) (l0_0 : List Int) (a0_1 : Int) : Option (ByteArray) := (impl_joined.f k l0_0 (⟨#[44]⟩ : ByteArray)).bind fun t316 => (if t316.size + 1 ≤ 9223372036854775807 then ((itoa.f a0_1).bind fun t317 => (if (t316 ++ (⟨#[99]⟩ : ByteArray)).size + t317.size ≤ 9223372036854775807 then (some ((t316 ++ (⟨#[99]⟩ : ByteArray)) ++ t317)) else (none))) else (none))
def impl_shelfText.T1 : Bool × List (List Nat × List Nat) := (true, [([], []), ([0], [0]), ([1], [1]), ([2], [2]), ([], []), ([4], [4]), ([5, 2], [5]), ([3, 6], [3, 6]), ([7, 6, 0, 1, 2, 3, 4, 5, 6, 7], [7])])
def impl_shelfText.B1 : List Nat := [0, 1, 3, 7, 0, 16, 55, 127, 255]
theorem impl_shelfText.tab1 : rtab .any (opsOf Tryz.f45 1) = impl_shelfText.T1 := by kernel_rfl
theorem impl_shelfText.bits1 : waitsOk impl_shelfText.T1.2 impl_shelfText.B1 = true := by kernel_rfl
set_option maxHeartbeats 8000000 in
set_option maxRecDepth 100000 in
theorem impl_shelfText.calls (k : Nat) (A0_0 : Option Addr) (c0_0 : Nat) (l0_0 : List Int) (a0_1 : Int) (r : ByteArray) (w : World) (hT : LibW w) (hr0_0 : Kd.C (Kd.int .i64) w A0_0 l0_0.length l0_0) (hc0_0 : l0_0.length ≤ c0_0) (h : impl_shelfText.f k l0_0 a0_1 = some r) :
  Calls Tryz.prog 45 #[.agg #[.slice A0_0 l0_0.length c0_0, .int .i64 a0_1]] w fun e w' => e = .returned (.string r) ∧ Below w.heap.size w w' := by
 have HTAB := Az_ hT
 clear hT
 have hu26 := Tryz.underlying26
 have HR0_0 := Az_ hr0_0
 have HC0_0 := Az_ hc0_0
 clear hr0_0 hc0_0
 have HB := Az_ (Below.refl w.heap.size w)
 have H : ((impl_joined.f k l0_0 (⟨#[44]⟩ : ByteArray)).bind fun t316 => (if t316.size + 1 ≤ 9223372036854775807 then ((itoa.f a0_1).bind fun t317 => (if (t316 ++ (⟨#[99]⟩ : ByteArray)).size + t317.size ≤ 9223372036854775807 then (some ((t316 ++ (⟨#[99]⟩ : ByteArray)) ++ t317)) else (none))) else (none))) = some r := h
 clear h
 replace H := bqz_ H; obtain ⟨t316, A2, H⟩ := H
 replace H : (if t316.size + 1 ≤ 9223372036854775807 then ((itoa.f a0_1).bind fun t317 => (if (t316 ++ (⟨#[99]⟩ : ByteArray)).size + t317.size ≤ 9223372036854775807 then (some ((t316 ++ (⟨#[99]⟩ : ByteArray)) ++ t317)) else (none))) else (none)) = some r := H
 by_cases c3 : t316.size + 1 ≤ 9223372036854775807
 ·rw [if_pos c3] at H
  have c3b0 := eq_true c3
  have c3b1 := decide_eq_true c3
  try have c3b2 : (9223372036854775807 < t316.size + 1) = False := eq_false (Nat.not_lt.2 c3)
  replace H := bqz_ H; obtain ⟨t317, A4, H⟩ := H
  replace H : (if (t316 ++ (⟨#[99]⟩ : ByteArray)).size + t317.size ≤ 9223372036854775807 then (some ((t316 ++ (⟨#[99]⟩ : ByteArray)) ++ t317)) else (none)) = some r := H
  by_cases c5 : (t316 ++ (⟨#[99]⟩ : ByteArray)).size + t317.size ≤ 9223372036854775807; rotate_left
  ·rw [if_neg c5] at H
   exact absurd H (by simp)
  rw [if_pos c5] at H
  have c5b0 := eq_true c5
  have c5b1 := decide_eq_true c5
  try have c5b2 : (9223372036854775807 < (t316 ++ (⟨#[99]⟩ : ByteArray)).size + t317.size) = False := eq_false (Nat.not_lt.2 c5)
  have c5b3 : (9223372036854775807 < t316.size + 1 + t317.size) = False := by (have h_ := c5b2; simp only [ByteArray.size_append] at h_; exact h_)
  obtain rfl := Option.some.inj H
  go_enter Tryz.func45, Tryz.ntmps45
  try go_wp2_with (((with_reducible refine gate_dst (N := 1) rfl ?_); refine box_event ?hg (N := 1) ?hd (cs := #[.slice A0_0 l0_0.length c0_0, .int .i64 a0_1]) (t := 26) ?hr ?_; (case hd => rfl); (case hg => rfl); (case hr => first | (go_simp; done) | (go_simp; rfl)); intro gb315 hg w6 hbox hb; have BK315 := Az_ (hbox); have GW315 := Az_ ((by rw [hg]; exact (below_size (ubz_ HB.out)) : w.heap.size ≤ gb315)); have GE315 := Az_ ((by rw [hg]; exact (below_size (ubz_ HB.out)) : w.heap.size ≤ gb315)); replace HB := Az_ (btz_ (ubz_ HB.out) hb); clear hb hbox hg))
  have n0_ := Az_ (kdz_ BK315.out)
  have n1_ := Az_ (bdz_ HB.out)
  clear BK315 HB
  have BK315 := n0_
  have HB := n1_
  clear n0_ n1_
  refine start_ (n := 9) (S := fun w' => w'.cell? ⟨gb315, 0, none⟩ = some (.slice A0_0 l0_0.length c0_0) ∧ w'.cell? ⟨gb315, 1, none⟩ = some (.int .i64 a0_1)) (ds := []) #[false, false, false, false, false, false, false, false, false] (w94_) rfl rfl ⟨(blk_cell BK315.out 0).trans rfl, (blk_cell BK315.out 1).trans rfl⟩ (fun hHeld => ?_); refine with_tabW impl_shelfText.tab1 impl_shelfText.bits1 (fun HT_ HW_ => ?_)
  generalize w6.drew = w7 at BK315 HB hHeld ⊢
  refine pz_ 0 3 [1,8] ?_
  refine pz_ 4 7 [1,3,1,4] ?_
  refine tz2_ 1 4 [2,2,1,4] ?_
  refine tz2_ 5 8 [2,2,2,3] ?_
  refine one_ (i := 2) (N := some 5) (mz_ [3,1,2,3]) rfl rfl (one_of HT_.out (w94_)) (by decide) (fun K hK => ?_)
  refine goes_ Tryz.func65 (w94_) rfl #[.slice A0_0 l0_0.length c0_0, .string (⟨#[44]⟩ : ByteArray)] (by rfl) rfl rfl maz_ ?_
  with_reducible refine (impl_joined.calls k _ _ l0_0 (⟨#[44]⟩ : ByteArray) t316 _ (libW_below HTAB.out (w52_)) ?side1 ?side2 A2.out).mono ?_
  (case side1 => repeat (first | exact (Kd.C_below HR0_0.out HB.out) | (with_reducible refine Kd.C_alloc ?_ _) | (with_reducible refine Kd.C_drewN ?_ _) | (with_reducible refine Kd.C_drew ?_)))
  (case side2 => exact HC0_0.out)
  rintro e w8 ⟨rfl, hb⟩
  refine ⟨_, rfl, ?_⟩
  have n1_ := Az_ (btz_ (w52_) hb)
  clear HB
  replace BK315 := Az_ (ukbz_ BK315.out hb)
  have HB := n1_
  clear n1_
  clear hb
  refine hK.out _ _ ⟨(blk_cell BK315.out 0).trans rfl, (blk_cell BK315.out 1).trans rfl⟩ (fun hHeld => ?_)
  clear hK K
  refine nz_ 5 ?_
  refine pz_ 3 6 [6,3] ?_
  refine one_ (i := 6) (N := some 9) (mz_ [7,2]) rfl rfl (one_of HT_.out (w94_)) (by decide) (fun K hK => ?_)
  refine goes_ Tryz.func66 (w94_) rfl #[.int .i64 a0_1] (by rfl) rfl rfl maz_ ?_
  with_reducible refine (itoa.calls a0_1 t317 _ (libW_below HTAB.out (w52_)) A4.out).mono ?_
  rintro e w9 ⟨rfl, hb⟩
  refine ⟨_, rfl, ?_⟩
  have n1_ := Az_ (btz_ (w52_) hb)
  clear HB
  replace BK315 := Az_ (ukbz_ BK315.out hb)
  have HB := n1_
  clear n1_
  clear hb
  refine hK.out _ _ ⟨(blk_cell BK315.out 0).trans rfl, (blk_cell BK315.out 1).trans rfl⟩ (fun hHeld => ?_)
  clear hK K
  refine nz_ 9 ?_
  refine pz_ 7 10 [8,1] ?_
  refine pz_ 8 2 [9] ?_
  refine done_ (done_of HT_.out (w94_)) ?_
  try go_wp2
  go_ret
  exact ⟨w74_, w52_⟩
 ·rw [if_neg c3] at H
  exact absurd H (by simp)

def impl_ShelfText.f (k : Nat) (l0_0 : List Int) (a0_1 : Int) : Option (ByteArray × Bool) := (impl_IsShelf.f k l0_0 a0_1).bind fun t319 => (if t319 = true then ((impl_shelfText.f k l0_0 a0_1).bind fun t320 => (some (t320, true))) else (some ((⟨#[]⟩ : ByteArray), false)))
set_option maxHeartbeats 8000000 in
set_option maxRecDepth 100000 in
theorem impl_ShelfText.calls (k : Nat) (A0_0 : Option Addr) (c0_0 : Nat) (l0_0 : List Int) (a0_1 : Int) (r1 : ByteArray) (r2 : Bool) (w : World) (hT : LibW w) (hr0_0 : Kd.C (Kd.int .i64) w A0_0 l0_0.length l0_0) (hc0_0 : l0_0.length ≤ c0_0) (h : impl_ShelfText.f k l0_0 a0_1 = some (r1, r2)) :
  Calls Tryz.prog 16 #[.agg #[.slice A0_0 l0_0.length c0_0, .int .i64 a0_1]] w fun e w' => e = .returned (.tuple #[.string r1, .bool r2]) ∧ Below w.heap.size w w' := by
 have HTAB := Az_ hT
 clear hT
 have hu26 := Tryz.underlying26
 have HR0_0 := Az_ hr0_0
 have HC0_0 := Az_ hc0_0
 clear hr0_0 hc0_0
 have HB := Az_ (Below.refl w.heap.size w)
 have H : ((impl_IsShelf.f k l0_0 a0_1).bind fun t319 => (if t319 = true then ((impl_shelfText.f k l0_0 a0_1).bind fun t320 => (some (t320, true))) else (some ((⟨#[]⟩ : ByteArray), false)))) = some (r1, r2) := h
 clear h
 replace H := bqz_ H; obtain ⟨t319, A2, H⟩ := H
 replace H : (if t319 = true then ((impl_shelfText.f k l0_0 a0_1).bind fun t320 => (some (t320, true))) else (some ((⟨#[]⟩ : ByteArray), false))) = some (r1, r2) := H
 by_cases c3 : t319 = true
 ·subst c3
  rw [if_pos rfl] at H
  replace H := bqz_ H; obtain ⟨t320, A4, H⟩ := H
  replace H : (some (t320, true)) = some (r1, r2) := H
  simp only [Option.some.injEq, Prod.mk.injEq] at H
  obtain ⟨rfl, rfl⟩ := H
  go_enter Tryz.func16, Tryz.ntmps16
  go_wp2_with (first | ((with_reducible refine gate_dst (N := 1) rfl ?_); refine box_event ?hg (N := 1) ?hd (cs := #[.slice A0_0 l0_0.length c0_0, .int .i64 a0_1]) (t := 26) ?hr ?_; (case hd => rfl); (case hg => rfl); (case hr => first | (go_simp; done) | (go_simp; rfl)); intro gb318 hg w5 hbox hb; have BK318 := Az_ (hbox); have GW318 := Az_ ((by rw [hg]; exact (below_size (ubz_ HB.out)) : w.heap.size ≤ gb318)); have GE318 := Az_ ((by rw [hg]; exact (below_size (ubz_ HB.out)) : w.heap.size ≤ gb318)); replace HB := Az_ (btz_ (ubz_ HB.out) hb); clear hb hbox hg; have hcz6_0 : w5.cell? ⟨gb318, 0, none⟩ = some (.slice A0_0 l0_0.length c0_0) := (blk_cell BK318.out 0).trans rfl; have hcz6_1 : w5.cell? ⟨gb318, 1, none⟩ = some (.int .i64 a0_1) := (blk_cell BK318.out 1).trans rfl; have hfz6_0 := blk_frozen BK318.out 0; have hfz6_1 := blk_frozen BK318.out 1) | ((with_reducible refine gate_callee (f := 19) rfl ?_); refine goesL_ (some 5) rfl rfl Tryz.func19 (w94_) rfl #[.agg #[.slice A0_0 l0_0.length c0_0, .int .i64 a0_1]] rfl maz_ ?_; (with_reducible refine (impl_IsShelf.calls k _ _ l0_0 a0_1 true _ ?side1 ?side2 A2.out).mono ?_); (case side1 => exact ucz_ ((Kd.C_below HR0_0.out HB.out))); (case side2 => exact HC0_0.out); rintro e w7 ⟨rfl, hb⟩; refine ⟨_, rfl, ?_⟩; have n1_ := Az_ (btz_ (w52_) hb); clear HB; replace BK318 := Az_ (ukbz_ BK318.out hb); have HB := n1_; clear n1_; (try clear hb); have hcz8_0 : w7.cell? ⟨gb318, 0, none⟩ = some (.slice A0_0 l0_0.length c0_0) := (blk_cell BK318.out 0).trans rfl; have hcz8_1 : w7.cell? ⟨gb318, 1, none⟩ = some (.int .i64 a0_1) := (blk_cell BK318.out 1).trans rfl; have hfz8_0 := blk_frozen BK318.out 0; have hfz8_1 := blk_frozen BK318.out 1) | ((with_reducible refine gate_callee (f := 45) rfl ?_); refine goesL_ (some 8) rfl rfl Tryz.func45 (w94_) rfl #[.agg #[.slice A0_0 l0_0.length c0_0, .int .i64 a0_1]] rfl maz_ ?_; (with_reducible refine (impl_shelfText.calls k _ _ l0_0 a0_1 t320 _ (libW_below HTAB.out (w52_)) ?side1 ?side2 A4.out).mono ?_); (case side1 => exact ucz_ ((Kd.C_below HR0_0.out HB.out))); (case side2 => exact HC0_0.out); rintro e w9 ⟨rfl, hb⟩; refine ⟨_, rfl, ?_⟩; have n1_ := Az_ (btz_ (w52_) hb); clear HB; replace BK318 := Az_ (ukbz_ BK318.out hb); have HB := n1_; clear n1_; (try clear hb)))
  go_ret2
  exact ⟨w74_, w52_⟩
 ·replace c3 := Bool.eq_false_iff.mpr c3
  subst c3
  rw [if_neg nfz_] at H
  simp only [Option.some.injEq, Prod.mk.injEq] at H
  obtain ⟨rfl, rfl⟩ := H
  go_enter Tryz.func16, Tryz.ntmps16
  go_wp2_with (first | ((with_reducible refine gate_dst (N := 1) rfl ?_); refine box_event ?hg (N := 1) ?hd (cs := #[.slice A0_0 l0_0.length c0_0, .int .i64 a0_1]) (t := 26) ?hr ?_; (case hd => rfl); (case hg => rfl); (case hr => first | (go_simp; done) | (go_simp; rfl)); intro gb318 hg w10 hbox hb; have BK318 := Az_ (hbox); have GW318 := Az_ ((by rw [hg]; exact (below_size (ubz_ HB.out)) : w.heap.size ≤ gb318)); have GE318 := Az_ ((by rw [hg]; exact (below_size (ubz_ HB.out)) : w.heap.size ≤ gb318)); replace HB := Az_ (btz_ (ubz_ HB.out) hb); clear hb hbox hg; have hcz11_0 : w10.cell? ⟨gb318, 0, none⟩ = some (.slice A0_0 l0_0.length c0_0) := (blk_cell BK318.out 0).trans rfl; have hcz11_1 : w10.cell? ⟨gb318, 1, none⟩ = some (.int .i64 a0_1) := (blk_cell BK318.out 1).trans rfl; have hfz11_0 := blk_frozen BK318.out 0; have hfz11_1 := blk_frozen BK318.out 1) | ((with_reducible refine gate_callee (f := 19) rfl ?_); refine goesL_ (some 5) rfl rfl Tryz.func19 (w94_) rfl #[.agg #[.slice A0_0 l0_0.length c0_0, .int .i64 a0_1]] rfl maz_ ?_; (with_reducible refine (impl_IsShelf.calls k _ _ l0_0 a0_1 false _ ?side1 ?side2 A2.out).mono ?_); (case side1 => exact ucz_ ((Kd.C_below HR0_0.out HB.out))); (case side2 => exact HC0_0.out); rintro e w12 ⟨rfl, hb⟩; refine ⟨_, rfl, ?_⟩; have n1_ := Az_ (btz_ (w52_) hb); clear HB; replace BK318 := Az_ (ukbz_ BK318.out hb); have HB := n1_; clear n1_; (try clear hb)))
  go_ret2
  exact ⟨w74_, w52_⟩


def spec_l1Num.f : Nat → Int → Option (ByteArray)
 | 0, _ => none
 | k + 1, a0 => if a0 < 10 then (some (strOfNums (([(wrap64 (48 + a0)) % 256] : List Int)))) else ((spec_l1Num.f k (wrap64 (Int.tdiv a0 10))).bind fun t324 => ((some (([(wrap64 (48 + (Int.tmod a0 10))) % 256] : List Int) : List Int)).bind fun y325 => (if t324.size + (strOfNums y325).size ≤ 9223372036854775807 then (some (t324 ++ (strOfNums y325))) else (none))))
def spec_l1Num.T3 : Bool × List (List Nat × List Nat) := (true, [([], []), ([0], [0]), ([1], [1]), ([], []), ([3], [3]), ([4], [4]), ([5], [5]), ([6], [6]), ([7], [7]), ([2, 8], [2, 8]), ([9, 2, 0, 1, 2, 3, 4, 5, 6, 7, 8, 9], [9])])
def spec_l1Num.B3 : List Nat := [0, 1, 3, 0, 8, 24, 56, 120, 248, 511, 1023]
theorem spec_l1Num.tab3 : rtab .any (opsOf Tryz.f67 3) = spec_l1Num.T3 := by kernel_rfl
theorem spec_l1Num.bits3 : waitsOk spec_l1Num.T3.2 spec_l1Num.B3 = true := by kernel_rfl
set_option maxHeartbeats 8000000 in
set_option maxRecDepth 100000 in
theorem spec_l1Num.calls (k : Nat) : ∀ (a0 : Int) (r : ByteArray) (w : World) (h : spec_l1Num.f k a0 = some r),
  Calls Tryz.prog 67 #[.int .i64 a0] w fun e w' => e = .returned (.string r) ∧ Below w.heap.size w w' := by
 induction k using Nat.strongRecOn with
 | _ k ih =>
 intro a0 r w h
 cases k with
 | zero => exact absurd h (by simp [spec_l1Num.f])
 | succ k =>
 simp only [spec_l1Num.f] at h
 have HB := Az_ (Below.refl w.heap.size w)
 have H : (if a0 < 10 then (some (strOfNums (([(wrap64 (48 + a0)) % 256] : List Int)))) else ((spec_l1Num.f k (wrap64 (Int.tdiv a0 10))).bind fun t324 => ((some (([(wrap64 (48 + (Int.tmod a0 10))) % 256] : List Int) : List Int)).bind fun y325 => (if t324.size + (strOfNums y325).size ≤ 9223372036854775807 then (some (t324 ++ (strOfNums y325))) else (none))))) = some r := h
 clear h
 by_cases c2 : a0 < 10
 ·rw [if_pos c2] at H
  have c2b0 := decide_eq_true c2
  clear c2
  obtain ⟨y321, hy321⟩ : ∃ y_ : List Int, y_ = (([(wrap64 (48 + a0)) % 256] : List Int)) := ⟨_, rfl⟩
  replace H : (some (strOfNums y321)) = some r := by first | (rw [hy321]; with_reducible exact H) | (have H2_ := (Option.bind_some _ _).symm.trans H; rw [hy321]; with_reducible exact H2_) | (have H2_ := (Option.bind_some _ _).symm.trans H; with_reducible exact H2_) | with_reducible exact H | (rw [hy321]; exact H) | exact H
  have Ny321 := Az_ hy321
  clear hy321
  obtain rfl := Option.some.inj H
  go_enter Tryz.func67, Tryz.ntmps67
  go_wp2_with (((with_reducible refine gate_dst (N := 8) rfl ?_); refine Kd.R_lit (Kd.int .u8) _ 5 ?hg (N := 8) ?hd (xs := ([(wrap64 (48 + a0)) % 256] : List Int)) (inner := [.int .u8 ((wrap64 (48 + a0)) % 256)]) (ok := fun _ => True) (okp := fun _ => True) ?hr ?hp (fun _ hk => hk) trivial (Below.refl _ _) (Nat.le_refl _) (by simp) ?_; (case hd => rfl); (case hg => rfl); (case hr => first | (go_simp; done) | (go_simp; rfl)); (case hp => exact (Reps.one (show Kd.M (Kd.int .u8) _ _ _ ((wrap64 (48 + a0)) % 256) [.int .u8 ((wrap64 (48 + a0)) % 256)] from rfl) (Reps.none _ _))); intro v322 w3 ho4 hb hg_ hnew_; clear hg_ hnew_; (first | rw [← Ny321.out] at ho4 | (simp only [Int.reduceToNat] at ho4; rw [← Ny321.out] at ho4)); have HO323 := Az_ (Kd.R_lower ho4 (below_size (ubz_ HB.out))); replace HB := Az_ (btz_ (ubz_ HB.out) hb); clear hb ho4; have hcv5 := own_string (P := Tryz.prog) Tryz.underlying22 Tryz.underlying5 Tryz.underlying9 (Kd.own_of_R HO323.out)))
  go_ret
  exact ⟨w74_, w92_⟩
 ·rw [if_neg c2] at H
  have c2b0 := decide_eq_false c2
  clear c2
  replace H := bqz_ H; obtain ⟨t324, A6, H⟩ := H
  replace H : ((some (([(wrap64 (48 + (Int.tmod a0 10))) % 256] : List Int) : List Int)).bind fun y325 => (if t324.size + (strOfNums y325).size ≤ 9223372036854775807 then (some (t324 ++ (strOfNums y325))) else (none))) = some r := H
  obtain ⟨y325, hy325⟩ : ∃ y_ : List Int, y_ = (([(wrap64 (48 + (Int.tmod a0 10))) % 256] : List Int)) := ⟨_, rfl⟩
  replace H : (if t324.size + (strOfNums y325).size ≤ 9223372036854775807 then (some (t324 ++ (strOfNums y325))) else (none)) = some r := by first | (rw [hy325]; with_reducible exact H) | (have H2_ := (Option.bind_some _ _).symm.trans H; rw [hy325]; with_reducible exact H2_) | (have H2_ := (Option.bind_some _ _).symm.trans H; with_reducible exact H2_) | with_reducible exact H | (rw [hy325]; exact H) | exact H
  have Ny325 := Az_ hy325
  clear hy325
  by_cases c7 : t324.size + (strOfNums y325).size ≤ 9223372036854775807
  ·rw [if_pos c7] at H
   have c7b0 := eq_true c7
   have c7b1 := decide_eq_true c7
   try have c7b2 : (9223372036854775807 < t324.size + (strOfNums y325).size) = False := eq_false (Nat.not_lt.2 c7)
   obtain rfl := Option.some.inj H
   go_enter Tryz.func67, Tryz.ntmps67
   try go_wp2
   have n0_ := Az_ (bdz_ HB.out)
   clear HB
   have HB := n0_
   clear n0_
   refine start_ (n := 11) (S := fun w' => True) (ds := []) #[false, false, false, false, false, false, false, false, false, false, false] (w94_) rfl rfl trivial (fun hHeld => ?_); refine with_tabW spec_l1Num.tab3 spec_l1Num.bits3 (fun HT_ HW_ => ?_)
   generalize w.drew = w8 at HB hHeld ⊢
   refine pz_ 0 10 [1,10] ?_
   refine pz_ 1 11 [2,9] ?_
   refine pz_ 3 13 [2,1,1,7] ?_
   refine pz_ 4 14 [2,1,2,6] ?_
   refine pz_ 5 15 [2,1,3,5] ?_
   refine pz_ 6 16 [2,1,4,4] ?_
   refine join_ (σ := Value) 2 #[true, true, true, true, true, true, true, true, true, false, false] (fun s_ => [(12, .string t324), (17, s_), (18, .string (strOfNums y325))]) (fun s_ w' => (Kd.R (Kd.int .u8) 5 w' w.heap.size (fun _ => True) s_ y325) ∧ (Below w.heap.size w w')) ?_ ?_
   rotate_left
   ·intro hCont
    refine two_ (i := 2) (j := 7) (Ni := some 12) (Nj := some 17) (mz_ [7,4]) #[true, true, false, true, true, true, true, true, false, false, false] rfl rfl rfl rfl (two_of HT_.out (w94_)) (by decide) (by decide) (fun K hK => ?_) (fun K hK => ?_)
    ·skip
     refine goes_ Tryz.func67 (w94_) rfl #[.int .i64 (wrap64 (Int.tdiv a0 10))] (by rfl) rfl rfl maz_ ?_
     with_reducible refine (ih k (by omega) (wrap64 (Int.tdiv a0 10)) t324 _ A6.out).mono ?_
     rintro e w9 ⟨rfl, hb⟩
     refine ⟨_, rfl, ?_⟩
     have n0_ := Az_ (btz_ (ubz_ HB.out) hb)
     clear HB
     have HB := n0_
     clear n0_
     clear hb
     refine hK.out _ _ trivial (fun hHeld => ?_)
     clear hK K
     refine nz_ 12 ?_
     refine one_ (i := 7) (N := some 17) (mz_ [8,3]) rfl rfl (one_of HT_.out (w94_)) (by decide) (fun K hK => ?_)
     refine Kd.R_lit_step (Kd.int .u8) _ 5 ?hg (N := 17) ?hd (xs := ([(wrap64 (48 + (Int.tmod a0 10))) % 256] : List Int)) (inner := [.int .u8 ((wrap64 (48 + (Int.tmod a0 10))) % 256)]) (ok := fun _ => True) (okp := fun _ => True) ?hr ?hp (fun _ hk => hk) trivial (Below.refl _ _) (Nat.le_refl _) (by simp) ?_; (case hd => rfl); (case hg => rfl); (case hr => first | (go_simp; done) | (go_simp; rfl)); (case hp => exact (Reps.one (show Kd.M (Kd.int .u8) _ _ _ ((wrap64 (48 + (Int.tmod a0 10))) % 256) [.int .u8 ((wrap64 (48 + (Int.tmod a0 10))) % 256)] from rfl) (Reps.none _ _)))
     intro v326 w10 ho11 hb hg_ hnew_
     clear hg_ hnew_
     (first | rw [← Ny325.out] at ho11 | (simp only [Int.reduceToNat] at ho11; rw [← Ny325.out] at ho11))
     have n0_ := Az_ (Kd.R_lower ho11 (below_size (ubz_ HB.out)))
     have n1_ := Az_ (btz_ (ubz_ HB.out) hb)
     clear HB
     have HO327 := n0_
     have HB := n1_
     clear n0_ n1_ hb ho11
     refine hK.out _ _ trivial (fun hHeld => ?_)
     clear hK K
     refine nz_ 17 ?_
     refine one_ (i := 8) (N := some 18) (mz_ [9,2]) rfl rfl (one_of HT_.out (w94_)) (by decide) (fun K hK => ?_)
     have hcv12 := own_string (P := Tryz.prog) Tryz.underlying22 Tryz.underlying5 Tryz.underlying9 (Kd.own_of_R HO327.out)
     refine value_ (w1 := ?_) (v := ?_) (by rfl) rfl ?_ ?_
     rotate_left 2
     ·go_simp
      constructor
      ·rfl
      ·rfl
     clear hcv12
     refine hK.out _ _ trivial (fun hHeld => ?_)
     clear hK K
     refine nz_ 18 ?_
     exact norm_ (w73_) (hCont (v326) _ ⟨(by exact urz_ HO327.out), (ubz_ HB.out)⟩)
    ·skip
     refine Kd.R_lit_step (Kd.int .u8) _ 5 ?hg (N := 17) ?hd (xs := ([(wrap64 (48 + (Int.tmod a0 10))) % 256] : List Int)) (inner := [.int .u8 ((wrap64 (48 + (Int.tmod a0 10))) % 256)]) (ok := fun _ => True) (okp := fun _ => True) ?hr ?hp (fun _ hk => hk) trivial (Below.refl _ _) (Nat.le_refl _) (by simp) ?_; (case hd => rfl); (case hg => rfl); (case hr => first | (go_simp; done) | (go_simp; rfl)); (case hp => exact (Reps.one (show Kd.M (Kd.int .u8) _ _ _ ((wrap64 (48 + (Int.tmod a0 10))) % 256) [.int .u8 ((wrap64 (48 + (Int.tmod a0 10))) % 256)] from rfl) (Reps.none _ _)))
     intro v326 w9 ho10 hb hg_ hnew_
     clear hg_ hnew_
     (first | rw [← Ny325.out] at ho10 | (simp only [Int.reduceToNat] at ho10; rw [← Ny325.out] at ho10))
     have n0_ := Az_ (Kd.R_lower ho10 (below_size (ubz_ HB.out)))
     have n1_ := Az_ (btz_ (ubz_ HB.out) hb)
     clear HB
     have HO327 := n0_
     have HB := n1_
     clear n0_ n1_ hb ho10
     refine hK.out _ _ trivial (fun hHeld => ?_)
     clear hK K
     refine nz_ 17 ?_
     refine two_ (i := 2) (j := 8) (Ni := some 12) (Nj := some 18) (mz_ [8,3]) #[true, true, false, true, true, true, true, true, true, false, false] rfl rfl rfl rfl (two_of HT_.out (w94_)) (by decide) (by decide) (fun K hK => ?_) (fun K hK => ?_)
     ·skip
      refine goes_ Tryz.func67 (w94_) rfl #[.int .i64 (wrap64 (Int.tdiv a0 10))] (by rfl) rfl rfl maz_ ?_
      with_reducible refine (ih k (by omega) (wrap64 (Int.tdiv a0 10)) t324 _ A6.out).mono ?_
      rintro e w11 ⟨rfl, hb⟩
      refine ⟨_, rfl, ?_⟩
      have n0_ := Az_ (Kd.R_below (by exact urz_ HO327.out) hb)
      have n1_ := Az_ (btz_ (ubz_ HB.out) hb)
      clear HO327 HB
      have HO327 := n0_
      have HB := n1_
      clear n0_ n1_
      clear hb
      refine hK.out _ _ trivial (fun hHeld => ?_)
      clear hK K
      refine nz_ 12 ?_
      refine one_ (i := 8) (N := some 18) (mz_ [9,2]) rfl rfl (one_of HT_.out (w94_)) (by decide) (fun K hK => ?_)
      have hcv12 := own_string (P := Tryz.prog) Tryz.underlying22 Tryz.underlying5 Tryz.underlying9 (Kd.own_of_R HO327.out)
      refine value_ (w1 := ?_) (v := ?_) (by rfl) rfl ?_ ?_
      rotate_left 2
      ·go_simp
       constructor
       ·rfl
       ·rfl
      clear hcv12
      refine hK.out _ _ trivial (fun hHeld => ?_)
      clear hK K
      refine nz_ 18 ?_
      exact norm_ (w73_) (hCont (v326) _ ⟨(by exact urz_ HO327.out), (ubz_ HB.out)⟩)
     ·skip
      have hcv11 := own_string (P := Tryz.prog) Tryz.underlying22 Tryz.underlying5 Tryz.underlying9 (Kd.own_of_R HO327.out)
      refine value_ (w1 := ?_) (v := ?_) (by rfl) rfl ?_ ?_
      rotate_left 2
      ·go_simp
       constructor
       ·rfl
       ·rfl
      clear hcv11
      refine hK.out _ _ trivial (fun hHeld => ?_)
      clear hK K
      refine nz_ 18 ?_
      refine one_ (i := 2) (N := some 12) (mz_ [9,2]) rfl rfl (one_of HT_.out (w94_)) (by decide) (fun K hK => ?_)
      refine goes_ Tryz.func67 (w94_) rfl #[.int .i64 (wrap64 (Int.tdiv a0 10))] (by rfl) rfl rfl maz_ ?_
      with_reducible refine (ih k (by omega) (wrap64 (Int.tdiv a0 10)) t324 _ A6.out).mono ?_
      rintro e w12 ⟨rfl, hb⟩
      refine ⟨_, rfl, ?_⟩
      have n0_ := Az_ (Kd.R_below (by exact urz_ HO327.out) hb)
      have n1_ := Az_ (btz_ (ubz_ HB.out) hb)
      clear HO327 HB
      have HO327 := n0_
      have HB := n1_
      clear n0_ n1_
      clear hb
      refine hK.out _ _ trivial (fun hHeld => ?_)
      clear hK K
      refine nz_ 12 ?_
      exact norm_ (w73_) (hCont (v326) _ ⟨(by exact urz_ HO327.out), (ubz_ HB.out)⟩)
   rintro v326 w13 ⟨h0_, h1_⟩
   have n0_ : Aside0 (Kd.R (Kd.int .u8) 5 w13 w.heap.size (fun _ => True) v326 y325) := ⟨h0_⟩
   have n1_ : Aside0 (Below w.heap.size w w13) := ⟨h1_⟩
   clear HB h0_ h1_
   have HO327 := n0_
   have HB := n1_
   clear n0_ n1_
   have hHeld := trivial
   refine norm_ (a' := ?_) ?_ ?_
   rotate_left
   ·simp only [putAll, Act.put, List.setIfInBounds_toArray, List.set_cons_zero, List.set_cons_succ]
    rfl
   refine pz_ 9 19 [10,1] ?_
   refine pz_ 10 2 [11] ?_
   refine done_ (done_of HT_.out (w94_)) ?_
   try go_wp2
   go_ret
   exact ⟨w74_, w92_⟩
  ·rw [if_neg c7] at H
   exact absurd H (by simp)


def spec_shText.l0 : Nat → ByteArray → List Int → Int → Int → List Int → Int → Option (ByteArray)
 | 0, _, _, _, _, _, _ => none
 | k + 1, x3, x7, x8, x9, x329000, x329001 => if x9 < x8 then (if 0 ≤ x9 then (if x9 < (x7.length : Int) then (if x9 > 0 then (if x3.size + 1 ≤ 9223372036854775807 then ((spec_l1Num.f k (rd x7 x9)).bind fun t330 => (if (x3 ++ (⟨#[44]⟩ : ByteArray)).size + t330.size ≤ 9223372036854775807 then (spec_shText.l0 k ((x3 ++ (⟨#[44]⟩ : ByteArray)) ++ t330) x7 x8 (wrap64 (x9 + 1)) x329000 x329001) else (none))) else (none)) else ((spec_l1Num.f k (rd x7 x9)).bind fun t331 => (if x3.size + t331.size ≤ 9223372036854775807 then (spec_shText.l0 k (x3 ++ t331) x7 x8 (wrap64 (x9 + 1)) x329000 x329001) else (none)))) else (none)) else (none)) else (if x3.size + 1 ≤ 9223372036854775807 then ((spec_l1Num.f k x329001).bind fun t332 => (if (x3 ++ (⟨#[99]⟩ : ByteArray)).size + t332.size ≤ 9223372036854775807 then (some ((x3 ++ (⟨#[99]⟩ : ByteArray)) ++ t332)) else (none))) else (none))
def spec_shText.f (k : Nat) (l0_0 : List Int) (a0_1 : Int) : Option (ByteArray) := spec_shText.l0 k (⟨#[]⟩ : ByteArray) l0_0 (l0_0.length : Int) 0 l0_0 a0_1
set_option maxHeartbeats 8000000 in
set_option maxRecDepth 100000 in
theorem spec_shText.calls (k : Nat) (A0_0 : Option Addr) (c0_0 : Nat) (l0_0 : List Int) (a0_1 : Int) (r : ByteArray) (w : World) (hr0_0 : Kd.C (Kd.int .i64) w A0_0 l0_0.length l0_0) (hc0_0 : l0_0.length ≤ c0_0) (h : spec_shText.f k l0_0 a0_1 = some r) :
  Calls Tryz.prog 46 #[.agg #[.slice A0_0 l0_0.length c0_0, .int .i64 a0_1]] w fun e w' => e = .returned (.string r) ∧ Below w.heap.size w w' := by
 have hu26 := Tryz.underlying26
 have HR0_0 := Az_ hr0_0
 have HC0_0 := Az_ hc0_0
 clear hr0_0 hc0_0
 have HB := Az_ (Below.refl w.heap.size w)
 have H : (spec_shText.l0 k (⟨#[]⟩ : ByteArray) l0_0 (l0_0.length : Int) 0 l0_0 a0_1) = some r := h
 clear h
 have H' := Az_ H
 clear H
 go_enter Tryz.func46, Tryz.ntmps46
 go_wp2_with (((with_reducible refine gate_dst (N := 1) rfl ?_); refine box_event ?hg (N := 1) ?hd (cs := #[.slice A0_0 l0_0.length c0_0, .int .i64 a0_1]) (t := 26) ?hr ?_; (case hd => rfl); (case hg => rfl); (case hr => first | (go_simp; done) | (go_simp; rfl)); intro gb328 hg w2 hbox hb; have BK328 := Az_ (hbox); have GW328 := Az_ ((by rw [hg]; exact (below_size (ubz_ HB.out)) : w.heap.size ≤ gb328)); have GE328 := Az_ ((by rw [hg]; exact (below_size (ubz_ HB.out)) : w.heap.size ≤ gb328)); replace HB := Az_ (btz_ (ubz_ HB.out) hb); clear hb hbox hg; have hcz3_0 : w2.cell? ⟨gb328, 0, none⟩ = some (.slice A0_0 l0_0.length c0_0) := (blk_cell BK328.out 0).trans rfl; have hcz3_1 : w2.cell? ⟨gb328, 1, none⟩ = some (.int .i64 a0_1) := (blk_cell BK328.out 1).trans rfl; have hfz3_0 := blk_frozen BK328.out 0; have hfz3_1 := blk_frozen BK328.out 1))
 go_loopg [3, 9] k (fun kq v3 v9 w' => ∃ (x3_1 : ByteArray) (x9_1 : Int), v3 = .string x3_1 ∧ v9 = .int .i64 x9_1 ∧ Aside0 (spec_shText.l0 kq x3_1 l0_0 (l0_0.length : Int) x9_1 l0_0 a0_1 = some r) ∧ Aside0 (kq ≤ k) ∧ Aside0 (w'.heap[gb328]? = some (.cells #[(.slice A0_0 l0_0.length c0_0), .int .i64 a0_1] 26 (0, 0))) ∧ Aside0 (Below w.heap.size w w'))
 case atStart => exact ⟨((⟨#[]⟩ : ByteArray)), (0), qaz_, qaz_, H', ⟨Nat.le_refl _⟩, ⟨w69_⟩, ⟨w52_⟩⟩
 case round =>
  clear H'
  clear hcz3_0 hcz3_1 hfz3_0 hfz3_1
  obtain ⟨x3_1, x9_1, rfl, rfl, HA, HK1, BK328, HB⟩ := hrel
  cases gk with
  | zero => exact absurd HA.out (by simp [spec_shText.l0])
  | succ k1 =>
   have H := HA.out
   clear HA
   simp only [spec_shText.l0] at H
   by_cases c4 : x9_1 < (l0_0.length : Int)
   ·rw [if_pos c4] at H
    have c4b0 := decide_eq_true c4
    clear c4
    by_cases c5 : 0 ≤ x9_1; rotate_left
    ·rw [if_neg c5] at H
     exact absurd H (by simp)
    rw [if_pos c5] at H
    have c5b0 := decide_eq_true c5
    clear c5
    by_cases c6 : x9_1 < (l0_0.length : Int); rotate_left
    ·rw [if_neg c6] at H
     exact absurd H (by simp)
    rw [if_pos c6] at H
    have c6b0 := decide_eq_true c6
    clear c6
    by_cases c7 : x9_1 > 0; rotate_left
    ·rw [if_neg c7] at H
     have c7b0 := decide_eq_false c7
     clear c7
     replace H := bqz_ H; obtain ⟨t331, A12, H⟩ := H
     replace H : (if x3_1.size + t331.size ≤ 9223372036854775807 then (spec_shText.l0 k1 (x3_1 ++ t331) l0_0 (l0_0.length : Int) (wrap64 (x9_1 + 1)) l0_0 a0_1) else (none)) = some r := H
     by_cases c13 : x3_1.size + t331.size ≤ 9223372036854775807; rotate_left
     ·rw [if_neg c13] at H
      exact absurd H (by simp)
     rw [if_pos c13] at H
     have c13b0 := eq_true c13
     have c13b1 := decide_eq_true c13
     try have c13b2 : (9223372036854775807 < x3_1.size + t331.size) = False := eq_false (Nat.not_lt.2 c13)
     have H' := Az_ H
     clear H
     have p329 : 0 ≤ (x9_1 : Int) := od_
     have q329 : x9_1 < (l0_0.length : Int) := od_
     obtain ⟨ad329, e329, hx329_0⟩ := Kd.at_int HR0_0.out x9_1 p329 q329
     cases e329
     replace hx329_0 := hbz_ HB.out hx329_0
     replace p329 := eq_true p329
     replace q329 := eq_true q329
     go_wp2_with (((with_reducible refine gate_callee (f := 67) rfl ?_); refine goesL_ (some 20) rfl rfl Tryz.func67 (w94_) rfl #[.int .i64 (rd l0_0 x9_1)] rfl maz_ ?_; (with_reducible refine (spec_l1Num.calls k1 (rd l0_0 x9_1) t331 _ A12.out).mono ?_); rintro e w14 ⟨rfl, hb⟩; refine ⟨_, rfl, ?_⟩; have n1_ := Az_ (btz_ (w52_) hb); clear HB; replace BK328 := Az_ (ukbz_ BK328.out hb); have HB := n1_; clear n1_; (try clear hb)))
     go_roundg k1
     case measure => have := HK1.out; omega
     case rel => exact ⟨(x3_1 ++ t331), (wrap64 (x9_1 + 1)), qaz_, qaz_, H', ⟨w85_⟩, ⟨w69_⟩, ⟨w52_⟩⟩
    rw [if_pos c7] at H
    have c7b0 := decide_eq_true c7
    clear c7
    by_cases c8 : x3_1.size + 1 ≤ 9223372036854775807; rotate_left
    ·rw [if_neg c8] at H
     exact absurd H (by simp)
    rw [if_pos c8] at H
    have c8b0 := eq_true c8
    have c8b1 := decide_eq_true c8
    try have c8b2 : (9223372036854775807 < x3_1.size + 1) = False := eq_false (Nat.not_lt.2 c8)
    replace H := bqz_ H; obtain ⟨t330, A9, H⟩ := H
    replace H : (if (x3_1 ++ (⟨#[44]⟩ : ByteArray)).size + t330.size ≤ 9223372036854775807 then (spec_shText.l0 k1 ((x3_1 ++ (⟨#[44]⟩ : ByteArray)) ++ t330) l0_0 (l0_0.length : Int) (wrap64 (x9_1 + 1)) l0_0 a0_1) else (none)) = some r := H
    by_cases c10 : (x3_1 ++ (⟨#[44]⟩ : ByteArray)).size + t330.size ≤ 9223372036854775807; rotate_left
    ·rw [if_neg c10] at H
     exact absurd H (by simp)
    rw [if_pos c10] at H
    have c10b0 := eq_true c10
    have c10b1 := decide_eq_true c10
    try have c10b2 : (9223372036854775807 < (x3_1 ++ (⟨#[44]⟩ : ByteArray)).size + t330.size) = False := eq_false (Nat.not_lt.2 c10)
    have c10b3 : (9223372036854775807 < x3_1.size + 1 + t330.size) = False := by (have h_ := c10b2; simp only [ByteArray.size_append] at h_; exact h_)
    have H' := Az_ H
    clear H
    have p329 : 0 ≤ (x9_1 : Int) := od_
    have q329 : x9_1 < (l0_0.length : Int) := od_
    obtain ⟨ad329, e329, hx329_0⟩ := Kd.at_int HR0_0.out x9_1 p329 q329
    cases e329
    replace hx329_0 := hbz_ HB.out hx329_0
    replace p329 := eq_true p329
    replace q329 := eq_true q329
    go_wp2_with (((with_reducible refine gate_callee (f := 67) rfl ?_); refine goesL_ (some 20) rfl rfl Tryz.func67 (w94_) rfl #[.int .i64 (rd l0_0 x9_1)] rfl maz_ ?_; (with_reducible refine (spec_l1Num.calls k1 (rd l0_0 x9_1) t330 _ A9.out).mono ?_); rintro e w11 ⟨rfl, hb⟩; refine ⟨_, rfl, ?_⟩; have n1_ := Az_ (btz_ (w52_) hb); clear HB; replace BK328 := Az_ (ukbz_ BK328.out hb); have HB := n1_; clear n1_; (try clear hb)))
    go_roundg k1
    case measure => have := HK1.out; omega
    case rel => exact ⟨((x3_1 ++ (⟨#[44]⟩ : ByteArray)) ++ t330), (wrap64 (x9_1 + 1)), qaz_, qaz_, H', ⟨w85_⟩, ⟨w69_⟩, ⟨w52_⟩⟩
   ·rw [if_neg c4] at H
    have c4b0 := decide_eq_false c4
    clear c4
    by_cases c15 : x3_1.size + 1 ≤ 9223372036854775807
    ·rw [if_pos c15] at H
     have c15b0 := eq_true c15
     have c15b1 := decide_eq_true c15
     try have c15b2 : (9223372036854775807 < x3_1.size + 1) = False := eq_false (Nat.not_lt.2 c15)
     replace H := bqz_ H; obtain ⟨t332, A16, H⟩ := H
     replace H : (if (x3_1 ++ (⟨#[99]⟩ : ByteArray)).size + t332.size ≤ 9223372036854775807 then (some ((x3_1 ++ (⟨#[99]⟩ : ByteArray)) ++ t332)) else (none)) = some r := H
     by_cases c17 : (x3_1 ++ (⟨#[99]⟩ : ByteArray)).size + t332.size ≤ 9223372036854775807; rotate_left
     ·rw [if_neg c17] at H
      exact absurd H (by simp)
     rw [if_pos c17] at H
     have c17b0 := eq_true c17
     have c17b1 := decide_eq_true c17
     try have c17b2 : (9223372036854775807 < (x3_1 ++ (⟨#[99]⟩ : ByteArray)).size + t332.size) = False := eq_false (Nat.not_lt.2 c17)
     have c17b3 : (9223372036854775807 < x3_1.size + 1 + t332.size) = False := by (have h_ := c17b2; simp only [ByteArray.size_append] at h_; exact h_)
     obtain rfl := Option.some.inj H
     have hcz18_0 : wr.cell? ⟨gb328, 0, none⟩ = some (.slice A0_0 l0_0.length c0_0) := (blk_cell BK328.out 0).trans rfl
     have hcz18_1 : wr.cell? ⟨gb328, 1, none⟩ = some (.int .i64 a0_1) := (blk_cell BK328.out 1).trans rfl
     have hfz18_0 := blk_frozen BK328.out 0
     have hfz18_1 := blk_frozen BK328.out 1
     go_wp2_with (((with_reducible refine gate_callee (f := 67) rfl ?_); refine goesL_ (some 27) rfl rfl Tryz.func67 (w94_) rfl #[.int .i64 a0_1] rfl maz_ ?_; (with_reducible refine (spec_l1Num.calls k1 a0_1 t332 _ A16.out).mono ?_); rintro e w19 ⟨rfl, hb⟩; refine ⟨_, rfl, ?_⟩; have n1_ := Az_ (btz_ (w52_) hb); clear HB; replace BK328 := Az_ (ukbz_ BK328.out hb); have HB := n1_; clear n1_; (try clear hb)))
     go_ret
     exact ⟨w74_, w52_⟩
    ·rw [if_neg c15] at H
     exact absurd H (by simp)

def spec_ShelfText.f (k : Nat) (l0_0 : List Int) (a0_1 : Int) : Option (ByteArray × Bool) := (spec_shGood.f k l0_0 a0_1).bind fun t334 => (if t334 = true then ((spec_shText.f k l0_0 a0_1).bind fun t335 => (some (t335, true))) else (some ((⟨#[]⟩ : ByteArray), false)))
set_option maxHeartbeats 8000000 in
set_option maxRecDepth 100000 in
theorem spec_ShelfText.calls (k : Nat) (A0_0 : Option Addr) (c0_0 : Nat) (l0_0 : List Int) (a0_1 : Int) (r1 : ByteArray) (r2 : Bool) (w : World) (hr0_0 : Kd.C (Kd.int .i64) w A0_0 l0_0.length l0_0) (hc0_0 : l0_0.length ≤ c0_0) (h : spec_ShelfText.f k l0_0 a0_1 = some (r1, r2)) :
  Calls Tryz.prog 17 #[.agg #[.slice A0_0 l0_0.length c0_0, .int .i64 a0_1]] w fun e w' => e = .returned (.tuple #[.string r1, .bool r2]) ∧ Below w.heap.size w w' := by
 have hu26 := Tryz.underlying26
 have HR0_0 := Az_ hr0_0
 have HC0_0 := Az_ hc0_0
 clear hr0_0 hc0_0
 have HB := Az_ (Below.refl w.heap.size w)
 have H : ((spec_shGood.f k l0_0 a0_1).bind fun t334 => (if t334 = true then ((spec_shText.f k l0_0 a0_1).bind fun t335 => (some (t335, true))) else (some ((⟨#[]⟩ : ByteArray), false)))) = some (r1, r2) := h
 clear h
 replace H := bqz_ H; obtain ⟨t334, A2, H⟩ := H
 replace H : (if t334 = true then ((spec_shText.f k l0_0 a0_1).bind fun t335 => (some (t335, true))) else (some ((⟨#[]⟩ : ByteArray), false))) = some (r1, r2) := H
 by_cases c3 : t334 = true
 ·subst c3
  rw [if_pos rfl] at H
  replace H := bqz_ H; obtain ⟨t335, A4, H⟩ := H
  replace H : (some (t335, true)) = some (r1, r2) := H
  simp only [Option.some.injEq, Prod.mk.injEq] at H
  obtain ⟨rfl, rfl⟩ := H
  go_enter Tryz.func17, Tryz.ntmps17
  go_wp2_with (first | ((with_reducible refine gate_dst (N := 1) rfl ?_); refine box_event ?hg (N := 1) ?hd (cs := #[.slice A0_0 l0_0.length c0_0, .int .i64 a0_1]) (t := 26) ?hr ?_; (case hd => rfl); (case hg => rfl); (case hr => first | (go_simp; done) | (go_simp; rfl)); intro gb333 hg w5 hbox hb; have BK333 := Az_ (hbox); have GW333 := Az_ ((by rw [hg]; exact (below_size (ubz_ HB.out)) : w.heap.size ≤ gb333)); have GE333 := Az_ ((by rw [hg]; exact (below_size (ubz_ HB.out)) : w.heap.size ≤ gb333)); replace HB := Az_ (btz_ (ubz_ HB.out) hb); clear hb hbox hg; have hcz6_0 : w5.cell? ⟨gb333, 0, none⟩ = some (.slice A0_0 l0_0.length c0_0) := (blk_cell BK333.out 0).trans rfl; have hcz6_1 : w5.cell? ⟨gb333, 1, none⟩ = some (.int .i64 a0_1) := (blk_cell BK333.out 1).trans rfl; have hfz6_0 := blk_frozen BK333.out 0; have hfz6_1 := blk_frozen BK333.out 1) | ((with_reducible refine gate_callee (f := 43) rfl ?_); refine goesL_ (some 5) rfl rfl Tryz.func43 (w94_) rfl #[.agg #[.slice A0_0 l0_0.length c0_0, .int .i64 a0_1]] rfl maz_ ?_; (with_reducible refine (spec_shGood.calls k _ _ l0_0 a0_1 true _ ?side1 ?side2 A2.out).mono ?_); (case side1 => exact ucz_ ((Kd.C_below HR0_0.out HB.out))); (case side2 => exact HC0_0.out); rintro e w7 ⟨rfl, hb⟩; refine ⟨_, rfl, ?_⟩; have n1_ := Az_ (btz_ (w52_) hb); clear HB; replace BK333 := Az_ (ukbz_ BK333.out hb); have HB := n1_; clear n1_; (try clear hb); have hcz8_0 : w7.cell? ⟨gb333, 0, none⟩ = some (.slice A0_0 l0_0.length c0_0) := (blk_cell BK333.out 0).trans rfl; have hcz8_1 : w7.cell? ⟨gb333, 1, none⟩ = some (.int .i64 a0_1) := (blk_cell BK333.out 1).trans rfl; have hfz8_0 := blk_frozen BK333.out 0; have hfz8_1 := blk_frozen BK333.out 1) | ((with_reducible refine gate_callee (f := 46) rfl ?_); refine goesL_ (some 8) rfl rfl Tryz.func46 (w94_) rfl #[.agg #[.slice A0_0 l0_0.length c0_0, .int .i64 a0_1]] rfl maz_ ?_; (with_reducible refine (spec_shText.calls k _ _ l0_0 a0_1 t335 _ ?side1 ?side2 A4.out).mono ?_); (case side1 => exact ucz_ ((Kd.C_below HR0_0.out HB.out))); (case side2 => exact HC0_0.out); rintro e w9 ⟨rfl, hb⟩; refine ⟨_, rfl, ?_⟩; have n1_ := Az_ (btz_ (w52_) hb); clear HB; replace BK333 := Az_ (ukbz_ BK333.out hb); have HB := n1_; clear n1_; (try clear hb)))
  go_ret2
  exact ⟨w74_, w52_⟩
 ·replace c3 := Bool.eq_false_iff.mpr c3
  subst c3
  rw [if_neg nfz_] at H
  simp only [Option.some.injEq, Prod.mk.injEq] at H
  obtain ⟨rfl, rfl⟩ := H
  go_enter Tryz.func17, Tryz.ntmps17
  go_wp2_with (first | ((with_reducible refine gate_dst (N := 1) rfl ?_); refine box_event ?hg (N := 1) ?hd (cs := #[.slice A0_0 l0_0.length c0_0, .int .i64 a0_1]) (t := 26) ?hr ?_; (case hd => rfl); (case hg => rfl); (case hr => first | (go_simp; done) | (go_simp; rfl)); intro gb333 hg w10 hbox hb; have BK333 := Az_ (hbox); have GW333 := Az_ ((by rw [hg]; exact (below_size (ubz_ HB.out)) : w.heap.size ≤ gb333)); have GE333 := Az_ ((by rw [hg]; exact (below_size (ubz_ HB.out)) : w.heap.size ≤ gb333)); replace HB := Az_ (btz_ (ubz_ HB.out) hb); clear hb hbox hg; have hcz11_0 : w10.cell? ⟨gb333, 0, none⟩ = some (.slice A0_0 l0_0.length c0_0) := (blk_cell BK333.out 0).trans rfl; have hcz11_1 : w10.cell? ⟨gb333, 1, none⟩ = some (.int .i64 a0_1) := (blk_cell BK333.out 1).trans rfl; have hfz11_0 := blk_frozen BK333.out 0; have hfz11_1 := blk_frozen BK333.out 1) | ((with_reducible refine gate_callee (f := 43) rfl ?_); refine goesL_ (some 5) rfl rfl Tryz.func43 (w94_) rfl #[.agg #[.slice A0_0 l0_0.length c0_0, .int .i64 a0_1]] rfl maz_ ?_; (with_reducible refine (spec_shGood.calls k _ _ l0_0 a0_1 false _ ?side1 ?side2 A2.out).mono ?_); (case side1 => exact ucz_ ((Kd.C_below HR0_0.out HB.out))); (case side2 => exact HC0_0.out); rintro e w12 ⟨rfl, hb⟩; refine ⟨_, rfl, ?_⟩; have n1_ := Az_ (btz_ (w52_) hb); clear HB; replace BK333 := Az_ (ukbz_ BK333.out hb); have HB := n1_; clear n1_; (try clear hb)))
  go_ret2
  exact ⟨w74_, w52_⟩

def laws_fSame.l0 : Nat → List Int → List Int → Int → Int → Option (Bool)
 | 0, _, _, _, _ => none
 | k + 1, x0, x1, x12, x13 => if x13 < x12 then (if 0 ≤ x13 then (if x13 < (x0.length : Int) then (if x13 < (x1.length : Int) then (if (rd x0 x13) = (rd x1 x13) then (laws_fSame.l0 k x0 x1 x12 (wrap64 (x13 + 1))) else (some false)) else (none)) else (none)) else (none)) else (some true)
def laws_fSame.f (k : Nat) (l0 : List Int) (l1 : List Int) : Option (Bool) := if (l0.length : Int) = (l1.length : Int) then (laws_fSame.l0 k l0 l1 (l0.length : Int) 0) else (some false)
set_option maxHeartbeats 8000000 in
set_option maxRecDepth 100000 in
theorem laws_fSame.calls (k : Nat) (A0 : Option Addr) (c0 : Nat) (l0 : List Int) (A1 : Option Addr) (c1 : Nat) (l1 : List Int) (r : Bool) (w : World) (hr0 : Kd.C (Kd.int .i64) w A0 l0.length l0) (hc0 : l0.length ≤ c0) (hr1 : Kd.C (Kd.int .i64) w A1 l1.length l1) (hc1 : l1.length ≤ c1) (h : laws_fSame.f k l0 l1 = some r) :
  Calls Tryz.prog 18 #[.slice A0 l0.length c0, .slice A1 l1.length c1] w fun e w' => e = .returned (.bool r) ∧ Drawn0 w w' := by
 have HR0 := Az_ hr0
 have HC0 := Az_ hc0
 clear hr0 hc0
 have HR1 := Az_ hr1
 have HC1 := Az_ hc1
 clear hr1 hc1
 have H : (if (l0.length : Int) = (l1.length : Int) then (laws_fSame.l0 k l0 l1 (l0.length : Int) 0) else (some false)) = some r := h
 clear h
 by_cases c3 : (l0.length : Int) = (l1.length : Int)
 ·rw [if_pos c3] at H
  have c3b0 : ((l0.length : Int) == (l1.length : Int)) = true := beq_iff_eq.mpr c3
  have c3b1 : ((l0.length : Int) != (l1.length : Int)) = false := bne_eq_false_iff_eq.mpr c3
  have c3b2 : (l0.length == l1.length) = true := by first | simpa using c3 | (simp at c3 ⊢; omega)
  clear c3
  have H' := Az_ H
  clear H
  go_enter Tryz.func18, Tryz.ntmps18
  go_wp2
  go_loopg [13] k (fun kq v13 w' => ∃ (x13_1 : Int), v13 = .int .i64 x13_1 ∧ Aside0 (laws_fSame.l0 kq l0 l1 (l0.length : Int) x13_1 = some r) ∧ Aside0 (kq ≤ k) ∧ Drawn0 w w')
  case atStart => exact ⟨(0), qaz_, H', ⟨Nat.le_refl _⟩, w77_⟩
  case round =>
   clear H'
   clear c3b0 c3b1 c3b2
   obtain ⟨x13_1, rfl, HA, HK1, ⟨m1, rfl⟩⟩ := hrel
   cases gk with
   | zero => exact absurd HA.out (by simp [laws_fSame.l0])
   | succ k1 =>
    have H := HA.out
    clear HA
    simp only [laws_fSame.l0] at H
    by_cases c4 : x13_1 < (l0.length : Int); rotate_left
    ·rw [if_neg c4] at H
     have c4b0 := decide_eq_false c4
     clear c4
     obtain rfl := Option.some.inj H
     go_wp2
     go_ret
     exact ⟨w79_, w77_⟩
    rw [if_pos c4] at H
    have c4b0 := decide_eq_true c4
    clear c4
    by_cases c5 : 0 ≤ x13_1; rotate_left
    ·rw [if_neg c5] at H
     exact absurd H (by simp)
    rw [if_pos c5] at H
    have c5b0 := decide_eq_true c5
    clear c5
    by_cases c6 : x13_1 < (l0.length : Int); rotate_left
    ·rw [if_neg c6] at H
     exact absurd H (by simp)
    rw [if_pos c6] at H
    have c6b0 := decide_eq_true c6
    clear c6
    by_cases c7 : x13_1 < (l1.length : Int); rotate_left
    ·rw [if_neg c7] at H
     exact absurd H (by simp)
    rw [if_pos c7] at H
    have c7b0 := decide_eq_true c7
    clear c7
    by_cases c8 : (rd l0 x13_1) = (rd l1 x13_1); rotate_left
    ·rw [if_neg c8] at H
     have c8b0 : ((rd l0 x13_1) == (rd l1 x13_1)) = false := beq_eq_false_iff_ne.mpr c8
     have c8b1 : ((rd l0 x13_1) != (rd l1 x13_1)) = true := bne_iff_ne.mpr c8
     obtain rfl := Option.some.inj H
     have p336 : 0 ≤ (x13_1 : Int) := od_
     have q336 : x13_1 < (l0.length : Int) := od_
     obtain ⟨ad336, e336, hx336_0⟩ := Kd.at_int HR0.out x13_1 p336 q336
     cases e336
     replace p336 := eq_true p336
     replace q336 := eq_true q336
     have p337 : 0 ≤ (x13_1 : Int) := od_
     have q337 : x13_1 < (l1.length : Int) := od_
     obtain ⟨ad337, e337, hx337_0⟩ := Kd.at_int HR1.out x13_1 p337 q337
     cases e337
     replace p337 := eq_true p337
     replace q337 := eq_true q337
     go_wp2
     repeat (go_quiet (fail); try go_wp2)
     go_ret
     exact ⟨w79_, w77_⟩
    rw [if_pos c8] at H
    have c8b0 : ((rd l0 x13_1) == (rd l1 x13_1)) = true := beq_iff_eq.mpr c8
    have c8b1 : ((rd l0 x13_1) != (rd l1 x13_1)) = false := bne_eq_false_iff_eq.mpr c8
    clear c8
    have H' := Az_ H
    clear H
    have p336 : 0 ≤ (x13_1 : Int) := od_
    have q336 : x13_1 < (l0.length : Int) := od_
    obtain ⟨ad336, e336, hx336_0⟩ := Kd.at_int HR0.out x13_1 p336 q336
    cases e336
    replace p336 := eq_true p336
    replace q336 := eq_true q336
    have p337 : 0 ≤ (x13_1 : Int) := od_
    have q337 : x13_1 < (l1.length : Int) := od_
    obtain ⟨ad337, e337, hx337_0⟩ := Kd.at_int HR1.out x13_1 p337 q337
    cases e337
    replace p337 := eq_true p337
    replace q337 := eq_true q337
    go_wp2
    repeat (go_quiet (fail); try go_wp2)
    go_roundg k1
    case measure => have := HK1.out; omega
    case rel => exact ⟨(wrap64 (x13_1 + 1)), qaz_, H', ⟨w85_⟩, w77_⟩
 ·rw [if_neg c3] at H
  have c3b0 : ((l0.length : Int) == (l1.length : Int)) = false := beq_eq_false_iff_ne.mpr c3
  have c3b1 : ((l0.length : Int) != (l1.length : Int)) = true := bne_iff_ne.mpr c3
  have c3b2 : (l0.length == l1.length) = false := by first | simpa using c3 | (simp at c3 ⊢; omega)
  obtain rfl := Option.some.inj H
  go_enter Tryz.func18, Tryz.ntmps18
  go_wp2
  go_ret
  exact ⟨w79_, w77_⟩

def spec_IsShelf.f (k : Nat) (l0_0 : List Int) (a0_1 : Int) : Option (Bool) := (spec_shGood.f k l0_0 a0_1).bind fun t339 => (some t339)
set_option maxHeartbeats 8000000 in
set_option maxRecDepth 100000 in
theorem spec_IsShelf.calls (k : Nat) (A0_0 : Option Addr) (c0_0 : Nat) (l0_0 : List Int) (a0_1 : Int) (r : Bool) (w : World) (hr0_0 : Kd.C (Kd.int .i64) w A0_0 l0_0.length l0_0) (hc0_0 : l0_0.length ≤ c0_0) (h : spec_IsShelf.f k l0_0 a0_1 = some r) :
  Calls Tryz.prog 20 #[.agg #[.slice A0_0 l0_0.length c0_0, .int .i64 a0_1]] w fun e w' => e = .returned (.bool r) ∧ Below w.heap.size w w' := by
 have hu26 := Tryz.underlying26
 have HR0_0 := Az_ hr0_0
 have HC0_0 := Az_ hc0_0
 clear hr0_0 hc0_0
 have HB := Az_ (Below.refl w.heap.size w)
 have H : ((spec_shGood.f k l0_0 a0_1).bind fun t339 => (some t339)) = some r := h
 clear h
 replace H := bqz_ H; obtain ⟨t339, A2, H⟩ := H
 replace H : (some t339) = some r := H
 obtain rfl := Option.some.inj H
 go_enter Tryz.func20, Tryz.ntmps20
 go_wp2_with (first | ((with_reducible refine gate_dst (N := 1) rfl ?_); refine box_event ?hg (N := 1) ?hd (cs := #[.slice A0_0 l0_0.length c0_0, .int .i64 a0_1]) (t := 26) ?hr ?_; (case hd => rfl); (case hg => rfl); (case hr => first | (go_simp; done) | (go_simp; rfl)); intro gb338 hg w3 hbox hb; have BK338 := Az_ (hbox); have GW338 := Az_ ((by rw [hg]; exact (below_size (ubz_ HB.out)) : w.heap.size ≤ gb338)); have GE338 := Az_ ((by rw [hg]; exact (below_size (ubz_ HB.out)) : w.heap.size ≤ gb338)); replace HB := Az_ (btz_ (ubz_ HB.out) hb); clear hb hbox hg; have hcz4_0 : w3.cell? ⟨gb338, 0, none⟩ = some (.slice A0_0 l0_0.length c0_0) := (blk_cell BK338.out 0).trans rfl; have hcz4_1 : w3.cell? ⟨gb338, 1, none⟩ = some (.int .i64 a0_1) := (blk_cell BK338.out 1).trans rfl; have hfz4_0 := blk_frozen BK338.out 0; have hfz4_1 := blk_frozen BK338.out 1) | ((with_reducible refine gate_callee (f := 43) rfl ?_); refine goesL_ (some 4) rfl rfl Tryz.func43 (w94_) rfl #[.agg #[.slice A0_0 l0_0.length c0_0, .int .i64 a0_1]] rfl maz_ ?_; (with_reducible refine (spec_shGood.calls k _ _ l0_0 a0_1 t339 _ ?side1 ?side2 A2.out).mono ?_); (case side1 => exact ucz_ ((Kd.C_below HR0_0.out HB.out))); (case side2 => exact HC0_0.out); rintro e w5 ⟨rfl, hb⟩; refine ⟨_, rfl, ?_⟩; have n1_ := Az_ (btz_ (w52_) hb); clear HB; replace BK338 := Az_ (ukbz_ BK338.out hb); have HB := n1_; clear n1_; (try clear hb)))
 go_ret
 exact ⟨w74_, w52_⟩


def impl_FaceOf.f (k : Nat) (l0_0 : List Int) (a0_1 : Int) (a1 : Int) (a2 : Bool) : Option (Int × Bool) := (impl_IsShelf.f k l0_0 a0_1).bind fun t341 => (if t341 = true then ((impl_Shelf_has.f k l0_0 a0_1 (([a1] : List Int))).bind fun t345 => (if t345 = true then ((impl_Shelf_face.f k l0_0 a0_1 a1 a2).bind fun t346 => (some (t346, true))) else (some (0, false)))) else (some (0, false)))
set_option maxHeartbeats 8000000 in
set_option maxRecDepth 100000 in
theorem impl_FaceOf.calls (k : Nat) (A0_0 : Option Addr) (c0_0 : Nat) (l0_0 : List Int) (a0_1 : Int) (a1 : Int) (a2 : Bool) (r1 : Int) (r2 : Bool) (w : World) (hr0_0 : Kd.C (Kd.int .i64) w A0_0 l0_0.length l0_0) (hc0_0 : l0_0.length ≤ c0_0) (h : impl_FaceOf.f k l0_0 a0_1 a1 a2 = some (r1, r2)) :
  Calls Tryz.prog 21 #[.agg #[.slice A0_0 l0_0.length c0_0, .int .i64 a0_1], .int .i64 a1, .bool a2] w fun e w' => e = .returned (.tuple #[.int .i64 r1, .bool r2]) ∧ Below w.heap.size w w' := by
 have hu26 := Tryz.underlying26
 have HR0_0 := Az_ hr0_0
 have HC0_0 := Az_ hc0_0
 clear hr0_0 hc0_0
 have HB := Az_ (Below.refl w.heap.size w)
 have H : ((impl_IsShelf.f k l0_0 a0_1).bind fun t341 => (if t341 = true then ((impl_Shelf_has.f k l0_0 a0_1 (([a1] : List Int))).bind fun t345 => (if t345 = true then ((impl_Shelf_face.f k l0_0 a0_1 a1 a2).bind fun t346 => (some (t346, true))) else (some (0, false)))) else (some (0, false)))) = some (r1, r2) := h
 clear h
 replace H := bqz_ H; obtain ⟨t341, A4, H⟩ := H
 replace H : (if t341 = true then ((impl_Shelf_has.f k l0_0 a0_1 (([a1] : List Int))).bind fun t345 => (if t345 = true then ((impl_Shelf_face.f k l0_0 a0_1 a1 a2).bind fun t346 => (some (t346, true))) else (some (0, false)))) else (some (0, false))) = some (r1, r2) := H
 by_cases c5 : t341 = true
 ·subst c5
  rw [if_pos rfl] at H
  obtain ⟨y342, hy342⟩ : ∃ y_ : List Int, y_ = (([a1] : List Int)) := ⟨_, rfl⟩
  replace H : ((impl_Shelf_has.f k l0_0 a0_1 y342).bind fun t345 => (if t345 = true then ((impl_Shelf_face.f k l0_0 a0_1 a1 a2).bind fun t346 => (some (t346, true))) else (some (0, false)))) = some (r1, r2) := by first | (rw [hy342]; with_reducible exact H) | (have H2_ := (Option.bind_some _ _).symm.trans H; rw [hy342]; with_reducible exact H2_) | (have H2_ := (Option.bind_some _ _).symm.trans H; with_reducible exact H2_) | with_reducible exact H | (rw [hy342]; exact H) | exact H
  have Ny342 := Az_ hy342
  clear hy342
  replace H := bqz_ H; obtain ⟨t345, A6, H⟩ := H
  replace H : (if t345 = true then ((impl_Shelf_face.f k l0_0 a0_1 a1 a2).bind fun t346 => (some (t346, true))) else (some (0, false))) = some (r1, r2) := H
  by_cases c7 : t345 = true; rotate_left
  ·replace c7 := Bool.eq_false_iff.mpr c7
   subst c7
   rw [if_neg nfz_] at H
   simp only [Option.some.injEq, Prod.mk.injEq] at H
   obtain ⟨rfl, rfl⟩ := H
   go_enter Tryz.func21, Tryz.ntmps21
   go_wp2_with (first | ((with_reducible refine gate_dst (N := 3) rfl ?_); (try (refine gate_guard (by rfl) ?_; dsimp only)); refine box_event ?hg (N := 3) ?hd (cs := #[.slice A0_0 l0_0.length c0_0, .int .i64 a0_1]) (t := 26) ?hr ?_; (case hd => rfl); (case hg => rfl); (case hr => first | (go_simp; done) | (go_simp; rfl)); intro gb340 hg w19 hbox hb; have BK340 := Az_ (hbox); have GW340 := Az_ ((by rw [hg]; exact (below_size (ubz_ HB.out)) : w.heap.size ≤ gb340)); have GE340 := Az_ ((by rw [hg]; exact (below_size (ubz_ HB.out)) : w.heap.size ≤ gb340)); replace HB := Az_ (btz_ (ubz_ HB.out) hb); clear hb hbox hg; have hcz20_0 : w19.cell? ⟨gb340, 0, none⟩ = some (.slice A0_0 l0_0.length c0_0) := (blk_cell BK340.out 0).trans rfl; have hcz20_1 : w19.cell? ⟨gb340, 1, none⟩ = some (.int .i64 a0_1) := (blk_cell BK340.out 1).trans rfl; have hfz20_0 := blk_frozen BK340.out 0; have hfz20_1 := blk_frozen BK340.out 1) | ((with_reducible refine gate_callee (f := 19) rfl ?_); refine goesL_ (some 9) rfl rfl Tryz.func19 (w94_) rfl #[.agg #[.slice A0_0 l0_0.length c0_0, .int .i64 a0_1]] rfl maz_ ?_; (with_reducible refine (impl_IsShelf.calls k _ _ l0_0 a0_1 true _ ?side1 ?side2 A4.out).mono ?_); (case side1 => exact ucz_ ((Kd.C_below HR0_0.out HB.out))); (case side2 => exact HC0_0.out); rintro e w21 ⟨rfl, hb⟩; refine ⟨_, rfl, ?_⟩; have n1_ := Az_ (btz_ (w52_) hb); clear HB; replace BK340 := Az_ (ukbz_ BK340.out hb); have HB := n1_; clear n1_; (try clear hb); have hcz22_0 : w21.cell? ⟨gb340, 0, none⟩ = some (.slice A0_0 l0_0.length c0_0) := (blk_cell BK340.out 0).trans rfl; have hcz22_1 : w21.cell? ⟨gb340, 1, none⟩ = some (.int .i64 a0_1) := (blk_cell BK340.out 1).trans rfl; have hfz22_0 := blk_frozen BK340.out 0; have hfz22_1 := blk_frozen BK340.out 1) | ((with_reducible refine gate_dst (N := 14) rfl ?_); (try (refine gate_guard (by rfl) ?_; dsimp only)); refine Kd.R_lit (Kd.int .i64) _ 3 ?hg (N := 14) ?hd (xs := ([a1] : List Int)) (inner := [.int .i64 a1]) (ok := fun _ => True) (okp := fun _ => True) ?hr ?hp (fun _ hk => hk) trivial (Below.refl _ _) (Nat.le_refl _) (by simp) ?_; (case hd => rfl); (case hg => rfl); (case hr => first | (go_simp; done) | (go_simp; rfl)); (case hp => exact (Reps.one (show Kd.M (Kd.int .i64) _ _ _ a1 [.int .i64 a1] from rfl) (Reps.none _ _))); intro v343 w23 ho24 hb hg_ hnew_; clear hg_ hnew_; (first | rw [← Ny342.out] at ho24 | (simp only [Int.reduceToNat] at ho24; rw [← Ny342.out] at ho24)); have n0_ := Az_ (Kd.R_lower ho24 (below_size (w52_))); have n2_ := Az_ (btz_ (w52_) hb); clear HB; have HO344 := n0_; replace BK340 := Az_ (ukbz_ BK340.out hb); have HB := n2_; clear n0_ n2_; clear hb ho24; obtain ⟨Ao25, co25, eo25⟩ := Kd.R_slice HO344.out; subst eo25) | (go_at_call 35; (with_reducible refine (impl_Shelf_has.calls k _ _ l0_0 a0_1 _ _ y342 false _ ?side1 ?side2 ?side3 ?side4 A6.out).mono ?_); (case side1 => exact ucz_ ((Kd.C_below HR0_0.out HB.out))); (case side2 => exact HC0_0.out); (case side3 => exact ucz_ ((Kd.R_reads' HO344.out).2.2)); (case side4 => exact (Kd.R_reads' HO344.out).2.1); rintro e w26 ⟨rfl, hb⟩; have n0_ := Az_ (Kd.R_below (by exact urz_ HO344.out) hb); have n2_ := Az_ (btz_ (w52_) hb); clear HO344; clear HB; have HO344 := n0_; replace BK340 := Az_ (ukbz_ BK340.out hb); have HB := n2_; clear n0_ n2_; (try clear hb)))
   go_ret2
   exact ⟨w74_, w52_⟩
  subst c7
  rw [if_pos rfl] at H
  replace H := bqz_ H; obtain ⟨t346, A8, H⟩ := H
  replace H : (some (t346, true)) = some (r1, r2) := H
  simp only [Option.some.injEq, Prod.mk.injEq] at H
  obtain ⟨rfl, rfl⟩ := H
  go_enter Tryz.func21, Tryz.ntmps21
  go_wp2_with (first | ((with_reducible refine gate_dst (N := 3) rfl ?_); (try (refine gate_guard (by rfl) ?_; dsimp only)); refine box_event ?hg (N := 3) ?hd (cs := #[.slice A0_0 l0_0.length c0_0, .int .i64 a0_1]) (t := 26) ?hr ?_; (case hd => rfl); (case hg => rfl); (case hr => first | (go_simp; done) | (go_simp; rfl)); intro gb340 hg w9 hbox hb; have BK340 := Az_ (hbox); have GW340 := Az_ ((by rw [hg]; exact (below_size (ubz_ HB.out)) : w.heap.size ≤ gb340)); have GE340 := Az_ ((by rw [hg]; exact (below_size (ubz_ HB.out)) : w.heap.size ≤ gb340)); replace HB := Az_ (btz_ (ubz_ HB.out) hb); clear hb hbox hg; have hcz10_0 : w9.cell? ⟨gb340, 0, none⟩ = some (.slice A0_0 l0_0.length c0_0) := (blk_cell BK340.out 0).trans rfl; have hcz10_1 : w9.cell? ⟨gb340, 1, none⟩ = some (.int .i64 a0_1) := (blk_cell BK340.out 1).trans rfl; have hfz10_0 := blk_frozen BK340.out 0; have hfz10_1 := blk_frozen BK340.out 1) | ((with_reducible refine gate_callee (f := 19) rfl ?_); refine goesL_ (some 9) rfl rfl Tryz.func19 (w94_) rfl #[.agg #[.slice A0_0 l0_0.length c0_0, .int .i64 a0_1]] rfl maz_ ?_; (with_reducible refine (impl_IsShelf.calls k _ _ l0_0 a0_1 true _ ?side1 ?side2 A4.out).mono ?_); (case side1 => exact ucz_ ((Kd.C_below HR0_0.out HB.out))); (case side2 => exact HC0_0.out); rintro e w11 ⟨rfl, hb⟩; refine ⟨_, rfl, ?_⟩; have n1_ := Az_ (btz_ (w52_) hb); clear HB; replace BK340 := Az_ (ukbz_ BK340.out hb); have HB := n1_; clear n1_; (try clear hb); have hcz12_0 : w11.cell? ⟨gb340, 0, none⟩ = some (.slice A0_0 l0_0.length c0_0) := (blk_cell BK340.out 0).trans rfl; have hcz12_1 : w11.cell? ⟨gb340, 1, none⟩ = some (.int .i64 a0_1) := (blk_cell BK340.out 1).trans rfl; have hfz12_0 := blk_frozen BK340.out 0; have hfz12_1 := blk_frozen BK340.out 1) | ((with_reducible refine gate_dst (N := 14) rfl ?_); (try (refine gate_guard (by rfl) ?_; dsimp only)); refine Kd.R_lit (Kd.int .i64) _ 3 ?hg (N := 14) ?hd (xs := ([a1] : List Int)) (inner := [.int .i64 a1]) (ok := fun _ => True) (okp := fun _ => True) ?hr ?hp (fun _ hk => hk) trivial (Below.refl _ _) (Nat.le_refl _) (by simp) ?_; (case hd => rfl); (case hg => rfl); (case hr => first | (go_simp; done) | (go_simp; rfl)); (case hp => exact (Reps.one (show Kd.M (Kd.int .i64) _ _ _ a1 [.int .i64 a1] from rfl) (Reps.none _ _))); intro v343 w13 ho14 hb hg_ hnew_; clear hg_ hnew_; (first | rw [← Ny342.out] at ho14 | (simp only [Int.reduceToNat] at ho14; rw [← Ny342.out] at ho14)); have n0_ := Az_ (Kd.R_lower ho14 (below_size (w52_))); have n2_ := Az_ (btz_ (w52_) hb); clear HB; have HO344 := n0_; replace BK340 := Az_ (ukbz_ BK340.out hb); have HB := n2_; clear n0_ n2_; clear hb ho14; obtain ⟨Ao15, co15, eo15⟩ := Kd.R_slice HO344.out; subst eo15) | (go_at_call 35; (with_reducible refine (impl_Shelf_has.calls k _ _ l0_0 a0_1 _ _ y342 true _ ?side1 ?side2 ?side3 ?side4 A6.out).mono ?_); (case side1 => exact ucz_ ((Kd.C_below HR0_0.out HB.out))); (case side2 => exact HC0_0.out); (case side3 => exact ucz_ ((Kd.R_reads' HO344.out).2.2)); (case side4 => exact (Kd.R_reads' HO344.out).2.1); rintro e w16 ⟨rfl, hb⟩; have n0_ := Az_ (Kd.R_below (by exact urz_ HO344.out) hb); have n2_ := Az_ (btz_ (w52_) hb); clear HO344; clear HB; have HO344 := n0_; replace BK340 := Az_ (ukbz_ BK340.out hb); have HB := n2_; clear n0_ n2_; (try clear hb); have hcz17_0 : w16.cell? ⟨gb340, 0, none⟩ = some (.slice A0_0 l0_0.length c0_0) := (blk_cell BK340.out 0).trans rfl; have hcz17_1 : w16.cell? ⟨gb340, 1, none⟩ = some (.int .i64 a0_1) := (blk_cell BK340.out 1).trans rfl; have hfz17_0 := blk_frozen BK340.out 0; have hfz17_1 := blk_frozen BK340.out 1) | ((with_reducible refine gate_callee (f := 36) rfl ?_); refine goesL_ (some 21) rfl rfl Tryz.func36 (w94_) rfl #[.agg #[.slice A0_0 l0_0.length c0_0, .int .i64 a0_1], .int .i64 a1, .bool a2] rfl maz_ ?_; (with_reducible refine (impl_Shelf_face.calls k _ _ l0_0 a0_1 a1 a2 t346 _ ?side1 ?side2 A8.out).mono ?_); (case side1 => exact ucz_ ((Kd.C_below HR0_0.out HB.out))); (case side2 => exact HC0_0.out); rintro e w18 ⟨rfl, hb⟩; refine ⟨_, rfl, ?_⟩; have n0_ := Az_ (Kd.R_below (by exact urz_ HO344.out) hb); have n2_ := Az_ (btz_ (w52_) hb); clear HO344; clear HB; have HO344 := n0_; replace BK340 := Az_ (ukbz_ BK340.out hb); have HB := n2_; clear n0_ n2_; (try clear hb)))
  go_ret2
  exact ⟨w74_, w52_⟩
 ·replace c5 := Bool.eq_false_iff.mpr c5
  subst c5
  rw [if_neg nfz_] at H
  simp only [Option.some.injEq, Prod.mk.injEq] at H
  obtain ⟨rfl, rfl⟩ := H
  go_enter Tryz.func21, Tryz.ntmps21
  go_wp2_with (first | ((with_reducible refine gate_dst (N := 3) rfl ?_); (try (refine gate_guard (by rfl) ?_; dsimp only)); refine box_event ?hg (N := 3) ?hd (cs := #[.slice A0_0 l0_0.length c0_0, .int .i64 a0_1]) (t := 26) ?hr ?_; (case hd => rfl); (case hg => rfl); (case hr => first | (go_simp; done) | (go_simp; rfl)); intro gb340 hg w27 hbox hb; have BK340 := Az_ (hbox); have GW340 := Az_ ((by rw [hg]; exact (below_size (ubz_ HB.out)) : w.heap.size ≤ gb340)); have GE340 := Az_ ((by rw [hg]; exact (below_size (ubz_ HB.out)) : w.heap.size ≤ gb340)); replace HB := Az_ (btz_ (ubz_ HB.out) hb); clear hb hbox hg; have hcz28_0 : w27.cell? ⟨gb340, 0, none⟩ = some (.slice A0_0 l0_0.length c0_0) := (blk_cell BK340.out 0).trans rfl; have hcz28_1 : w27.cell? ⟨gb340, 1, none⟩ = some (.int .i64 a0_1) := (blk_cell BK340.out 1).trans rfl; have hfz28_0 := blk_frozen BK340.out 0; have hfz28_1 := blk_frozen BK340.out 1) | ((with_reducible refine gate_callee (f := 19) rfl ?_); refine goesL_ (some 9) rfl rfl Tryz.func19 (w94_) rfl #[.agg #[.slice A0_0 l0_0.length c0_0, .int .i64 a0_1]] rfl maz_ ?_; (with_reducible refine (impl_IsShelf.calls k _ _ l0_0 a0_1 false _ ?side1 ?side2 A4.out).mono ?_); (case side1 => exact ucz_ ((Kd.C_below HR0_0.out HB.out))); (case side2 => exact HC0_0.out); rintro e w29 ⟨rfl, hb⟩; refine ⟨_, rfl, ?_⟩; have n1_ := Az_ (btz_ (w52_) hb); clear HB; replace BK340 := Az_ (ukbz_ BK340.out hb); have HB := n1_; clear n1_; (try clear hb)))
  go_ret2
  exact ⟨w74_, w52_⟩

def laws_fRises.l0 : Nat → List Int → Int → Option (Bool)
 | 0, _, _ => none
 | k + 1, x0, x3 => if x3 < (x0.length : Int) then (if 0 ≤ (wrap64 (x3 - 1)) then (if (wrap64 (x3 - 1)) < (x0.length : Int) then (if 0 ≤ x3 then (if (rd x0 (wrap64 (x3 - 1))) ≥ (rd x0 x3) then (some false) else (laws_fRises.l0 k x0 (wrap64 (x3 + 1)))) else (none)) else (none)) else (none)) else (some true)
def laws_fRises.f (k : Nat) (l0 : List Int) : Option (Bool) := laws_fRises.l0 k l0 1
theorem laws_fRises.mono_l : ∀ k, (∀ y0 y1, LeO (laws_fRises.l0 k y0 y1) (laws_fRises.l0 (k + 1) y0 y1))
 | 0 => fun _ _ r h => by simp [laws_fRises.l0] at h
 | k + 1 => by
  have ih0 := laws_fRises.mono_l k
  ·intro y0 y1
   unfold laws_fRises.l0
   repeat' (with_reducible first | exact ih0 _ _ | exact LeO.refl _ | exact LeO.none _ | refine LeO.ite ?_ ?_ | refine LeO.bind ?_ (fun _ => ?_))
theorem laws_fRises.mono : ∀ a0 k, LeO (laws_fRises.f k a0) (laws_fRises.f (k + 1) a0) := by
 intro a0 k
 have ih0 := laws_fRises.mono_l k
 unfold laws_fRises.f
 repeat' (with_reducible first | exact ih0 _ _ | exact LeO.refl _ | exact LeO.none _ | refine LeO.ite ?_ ?_ | refine LeO.bind ?_ (fun _ => ?_))
set_option maxHeartbeats 8000000 in
set_option maxRecDepth 100000 in
theorem laws_fRises.calls (k : Nat) (A0 : Option Addr) (c0 : Nat) (l0 : List Int) (r : Bool) (w : World) (hr0 : Kd.C (Kd.int .i64) w A0 l0.length l0) (hc0 : l0.length ≤ c0) (h : laws_fRises.f k l0 = some r) :
  Calls Tryz.prog 22 #[.slice A0 l0.length c0] w fun e w' => e = .returned (.bool r) ∧ Drawn0 w w' := by
 have HR0 := Az_ hr0
 have HC0 := Az_ hc0
 clear hr0 hc0
 have H : (laws_fRises.l0 k l0 1) = some r := h
 clear h
 have H' := Az_ H
 clear H
 go_enter Tryz.func22, Tryz.ntmps22
 go_wp2
 go_loopg [3] k (fun kq v3 w' => ∃ (x3_1 : Int), v3 = .int .i64 x3_1 ∧ Aside0 (laws_fRises.l0 kq l0 x3_1 = some r) ∧ Aside0 (kq ≤ k) ∧ Drawn0 w w')
 case atStart => exact ⟨(1), qaz_, H', ⟨Nat.le_refl _⟩, w77_⟩
 case round =>
  clear H'
  obtain ⟨x3_1, rfl, HA, HK1, ⟨m1, rfl⟩⟩ := hrel
  cases gk with
  | zero => exact absurd HA.out (by simp [laws_fRises.l0])
  | succ k1 =>
   have H := HA.out
   clear HA
   simp only [laws_fRises.l0] at H
   by_cases c2 : x3_1 < (l0.length : Int)
   ·rw [if_pos c2] at H
    have c2b0 := decide_eq_true c2
    clear c2
    obtain ⟨ji3, hji3⟩ : ∃ j_ : Int, (wrap64 (x3_1 - 1)) = j_ := ⟨_, rfl⟩
    replace H : (if 0 ≤ (ji3) then (if (ji3) < (l0.length : Int) then (if 0 ≤ x3_1 then (if (rd l0 (ji3)) ≥ (rd l0 x3_1) then (some false) else (laws_fRises.l0 k1 l0 (wrap64 (x3_1 + 1)))) else (none)) else (none)) else (none)) = some r := by first | (rw [hji3] at H; exact H) | (simp only [hji3] at H ⊢; exact H)
    have hji3w : (IntKind.i64.wrap (x3_1 - 1)) = ji3 := (i64_w _).trans hji3
    by_cases c4 : 0 ≤ (ji3); rotate_left
    ·rw [if_neg c4] at H
     exact absurd H (by simp)
    rw [if_pos c4] at H
    have c4b0 := decide_eq_true c4
    clear c4
    by_cases c5 : (ji3) < (l0.length : Int); rotate_left
    ·rw [if_neg c5] at H
     exact absurd H (by simp)
    rw [if_pos c5] at H
    have c5b0 := decide_eq_true c5
    clear c5
    by_cases c6 : 0 ≤ x3_1; rotate_left
    ·rw [if_neg c6] at H
     exact absurd H (by simp)
    rw [if_pos c6] at H
    have c6b0 := decide_eq_true c6
    clear c6
    by_cases c7 : (rd l0 (ji3)) ≥ (rd l0 x3_1)
    ·rw [if_pos c7] at H
     have c7b0 := decide_eq_true c7
     clear c7
     obtain rfl := Option.some.inj H
     have p347 : 0 ≤ ((ji3) : Int) := od_
     have q347 : (ji3) < (l0.length : Int) := od_
     obtain ⟨ad347, e347, hx347_0⟩ := Kd.at_int HR0.out (ji3) p347 q347
     cases e347
     replace p347 := eq_true p347
     replace q347 := eq_true q347
     have p348 : 0 ≤ (x3_1 : Int) := od_
     have q348 : x3_1 < (l0.length : Int) := od_
     obtain ⟨ad348, e348, hx348_0⟩ := Kd.at_int HR0.out x3_1 p348 q348
     obtain rfl : ad347 = ad348 := (by injection e348)
     replace p348 := eq_true p348
     replace q348 := eq_true q348
     go_wp2
     repeat (go_quiet (fail); try go_wp2)
     go_ret
     exact ⟨by first | rfl | (simp; done) | (simp only [← hji3] <;> (first | rfl | simp)) | (simp [*]; done), w77_⟩
    rw [if_neg c7] at H
    have c7b0 := decide_eq_false c7
    clear c7
    have H' := Az_ H
    clear H
    have p347 : 0 ≤ ((ji3) : Int) := od_
    have q347 : (ji3) < (l0.length : Int) := od_
    obtain ⟨ad347, e347, hx347_0⟩ := Kd.at_int HR0.out (ji3) p347 q347
    cases e347
    replace p347 := eq_true p347
    replace q347 := eq_true q347
    have p348 : 0 ≤ (x3_1 : Int) := od_
    have q348 : x3_1 < (l0.length : Int) := od_
    obtain ⟨ad348, e348, hx348_0⟩ := Kd.at_int HR0.out x3_1 p348 q348
    obtain rfl : ad347 = ad348 := (by injection e348)
    replace p348 := eq_true p348
    replace q348 := eq_true q348
    go_wp2
    repeat (go_quiet (fail); try go_wp2)
    go_roundg k1
    case measure => have := HK1.out; omega
    case rel => exact ⟨(wrap64 (x3_1 + 1)), qaz_, H', ⟨w85_⟩, w77_⟩
   ·rw [if_neg c2] at H
    have c2b0 := decide_eq_false c2
    clear c2
    obtain rfl := Option.some.inj H
    go_wp2
    go_ret
    exact ⟨w79_, w77_⟩

def impl_numbersOf.l0 : Nat → List Int → List ByteArray → Int → Int → Option (List Int × Bool)
 | 0, _, _, _, _ => none
 | k + 1, x8, x24, x25, x26 => if x26 < x25 then (if 0 ≤ x26 then (if x26 < (x24.length : Int) then ((atoi.f (rdOf ByteArray.empty x24 x26)).bind fun bt356 => (if bt356.2.isNone = true then (if x8.length < 17592186044416 then (impl_numbersOf.l0 k (x8 ++ [bt356.1]) x24 x25 (wrap64 (x26 + 1))) else (none)) else (some (([] : List Int), false)))) else (none)) else (none)) else (some (x8, true))
def impl_numbersOf.f (k : Nat) (a0 : ByteArray) (a1 : ByteArray) (a2 : Int) : Option (List Int × Bool) := (splitn.f a0 a1 (wrap64 (a2 + 1))).bind fun t352 => (if (t352.length : Int) > a2 then (some (([] : List Int), false)) else (impl_numbersOf.l0 k (([] : List Int)) t352 (t352.length : Int) 0))
set_option maxHeartbeats 8000000 in
set_option maxRecDepth 100000 in
theorem impl_numbersOf.calls (k : Nat) (a0 : ByteArray) (a1 : ByteArray) (a2 : Int) (r1 : List Int) (r2 : Bool) (w : World) (hT : LibW w) (h : impl_numbersOf.f k a0 a1 a2 = some (r1, r2)) :
  Calls Tryz.prog 50 #[.string a0, .string a1, .int .i64 a2] w fun e w' => ∃ v0_ : Value, e = .returned (.tuple #[v0_, .bool r2]) ∧ Kd.R (Kd.int .i64) 3 w' w.heap.size (fun _ => True) v0_ r1 ∧ Below w.heap.size w w' := by
 have HTAB := Az_ hT
 clear hT
 have hu75 := Tryz.underlying75
 have HB := Az_ (Below.refl w.heap.size w)
 have H : ((splitn.f a0 a1 (wrap64 (a2 + 1))).bind fun t352 => (if (t352.length : Int) > a2 then (some (([] : List Int), false)) else (impl_numbersOf.l0 k (([] : List Int)) t352 (t352.length : Int) 0))) = some (r1, r2) := h
 clear h
 obtain ⟨y349, hy349⟩ : ∃ y_ : List Int, y_ = (([] : List Int)) := ⟨_, rfl⟩
 replace H : ((splitn.f a0 a1 (wrap64 (a2 + 1))).bind fun t352 => (if (t352.length : Int) > a2 then (some (([] : List Int), false)) else (impl_numbersOf.l0 k y349 t352 (t352.length : Int) 0))) = some (r1, r2) := by first | (rw [hy349]; with_reducible exact H) | (have H2_ := (Option.bind_some _ _).symm.trans H; rw [hy349]; with_reducible exact H2_) | (have H2_ := (Option.bind_some _ _).symm.trans H; with_reducible exact H2_) | with_reducible exact H | (rw [hy349]; exact H) | exact H
 have Ny349 := Az_ hy349
 clear hy349
 replace H := bqz_ H; obtain ⟨t352, A4, H⟩ := H
 replace H : (if (t352.length : Int) > a2 then (some (([] : List Int), false)) else (impl_numbersOf.l0 k y349 t352 (t352.length : Int) 0)) = some (r1, r2) := H
 by_cases c5 : (t352.length : Int) > a2
 ·rw [if_pos c5] at H
  have c5b0 := decide_eq_true c5
  clear c5
  simp only [Option.some.injEq, Prod.mk.injEq] at H
  obtain ⟨rfl, rfl⟩ := H
  go_enter Tryz.func50, Tryz.ntmps50
  go_wp2_with (first | ((with_reducible refine gate_dst (N := 14) rfl ?_); refine Kd.R_lit (Kd.int .i64) _ 3 ?hg (N := 14) ?hd (xs := ([] : List Int)) (inner := []) (ok := fun _ => True) (okp := fun _ => True) ?hr ?hp (fun _ hk => hk) trivial (Below.refl _ _) (Nat.le_refl _) (by simp) ?_; (case hd => rfl); (case hg => rfl); (case hr => first | (go_simp; done) | (go_simp; rfl)); (case hp => exact (Reps.none _ _)); intro v350 w6 ho7 hb hg_ hnew_; clear hg_ hnew_; (first | rw [← Ny349.out] at ho7 | (simp only [Int.reduceToNat] at ho7; rw [← Ny349.out] at ho7)); have HO351 := Az_ (Kd.R_lower ho7 (below_size (ubz_ HB.out))); replace HB := Az_ (btz_ (ubz_ HB.out) hb); clear hb ho7) | ((with_reducible refine gate_callee (f := 69) rfl ?_); refine goesL_ (some 19) rfl rfl Tryz.func69 (w94_) rfl #[.string a0, .string a1, .int .i64 (wrap64 (a2 + 1))] rfl maz_ ?_; (with_reducible refine (splitn.calls a0 a1 (wrap64 (a2 + 1)) t352 _ (libW_below HTAB.out (ubz_ HB.out)) A4.out).mono ?_); rintro e w8 ⟨v353, rfl, ho0, hb⟩; refine ⟨_, rfl, ?_⟩; replace HO351 := Az_ (Kd.R_below (by exact urz_ HO351.out) hb); have HO354 := Az_ (Kd.R_lower ho0 (below_size (ubz_ HB.out))); replace HB := Az_ (btz_ (ubz_ HB.out) hb); (try clear hb); (try clear ho0); obtain ⟨Ao9, co9, eo9⟩ := Kd.R_slice HO354.out; subst eo9))
  go_ret2
  exact ⟨_, w74_, w53_, w92_⟩
 ·rw [if_neg c5] at H
  have c5b0 := decide_eq_false c5
  clear c5
  have H' := Az_ H
  clear H
  go_enter Tryz.func50, Tryz.ntmps50
  go_wp2_with (first | ((with_reducible refine gate_dst (N := 14) rfl ?_); refine Kd.R_lit (Kd.int .i64) _ 3 ?hg (N := 14) ?hd (xs := ([] : List Int)) (inner := []) (ok := fun _ => True) (okp := fun _ => True) ?hr ?hp (fun _ hk => hk) trivial (Below.refl _ _) (Nat.le_refl _) (by simp) ?_; (case hd => rfl); (case hg => rfl); (case hr => first | (go_simp; done) | (go_simp; rfl)); (case hp => exact (Reps.none _ _)); intro v350 w10 ho11 hb hg_ hnew_; clear hg_ hnew_; (first | rw [← Ny349.out] at ho11 | (simp only [Int.reduceToNat] at ho11; rw [← Ny349.out] at ho11)); have HO351 := Az_ (Kd.R_lower ho11 (below_size (ubz_ HB.out))); replace HB := Az_ (btz_ (ubz_ HB.out) hb); clear hb ho11) | ((with_reducible refine gate_callee (f := 69) rfl ?_); refine goesL_ (some 19) rfl rfl Tryz.func69 (w94_) rfl #[.string a0, .string a1, .int .i64 (wrap64 (a2 + 1))] rfl maz_ ?_; (with_reducible refine (splitn.calls a0 a1 (wrap64 (a2 + 1)) t352 _ (libW_below HTAB.out (ubz_ HB.out)) A4.out).mono ?_); rintro e w12 ⟨v353, rfl, ho0, hb⟩; refine ⟨_, rfl, ?_⟩; replace HO351 := Az_ (Kd.R_below (by exact urz_ HO351.out) hb); have HO354 := Az_ (Kd.R_lower ho0 (below_size (ubz_ HB.out))); replace HB := Az_ (btz_ (ubz_ HB.out) hb); (try clear hb); (try clear ho0); obtain ⟨Ao13, co13, eo13⟩ := Kd.R_slice HO354.out; subst eo13))
  go_loopg [8, 26] k (fun kq v8 v26 w' => ∃ (x8_1 : List Int) (x26_1 : Int), v26 = .int .i64 x26_1 ∧ Aside0 (impl_numbersOf.l0 kq x8_1 t352 (t352.length : Int) x26_1 = some (r1, r2)) ∧ Aside0 (kq ≤ k) ∧ Aside0 (Kd.R (Kd.int .i64) 3 w' w.heap.size (fun _ => True) v8 x8_1) ∧ Aside0 (Kd.R Kd.string 9 w' w.heap.size (fun _ => True) (.slice Ao13 t352.length co13) t352) ∧ Aside0 (Below w.heap.size w w'))
  case atStart => exact ⟨(y349), (0), qaz_, H', ⟨Nat.le_refl _⟩, ⟨by (with_reducible repeat (first | apply raz_ | apply rnz_ | apply rdz_)); exact HO351.out⟩, ⟨by (with_reducible repeat (first | apply raz_ | apply rnz_ | apply rdz_)); exact HO354.out⟩, ⟨w92_⟩⟩
  case round =>
   clear H'
   clear c5b0
   obtain ⟨x8_1, x26_1, rfl, HA, HK1, HO_8, HO_24, HB⟩ := hrel
   cases gk with
   | zero => exact absurd HA.out (by simp [impl_numbersOf.l0])
   | succ k1 =>
    have H := HA.out
    clear HA
    simp only [impl_numbersOf.l0] at H
    by_cases c14 : x26_1 < (t352.length : Int)
    ·rw [if_pos c14] at H
     have c14b0 := decide_eq_true c14
     clear c14
     by_cases c15 : 0 ≤ x26_1; rotate_left
     ·rw [if_neg c15] at H
      exact absurd H (by simp)
     rw [if_pos c15] at H
     have c15b0 := decide_eq_true c15
     clear c15
     by_cases c16 : x26_1 < (t352.length : Int); rotate_left
     ·rw [if_neg c16] at H
      exact absurd H (by simp)
     rw [if_pos c16] at H
     have c16b0 := decide_eq_true c16
     clear c16
     replace H := bqz_ H; obtain ⟨⟨t356, t357⟩, A17, H⟩ := H
     replace H : (if t357.isNone = true then (if x8_1.length < 17592186044416 then (impl_numbersOf.l0 k1 (x8_1 ++ [t356]) t352 (t352.length : Int) (wrap64 (x26_1 + 1))) else (none)) else (some (([] : List Int), false))) = some (r1, r2) := H
     rcases t357 with _ | q358
     ·have H1 : (if x8_1.length < 17592186044416 then (impl_numbersOf.l0 k1 (x8_1 ++ [t356]) t352 (t352.length : Int) (wrap64 (x26_1 + 1))) else (none)) = some (r1, r2) := by rw [if_pos (show (none : Option Int).isNone = true by rfl)] at H; exact H
      clear H
      have H := H1
      clear H1
      try simp only [errW_none, errW_some]
      by_cases c18 : x8_1.length < 17592186044416; rotate_left
      ·rw [if_neg c18] at H
       exact absurd H (by simp)
      rw [if_pos c18] at H
      have LMc18 := Az_ c18
      clear c18
      obtain ⟨y359, hy359⟩ : ∃ y_ : List Int, y_ = (x8_1 ++ [t356]) := ⟨_, rfl⟩
      replace H : (impl_numbersOf.l0 k1 y359 t352 (t352.length : Int) (wrap64 (x26_1 + 1))) = some (r1, r2) := by first | (rw [hy359]; with_reducible exact H) | (have H2_ := (Option.bind_some _ _).symm.trans H; rw [hy359]; with_reducible exact H2_) | (have H2_ := (Option.bind_some _ _).symm.trans H; with_reducible exact H2_) | with_reducible exact H | (rw [hy359]; exact H) | exact H
      have Ny359 := Az_ hy359
      clear hy359
      have H' := Az_ H
      clear H
      have p355 : 0 ≤ (x26_1 : Int) := od_
      have q355 : x26_1 < (t352.length : Int) := od_
      obtain ⟨ad355, e355, hx355_0⟩ := Kd.at_string (Kd.R_reads' HO_24.out).2.2 x26_1 p355 q355
      cases e355
      replace p355 := eq_true p355
      replace q355 := eq_true q355
      go_wp2_with (first | ((with_reducible refine gate_callee (f := 51) rfl ?_); refine goesL_ (some 32) rfl rfl Tryz.func51 (w94_) rfl #[.string (rdOf ByteArray.empty t352 x26_1)] rfl maz_ ?_; (with_reducible refine (atoi.calls (rdOf ByteArray.empty t352 x26_1) t356 none _ (libW_below HTAB.out (ubz_ HB.out)) A17.out).mono ?_); rintro e w19 ⟨ev_, rfl, hev_, hb⟩; obtain rfl : ev_ = Value.nilIface := hev_; refine ⟨_, rfl, ?_⟩; replace HO_8 := Az_ (Kd.R_below (by exact urz_ HO_8.out) hb); replace HO_24 := Az_ (Kd.R_below (by exact urz_ HO_24.out) hb); replace HB := Az_ (btz_ (ubz_ HB.out) hb); (try clear hb)) | ((with_reducible refine gate_builtin (b := .append) (xs := #[.tmp 37, .tmp 39]) rfl ?_); at_builtin; refine Kd.R_append (Kd.int .i64) (w0 := w) w.heap.size rfl (.tmp 37) (.tmp 39) 24 3 (.int .i64 0) 8 rfl Tryz.underlying24 info3 rfl (by decide) (by omega) u8 x8_1 t356 [.int .i64 t356] (fun _ => True) (fun _ => False) rfl rfl ?aP (fun _ hk => hk.elim) ?aF ?aO ?aB ?aS ?aL ?_; (case aP => exact rfl); (case aB => exact (ubz_ HB.out)); (case aF => exact (fun _ _ => trivial)); (case aO => exact (by exact urz_ HO_8.out)); (case aS => exact (below_size (ubz_ HB.out))); (case aL => have := LMc18.out; omega); intro v360 w20 ho hb hg hat; rw [← Ny359.out] at ho; replace HO_24 := Az_ (Kd.R_over' (by exact urz_ HO_24.out) (Kd.R_typed (by exact urz_ HO_8.out)) (by decide) hg); replace HB := Az_ (hb); have HO361 := Az_ (ho); clear HO_8; clear ho hb hg hat))
      go_roundg k1
      case measure => have := HK1.out; omega
      case rel => exact ⟨(y359), (wrap64 (x26_1 + 1)), qaz_, H', ⟨w85_⟩, ⟨by (with_reducible repeat (first | apply raz_ | apply rnz_ | apply rdz_)); exact HO361.out⟩, ⟨by (with_reducible repeat (first | apply raz_ | apply rnz_ | apply rdz_)); exact HO_24.out⟩, ⟨w92_⟩⟩
     ·have H1 : (some (([] : List Int), false)) = some (r1, r2) := by rw [if_neg (show ¬ (some q358).isNone = true by simp)] at H; exact H
      clear H
      have H := H1
      clear H1
      try simp only [errW_none, errW_some]
      simp only [Option.some.injEq, Prod.mk.injEq] at H
      obtain ⟨rfl, rfl⟩ := H
      have p355 : 0 ≤ (x26_1 : Int) := od_
      have q355 : x26_1 < (t352.length : Int) := od_
      obtain ⟨ad355, e355, hx355_0⟩ := Kd.at_string (Kd.R_reads' HO_24.out).2.2 x26_1 p355 q355
      cases e355
      replace p355 := eq_true p355
      replace q355 := eq_true q355
      go_wp2_with (((with_reducible refine gate_callee (f := 51) rfl ?_); refine goesL_ (some 32) rfl rfl Tryz.func51 (w94_) rfl #[.string (rdOf ByteArray.empty t352 x26_1)] rfl maz_ ?_; (with_reducible refine (atoi.calls (rdOf ByteArray.empty t352 x26_1) t356 (some q358) _ (libW_below HTAB.out (ubz_ HB.out)) A17.out).mono ?_); rintro e w21 ⟨ev_, rfl, hev_, hb⟩; obtain ⟨N_, rfl⟩ := hev_; refine ⟨_, rfl, ?_⟩; replace HO_8 := Az_ (Kd.R_below (by exact urz_ HO_8.out) hb); replace HO_24 := Az_ (Kd.R_below (by exact urz_ HO_24.out) hb); replace HB := Az_ (btz_ (ubz_ HB.out) hb); (try clear hb)))
      go_ret2
      exact ⟨_, w74_, w53_, w92_⟩
    ·rw [if_neg c14] at H
     have c14b0 := decide_eq_false c14
     clear c14
     simp only [Option.some.injEq, Prod.mk.injEq] at H
     obtain ⟨rfl, rfl⟩ := H
     go_wp2
     go_ret2
     exact ⟨_, w74_, by (with_reducible repeat (first | apply raz_ | apply rnz_ | apply rdz_)); exact HO_8.out, w92_⟩

end Go.Proofs.YtimladcenifppaaGreatDoor.P
end

section
namespace Go.Proofs.YtimladcenifppaaGreatDoor.P
open Go.RowKit Go.Proofs.YtimladcenifppaaGreatDoorW.PrintWords Go.Proofs.YtimladcenifppaaGreatDoorW.PrintLast Go.Proofs.YtimladcenifppaaGreatDoorW.PrintMore
set_option linter.unusedVariables false

def strcut.f (s sep : ByteArray) : Option (ByteArray × ByteArray × Bool) :=
  if s.size < 4294967281 then some (⟨(Lib.cut s.data.toList sep.data.toList).1.toArray⟩, ⟨(Lib.cut s.data.toList sep.data.toList).2.1.toArray⟩, (Lib.cut s.data.toList sep.data.toList).2.2) else none
theorem strcut.calls (s sep : ByteArray) (r1 r2 : ByteArray) (r3 : Bool) (w : World) (hT : LibW w) (h : strcut.f s sep = some (r1, r2, r3)) :
    Calls Tryz.prog 49 #[.string s, .string sep] w fun e w' => e = .returned (.tuple #[.string r1, .string r2, .bool r3]) ∧ Below w.heap.size w w' := by
  unfold strcut.f at h
  by_cases hn : s.size < 4294967281; rotate_left
  · rw [if_neg hn] at h
    cases h
  rw [if_pos hn] at h
  simp only [Option.some.injEq, Prod.mk.injEq] at h
  obtain ⟨rfl, rfl, rfl⟩ := h
  obtain ⟨m, hm⟩ := hT.2.1
  refine (Tryz.strings_Cut s sep m w hn hm).mono fun e w' ⟨he, n, hw⟩ => ⟨he, ?_⟩
  subst hw
  exact pw_below_drewN (Below.refl _ _) n
end Go.Proofs.YtimladcenifppaaGreatDoor.P
end

section
namespace Go.Proofs.YtimladcenifppaaGreatDoor.P
open Go.RowKit Go.Proofs.YtimladcenifppaaGreatDoorW.PrintWords Go.Proofs.YtimladcenifppaaGreatDoorW.PrintLast Go.Proofs.YtimladcenifppaaGreatDoorW.PrintMore
attribute [local go_sem] max2_int min2_int max_two min_two max_three min_three max_four min_four   -- for this text's walks alone
set_option linter.unusedVariables false
set_option linter.unusedSimpArgs false

def impl_ParseShelf.f (k : Nat) (a0 : ByteArray) : Option (List Int × Int × Bool) := (strcut.f a0 (⟨#[99]⟩ : ByteArray)).bind fun bt363 => ((impl_numbersOf.f k bt363.1 (⟨#[44]⟩ : ByteArray) 8).bind fun bt366 => ((atoi.f bt363.2.1).bind fun bt370 => (if bt366.2 = true then (if bt370.2.isNone = true then ((impl_IsShelf.f k bt366.1 bt370.1).bind fun t374 => (if t374 = true then ((impl_shelfText.f k bt366.1 bt370.1).bind fun t375 => (if t375.toList = a0.toList then (some (bt366.1, bt370.1, true)) else (some (([] : List Int), 0, false)))) else (some (([] : List Int), 0, false)))) else (some (([] : List Int), 0, false))) else (some (([] : List Int), 0, false)))))
set_option maxHeartbeats 8000000 in
set_option maxRecDepth 100000 in
theorem impl_ParseShelf.calls (k : Nat) (a0 : ByteArray) (r1 : List Int) (r2 : Int) (r3 : Bool) (w : World) (hT : LibW w) (h : impl_ParseShelf.f k a0 = some (r1, r2, r3)) :
  Calls Tryz.prog 23 #[.string a0] w fun e w' => ∃ v0_ : Value, e = .returned (.tuple #[.agg #[v0_, .int .i64 r2], .bool r3]) ∧ Kd.R (Kd.int .i64) 3 w' w.heap.size (fun _ => True) v0_ r1 ∧ Below w.heap.size w w' := by
 have HTAB := Az_ hT
 clear hT
 have hu26 := Tryz.underlying26
 have hu75 := Tryz.underlying75
 have HB := Az_ (Below.refl w.heap.size w)
 have H : ((strcut.f a0 (⟨#[99]⟩ : ByteArray)).bind fun bt363 => ((impl_numbersOf.f k bt363.1 (⟨#[44]⟩ : ByteArray) 8).bind fun bt366 => ((atoi.f bt363.2.1).bind fun bt370 => (if bt366.2 = true then (if bt370.2.isNone = true then ((impl_IsShelf.f k bt366.1 bt370.1).bind fun t374 => (if t374 = true then ((impl_shelfText.f k bt366.1 bt370.1).bind fun t375 => (if t375.toList = a0.toList then (some (bt366.1, bt370.1, true)) else (some (([] : List Int), 0, false)))) else (some (([] : List Int), 0, false)))) else (some (([] : List Int), 0, false))) else (some (([] : List Int), 0, false)))))) = some (r1, r2, r3) := h
 clear h
 replace H := bqz_ H; obtain ⟨⟨t363, t364, t365⟩, A2, H⟩ := H
 replace H := bqz_ H; obtain ⟨⟨t366, t367⟩, A3, H⟩ := H
 replace H := bqz_ H; obtain ⟨⟨t370, t371⟩, A4, H⟩ := H
 replace H : (if t367 = true then (if t371.isNone = true then ((impl_IsShelf.f k t366 t370).bind fun t374 => (if t374 = true then ((impl_shelfText.f k t366 t370).bind fun t375 => (if t375.toList = a0.toList then (some (t366, t370, true)) else (some (([] : List Int), 0, false)))) else (some (([] : List Int), 0, false)))) else (some (([] : List Int), 0, false))) else (some (([] : List Int), 0, false))) = some (r1, r2, r3) := H
 by_cases c5 : t367 = true
 ·subst c5
  rw [if_pos rfl] at H
  rcases t371 with _ | q373
  ·have H1 : ((impl_IsShelf.f k t366 t370).bind fun t374 => (if t374 = true then ((impl_shelfText.f k t366 t370).bind fun t375 => (if t375.toList = a0.toList then (some (t366, t370, true)) else (some (([] : List Int), 0, false)))) else (some (([] : List Int), 0, false)))) = some (r1, r2, r3) := by rw [if_pos (show (none : Option Int).isNone = true by rfl)] at H; exact H
   clear H
   have H := H1
   clear H1
   try simp only [errW_none, errW_some]
   replace H := bqz_ H; obtain ⟨t374, A6, H⟩ := H
   replace H : (if t374 = true then ((impl_shelfText.f k t366 t370).bind fun t375 => (if t375.toList = a0.toList then (some (t366, t370, true)) else (some (([] : List Int), 0, false)))) else (some (([] : List Int), 0, false))) = some (r1, r2, r3) := H
   by_cases c7 : t374 = true; rotate_left
   ·replace c7 := Bool.eq_false_iff.mpr c7
    subst c7
    rw [if_neg nfz_] at H
    simp only [Option.some.injEq, Prod.mk.injEq] at H
    obtain ⟨rfl, rfl, rfl⟩ := H
    go_enter Tryz.func23, Tryz.ntmps23
    go_wp2_with (first | ((with_reducible refine gate_dst (N := 2) rfl ?_); refine box_event ?hg (N := 2) ?hd (cs := #[.slice none 0 0, .int .i64 0]) (t := 26) ?hr ?_; (case hd => rfl); (case hg => rfl); (case hr => first | (go_simp; done) | (go_simp; rfl)); intro gb362 hg w35 hbox hb; have BK362 := Az_ (hbox); have GW362 := Az_ ((by rw [hg]; exact (below_size (ubz_ HB.out)) : w.heap.size ≤ gb362)); have GE362 := Az_ ((by rw [hg]; exact (below_size (ubz_ HB.out)) : w.heap.size ≤ gb362)); replace HB := Az_ (btz_ (ubz_ HB.out) hb); clear hb hbox hg) | ((with_reducible refine gate_callee (f := 49) rfl ?_); refine goesL_ (some 14) rfl rfl Tryz.func49 (w94_) rfl #[.string a0, .string (⟨#[99]⟩ : ByteArray)] rfl maz_ ?_; (with_reducible refine (strcut.calls a0 (⟨#[99]⟩ : ByteArray) t363 t364 t365 _ (libW_below HTAB.out (w52_)) A2.out).mono ?_); rintro e w36 ⟨rfl, hb⟩; refine ⟨_, rfl, ?_⟩; have n1_ := Az_ (btz_ (w52_) hb); clear HB; replace BK362 := Az_ (ukbz_ BK362.out hb); have HB := n1_; clear n1_; (try clear hb)) | ((with_reducible refine gate_callee (f := 50) rfl ?_); refine goesL_ (some 20) rfl rfl Tryz.func50 (w94_) rfl #[.string t363, .string (⟨#[44]⟩ : ByteArray), .int .i64 8] rfl maz_ ?_; (with_reducible refine (impl_numbersOf.calls k t363 (⟨#[44]⟩ : ByteArray) 8 t366 true _ (libW_below HTAB.out (w52_)) A3.out).mono ?_); rintro e w37 ⟨v368, rfl, ho0, hb⟩; refine ⟨_, rfl, ?_⟩; have n0_ := Az_ (Kd.R_lower ho0 (below_size (w52_))); have n2_ := Az_ (btz_ (w52_) hb); clear HB; have HO369 := n0_; replace BK362 := Az_ (ukbz_ BK362.out hb); have HB := n2_; clear n0_ n2_; (try clear hb); (try clear ho0)) | ((with_reducible refine gate_callee (f := 51) rfl ?_); refine goesL_ (some 25) rfl rfl Tryz.func51 (w94_) rfl #[.string t364] rfl maz_ ?_; (with_reducible refine (atoi.calls t364 t370 none _ (libW_below HTAB.out (w52_)) A4.out).mono ?_); rintro e w38 ⟨ev_, rfl, hev_, hb⟩; obtain rfl : ev_ = Value.nilIface := hev_; refine ⟨_, rfl, ?_⟩; have n0_ := Az_ (Kd.R_below (w88_) hb); have n2_ := Az_ (btz_ (w52_) hb); clear HO369; clear HB; have HO369 := n0_; replace BK362 := Az_ (ukbz_ BK362.out hb); have HB := n2_; clear n0_ n2_; (try clear hb); obtain ⟨Ao39, co39, eo39⟩ := Kd.R_slice HO369.out; subst eo39) | ((with_reducible refine gate_dst (N := 11) rfl ?_); refine box_event ?hg (N := 11) ?hd (cs := #[.slice none 0 0, .int .i64 0]) (t := 26) ?hr ?_; (case hd => rfl); (case hg => rfl); (case hr => first | (go_simp; done) | (go_simp; rfl)); intro gb372 hg w40 hbox hb; have n0_ := Az_ (Kd.R_below (w88_) hb); have n2_ := Az_ (btz_ (w52_) hb); have n3_ := Az_ (hbox); have n4_ := Az_ ((by rw [hg]; exact (below_size (w52_)) : w.heap.size ≤ gb372)); have n5_ := Az_ ((by rw [hg]; exact (below_size (w52_)) : w.heap.size ≤ gb372)); have n6_ := Az_ ((by rw [hg]; exact Nat.ne_of_lt (uklz_ BK362.out) : gb362 ≠ gb372)); have n7_ := Az_ ((by rw [hg]; exact Nat.ne_of_gt (uklz_ BK362.out) : gb372 ≠ gb362)); clear HO369; clear HB; have HO369 := n0_; replace BK362 := Az_ (ukbz_ BK362.out hb); have HB := n2_; have BK372 := n3_; have GW372 := n4_; have GE372 := n5_; have NB362_372 := n6_; have NB372_362 := n7_; clear n0_ n2_ n3_ n4_ n5_ n6_ n7_; clear hb hbox hg; have hnb41 := NB372_362.out; have hnc41 := NB362_372.out; have hcz42_0 : w40.cell? ⟨gb372, 0, none⟩ = some (.slice none 0 0) := (blk_cell BK372.out 0).trans rfl; have hcz42_1 : w40.cell? ⟨gb372, 1, none⟩ = some (.int .i64 0) := (blk_cell BK372.out 1).trans rfl; have hfz42_0 := blk_frozen BK372.out 0; have hfz42_1 := blk_frozen BK372.out 1) | (go_at_call 19; (with_reducible refine (impl_IsShelf.calls k _ _ t366 t370 false _ ?side1 ?side2 A6.out).mono ?_); (case side1 => refine (Kd.R_reads' (e := 3) (base := w.heap.size) (ok := fun k_ => True) (n := t366.length) (c := co39) ?_).2.2; exact (w20_)); (case side2 => exact (Kd.R_reads' HO369.out).2.1); rintro e w43 ⟨rfl, hb⟩; replace HO369 := Az_ (Kd.R_below (w20_) hb); replace BK362 := Az_ (kbz_ (g := gb362) (o := .cells #[.slice none 0 0, .int .i64 0] 26 (0, 0)) (w13_) hb); replace BK372 := Az_ (kbz_ (g := gb372) (o := .cells #[.slice Ao39 t366.length co39, .int .i64 t370] 26 (0, 0)) (by (with_reducible repeat (first | refine knz_ ?_ _ | refine kdz_ ?_ | refine kaz_ ?_ _)); refine blk_put (cs := #[.slice Ao39 t366.length co39, .int .i64 0]) ?_ 1 _ rfl; (with_reducible repeat (first | refine knz_ ?_ _ | refine kdz_ ?_ | refine kaz_ ?_ _)); refine blk_put (cs := #[.slice none 0 0, .int .i64 0]) ?_ 0 _ rfl; (with_reducible repeat (first | refine knz_ ?_ _ | refine kdz_ ?_ | refine kaz_ ?_ _)); exact BK372.out) hb); replace HB := Az_ (btz_ (w52_) hb); (try clear hb); have hcz44_0 : w43.cell? ⟨gb362, 0, none⟩ = some (.slice none 0 0) := (blk_cell BK362.out 0).trans rfl; have hcz44_1 : w43.cell? ⟨gb362, 1, none⟩ = some (.int .i64 0) := (blk_cell BK362.out 1).trans rfl; have hfz44_0 := blk_frozen BK362.out 0; have hfz44_1 := blk_frozen BK362.out 1))
    refine bodyPost_ret (results_ct rfl _ _ gb362 26 #[.slice none 0 0, .int .i64 0] (0, 0) _ rfl (w2_) Tryz.underlying26 rfl (w94_)) rfl ?_
    exact ⟨_, w74_, w53_, w52_⟩
   subst c7
   rw [if_pos rfl] at H
   replace H := bqz_ H; obtain ⟨t375, A8, H⟩ := H
   replace H : (if t375.toList = a0.toList then (some (t366, t370, true)) else (some (([] : List Int), 0, false))) = some (r1, r2, r3) := H
   by_cases c9 : t375.toList = a0.toList; rotate_left
   ·rw [if_neg c9] at H
    have c9b0 : (t375.toList == a0.toList) = false := beq_eq_false_iff_ne.mpr c9
    have c9b1 : (t375.toList != a0.toList) = true := bne_iff_ne.mpr c9
    simp only [Option.some.injEq, Prod.mk.injEq] at H
    obtain ⟨rfl, rfl, rfl⟩ := H
    go_enter Tryz.func23, Tryz.ntmps23
    go_wp2_with (first | ((with_reducible refine gate_dst (N := 2) rfl ?_); refine box_event ?hg (N := 2) ?hd (cs := #[.slice none 0 0, .int .i64 0]) (t := 26) ?hr ?_; (case hd => rfl); (case hg => rfl); (case hr => first | (go_simp; done) | (go_simp; rfl)); intro gb362 hg w23 hbox hb; have BK362 := Az_ (hbox); have GW362 := Az_ ((by rw [hg]; exact (below_size (ubz_ HB.out)) : w.heap.size ≤ gb362)); have GE362 := Az_ ((by rw [hg]; exact (below_size (ubz_ HB.out)) : w.heap.size ≤ gb362)); replace HB := Az_ (btz_ (ubz_ HB.out) hb); clear hb hbox hg) | ((with_reducible refine gate_callee (f := 49) rfl ?_); refine goesL_ (some 14) rfl rfl Tryz.func49 (w94_) rfl #[.string a0, .string (⟨#[99]⟩ : ByteArray)] rfl maz_ ?_; (with_reducible refine (strcut.calls a0 (⟨#[99]⟩ : ByteArray) t363 t364 t365 _ (libW_below HTAB.out (w52_)) A2.out).mono ?_); rintro e w24 ⟨rfl, hb⟩; refine ⟨_, rfl, ?_⟩; have n1_ := Az_ (btz_ (w52_) hb); clear HB; replace BK362 := Az_ (ukbz_ BK362.out hb); have HB := n1_; clear n1_; (try clear hb)) | ((with_reducible refine gate_callee (f := 50) rfl ?_); refine goesL_ (some 20) rfl rfl Tryz.func50 (w94_) rfl #[.string t363, .string (⟨#[44]⟩ : ByteArray), .int .i64 8] rfl maz_ ?_; (with_reducible refine (impl_numbersOf.calls k t363 (⟨#[44]⟩ : ByteArray) 8 t366 true _ (libW_below HTAB.out (w52_)) A3.out).mono ?_); rintro e w25 ⟨v368, rfl, ho0, hb⟩; refine ⟨_, rfl, ?_⟩; have n0_ := Az_ (Kd.R_lower ho0 (below_size (w52_))); have n2_ := Az_ (btz_ (w52_) hb); clear HB; have HO369 := n0_; replace BK362 := Az_ (ukbz_ BK362.out hb); have HB := n2_; clear n0_ n2_; (try clear hb); (try clear ho0)) | ((with_reducible refine gate_callee (f := 51) rfl ?_); refine goesL_ (some 25) rfl rfl Tryz.func51 (w94_) rfl #[.string t364] rfl maz_ ?_; (with_reducible refine (atoi.calls t364 t370 none _ (libW_below HTAB.out (w52_)) A4.out).mono ?_); rintro e w26 ⟨ev_, rfl, hev_, hb⟩; obtain rfl : ev_ = Value.nilIface := hev_; refine ⟨_, rfl, ?_⟩; have n0_ := Az_ (Kd.R_below (w88_) hb); have n2_ := Az_ (btz_ (w52_) hb); clear HO369; clear HB; have HO369 := n0_; replace BK362 := Az_ (ukbz_ BK362.out hb); have HB := n2_; clear n0_ n2_; (try clear hb); obtain ⟨Ao27, co27, eo27⟩ := Kd.R_slice HO369.out; subst eo27) | ((with_reducible refine gate_dst (N := 11) rfl ?_); refine box_event ?hg (N := 11) ?hd (cs := #[.slice none 0 0, .int .i64 0]) (t := 26) ?hr ?_; (case hd => rfl); (case hg => rfl); (case hr => first | (go_simp; done) | (go_simp; rfl)); intro gb372 hg w28 hbox hb; have n0_ := Az_ (Kd.R_below (w88_) hb); have n2_ := Az_ (btz_ (w52_) hb); have n3_ := Az_ (hbox); have n4_ := Az_ ((by rw [hg]; exact (below_size (w52_)) : w.heap.size ≤ gb372)); have n5_ := Az_ ((by rw [hg]; exact (below_size (w52_)) : w.heap.size ≤ gb372)); have n6_ := Az_ ((by rw [hg]; exact Nat.ne_of_lt (uklz_ BK362.out) : gb362 ≠ gb372)); have n7_ := Az_ ((by rw [hg]; exact Nat.ne_of_gt (uklz_ BK362.out) : gb372 ≠ gb362)); clear HO369; clear HB; have HO369 := n0_; replace BK362 := Az_ (ukbz_ BK362.out hb); have HB := n2_; have BK372 := n3_; have GW372 := n4_; have GE372 := n5_; have NB362_372 := n6_; have NB372_362 := n7_; clear n0_ n2_ n3_ n4_ n5_ n6_ n7_; clear hb hbox hg; have hnb29 := NB372_362.out; have hnc29 := NB362_372.out; have hcz30_0 : w28.cell? ⟨gb372, 0, none⟩ = some (.slice none 0 0) := (blk_cell BK372.out 0).trans rfl; have hcz30_1 : w28.cell? ⟨gb372, 1, none⟩ = some (.int .i64 0) := (blk_cell BK372.out 1).trans rfl; have hfz30_0 := blk_frozen BK372.out 0; have hfz30_1 := blk_frozen BK372.out 1) | (go_at_call 19; (with_reducible refine (impl_IsShelf.calls k _ _ t366 t370 true _ ?side1 ?side2 A6.out).mono ?_); (case side1 => refine (Kd.R_reads' (e := 3) (base := w.heap.size) (ok := fun k_ => True) (n := t366.length) (c := co27) ?_).2.2; exact (w21_)); (case side2 => exact (Kd.R_reads' HO369.out).2.1); rintro e w31 ⟨rfl, hb⟩; replace HO369 := Az_ (Kd.R_below (w21_) hb); replace BK362 := Az_ (kbz_ (g := gb362) (o := .cells #[.slice none 0 0, .int .i64 0] 26 (0, 0)) (w13_) hb); replace BK372 := Az_ (kbz_ (g := gb372) (o := .cells #[.slice Ao27 t366.length co27, .int .i64 t370] 26 (0, 0)) (by (with_reducible repeat (first | refine knz_ ?_ _ | refine kdz_ ?_ | refine kaz_ ?_ _)); refine blk_put (cs := #[.slice Ao27 t366.length co27, .int .i64 0]) ?_ 1 _ rfl; (with_reducible repeat (first | refine knz_ ?_ _ | refine kdz_ ?_ | refine kaz_ ?_ _)); refine blk_put (cs := #[.slice none 0 0, .int .i64 0]) ?_ 0 _ rfl; (with_reducible repeat (first | refine knz_ ?_ _ | refine kdz_ ?_ | refine kaz_ ?_ _)); exact BK372.out) hb); replace HB := Az_ (btz_ (w52_) hb); (try clear hb); have hcz32_0 : w31.cell? ⟨gb372, 0, none⟩ = some (.slice Ao27 t366.length co27) := (blk_cell BK372.out 0).trans rfl; have hcz32_1 : w31.cell? ⟨gb372, 1, none⟩ = some (.int .i64 t370) := (blk_cell BK372.out 1).trans rfl; have hfz32_0 := blk_frozen BK372.out 0; have hfz32_1 := blk_frozen BK372.out 1) | (go_at_call 45; (with_reducible refine (impl_shelfText.calls k _ _ t366 t370 t375 _ (libW_below HTAB.out (w52_)) ?side1 ?side2 A8.out).mono ?_); (case side1 => exact ucz_ ((Kd.R_reads' HO369.out).2.2)); (case side2 => exact (Kd.R_reads' HO369.out).2.1); rintro e w33 ⟨rfl, hb⟩; have n0_ := Az_ (Kd.R_below (w88_) hb); have n3_ := Az_ (btz_ (w52_) hb); clear HO369; clear HB; have HO369 := n0_; replace BK362 := Az_ (ukbz_ BK362.out hb); replace BK372 := Az_ (ukbz_ BK372.out hb); have HB := n3_; clear n0_ n3_; (try clear hb); have hcz34_0 : w33.cell? ⟨gb362, 0, none⟩ = some (.slice none 0 0) := (blk_cell BK362.out 0).trans rfl; have hcz34_1 : w33.cell? ⟨gb362, 1, none⟩ = some (.int .i64 0) := (blk_cell BK362.out 1).trans rfl; have hfz34_0 := blk_frozen BK362.out 0; have hfz34_1 := blk_frozen BK362.out 1))
    refine bodyPost_ret (results_ct rfl _ _ gb362 26 #[.slice none 0 0, .int .i64 0] (0, 0) _ rfl (w2_) Tryz.underlying26 rfl (w94_)) rfl ?_
    exact ⟨_, w74_, w53_, w52_⟩
   rw [if_pos c9] at H
   have c9b0 : (t375.toList == a0.toList) = true := beq_iff_eq.mpr c9
   have c9b1 : (t375.toList != a0.toList) = false := bne_eq_false_iff_eq.mpr c9
   clear c9
   simp only [Option.some.injEq, Prod.mk.injEq] at H
   obtain ⟨rfl, rfl, rfl⟩ := H
   go_enter Tryz.func23, Tryz.ntmps23
   go_wp2_with (first | ((with_reducible refine gate_dst (N := 2) rfl ?_); refine box_event ?hg (N := 2) ?hd (cs := #[.slice none 0 0, .int .i64 0]) (t := 26) ?hr ?_; (case hd => rfl); (case hg => rfl); (case hr => first | (go_simp; done) | (go_simp; rfl)); intro gb362 hg w10 hbox hb; have BK362 := Az_ (hbox); have GW362 := Az_ ((by rw [hg]; exact (below_size (ubz_ HB.out)) : w.heap.size ≤ gb362)); have GE362 := Az_ ((by rw [hg]; exact (below_size (ubz_ HB.out)) : w.heap.size ≤ gb362)); replace HB := Az_ (btz_ (ubz_ HB.out) hb); clear hb hbox hg) | ((with_reducible refine gate_callee (f := 49) rfl ?_); refine goesL_ (some 14) rfl rfl Tryz.func49 (w94_) rfl #[.string a0, .string (⟨#[99]⟩ : ByteArray)] rfl maz_ ?_; (with_reducible refine (strcut.calls a0 (⟨#[99]⟩ : ByteArray) t363 t364 t365 _ (libW_below HTAB.out (w52_)) A2.out).mono ?_); rintro e w11 ⟨rfl, hb⟩; refine ⟨_, rfl, ?_⟩; have n1_ := Az_ (btz_ (w52_) hb); clear HB; replace BK362 := Az_ (ukbz_ BK362.out hb); have HB := n1_; clear n1_; (try clear hb)) | ((with_reducible refine gate_callee (f := 50) rfl ?_); refine goesL_ (some 20) rfl rfl Tryz.func50 (w94_) rfl #[.string t363, .string (⟨#[44]⟩ : ByteArray), .int .i64 8] rfl maz_ ?_; (with_reducible refine (impl_numbersOf.calls k t363 (⟨#[44]⟩ : ByteArray) 8 t366 true _ (libW_below HTAB.out (w52_)) A3.out).mono ?_); rintro e w12 ⟨v368, rfl, ho0, hb⟩; refine ⟨_, rfl, ?_⟩; have n0_ := Az_ (Kd.R_lower ho0 (below_size (w52_))); have n2_ := Az_ (btz_ (w52_) hb); clear HB; have HO369 := n0_; replace BK362 := Az_ (ukbz_ BK362.out hb); have HB := n2_; clear n0_ n2_; (try clear hb); (try clear ho0)) | ((with_reducible refine gate_callee (f := 51) rfl ?_); refine goesL_ (some 25) rfl rfl Tryz.func51 (w94_) rfl #[.string t364] rfl maz_ ?_; (with_reducible refine (atoi.calls t364 t370 none _ (libW_below HTAB.out (w52_)) A4.out).mono ?_); rintro e w13 ⟨ev_, rfl, hev_, hb⟩; obtain rfl : ev_ = Value.nilIface := hev_; refine ⟨_, rfl, ?_⟩; have n0_ := Az_ (Kd.R_below (w88_) hb); have n2_ := Az_ (btz_ (w52_) hb); clear HO369; clear HB; have HO369 := n0_; replace BK362 := Az_ (ukbz_ BK362.out hb); have HB := n2_; clear n0_ n2_; (try clear hb); obtain ⟨Ao14, co14, eo14⟩ := Kd.R_slice HO369.out; subst eo14) | ((with_reducible refine gate_dst (N := 11) rfl ?_); refine box_event ?hg (N := 11) ?hd (cs := #[.slice none 0 0, .int .i64 0]) (t := 26) ?hr ?_; (case hd => rfl); (case hg => rfl); (case hr => first | (go_simp; done) | (go_simp; rfl)); intro gb372 hg w15 hbox hb; have n0_ := Az_ (Kd.R_below (w88_) hb); have n2_ := Az_ (btz_ (w52_) hb); have n3_ := Az_ (hbox); have n4_ := Az_ ((by rw [hg]; exact (below_size (w52_)) : w.heap.size ≤ gb372)); have n5_ := Az_ ((by rw [hg]; exact (below_size (w52_)) : w.heap.size ≤ gb372)); have n6_ := Az_ ((by rw [hg]; exact Nat.ne_of_lt (uklz_ BK362.out) : gb362 ≠ gb372)); have n7_ := Az_ ((by rw [hg]; exact Nat.ne_of_gt (uklz_ BK362.out) : gb372 ≠ gb362)); clear HO369; clear HB; have HO369 := n0_; replace BK362 := Az_ (ukbz_ BK362.out hb); have HB := n2_; have BK372 := n3_; have GW372 := n4_; have GE372 := n5_; have NB362_372 := n6_; have NB372_362 := n7_; clear n0_ n2_ n3_ n4_ n5_ n6_ n7_; clear hb hbox hg; have hnb16 := NB372_362.out; have hnc16 := NB362_372.out; have hcz17_0 : w15.cell? ⟨gb372, 0, none⟩ = some (.slice none 0 0) := (blk_cell BK372.out 0).trans rfl; have hcz17_1 : w15.cell? ⟨gb372, 1, none⟩ = some (.int .i64 0) := (blk_cell BK372.out 1).trans rfl; have hfz17_0 := blk_frozen BK372.out 0; have hfz17_1 := blk_frozen BK372.out 1) | (go_at_call 19; (with_reducible refine (impl_IsShelf.calls k _ _ t366 t370 true _ ?side1 ?side2 A6.out).mono ?_); (case side1 => refine (Kd.R_reads' (e := 3) (base := w.heap.size) (ok := fun k_ => True) (n := t366.length) (c := co14) ?_).2.2; exact (w22_)); (case side2 => exact (Kd.R_reads' HO369.out).2.1); rintro e w18 ⟨rfl, hb⟩; replace HO369 := Az_ (Kd.R_below (w22_) hb); replace BK362 := Az_ (kbz_ (g := gb362) (o := .cells #[.slice none 0 0, .int .i64 0] 26 (0, 0)) (w13_) hb); replace BK372 := Az_ (kbz_ (g := gb372) (o := .cells #[.slice Ao14 t366.length co14, .int .i64 t370] 26 (0, 0)) (by (with_reducible repeat (first | refine knz_ ?_ _ | refine kdz_ ?_ | refine kaz_ ?_ _)); refine blk_put (cs := #[.slice Ao14 t366.length co14, .int .i64 0]) ?_ 1 _ rfl; (with_reducible repeat (first | refine knz_ ?_ _ | refine kdz_ ?_ | refine kaz_ ?_ _)); refine blk_put (cs := #[.slice none 0 0, .int .i64 0]) ?_ 0 _ rfl; (with_reducible repeat (first | refine knz_ ?_ _ | refine kdz_ ?_ | refine kaz_ ?_ _)); exact BK372.out) hb); replace HB := Az_ (btz_ (w52_) hb); (try clear hb); have hcz19_0 : w18.cell? ⟨gb372, 0, none⟩ = some (.slice Ao14 t366.length co14) := (blk_cell BK372.out 0).trans rfl; have hcz19_1 : w18.cell? ⟨gb372, 1, none⟩ = some (.int .i64 t370) := (blk_cell BK372.out 1).trans rfl; have hfz19_0 := blk_frozen BK372.out 0; have hfz19_1 := blk_frozen BK372.out 1) | (go_at_call 45; (with_reducible refine (impl_shelfText.calls k _ _ t366 t370 t375 _ (libW_below HTAB.out (w52_)) ?side1 ?side2 A8.out).mono ?_); (case side1 => exact ucz_ ((Kd.R_reads' HO369.out).2.2)); (case side2 => exact (Kd.R_reads' HO369.out).2.1); rintro e w20 ⟨rfl, hb⟩; have n0_ := Az_ (Kd.R_below (w88_) hb); have n3_ := Az_ (btz_ (w52_) hb); clear HO369; clear HB; have HO369 := n0_; replace BK362 := Az_ (ukbz_ BK362.out hb); replace BK372 := Az_ (ukbz_ BK372.out hb); have HB := n3_; clear n0_ n3_; (try clear hb); have hcz21_0 : w20.cell? ⟨gb372, 0, none⟩ = some (.slice Ao14 t366.length co14) := (blk_cell BK372.out 0).trans rfl; have hcz21_1 : w20.cell? ⟨gb372, 1, none⟩ = some (.int .i64 t370) := (blk_cell BK372.out 1).trans rfl; have hfz21_0 := blk_frozen BK372.out 0; have hfz21_1 := blk_frozen BK372.out 1; have hcz22_0 : w20.cell? ⟨gb362, 0, none⟩ = some (.slice none 0 0) := (blk_cell BK362.out 0).trans rfl; have hcz22_1 : w20.cell? ⟨gb362, 1, none⟩ = some (.int .i64 0) := (blk_cell BK362.out 1).trans rfl; have hfz22_0 := blk_frozen BK362.out 0; have hfz22_1 := blk_frozen BK362.out 1))
   refine bodyPost_ret (results_ct rfl _ _ gb362 26 #[.slice Ao14 t366.length co14, .int .i64 t370] (0, 0) _ rfl (by (with_reducible repeat (first | refine knz_ ?_ _ | refine kdz_ ?_ | refine kaz_ ?_ _)); refine blk_put (cs := #[.slice Ao14 t366.length co14, .int .i64 0]) ?_ 1 _ rfl; (with_reducible repeat (first | refine knz_ ?_ _ | refine kdz_ ?_ | refine kaz_ ?_ _)); refine blk_put (cs := #[.slice none 0 0, .int .i64 0]) ?_ 0 _ rfl; (with_reducible repeat (first | refine knz_ ?_ _ | refine kdz_ ?_ | refine kaz_ ?_ _)); exact BK362.out) Tryz.underlying26 rfl (w94_)) rfl ?_
   exact ⟨_, w74_, by (with_reducible repeat (first | apply raz_ | apply rnz_ | apply rdz_)); exact Kd.R_mono (Kd.R_far (p := ⟨gb362, 1, none⟩) (Kd.R_far (p := ⟨gb362, 0, none⟩) (Kd.R_types HO369.out BK362.out (by decide)) (fun _ hk => hk.2) (.slice Ao14 t366.length co14)) (fun _ hk => hk.2) (.int .i64 t370)) (fun _ hk => trivial), w52_⟩
  ·have H1 : (some (([] : List Int), 0, false)) = some (r1, r2, r3) := by rw [if_neg (show ¬ (some q373).isNone = true by simp)] at H; exact H
   clear H
   have H := H1
   clear H1
   try simp only [errW_none, errW_some]
   simp only [Option.some.injEq, Prod.mk.injEq] at H
   obtain ⟨rfl, rfl, rfl⟩ := H
   go_enter Tryz.func23, Tryz.ntmps23
   go_wp2_with (first | ((with_reducible refine gate_dst (N := 2) rfl ?_); refine box_event ?hg (N := 2) ?hd (cs := #[.slice none 0 0, .int .i64 0]) (t := 26) ?hr ?_; (case hd => rfl); (case hg => rfl); (case hr => first | (go_simp; done) | (go_simp; rfl)); intro gb362 hg w45 hbox hb; have BK362 := Az_ (hbox); have GW362 := Az_ ((by rw [hg]; exact (below_size (ubz_ HB.out)) : w.heap.size ≤ gb362)); have GE362 := Az_ ((by rw [hg]; exact (below_size (ubz_ HB.out)) : w.heap.size ≤ gb362)); replace HB := Az_ (btz_ (ubz_ HB.out) hb); clear hb hbox hg) | ((with_reducible refine gate_callee (f := 49) rfl ?_); refine goesL_ (some 14) rfl rfl Tryz.func49 (w94_) rfl #[.string a0, .string (⟨#[99]⟩ : ByteArray)] rfl maz_ ?_; (with_reducible refine (strcut.calls a0 (⟨#[99]⟩ : ByteArray) t363 t364 t365 _ (libW_below HTAB.out (w52_)) A2.out).mono ?_); rintro e w46 ⟨rfl, hb⟩; refine ⟨_, rfl, ?_⟩; have n1_ := Az_ (btz_ (w52_) hb); clear HB; replace BK362 := Az_ (ukbz_ BK362.out hb); have HB := n1_; clear n1_; (try clear hb)) | ((with_reducible refine gate_callee (f := 50) rfl ?_); refine goesL_ (some 20) rfl rfl Tryz.func50 (w94_) rfl #[.string t363, .string (⟨#[44]⟩ : ByteArray), .int .i64 8] rfl maz_ ?_; (with_reducible refine (impl_numbersOf.calls k t363 (⟨#[44]⟩ : ByteArray) 8 t366 true _ (libW_below HTAB.out (w52_)) A3.out).mono ?_); rintro e w47 ⟨v368, rfl, ho0, hb⟩; refine ⟨_, rfl, ?_⟩; have n0_ := Az_ (Kd.R_lower ho0 (below_size (w52_))); have n2_ := Az_ (btz_ (w52_) hb); clear HB; have HO369 := n0_; replace BK362 := Az_ (ukbz_ BK362.out hb); have HB := n2_; clear n0_ n2_; (try clear hb); (try clear ho0)) | ((with_reducible refine gate_callee (f := 51) rfl ?_); refine goesL_ (some 25) rfl rfl Tryz.func51 (w94_) rfl #[.string t364] rfl maz_ ?_; (with_reducible refine (atoi.calls t364 t370 (some q373) _ (libW_below HTAB.out (w52_)) A4.out).mono ?_); rintro e w48 ⟨ev_, rfl, hev_, hb⟩; obtain ⟨N_, rfl⟩ := hev_; refine ⟨_, rfl, ?_⟩; have n0_ := Az_ (Kd.R_below (w88_) hb); have n2_ := Az_ (btz_ (w52_) hb); clear HO369; clear HB; have HO369 := n0_; replace BK362 := Az_ (ukbz_ BK362.out hb); have HB := n2_; clear n0_ n2_; (try clear hb); obtain ⟨Ao49, co49, eo49⟩ := Kd.R_slice HO369.out; subst eo49) | ((with_reducible refine gate_dst (N := 11) rfl ?_); refine box_event ?hg (N := 11) ?hd (cs := #[.slice none 0 0, .int .i64 0]) (t := 26) ?hr ?_; (case hd => rfl); (case hg => rfl); (case hr => first | (go_simp; done) | (go_simp; rfl)); intro gb372 hg w50 hbox hb; have n0_ := Az_ (Kd.R_below (w88_) hb); have n2_ := Az_ (btz_ (w52_) hb); have n3_ := Az_ (hbox); have n4_ := Az_ ((by rw [hg]; exact (below_size (w52_)) : w.heap.size ≤ gb372)); have n5_ := Az_ ((by rw [hg]; exact (below_size (w52_)) : w.heap.size ≤ gb372)); have n6_ := Az_ ((by rw [hg]; exact Nat.ne_of_lt (uklz_ BK362.out) : gb362 ≠ gb372)); have n7_ := Az_ ((by rw [hg]; exact Nat.ne_of_gt (uklz_ BK362.out) : gb372 ≠ gb362)); clear HO369; clear HB; have HO369 := n0_; replace BK362 := Az_ (ukbz_ BK362.out hb); have HB := n2_; have BK372 := n3_; have GW372 := n4_; have GE372 := n5_; have NB362_372 := n6_; have NB372_362 := n7_; clear n0_ n2_ n3_ n4_ n5_ n6_ n7_; clear hb hbox hg; have hnb51 := NB372_362.out; have hnc51 := NB362_372.out; have hcz52_0 : w50.cell? ⟨gb372, 0, none⟩ = some (.slice none 0 0) := (blk_cell BK372.out 0).trans rfl; have hcz52_1 : w50.cell? ⟨gb372, 1, none⟩ = some (.int .i64 0) := (blk_cell BK372.out 1).trans rfl; have hfz52_0 := blk_frozen BK372.out 0; have hfz52_1 := blk_frozen BK372.out 1; have hcz53_0 : w50.cell? ⟨gb362, 0, none⟩ = some (.slice none 0 0) := (blk_cell BK362.out 0).trans rfl; have hcz53_1 : w50.cell? ⟨gb362, 1, none⟩ = some (.int .i64 0) := (blk_cell BK362.out 1).trans rfl; have hfz53_0 := blk_frozen BK362.out 0; have hfz53_1 := blk_frozen BK362.out 1))
   refine bodyPost_ret (results_ct rfl _ _ gb362 26 #[.slice none 0 0, .int .i64 0] (0, 0) _ rfl (w1_) Tryz.underlying26 rfl (w94_)) rfl ?_
   exact ⟨_, w74_, w53_, w52_⟩
 ·replace c5 := Bool.eq_false_iff.mpr c5
  subst c5
  rw [if_neg nfz_] at H
  simp only [Option.some.injEq, Prod.mk.injEq] at H
  obtain ⟨rfl, rfl, rfl⟩ := H
  go_enter Tryz.func23, Tryz.ntmps23
  go_wp2_with (first | ((with_reducible refine gate_dst (N := 2) rfl ?_); refine box_event ?hg (N := 2) ?hd (cs := #[.slice none 0 0, .int .i64 0]) (t := 26) ?hr ?_; (case hd => rfl); (case hg => rfl); (case hr => first | (go_simp; done) | (go_simp; rfl)); intro gb362 hg w54 hbox hb; have BK362 := Az_ (hbox); have GW362 := Az_ ((by rw [hg]; exact (below_size (ubz_ HB.out)) : w.heap.size ≤ gb362)); have GE362 := Az_ ((by rw [hg]; exact (below_size (ubz_ HB.out)) : w.heap.size ≤ gb362)); replace HB := Az_ (btz_ (ubz_ HB.out) hb); clear hb hbox hg) | ((with_reducible refine gate_callee (f := 49) rfl ?_); refine goesL_ (some 14) rfl rfl Tryz.func49 (w94_) rfl #[.string a0, .string (⟨#[99]⟩ : ByteArray)] rfl maz_ ?_; (with_reducible refine (strcut.calls a0 (⟨#[99]⟩ : ByteArray) t363 t364 t365 _ (libW_below HTAB.out (w52_)) A2.out).mono ?_); rintro e w55 ⟨rfl, hb⟩; refine ⟨_, rfl, ?_⟩; have n1_ := Az_ (btz_ (w52_) hb); clear HB; replace BK362 := Az_ (ukbz_ BK362.out hb); have HB := n1_; clear n1_; (try clear hb)) | ((with_reducible refine gate_callee (f := 50) rfl ?_); refine goesL_ (some 20) rfl rfl Tryz.func50 (w94_) rfl #[.string t363, .string (⟨#[44]⟩ : ByteArray), .int .i64 8] rfl maz_ ?_; (with_reducible refine (impl_numbersOf.calls k t363 (⟨#[44]⟩ : ByteArray) 8 t366 false _ (libW_below HTAB.out (w52_)) A3.out).mono ?_); rintro e w56 ⟨v368, rfl, ho0, hb⟩; refine ⟨_, rfl, ?_⟩; have n0_ := Az_ (Kd.R_lower ho0 (below_size (w52_))); have n2_ := Az_ (btz_ (w52_) hb); clear HB; have HO369 := n0_; replace BK362 := Az_ (ukbz_ BK362.out hb); have HB := n2_; clear n0_ n2_; (try clear hb); (try clear ho0)) | ((with_reducible refine gate_callee (f := 51) rfl ?_); refine goesL_ (some 25) rfl rfl Tryz.func51 (w94_) rfl #[.string t364] rfl maz_ ?_; (with_reducible refine (atoi.calls t364 t370 t371 _ (libW_below HTAB.out (w52_)) A4.out).mono ?_); rintro e w57 ⟨ev_, rfl, hev_, hb⟩; refine ⟨_, rfl, ?_⟩; have n0_ := Az_ (Kd.R_below (w88_) hb); have n2_ := Az_ (btz_ (w52_) hb); clear HO369; clear HB; have HO369 := n0_; replace BK362 := Az_ (ukbz_ BK362.out hb); have HB := n2_; clear n0_ n2_; (try clear hb); obtain ⟨Ao58, co58, eo58⟩ := Kd.R_slice HO369.out; subst eo58) | ((with_reducible refine gate_dst (N := 11) rfl ?_); refine box_event ?hg (N := 11) ?hd (cs := #[.slice none 0 0, .int .i64 0]) (t := 26) ?hr ?_; (case hd => rfl); (case hg => rfl); (case hr => first | (go_simp; done) | (go_simp; rfl)); intro gb372 hg w59 hbox hb; have n0_ := Az_ (Kd.R_below (w88_) hb); have n2_ := Az_ (btz_ (w52_) hb); have n3_ := Az_ (hbox); have n4_ := Az_ ((by rw [hg]; exact (below_size (w52_)) : w.heap.size ≤ gb372)); have n5_ := Az_ ((by rw [hg]; exact (below_size (w52_)) : w.heap.size ≤ gb372)); have n6_ := Az_ ((by rw [hg]; exact Nat.ne_of_lt (uklz_ BK362.out) : gb362 ≠ gb372)); have n7_ := Az_ ((by rw [hg]; exact Nat.ne_of_gt (uklz_ BK362.out) : gb372 ≠ gb362)); clear HO369; clear HB; have HO369 := n0_; replace BK362 := Az_ (ukbz_ BK362.out hb); have HB := n2_; have BK372 := n3_; have GW372 := n4_; have GE372 := n5_; have NB362_372 := n6_; have NB372_362 := n7_; clear n0_ n2_ n3_ n4_ n5_ n6_ n7_; clear hb hbox hg; have hnb60 := NB372_362.out; have hnc60 := NB362_372.out; have hcz61_0 : w59.cell? ⟨gb372, 0, none⟩ = some (.slice none 0 0) := (blk_cell BK372.out 0).trans rfl; have hcz61_1 : w59.cell? ⟨gb372, 1, none⟩ = some (.int .i64 0) := (blk_cell BK372.out 1).trans rfl; have hfz61_0 := blk_frozen BK372.out 0; have hfz61_1 := blk_frozen BK372.out 1; have hcz62_0 : w59.cell? ⟨gb362, 0, none⟩ = some (.slice none 0 0) := (blk_cell BK362.out 0).trans rfl; have hcz62_1 : w59.cell? ⟨gb362, 1, none⟩ = some (.int .i64 0) := (blk_cell BK362.out 1).trans rfl; have hfz62_0 := blk_frozen BK362.out 0; have hfz62_1 := blk_frozen BK362.out 1))
  refine bodyPost_ret (results_ct rfl _ _ gb362 26 #[.slice none 0 0, .int .i64 0] (0, 0) _ rfl (w1_) Tryz.underlying26 rfl (w94_)) rfl ?_
  exact ⟨_, w74_, w53_, w52_⟩

def laws_fSum.l0 : Nat → Int → List Int → Int → Int → Option (Int)
 | 0, _, _, _, _ => none
 | k + 1, x3, x6, x7, x8 => if x8 < x7 then (if 0 ≤ x8 then (if x8 < (x6.length : Int) then (laws_fSum.l0 k (wrap64 (x3 + (rd x6 x8))) x6 x7 (wrap64 (x8 + 1))) else (none)) else (none)) else (some x3)
def laws_fSum.f (k : Nat) (l0 : List Int) : Option (Int) := laws_fSum.l0 k 0 l0 (l0.length : Int) 0
set_option maxHeartbeats 8000000 in
set_option maxRecDepth 100000 in
theorem laws_fSum.calls (k : Nat) (A0 : Option Addr) (c0 : Nat) (l0 : List Int) (r : Int) (w : World) (hr0 : Kd.C (Kd.int .i64) w A0 l0.length l0) (hc0 : l0.length ≤ c0) (h : laws_fSum.f k l0 = some r) :
  Calls Tryz.prog 24 #[.slice A0 l0.length c0] w fun e w' => e = .returned (.int .i64 r) ∧ Drawn0 w w' := by
 have HR0 := Az_ hr0
 have HC0 := Az_ hc0
 clear hr0 hc0
 have H : (laws_fSum.l0 k 0 l0 (l0.length : Int) 0) = some r := h
 clear h
 have H' := Az_ H
 clear H
 go_enter Tryz.func24, Tryz.ntmps24
 go_wp2
 go_loopg [3, 8] k (fun kq v3 v8 w' => ∃ (x3_1 : Int) (x8_1 : Int), v3 = .int .i64 x3_1 ∧ v8 = .int .i64 x8_1 ∧ Aside0 (laws_fSum.l0 kq x3_1 l0 (l0.length : Int) x8_1 = some r) ∧ Aside0 (kq ≤ k) ∧ Drawn0 w w')
 case atStart => exact ⟨(0), (0), qaz_, qaz_, H', ⟨Nat.le_refl _⟩, w77_⟩
 case round =>
  clear H'
  obtain ⟨x3_1, x8_1, rfl, rfl, HA, HK1, ⟨m1, rfl⟩⟩ := hrel
  cases gk with
  | zero => exact absurd HA.out (by simp [laws_fSum.l0])
  | succ k1 =>
   have H := HA.out
   clear HA
   simp only [laws_fSum.l0] at H
   by_cases c2 : x8_1 < (l0.length : Int)
   ·rw [if_pos c2] at H
    have c2b0 := decide_eq_true c2
    clear c2
    by_cases c3 : 0 ≤ x8_1; rotate_left
    ·rw [if_neg c3] at H
     exact absurd H (by simp)
    rw [if_pos c3] at H
    have c3b0 := decide_eq_true c3
    clear c3
    by_cases c4 : x8_1 < (l0.length : Int); rotate_left
    ·rw [if_neg c4] at H
     exact absurd H (by simp)
    rw [if_pos c4] at H
    have c4b0 := decide_eq_true c4
    clear c4
    have H' := Az_ H
    clear H
    have p376 : 0 ≤ (x8_1 : Int) := od_
    have q376 : x8_1 < (l0.length : Int) := od_
    obtain ⟨ad376, e376, hx376_0⟩ := Kd.at_int HR0.out x8_1 p376 q376
    cases e376
    replace p376 := eq_true p376
    replace q376 := eq_true q376
    go_wp2
    go_roundg k1
    case measure => have := HK1.out; omega
    case rel => exact ⟨(wrap64 (x3_1 + (rd l0 x8_1))), (wrap64 (x8_1 + 1)), qaz_, qaz_, H', ⟨w85_⟩, w77_⟩
   ·rw [if_neg c2] at H
    have c2b0 := decide_eq_false c2
    clear c2
    obtain rfl := Option.some.inj H
    go_wp2
    go_ret
    exact ⟨w79_, w77_⟩

def laws_fShelf.f (k : Nat) (l0_0 : List Int) (a0_1 : Int) (l1_0 : List Int) (a1_1 : Int) : Option (Bool) := if a0_1 = a1_1 then ((laws_fSame.f k l0_0 l1_0).bind fun t379 => (some t379)) else (some false)
set_option maxHeartbeats 8000000 in
set_option maxRecDepth 100000 in
theorem laws_fShelf.calls (k : Nat) (A0_0 : Option Addr) (c0_0 : Nat) (l0_0 : List Int) (a0_1 : Int) (A1_0 : Option Addr) (c1_0 : Nat) (l1_0 : List Int) (a1_1 : Int) (r : Bool) (w : World) (hr0_0 : Kd.C (Kd.int .i64) w A0_0 l0_0.length l0_0) (hc0_0 : l0_0.length ≤ c0_0) (hr1_0 : Kd.C (Kd.int .i64) w A1_0 l1_0.length l1_0) (hc1_0 : l1_0.length ≤ c1_0) (h : laws_fShelf.f k l0_0 a0_1 l1_0 a1_1 = some r) :
  Calls Tryz.prog 25 #[.agg #[.slice A0_0 l0_0.length c0_0, .int .i64 a0_1], .agg #[.slice A1_0 l1_0.length c1_0, .int .i64 a1_1]] w fun e w' => e = .returned (.bool r) ∧ Below w.heap.size w w' := by
 have hu26 := Tryz.underlying26
 have HR0_0 := Az_ hr0_0
 have HC0_0 := Az_ hc0_0
 clear hr0_0 hc0_0
 have HR1_0 := Az_ hr1_0
 have HC1_0 := Az_ hc1_0
 clear hr1_0 hc1_0
 have HB := Az_ (Below.refl w.heap.size w)
 have H : (if a0_1 = a1_1 then ((laws_fSame.f k l0_0 l1_0).bind fun t379 => (some t379)) else (some false)) = some r := h
 clear h
 by_cases c3 : a0_1 = a1_1
 ·rw [if_pos c3] at H
  have c3b0 : (a0_1 == a1_1) = true := beq_iff_eq.mpr c3
  have c3b1 : (a0_1 != a1_1) = false := bne_eq_false_iff_eq.mpr c3
  clear c3
  replace H := bqz_ H; obtain ⟨t379, A4, H⟩ := H
  replace H : (some t379) = some r := H
  obtain rfl := Option.some.inj H
  go_enter Tryz.func25, Tryz.ntmps25
  go_wp2_with (first | ((with_reducible refine gate_dst (N := 2) rfl ?_); refine box_event ?hg (N := 2) ?hd (cs := #[.slice A0_0 l0_0.length c0_0, .int .i64 a0_1]) (t := 26) ?hr ?_; (case hd => rfl); (case hg => rfl); (case hr => first | (go_simp; done) | (go_simp; rfl)); intro gb377 hg w5 hbox hb; have BK377 := Az_ (hbox); have GW377 := Az_ ((by rw [hg]; exact (below_size (ubz_ HB.out)) : w.heap.size ≤ gb377)); have GE377 := Az_ ((by rw [hg]; exact (below_size (ubz_ HB.out)) : w.heap.size ≤ gb377)); replace HB := Az_ (btz_ (ubz_ HB.out) hb); clear hb hbox hg) | ((with_reducible refine gate_dst (N := 3) rfl ?_); refine box_event ?hg (N := 3) ?hd (cs := #[.slice A1_0 l1_0.length c1_0, .int .i64 a1_1]) (t := 26) ?hr ?_; (case hd => rfl); (case hg => rfl); (case hr => first | (go_simp; done) | (go_simp; rfl)); intro gb378 hg w6 hbox hb; have n1_ := Az_ (btz_ (w52_) hb); have n2_ := Az_ (hbox); have n3_ := Az_ ((by rw [hg]; exact (below_size (w52_)) : w.heap.size ≤ gb378)); have n4_ := Az_ ((by rw [hg]; exact (below_size (w52_)) : w.heap.size ≤ gb378)); have n5_ := Az_ ((by rw [hg]; exact Nat.ne_of_lt (uklz_ BK377.out) : gb377 ≠ gb378)); have n6_ := Az_ ((by rw [hg]; exact Nat.ne_of_gt (uklz_ BK377.out) : gb378 ≠ gb377)); clear HB; replace BK377 := Az_ (ukbz_ BK377.out hb); have HB := n1_; have BK378 := n2_; have GW378 := n3_; have GE378 := n4_; have NB377_378 := n5_; have NB378_377 := n6_; clear n1_ n2_ n3_ n4_ n5_ n6_; clear hb hbox hg; have hnb7 := NB377_378.out; have hnc7 := NB378_377.out; have hcz8_0 : w6.cell? ⟨gb377, 0, none⟩ = some (.slice A0_0 l0_0.length c0_0) := (blk_cell BK377.out 0).trans rfl; have hcz8_1 : w6.cell? ⟨gb377, 1, none⟩ = some (.int .i64 a0_1) := (blk_cell BK377.out 1).trans rfl; have hfz8_0 := blk_frozen BK377.out 0; have hfz8_1 := blk_frozen BK377.out 1; have hcz9_0 : w6.cell? ⟨gb378, 0, none⟩ = some (.slice A1_0 l1_0.length c1_0) := (blk_cell BK378.out 0).trans rfl; have hcz9_1 : w6.cell? ⟨gb378, 1, none⟩ = some (.int .i64 a1_1) := (blk_cell BK378.out 1).trans rfl; have hfz9_0 := blk_frozen BK378.out 0; have hfz9_1 := blk_frozen BK378.out 1) | (go_at_call 18; (with_reducible refine (laws_fSame.calls k _ _ l0_0 _ _ l1_0 t379 _ ?side1 ?side2 ?side3 ?side4 A4.out).mono ?_); (case side1 => exact ucz_ ((Kd.C_below HR0_0.out HB.out))); (case side2 => exact HC0_0.out); (case side3 => exact ucz_ ((Kd.C_below HR1_0.out HB.out))); (case side4 => exact HC1_0.out); rintro e w' ⟨rfl, ⟨nd, rfl⟩⟩))
  go_ret
  exact ⟨w74_, w52_⟩
 ·rw [if_neg c3] at H
  have c3b0 : (a0_1 == a1_1) = false := beq_eq_false_iff_ne.mpr c3
  have c3b1 : (a0_1 != a1_1) = true := bne_iff_ne.mpr c3
  obtain rfl := Option.some.inj H
  go_enter Tryz.func25, Tryz.ntmps25
  go_wp2_with (first | ((with_reducible refine gate_dst (N := 2) rfl ?_); refine box_event ?hg (N := 2) ?hd (cs := #[.slice A0_0 l0_0.length c0_0, .int .i64 a0_1]) (t := 26) ?hr ?_; (case hd => rfl); (case hg => rfl); (case hr => first | (go_simp; done) | (go_simp; rfl)); intro gb377 hg w10 hbox hb; have BK377 := Az_ (hbox); have GW377 := Az_ ((by rw [hg]; exact (below_size (ubz_ HB.out)) : w.heap.size ≤ gb377)); have GE377 := Az_ ((by rw [hg]; exact (below_size (ubz_ HB.out)) : w.heap.size ≤ gb377)); replace HB := Az_ (btz_ (ubz_ HB.out) hb); clear hb hbox hg) | ((with_reducible refine gate_dst (N := 3) rfl ?_); refine box_event ?hg (N := 3) ?hd (cs := #[.slice A1_0 l1_0.length c1_0, .int .i64 a1_1]) (t := 26) ?hr ?_; (case hd => rfl); (case hg => rfl); (case hr => first | (go_simp; done) | (go_simp; rfl)); intro gb378 hg w11 hbox hb; have n1_ := Az_ (btz_ (w52_) hb); have n2_ := Az_ (hbox); have n3_ := Az_ ((by rw [hg]; exact (below_size (w52_)) : w.heap.size ≤ gb378)); have n4_ := Az_ ((by rw [hg]; exact (below_size (w52_)) : w.heap.size ≤ gb378)); have n5_ := Az_ ((by rw [hg]; exact Nat.ne_of_lt (uklz_ BK377.out) : gb377 ≠ gb378)); have n6_ := Az_ ((by rw [hg]; exact Nat.ne_of_gt (uklz_ BK377.out) : gb378 ≠ gb377)); clear HB; replace BK377 := Az_ (ukbz_ BK377.out hb); have HB := n1_; have BK378 := n2_; have GW378 := n3_; have GE378 := n4_; have NB377_378 := n5_; have NB378_377 := n6_; clear n1_ n2_ n3_ n4_ n5_ n6_; clear hb hbox hg; have hnb12 := NB377_378.out; have hnc12 := NB378_377.out; have hcz13_0 : w11.cell? ⟨gb377, 0, none⟩ = some (.slice A0_0 l0_0.length c0_0) := (blk_cell BK377.out 0).trans rfl; have hcz13_1 : w11.cell? ⟨gb377, 1, none⟩ = some (.int .i64 a0_1) := (blk_cell BK377.out 1).trans rfl; have hfz13_0 := blk_frozen BK377.out 0; have hfz13_1 := blk_frozen BK377.out 1; have hcz14_0 : w11.cell? ⟨gb378, 0, none⟩ = some (.slice A1_0 l1_0.length c1_0) := (blk_cell BK378.out 0).trans rfl; have hcz14_1 : w11.cell? ⟨gb378, 1, none⟩ = some (.int .i64 a1_1) := (blk_cell BK378.out 1).trans rfl; have hfz14_0 := blk_frozen BK378.out 0; have hfz14_1 := blk_frozen BK378.out 1))
  go_ret
  exact ⟨w74_, w52_⟩

end Go.Proofs.YtimladcenifppaaGreatDoor.P
end
