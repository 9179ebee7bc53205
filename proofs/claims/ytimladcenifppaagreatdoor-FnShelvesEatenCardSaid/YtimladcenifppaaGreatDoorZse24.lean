/- Lean functions with the answers of the program's Go functions, and for each the proof that the Go code comes to these answers; no condition. -/
import Derived.Test.YtimladcenifppaaGreatDoorZse21
import Derived.Lib.SliceRun
import Derived.Test.YtimladcenifppaaGreatDoorZse22
import Derived.Test.YtimladcenifppaaGreatDoorZse23
section
namespace Go.Proofs.YtimladcenifppaaGreatDoor.P
open Go.RowKit Go.Proofs.YtimladcenifppaaGreatDoorW.PrintWords Go.Proofs.YtimladcenifppaaGreatDoorW.PrintLast Go.Proofs.YtimladcenifppaaGreatDoorW.PrintMore
attribute [local go_sem] max2_int min2_int max_two min_two max_three min_three max_four min_four   -- for this text's walks alone
set_option linter.unusedVariables false
set_option linter.unusedSimpArgs false

def impl_PlaceOfVolume.j0 : Nat → Int → Bool → List Int → Int → Option (Int × Int × Bool)
 | 0, _, _, _, _ => none
 | k + 1, x1, x16, x381000, x381001 => if x16 = true then (some (0, 0, false)) else ((impl_Shelf_left.f k x381000 x381001 x1).bind fun t386 => ((impl_Shelf_left.f k x381000 x381001 (wrap64 (x1 + 1))).bind fun t387 => (some (t386, t387, true))))
def impl_PlaceOfVolume.f (k : Nat) (l0_0 : List Int) (a0_1 : Int) (a1 : Int) : Option (Int × Int × Bool) := (impl_IsShelf.f k l0_0 a0_1).bind fun t381 => (if t381 = true then ((impl_Shelf_has.f k l0_0 a0_1 (([a1] : List Int))).bind fun t385 => (impl_PlaceOfVolume.j0 k a1 (!t385) l0_0 a0_1)) else (impl_PlaceOfVolume.j0 k a1 true l0_0 a0_1))
def impl_PlaceOfVolume.T3 : Bool × List (List Nat × List Nat) := (true, [([], []), ([], []), ([0, 1], [0, 1]), ([], []), ([], []), ([4], [4]), ([3, 5, 2], [3, 5]), ([2, 6, 0, 1, 2], [2]), ([6, 7, 0, 1, 2, 3, 4, 5, 6, 7], [6]), ([8, 0, 1, 2, 3, 4, 5, 6, 7, 8], [])])
def impl_PlaceOfVolume.B3 : List Nat := [0, 0, 3, 0, 0, 16, 63, 127, 255, 511]
theorem impl_PlaceOfVolume.tab3 : rtab .any (opsOf Tryz.f26 3) = impl_PlaceOfVolume.T3 := by kernel_rfl
theorem impl_PlaceOfVolume.bits3 : waitsOk impl_PlaceOfVolume.T3.2 impl_PlaceOfVolume.B3 = true := by kernel_rfl
set_option maxHeartbeats 8000000 in
set_option maxRecDepth 100000 in
theorem impl_PlaceOfVolume.calls (k : Nat) (A0_0 : Option Addr) (c0_0 : Nat) (l0_0 : List Int) (a0_1 : Int) (a1 : Int) (r1 : Int) (r2 : Int) (r3 : Bool) (w : World) (hr0_0 : Kd.C (Kd.int .i64) w A0_0 l0_0.length l0_0) (hc0_0 : l0_0.length ≤ c0_0) (h : impl_PlaceOfVolume.f k l0_0 a0_1 a1 = some (r1, r2, r3)) :
  Calls Tryz.prog 26 #[.agg #[.slice A0_0 l0_0.length c0_0, .int .i64 a0_1], .int .i64 a1] w fun e w' => e = .returned (.tuple #[.int .i64 r1, .int .i64 r2, .bool r3]) ∧ Below w.heap.size w w' := by
 have hu26 := Tryz.underlying26
 have HR0_0 := Az_ hr0_0
 have HC0_0 := Az_ hc0_0
 clear hr0_0 hc0_0
 have HB := Az_ (Below.refl w.heap.size w)
 have H : ((impl_IsShelf.f k l0_0 a0_1).bind fun t381 => (if t381 = true then ((impl_Shelf_has.f k l0_0 a0_1 (([a1] : List Int))).bind fun t385 => (j0 k a1 (!t385) l0_0 a0_1)) else (j0 k a1 true l0_0 a0_1))) = some (r1, r2, r3) := h
 clear h
 have HC3 := Az_ H
 clear H
 go_enter Tryz.func26, Tryz.ntmps26
 go_upto_region 1 with (((with_reducible refine gate_dst (N := 2) rfl ?_); (try (refine gate_guard (by rfl) ?_; dsimp only)); refine box_event ?hg (N := 2) ?hd (cs := #[.slice A0_0 l0_0.length c0_0, .int .i64 a0_1]) (t := 26) ?hr ?_; (case hd => rfl); (case hg => rfl); (case hr => first | (go_simp; done) | (go_simp; rfl)); intro gb380 hg w4 hbox hb; have BK380 := Az_ (hbox); have GW380 := Az_ ((by rw [hg]; exact (below_size (ubz_ HB.out)) : w.heap.size ≤ gb380)); have GE380 := Az_ ((by rw [hg]; exact (below_size (ubz_ HB.out)) : w.heap.size ≤ gb380)); replace HB := Az_ (btz_ (ubz_ HB.out) hb); clear hb hbox hg))
 (try simp only [Act.put, List.setIfInBounds_toArray, List.set_cons_zero, List.set_cons_succ])
 go_cut [16] (fun v16 wc => ∃ (kq : Nat) (x16_2 : Bool), v16 = .bool x16_2 ∧ Aside0 (j0 kq a1 x16_2 l0_0 a0_1 = some (r1, r2, r3)) ∧ Aside0 (kq ≤ k) ∧ Aside0 (wc.heap[gb380]? = some (.cells #[(.slice A0_0 l0_0.length c0_0), .int .i64 a0_1] 26 (0, 0))) ∧ Aside0 (Below w.heap.size w wc))
 case first =>
  have H := HC3.out
  clear HC3
  replace H := bqz_ H; obtain ⟨t381, A5, H⟩ := H
  replace H : (if t381 = true then ((impl_Shelf_has.f k l0_0 a0_1 (([a1] : List Int))).bind fun t385 => (j0 k a1 (!t385) l0_0 a0_1)) else (j0 k a1 true l0_0 a0_1)) = some (r1, r2, r3) := H
  by_cases c6 : t381 = true; rotate_left
  ·replace c6 := Bool.eq_false_iff.mpr c6
   subst c6
   rw [if_neg nfz_] at H
   have H' := Az_ H
   clear H
   have hcz15_0 : w4.cell? ⟨gb380, 0, none⟩ = some (.slice A0_0 l0_0.length c0_0) := (blk_cell BK380.out 0).trans rfl
   have hcz15_1 : w4.cell? ⟨gb380, 1, none⟩ = some (.int .i64 a0_1) := (blk_cell BK380.out 1).trans rfl
   have hfz15_0 := blk_frozen BK380.out 0
   have hfz15_1 := blk_frozen BK380.out 1
   go_wp2_with (((with_reducible refine gate_callee (f := 19) rfl ?_); refine goesL_ (some 8) rfl rfl Tryz.func19 (w94_) rfl #[.agg #[.slice A0_0 l0_0.length c0_0, .int .i64 a0_1]] rfl maz_ ?_; (with_reducible refine (impl_IsShelf.calls k _ _ l0_0 a0_1 false _ ?side1 ?side2 A5.out).mono ?_); (case side1 => exact ucz_ ((Kd.C_below HR0_0.out HB.out))); (case side2 => exact HC0_0.out); rintro e w16 ⟨rfl, hb⟩; refine ⟨_, rfl, ?_⟩; have n1_ := Az_ (btz_ (w52_) hb); clear HB; replace BK380 := Az_ (ukbz_ BK380.out hb); have HB := n1_; clear n1_; (try clear hb)))
   go_meet
   case rel => exact ⟨_, (true), qaz_, H', ⟨w80_⟩, ⟨by (with_reducible repeat (first | refine knz_ ?_ _ | refine kdz_ ?_ | refine kaz_ ?_ _)); exact BK380.out⟩, ⟨w52_⟩⟩
  subst c6
  rw [if_pos rfl] at H
  obtain ⟨y382, hy382⟩ : ∃ y_ : List Int, y_ = (([a1] : List Int)) := ⟨_, rfl⟩
  replace H : ((impl_Shelf_has.f k l0_0 a0_1 y382).bind fun t385 => (j0 k a1 (!t385) l0_0 a0_1)) = some (r1, r2, r3) := by first | (rw [hy382]; with_reducible exact H) | (have H2_ := (Option.bind_some _ _).symm.trans H; rw [hy382]; with_reducible exact H2_) | (have H2_ := (Option.bind_some _ _).symm.trans H; with_reducible exact H2_) | with_reducible exact H | (rw [hy382]; exact H) | exact H
  have Ny382 := Az_ hy382
  clear hy382
  replace H := bqz_ H; obtain ⟨t385, A7, H⟩ := H
  replace H : (j0 k a1 (!t385) l0_0 a0_1) = some (r1, r2, r3) := H
  have H' := Az_ H
  clear H
  have hcz8_0 : w4.cell? ⟨gb380, 0, none⟩ = some (.slice A0_0 l0_0.length c0_0) := (blk_cell BK380.out 0).trans rfl
  have hcz8_1 : w4.cell? ⟨gb380, 1, none⟩ = some (.int .i64 a0_1) := (blk_cell BK380.out 1).trans rfl
  have hfz8_0 := blk_frozen BK380.out 0
  have hfz8_1 := blk_frozen BK380.out 1
  go_wp2_with (first | ((with_reducible refine gate_callee (f := 19) rfl ?_); refine goesL_ (some 8) rfl rfl Tryz.func19 (w94_) rfl #[.agg #[.slice A0_0 l0_0.length c0_0, .int .i64 a0_1]] rfl maz_ ?_; (with_reducible refine (impl_IsShelf.calls k _ _ l0_0 a0_1 true _ ?side1 ?side2 A5.out).mono ?_); (case side1 => exact ucz_ ((Kd.C_below HR0_0.out HB.out))); (case side2 => exact HC0_0.out); rintro e w9 ⟨rfl, hb⟩; refine ⟨_, rfl, ?_⟩; have n1_ := Az_ (btz_ (w52_) hb); clear HB; replace BK380 := Az_ (ukbz_ BK380.out hb); have HB := n1_; clear n1_; (try clear hb); have hcz10_0 : w9.cell? ⟨gb380, 0, none⟩ = some (.slice A0_0 l0_0.length c0_0) := (blk_cell BK380.out 0).trans rfl; have hcz10_1 : w9.cell? ⟨gb380, 1, none⟩ = some (.int .i64 a0_1) := (blk_cell BK380.out 1).trans rfl; have hfz10_0 := blk_frozen BK380.out 0; have hfz10_1 := blk_frozen BK380.out 1) | ((with_reducible refine gate_dst (N := 13) rfl ?_); (try (refine gate_guard (by rfl) ?_; dsimp only)); refine Kd.R_lit (Kd.int .i64) _ 3 ?hg (N := 13) ?hd (xs := ([a1] : List Int)) (inner := [.int .i64 a1]) (ok := fun _ => True) (okp := fun _ => True) ?hr ?hp (fun _ hk => hk) trivial (Below.refl _ _) (Nat.le_refl _) (by simp) ?_; (case hd => rfl); (case hg => rfl); (case hr => first | (go_simp; done) | (go_simp; rfl)); (case hp => exact (Reps.one (show Kd.M (Kd.int .i64) _ _ _ a1 [.int .i64 a1] from rfl) (Reps.none _ _))); intro v383 w11 ho12 hb hg_ hnew_; clear hg_ hnew_; (first | rw [← Ny382.out] at ho12 | (simp only [Int.reduceToNat] at ho12; rw [← Ny382.out] at ho12)); have n0_ := Az_ (Kd.R_lower ho12 (below_size (w52_))); have n2_ := Az_ (btz_ (w52_) hb); clear HB; have HO384 := n0_; replace BK380 := Az_ (ukbz_ BK380.out hb); have HB := n2_; clear n0_ n2_; clear hb ho12; obtain ⟨Ao13, co13, eo13⟩ := Kd.R_slice HO384.out; subst eo13) | (go_at_call 35; (with_reducible refine (impl_Shelf_has.calls k _ _ l0_0 a0_1 _ _ y382 t385 _ ?side1 ?side2 ?side3 ?side4 A7.out).mono ?_); (case side1 => exact ucz_ ((Kd.C_below HR0_0.out HB.out))); (case side2 => exact HC0_0.out); (case side3 => exact ucz_ ((Kd.R_reads' HO384.out).2.2)); (case side4 => exact (Kd.R_reads' HO384.out).2.1); rintro e w14 ⟨rfl, hb⟩; have n0_ := Az_ (Kd.R_below (by exact urz_ HO384.out) hb); have n2_ := Az_ (btz_ (w52_) hb); clear HO384; clear HB; have HO384 := n0_; replace BK380 := Az_ (ukbz_ BK380.out hb); have HB := n2_; clear n0_ n2_; (try clear hb)))
  go_meet
  case rel => exact ⟨_, (!t385), qaz_, H', ⟨w80_⟩, ⟨by (with_reducible repeat (first | refine knz_ ?_ _ | refine kdz_ ?_ | refine kaz_ ?_ _)); exact BK380.out⟩, ⟨w52_⟩⟩
 case rest =>
  clear HC3
  obtain ⟨kq, x16_2, rfl, HA, HJ2, BK380, HB⟩ := hcut
  cases kq with
  | zero => exact absurd HA.out (by simp [j0])
  | succ kj2 =>
   have H := HA.out
   clear HA
   simp only [j0] at H
   by_cases c17 : x16_2 = true
   ·subst c17
    rw [if_pos rfl] at H
    simp only [Option.some.injEq, Prod.mk.injEq] at H
    obtain ⟨rfl, rfl, rfl⟩ := H
    go_wp2
    go_ret3
    exact ⟨w74_, w52_⟩
   ·replace c17 := Bool.eq_false_iff.mpr c17
    subst c17
    rw [if_neg nfz_] at H
    replace H := bqz_ H; obtain ⟨t386, A18, H⟩ := H
    replace H := bqz_ H; obtain ⟨t387, A19, H⟩ := H
    replace H : (some (t386, t387, true)) = some (r1, r2, r3) := H
    simp only [Option.some.injEq, Prod.mk.injEq] at H
    obtain ⟨rfl, rfl, rfl⟩ := H
    try go_wp2
    have n0_ := Az_ (kdz_ BK380.out)
    have n1_ := Az_ (bdz_ HB.out)
    clear BK380 HB
    have BK380 := n0_
    have HB := n1_
    clear n0_ n1_
    refine start_ (n := 10) (S := fun w' => w'.cell? ⟨gb380, 0, none⟩ = some (.slice A0_0 l0_0.length c0_0) ∧ w'.cell? ⟨gb380, 1, none⟩ = some (.int .i64 a0_1)) (ds := []) #[false, false, false, false, false, false, false, false, false, false] (w94_) rfl rfl ⟨(blk_cell BK380.out 0).trans rfl, (blk_cell BK380.out 1).trans rfl⟩ (fun hHeld => ?_); refine with_tabW impl_PlaceOfVolume.tab3 impl_PlaceOfVolume.bits3 (fun HT_ HW_ => ?_)
    generalize wc.drew = w20 at BK380 HB hHeld ⊢
    refine pz_ 1 18 [0,1,1,8] ?_
    refine pz_ 4 21 [0,1,1,2,1,5] ?_
    refine pz_ 5 22 [0,1,1,2,2,4] ?_
    refine tz2_ 0 17 [2,2,2,4] ?_
    refine tz2_ 3 20 [2,1,3,4] ?_
    refine one_ (i := 2) (N := some 19) (mz_ [6,4]) rfl rfl (one_of HT_.out (w94_)) (by decide) (fun K hK => ?_)
    refine goes_ Tryz.func42 (w94_) rfl #[.agg #[.slice A0_0 l0_0.length c0_0, .int .i64 a0_1], .int .i64 a1] (by rfl) rfl rfl maz_ ?_
    with_reducible refine (impl_Shelf_left.calls kj2 _ _ l0_0 a0_1 a1 t386 _ ?side1 ?side2 A18.out).mono ?_
    (case side1 => repeat (first | exact (Kd.C_below HR0_0.out HB.out) | (with_reducible refine Kd.C_alloc ?_ _) | (with_reducible refine Kd.C_drewN ?_ _) | (with_reducible refine Kd.C_drew ?_)))
    (case side2 => exact HC0_0.out)
    rintro e w21 ⟨rfl, hb⟩
    refine ⟨_, rfl, ?_⟩
    have n1_ := Az_ (btz_ (w52_) hb)
    clear HB
    replace BK380 := Az_ (ukbz_ BK380.out hb)
    have HB := n1_
    clear n1_
    clear hb
    refine hK.out _ _ ⟨(blk_cell BK380.out 0).trans rfl, (blk_cell BK380.out 1).trans rfl⟩ (fun hHeld => ?_)
    clear hK K
    refine nz_ 19 ?_
    refine one_ (i := 6) (N := some 23) (mz_ [7,3]) rfl rfl (one_of HT_.out (w94_)) (by decide) (fun K hK => ?_)
    refine goes_ Tryz.func42 (w94_) rfl #[.agg #[.slice A0_0 l0_0.length c0_0, .int .i64 a0_1], .int .i64 (wrap64 (a1 + 1))] (by rfl) rfl rfl maz_ ?_
    with_reducible refine (impl_Shelf_left.calls kj2 _ _ l0_0 a0_1 (wrap64 (a1 + 1)) t387 _ ?side1 ?side2 A19.out).mono ?_
    (case side1 => repeat (first | exact (Kd.C_below HR0_0.out HB.out) | (with_reducible refine Kd.C_alloc ?_ _) | (with_reducible refine Kd.C_drewN ?_ _) | (with_reducible refine Kd.C_drew ?_)))
    (case side2 => exact HC0_0.out)
    rintro e w22 ⟨rfl, hb⟩
    refine ⟨_, rfl, ?_⟩
    have n1_ := Az_ (btz_ (w52_) hb)
    clear HB
    replace BK380 := Az_ (ukbz_ BK380.out hb)
    have HB := n1_
    clear n1_
    clear hb
    refine hK.out _ _ ⟨(blk_cell BK380.out 0).trans rfl, (blk_cell BK380.out 1).trans rfl⟩ (fun hHeld => ?_)
    clear hK K
    refine nz_ 23 ?_
    refine pz_ 7 4 [8,2] ?_
    refine pz_ 8 5 [9,1] ?_
    refine pz_ 9 6 [10] ?_
    refine done_ (done_of HT_.out (w94_)) ?_
    try go_wp2
    go_ret3
    exact ⟨w74_, w52_⟩

def spec_DrawSwapVolumes.f (k : Nat) (l0 : List Int) : Option (List Int × Int × Int × Int) := (spec_l1Cur_shelf.f k l0 0 0).bind fun bt390 => ((spec_l1Cur_volume.f l0 bt390.2.2.1 bt390.2.2.2 bt390.1 bt390.2.1).bind fun bt397 => ((spec_l1Cur_volume.f l0 bt397.2.1 bt397.2.2 bt390.1 bt390.2.1).bind fun bt400 => (some (bt390.1, bt390.2.1, bt397.1, bt400.1))))
def spec_DrawSwapVolumes.T4 : Bool × List (List Nat × List Nat) := (true, [([], []), ([], []), ([], []), ([], []), ([2, 3], [2, 3]), ([0, 4, 0], [0]), ([1, 5, 0, 1, 5], [1]), ([4, 6, 0, 1, 2, 3, 4, 5, 6], [4])])
def spec_DrawSwapVolumes.B4 : List Nat := [0, 0, 0, 0, 12, 29, 63, 127]
theorem spec_DrawSwapVolumes.tab4 : rtab .any (opsOf Tryz.f27 4) = spec_DrawSwapVolumes.T4 := by kernel_rfl
theorem spec_DrawSwapVolumes.bits4 : waitsOk spec_DrawSwapVolumes.T4.2 spec_DrawSwapVolumes.B4 = true := by kernel_rfl
set_option maxHeartbeats 8000000 in
set_option maxRecDepth 100000 in
theorem spec_DrawSwapVolumes.calls (k : Nat) (A0 : Option Addr) (c0 : Nat) (l0 : List Int) (r1 : List Int) (r2 : Int) (r3 : Int) (r4 : Int) (w : World) (hr0 : Kd.C (Kd.int .u8) w A0 l0.length l0) (hc0 : l0.length ≤ c0) (h : spec_DrawSwapVolumes.f k l0 = some (r1, r2, r3, r4)) :
  Calls Tryz.prog 27 #[.slice A0 l0.length c0] w fun e w' => ∃ v0_ : Value, e = .returned (.tuple #[.agg #[v0_, .int .i64 r2], .int .i64 r3, .int .i64 r4]) ∧ Kd.V (Kd.int .i64) 3 w' w.heap.size (fun k_ => (w.heap.size ≤ k_)) v0_ r1 ∧ Below w.heap.size w w' := by
 have hu26 := Tryz.underlying26
 have hu54 := Tryz.underlying54
 have HR0 := Az_ hr0
 have HC0 := Az_ hc0
 clear hr0 hc0
 have HB := Az_ (Below.refl w.heap.size w)
 have H : ((spec_l1Cur_shelf.f k l0 0 0).bind fun bt390 => ((spec_l1Cur_volume.f l0 bt390.2.2.1 bt390.2.2.2 bt390.1 bt390.2.1).bind fun bt397 => ((spec_l1Cur_volume.f l0 bt397.2.1 bt397.2.2 bt390.1 bt390.2.1).bind fun bt400 => (some (bt390.1, bt390.2.1, bt397.1, bt400.1))))) = some (r1, r2, r3, r4) := h
 clear h
 replace H := bqz_ H; obtain ⟨⟨t390, t393, t394, t395⟩, A2, H⟩ := H
 replace H := bqz_ H; obtain ⟨⟨t397, t398, t399⟩, A3, H⟩ := H
 replace H := bqz_ H; obtain ⟨⟨t400, t401, t402⟩, A4, H⟩ := H
 replace H : (some (t390, t393, t397, t400)) = some (r1, r2, r3, r4) := H
 simp only [Option.some.injEq, Prod.mk.injEq] at H
 obtain ⟨rfl, rfl, rfl, rfl⟩ := H
 go_enter Tryz.func27, Tryz.ntmps27
 try go_wp2_with (first | ((with_reducible refine gate_dst (N := 2) rfl ?_); refine box_event ?hg (N := 2) ?hd (cs := #[.slice none 0 0, .int .i64 0]) (t := 26) ?hr ?_; (case hd => rfl); (case hg => rfl); (case hr => first | (go_simp; done) | (go_simp; rfl)); intro gb388 hg w5 hbox hb; have BK388 := Az_ (hbox); have GW388 := Az_ ((by rw [hg]; exact (below_size (ubz_ HB.out)) : w.heap.size ≤ gb388)); have GE388 := Az_ ((by rw [hg]; exact (below_size (ubz_ HB.out)) : w.heap.size ≤ gb388)); replace HB := Az_ (btz_ (ubz_ HB.out) hb); clear hb hbox hg) | ((with_reducible refine gate_dst (N := 10) rfl ?_); refine box_event ?hg (N := 10) ?hd (cs := #[.slice A0 l0.length c0, .int .i64 0, .int .u64 0]) (t := 54) ?hr ?_; (case hd => rfl); (case hg => rfl); (case hr => first | (go_simp; done) | (go_simp; rfl)); intro gb389 hg w6 hbox hb; have n1_ := Az_ (btz_ (w52_) hb); have n2_ := Az_ (hbox); have n3_ := Az_ ((by rw [hg]; exact (below_size (w52_)) : w.heap.size ≤ gb389)); have n4_ := Az_ ((by rw [hg]; exact (below_size (w52_)) : w.heap.size ≤ gb389)); have n5_ := Az_ ((by rw [hg]; exact Nat.ne_of_lt (uklz_ BK388.out) : gb388 ≠ gb389)); have n6_ := Az_ ((by rw [hg]; exact Nat.ne_of_gt (uklz_ BK388.out) : gb389 ≠ gb388)); clear HB; replace BK388 := Az_ (ukbz_ BK388.out hb); have HB := n1_; have BK389 := n2_; have GW389 := n3_; have GE389 := n4_; have NB388_389 := n5_; have NB389_388 := n6_; clear n1_ n2_ n3_ n4_ n5_ n6_; clear hb hbox hg) | ((with_reducible refine gate_callee (f := 32) rfl ?_); refine goesL_ (some 12) rfl rfl Tryz.func32 (w94_) rfl #[.pointer (some ⟨gb389, 0, none⟩)] rfl maz_ ?_; have HI389 := Az_ (show IsS54 w w6 gb389 l0 0 0 from ⟨_, _, BK389.out, GE389.out, HR0.out⟩); (with_reducible refine (spec_l1Cur_shelf.calls k gb389 l0 0 0 t390 t393 t394 t395 w _ ?side1 ?side2 A2.out).mono ?_); (case side1 => repeat (first | (with_reducible first | exact HI389.out | apply IsS54.alloc | apply IsS54.drewN | apply IsS54.drew | apply IsS54.set_1 | apply IsS54.set_2 | refine IsS54.far ?_ NB389_388.out _) | exact HI389.out)); (case side2 => repeat (first | (with_reducible first | exact HB.out | apply baz_ | apply bnz_ | apply bdz_ | refine bsz_ ?_ (IsS54.ge HI389.out) | refine bsz_ ?_ GE388.out) | exact HB.out)); rintro e w7 ⟨v391, rfl, ho0, hi, hb, hk⟩; refine ⟨_, rfl, ?_⟩; have HO392 := Az_ (Kd.V_lower (Kd.V_mono (ok' := fun k_ => (w.heap.size ≤ k_) ∧ k_ ≠ gb388 ∧ k_ ≠ gb389) ho0 (fun k_ hk_ => ⟨(Nat.le_trans (below_size (w44_)) hk_), (Kd.freshB (g := gb388) (o := .cells #[.slice none 0 0, .int .i64 0] 26 (0, 0)) (by exact ukz_ BK388.out) k_ hk_), (IsS54.fresh (w34_) k_ hk_)⟩)) (below_size (w44_))); replace BK388 := Az_ (KeepBut.blk hk (g' := gb388) (o := .cells #[.slice none 0 0, .int .i64 0] 26 (0, 0)) (by exact ukz_ BK388.out) NB388_389.out (by simp)); replace HB := Az_ (hb); replace HI389 := Az_ (hi); (try clear hb); (try clear hk); (try clear hi); (try clear ho0)) | ((with_reducible refine gate_dst (N := 6) rfl ?_); refine box_event ?hg (N := 6) ?hd (cs := #[.slice none 0 0, .int .i64 0]) (t := 26) ?hr ?_; (case hd => rfl); (case hg => rfl); (case hr => first | (go_simp; done) | (go_simp; rfl)); intro gb396 hg w8 hbox hb; have n0_ := Az_ (Kd.V_below (Kd.V_elderB (by (with_reducible repeat (first | apply Kd.V_alloc | apply Kd.V_drewN | apply Kd.V_drew)); exact HO392.out) gb396 (Nat.le_of_eq hg.symm)) hb); have n2_ := Az_ (IsS54.below (w34_) hb); have n3_ := Az_ (btz_ (w44_) hb); have n4_ := Az_ (hbox); have n5_ := Az_ ((by rw [hg]; exact (below_size (w44_)) : w.heap.size ≤ gb396)); have n6_ := Az_ ((by rw [hg]; exact (below_size (w44_)) : w.heap.size ≤ gb396)); have n7_ := Az_ ((by rw [hg]; exact Nat.ne_of_lt (uklz_ BK388.out) : gb388 ≠ gb396)); have n8_ := Az_ ((by rw [hg]; exact Nat.ne_of_gt (uklz_ BK388.out) : gb396 ≠ gb388)); have n9_ := Az_ ((by rw [hg]; exact Nat.ne_of_lt (IsS54.lt (show IsS54 w _ gb389 l0 t394 t395 from w34_)) : gb389 ≠ gb396)); have n10_ := Az_ ((by rw [hg]; exact Nat.ne_of_gt (IsS54.lt (show IsS54 w _ gb389 l0 t394 t395 from w34_)) : gb396 ≠ gb389)); clear HO392; clear HI389; clear HB; have HO392 := n0_; replace BK388 := Az_ (ukbz_ BK388.out hb); have HI389 := n2_; have HB := n3_; have BK396 := n4_; have GW396 := n5_; have GE396 := n6_; have NB388_396 := n7_; have NB396_388 := n8_; have NB389_396 := n9_; have NB396_389 := n10_; clear n0_ n2_ n3_ n4_ n5_ n6_ n7_ n8_ n9_ n10_; clear hb hbox hg; obtain ⟨Ao9, co9, eo9⟩ := Kd.V_slice HO392.out; subst eo9; have hnb10 := NB396_388.out; have hnc10 := NB388_396.out; have hnb11 := NB396_389.out; have hnc11 := NB389_396.out; have hcz12_0 : w8.cell? ⟨gb396, 0, none⟩ = some (.slice none 0 0) := (blk_cell BK396.out 0).trans rfl; have hcz12_1 : w8.cell? ⟨gb396, 1, none⟩ = some (.int .i64 0) := (blk_cell BK396.out 1).trans rfl; have hfz12_0 := blk_frozen BK396.out 0; have hfz12_1 := blk_frozen BK396.out 1) | ((with_reducible refine gate_callee (f := 33) rfl ?_); refine goesL_ (some 15) rfl rfl Tryz.func33 (w94_) rfl #[.pointer (some ⟨gb389, 0, none⟩), .agg #[.slice Ao9 t390.length co9, .int .i64 t393]] rfl maz_ ?_; (with_reducible refine (spec_l1Cur_volume.calls gb389 l0 t394 t395 _ _ t390 t393 t397 t398 t399 w _ ?side1 ?side2 ?side3 ?side4 ?side5 A3.out).mono ?_); (case side1 => repeat (first | (with_reducible first | exact HI389.out | apply IsS54.alloc | apply IsS54.drewN | apply IsS54.drew | apply IsS54.set_1 | apply IsS54.set_2 | refine IsS54.far ?_ NB389_388.out _ | refine IsS54.far ?_ NB389_396.out _) | exact HI389.out)); (case side2 => repeat (first | (with_reducible first | exact HB.out | apply baz_ | apply bnz_ | apply bdz_ | refine bsz_ ?_ (IsS54.ge HI389.out) | refine bsz_ ?_ GE388.out | refine bsz_ ?_ GE396.out) | exact HB.out)); (case side3 => refine (Kd.V_reads' (e := 3) (base := w.heap.size) (ok := fun k_ => (((w.heap.size ≤ k_) ∧ (k_ ≠ gb388 ∧ k_ ≠ gb389)) ∧ k_ ≠ gb396)) (n := t390.length) (c := co9) ?_).2.2; exact (w11_)); (case side4 => exact (Kd.V_reads' HO392.out).2.1); (case side5 => exact vfarz_ HO392.out (fun k_ hk_ => hk_.1.2.2)); rintro e w13 ⟨rfl, hi, hb, hk⟩; refine ⟨_, rfl, ?_⟩; replace BK388 := Az_ (KeepBut.blk hk (g' := gb388) (o := .cells #[.slice none 0 0, .int .i64 0] 26 (0, 0)) (by (with_reducible repeat (first | refine knz_ ?_ _ | refine kdz_ ?_ | refine kaz_ ?_ _)); refine blk_far ?_ NB388_396.out _; (with_reducible repeat (first | refine knz_ ?_ _ | refine kdz_ ?_ | refine kaz_ ?_ _)); refine blk_far ?_ NB388_396.out _; (with_reducible repeat (first | refine knz_ ?_ _ | refine kdz_ ?_ | refine kaz_ ?_ _)); exact BK388.out) NB388_389.out (by simp)); replace HO392 := Az_ (Kd.V_mono (Kd.V_keep (Kd.V_mono (ok := fun k_ => ((((w.heap.size ≤ k_)) ∧ (k_ ≠ gb388 ∧ k_ ≠ gb389)) ∧ k_ ≠ gb396)) (w11_) (fun k_ hk_ => (⟨hk_, hk_.1.2.2⟩ : _ ∧ k_ ≠ gb389))) hk (fun _ h => h.2)) (fun _ h => h.1)); replace BK396 := Az_ (KeepBut.blk hk (g' := gb396) (o := .cells #[.slice Ao9 t390.length co9, .int .i64 t393] 26 (0, 0)) (by (with_reducible repeat (first | refine knz_ ?_ _ | refine kdz_ ?_ | refine kaz_ ?_ _)); refine blk_put (cs := #[.slice Ao9 t390.length co9, .int .i64 0]) ?_ 1 _ rfl; (with_reducible repeat (first | refine knz_ ?_ _ | refine kdz_ ?_ | refine kaz_ ?_ _)); refine blk_put (cs := #[.slice none 0 0, .int .i64 0]) ?_ 0 _ rfl; (with_reducible repeat (first | refine knz_ ?_ _ | refine kdz_ ?_ | refine kaz_ ?_ _)); exact BK396.out) NB396_389.out (by simp)); replace HB := Az_ (hb); replace HI389 := Az_ (hi); (try clear hb); (try clear hk); (try clear hi)))
 have n0_ := Az_ (Kd.V_drew HO392.out)
 have n1_ := Az_ (kdz_ BK388.out)
 have n2_ := Az_ (kdz_ BK396.out)
 have n3_ := Az_ (IsS54.drew HI389.out)
 have n4_ := Az_ (bdz_ HB.out)
 clear HO392 BK388 BK396 HI389 HB
 have HO392 := n0_
 have BK388 := n1_
 have BK396 := n2_
 have HI389 := n3_
 have HB := n4_
 clear n0_ n1_ n2_ n3_ n4_
 refine start_ (n := 8) (S := fun w' => w'.cell? ⟨gb396, 0, none⟩ = some (.slice Ao9 t390.length co9) ∧ w'.cell? ⟨gb396, 1, none⟩ = some (.int .i64 t393)) (ds := []) #[false, false, false, false, false, false, false, false] (w94_) rfl rfl ⟨(blk_cell BK396.out 0).trans rfl, (blk_cell BK396.out 1).trans rfl⟩ (fun hHeld => ?_); refine with_tabW spec_DrawSwapVolumes.tab4 spec_DrawSwapVolumes.bits4 (fun HT_ HW_ => ?_)
 generalize w13.drew = w14 at HO392 BK388 BK396 HI389 HB hHeld ⊢
 refine pz_ 1 17 [0,1,1,6] ?_
 refine pz_ 2 18 [0,1,2,5] ?_
 refine tz2_ 0 16 [3,5] ?_
 refine tz2_ 3 19 [4,4] ?_
 refine one_ (i := 4) (N := some 20) (mz_ [5,3]) rfl rfl (one_of HT_.out (w94_)) (by decide) (fun K hK => ?_)
 refine goes_ Tryz.func33 (w94_) rfl #[.pointer (some ⟨gb389, 0, none⟩), .agg #[.slice Ao9 t390.length co9, .int .i64 t393]] (by rfl) rfl rfl maz_ ?_
 with_reducible refine (spec_l1Cur_volume.calls gb389 l0 t398 t399 _ _ t390 t393 t400 t401 t402 w _ ?side1 ?side2 ?side3 ?side4 ?side5 A4.out).mono ?_
 (case side1 => repeat (first | (with_reducible first | exact HI389.out | apply IsS54.alloc | apply IsS54.drewN | apply IsS54.drew | apply IsS54.set_1 | apply IsS54.set_2 | refine IsS54.far ?_ NB389_388.out _ | refine IsS54.far ?_ NB389_396.out _) | exact HI389.out))
 (case side2 => repeat (first | (with_reducible first | exact HB.out | apply baz_ | apply bnz_ | apply bdz_ | refine bsz_ ?_ (IsS54.ge HI389.out) | refine bsz_ ?_ GE388.out | refine bsz_ ?_ GE396.out) | exact HB.out))
 (case side3 => repeat (first | exact (Kd.V_reads' HO392.out).2.2 | (with_reducible refine Kd.C_alloc ?_ _) | (with_reducible refine Kd.C_drewN ?_ _) | (with_reducible refine Kd.C_drew ?_)))
 (case side4 => exact (Kd.V_reads' HO392.out).2.1)
 (case side5 => exact vfarz_ HO392.out (fun k_ hk_ => hk_.1.2.2))
 rintro e w15 ⟨rfl, hi, hb, hk⟩
 refine ⟨_, rfl, ?_⟩
 have n0_ := Az_ (KeepBut.blk hk (g' := gb388) (o := .cells #[.slice none 0 0, .int .i64 0] 26 (0, 0)) (by exact ukz_ BK388.out) NB388_389.out (by simp))
 have n1_ := Az_ (Kd.V_mono (Kd.V_keep (Kd.V_mono (ok := fun k_ => ((((w.heap.size ≤ k_)) ∧ (k_ ≠ gb388 ∧ k_ ≠ gb389)) ∧ k_ ≠ gb396)) (by (with_reducible repeat (first | apply Kd.V_alloc | apply Kd.V_drewN | apply Kd.V_drew)); exact HO392.out) (fun k_ hk_ => (⟨hk_, hk_.1.2.2⟩ : _ ∧ k_ ≠ gb389))) hk (fun _ h => h.2)) (fun _ h => h.1))
 have n2_ := Az_ (KeepBut.blk hk (g' := gb396) (o := .cells #[.slice Ao9 t390.length co9, .int .i64 t393] 26 (0, 0)) (by exact ukz_ BK396.out) NB396_389.out (by simp))
 have n3_ := Az_ (hb)
 have n4_ := Az_ (hi)
 clear BK388 HO392 BK396 HB HI389
 have BK388 := n0_
 have HO392 := n1_
 have BK396 := n2_
 have HB := n3_
 have HI389 := n4_
 clear n0_ n1_ n2_ n3_ n4_
 clear hb
 clear hk
 clear hi
 refine hK.out _ _ ⟨(blk_cell BK396.out 0).trans rfl, (blk_cell BK396.out 1).trans rfl⟩ (fun hHeld => ?_)
 clear hK K
 refine nz_ 20 ?_
 refine one_ (i := 5) (N := none) (mz_ [6,2]) rfl rfl (one_of HT_.out (w94_)) (by decide) (fun K hK => ?_)
 have hs16 : w15.cell? ⟨gb388, 0, none⟩ = some (.slice none 0 0) := (blk_cell BK388.out 0).trans rfl
 have hfs16 := blk_frozen BK388.out 0
 have hns16_1 := NB396_388.out
 have hms16_1 := NB388_396.out
 have hs17 : w15.cell? ⟨gb388, 1, none⟩ = some (.int .i64 0) := (blk_cell BK388.out 1).trans rfl
 have hfs17 := blk_frozen BK388.out 1
 have hns17_1 := NB396_388.out
 have hms17_1 := NB388_396.out
 refine skip_ (w1 := ?_) (by rfl) rfl ?_ ?_
 rotate_left
 ·go_simp
  rfl
 refine hK.out _ _ ⟨((cell_far (p := ⟨gb388, _, none⟩) NB396_388.out _).trans (((cell_far (p := ⟨gb388, _, none⟩) NB396_388.out _).trans (hHeld.1)))), ((cell_far (p := ⟨gb388, _, none⟩) NB396_388.out _).trans (((cell_far (p := ⟨gb388, _, none⟩) NB396_388.out _).trans (hHeld.2))))⟩ (fun hHeld => ?_)
 clear hK K
 refine pz_ 6 3 [7,1] ?_
 refine pz_ 7 4 [8] ?_
 refine done_ (done_of HT_.out (w94_)) ?_
 try go_wp2
 refine bodyPost_ret (results_ctt rfl _ _ gb388 26 #[.slice Ao9 t390.length co9, .int .i64 t393] (0, 0) _ rfl (by (with_reducible repeat (first | refine knz_ ?_ _ | refine kdz_ ?_ | refine kaz_ ?_ _)); refine blk_put (cs := #[.slice Ao9 t390.length co9, .int .i64 0]) ?_ 1 _ rfl; (with_reducible repeat (first | refine knz_ ?_ _ | refine kdz_ ?_ | refine kaz_ ?_ _)); refine blk_put (cs := #[.slice none 0 0, .int .i64 0]) ?_ 0 _ rfl; (with_reducible repeat (first | refine knz_ ?_ _ | refine kdz_ ?_ | refine kaz_ ?_ _)); exact BK388.out) Tryz.underlying26 rfl (w94_)) rfl ?_
 exact ⟨_, w74_, by (with_reducible repeat (first | apply Kd.V_alloc | apply Kd.V_drewN | apply Kd.V_drew)); exact Kd.V_mono (Kd.V_far (p := ⟨gb388, 1, none⟩) (Kd.V_far (p := ⟨gb388, 0, none⟩) (Kd.V_mono HO392.out (fun k_ hk => (⟨hk, hk.1.2.1⟩ : _ ∧ k_ ≠ gb388))) (fun _ hk => hk.2) (.slice Ao9 t390.length co9)) (fun _ hk => hk.2) (.int .i64 t393)) (fun _ hk => hk.1.1.1), by repeat (first | (with_reducible first | exact HB.out | apply baz_ | apply bnz_ | apply bdz_ | refine bsz_ ?_ (IsS54.ge HI389.out) | refine bsz_ ?_ GE388.out | refine bsz_ ?_ GE396.out) | exact HB.out)⟩

end Go.Proofs.YtimladcenifppaaGreatDoor.P
end

section
namespace Go.Proofs.YtimladcenifppaaGreatDoor.P
open Go.RowKit Go.Proofs.YtimladcenifppaaGreatDoorW.PrintWords Go.Proofs.YtimladcenifppaaGreatDoorW.PrintLast Go.Proofs.YtimladcenifppaaGreatDoorW.PrintMore
set_option linter.unusedVariables false
set_option linter.unusedSimpArgs false

def clone_Int.f (l0 : List Int) : Option (List Int) := if l0.length < 17592186044416 then some l0 else none
theorem info_cloneInt : (Tryz.prog.info? 3).map (fun i => (i.zero, i.size, i.bytes)) = some (some (.int .i64 0), 1, 8) := by kernel_rfl
set_option maxHeartbeats 8000000 in
set_option maxRecDepth 100000 in
theorem clone_Int.calls (A0 : Option Addr) (c0 : Nat) (l0 : List Int) (r : List Int) (w : World) (hr0 : Kd.C (Kd.int .i64) w A0 l0.length l0) (hc0 : l0.length ≤ c0) (h : clone_Int.f l0 = some r) :
    Calls Tryz.prog 52 #[.slice A0 l0.length c0] w fun e w' => ∃ v0_ : Value, e = .returned (v0_) ∧ Kd.R (Kd.int .i64) 3 w' w.heap.size (fun _ => True) v0_ r ∧ Below w.heap.size w w' := by
  unfold clone_Int.f at h
  by_cases c2 : l0.length < 17592186044416; rotate_left
  · rw [if_neg c2] at h
    cases h
  rw [if_pos c2] at h
  obtain rfl := Option.some.inj h
  have hnil := fun W => Lib.run_eql_slice_nil (P := Tryz.prog) W 24 3 A0 l0.length c0 0 0 Tryz.underlying24
  have HR0 := Aside0.mk hr0
  have LMc2 := Aside0.mk c2
  have HB := Aside0.mk (Below.refl w.heap.size w)
  clear hr0 c2 h hc0
  cases A0 with
  | none =>
    have e : l0 = [] := by
      cases l0 with
      | nil => rfl
      | cons x l =>
        obtain ⟨ad, he, _⟩ := HR0.out.2.2 (by simp)
        cases he
    subst e
    simp only [Option.isNone_none, List.length_nil] at hnil
    simp only [List.length_nil]
    go_enter Tryz.func52, Tryz.ntmps52
    go_wp2
    go_ret
    exact ⟨_, rfl, Kd.R_nil _ _ _ _ _, HB.out⟩
  | some ad =>
    simp only [Option.isNone_some] at hnil
    go_enter Tryz.func52, Tryz.ntmps52
    go_wp2_with (first | ((with_reducible refine gate_dst (N := 5) rfl ?_); refine Kd.R_lit (Kd.int .i64) _ 3 ?hg (N := 5) ?hd (xs := ([] : List Int)) (inner := []) (ok := fun _ => True) (okp := fun _ => True) ?hr ?hp (fun _ hk => hk) trivial (Below.refl _ _) (Nat.le_refl _) (by simp) ?_; (case hd => rfl); (case hg => rfl); (case hr => first | (go_simp; done) | (go_simp; rfl)); (case hp => exact (Reps.none _ _)); intro v195 w3 ho4 hb hg_ hnew_; clear hg_ hnew_; have HO196 := Aside0.mk (Kd.R_lower ho4 (below_size (w55_))); replace HB := Aside0.mk (below_step (w55_) hb); clear hb ho4) | ((with_reducible refine gate_builtin (b := .append) (xs := #[.tmp 5, .tmp 6]) rfl ?_); at_builtin; refine Kd.R_append_rows (Kd.int .i64) (w0 := w) w.heap.size rfl (.tmp 5) (.tmp 6) 24 3 (.int .i64 0) 8 rfl Tryz.underlying24 info_cloneInt rfl (by decide) (by omega) v195 [] l0 _ _ _ (fun _ => True) (fun _ => False) rfl rfl ?aO ?aR (fun _ _ h => h) (fun _ h => h.elim) ?aF ?aB ?aS ?aL ?_; (case aR => repeat (first | exact (Kd.C_below HR0.out HB.out) | (with_reducible refine Kd.C_alloc ?_ _) | (with_reducible refine Kd.C_drewN ?_ _) | (with_reducible refine Kd.C_drew ?_))); (case aB => exact (w55_)); (case aF => exact (fun _ _ => trivial)); (case aO => exact (by (with_reducible repeat (first | apply Kd.R_alloc | apply Kd.R_drewN | apply Kd.R_drew)); exact HO196.out)); (case aS => exact (below_size (w55_))); (case aL => have := LMc2.out; simp; omega); intro v198 w5 ho hb hg hat; rw [List.nil_append] at ho; replace HB := Aside0.mk (hb); have HO199 := Aside0.mk (ho); clear HO196; clear ho hb hg hat))
    go_ret
    exact ⟨_, rfl, by (with_reducible repeat (first | apply Kd.R_alloc | apply Kd.R_drewN | apply Kd.R_drew)); exact HO199.out, w55_⟩
end Go.Proofs.YtimladcenifppaaGreatDoor.P
end

section
namespace Go.Proofs.YtimladcenifppaaGreatDoor.P
open Go.RowKit Go.Proofs.YtimladcenifppaaGreatDoorW.PrintWords Go.Proofs.YtimladcenifppaaGreatDoorW.PrintLast Go.Proofs.YtimladcenifppaaGreatDoorW.PrintMore
attribute [local go_sem] max2_int min2_int max_two min_two max_three min_three max_four min_four   -- for this text's walks alone
set_option linter.unusedVariables false
set_option linter.unusedSimpArgs false

def impl_SwapVolumes.f (k : Nat) (l0_0 : List Int) (a0_1 : Int) (a1 : Int) (a2 : Int) : Option (List Int × Int × Bool) := (impl_IsShelf.f k l0_0 a0_1).bind fun t405 => (if t405 = true then ((impl_Shelf_has.f k l0_0 a0_1 (([a1, a2] : List Int))).bind fun t409 => (if t409 = true then ((clone_Int.f l0_0).bind fun t410 => (if 0 ≤ a2 then (if a2 < (t410.length : Int) then (if 0 ≤ a1 then (if a1 < (t410.length : Int) then (some (((t410.set (a1 : Int).toNat (rd t410 a2)).set (a2 : Int).toNat (rd t410 a1)), a0_1, true)) else (none)) else (none)) else (none)) else (none))) else (some (([] : List Int), 0, false)))) else (some (([] : List Int), 0, false)))
def impl_SwapVolumes.T3 : Bool × List (List Nat × List Nat) := (true, [([], []), ([0], [0]), ([1], [1]), ([], []), ([3], [3]), ([2, 4], [2, 4]), ([], []), ([6, 5, 2, 0, 1, 2, 3, 4, 5, 6], [5, 6])])
def impl_SwapVolumes.B3 : List Nat := [0, 1, 3, 0, 8, 31, 0, 127]
theorem impl_SwapVolumes.tab3 : rtab .any (opsOf Tryz.f28 3) = impl_SwapVolumes.T3 := by kernel_rfl
theorem impl_SwapVolumes.bits3 : waitsOk impl_SwapVolumes.T3.2 impl_SwapVolumes.B3 = true := by kernel_rfl
set_option maxHeartbeats 8000000 in
set_option maxRecDepth 100000 in
theorem impl_SwapVolumes.calls (k : Nat) (A0_0 : Option Addr) (c0_0 : Nat) (l0_0 : List Int) (a0_1 : Int) (a1 : Int) (a2 : Int) (r1 : List Int) (r2 : Int) (r3 : Bool) (w : World) (hr0_0 : Kd.C (Kd.int .i64) w A0_0 l0_0.length l0_0) (hc0_0 : l0_0.length ≤ c0_0) (h : impl_SwapVolumes.f k l0_0 a0_1 a1 a2 = some (r1, r2, r3)) :
  Calls Tryz.prog 28 #[.agg #[.slice A0_0 l0_0.length c0_0, .int .i64 a0_1], .int .i64 a1, .int .i64 a2] w fun e w' => ∃ v0_ : Value, e = .returned (.tuple #[.agg #[v0_, .int .i64 r2], .bool r3]) ∧ Kd.R (Kd.int .i64) 3 w' w.heap.size (fun _ => True) v0_ r1 ∧ Below w.heap.size w w' := by
 have hu26 := Tryz.underlying26
 have HR0_0 := Az_ hr0_0
 have HC0_0 := Az_ hc0_0
 clear hr0_0 hc0_0
 have HB := Az_ (Below.refl w.heap.size w)
 have H : ((impl_IsShelf.f k l0_0 a0_1).bind fun t405 => (if t405 = true then ((impl_Shelf_has.f k l0_0 a0_1 (([a1, a2] : List Int))).bind fun t409 => (if t409 = true then ((clone_Int.f l0_0).bind fun t410 => (if 0 ≤ a2 then (if a2 < (t410.length : Int) then (if 0 ≤ a1 then (if a1 < (t410.length : Int) then (some (((t410.set (a1 : Int).toNat (rd t410 a2)).set (a2 : Int).toNat (rd t410 a1)), a0_1, true)) else (none)) else (none)) else (none)) else (none))) else (some (([] : List Int), 0, false)))) else (some (([] : List Int), 0, false)))) = some (r1, r2, r3) := h
 clear h
 replace H := bqz_ H; obtain ⟨t405, A4, H⟩ := H
 replace H : (if t405 = true then ((impl_Shelf_has.f k l0_0 a0_1 (([a1, a2] : List Int))).bind fun t409 => (if t409 = true then ((clone_Int.f l0_0).bind fun t410 => (if 0 ≤ a2 then (if a2 < (t410.length : Int) then (if 0 ≤ a1 then (if a1 < (t410.length : Int) then (some (((t410.set (a1 : Int).toNat (rd t410 a2)).set (a2 : Int).toNat (rd t410 a1)), a0_1, true)) else (none)) else (none)) else (none)) else (none))) else (some (([] : List Int), 0, false)))) else (some (([] : List Int), 0, false))) = some (r1, r2, r3) := H
 by_cases c5 : t405 = true
 ·subst c5
  rw [if_pos rfl] at H
  obtain ⟨y406, hy406⟩ : ∃ y_ : List Int, y_ = (([a1, a2] : List Int)) := ⟨_, rfl⟩
  replace H : ((impl_Shelf_has.f k l0_0 a0_1 y406).bind fun t409 => (if t409 = true then ((clone_Int.f l0_0).bind fun t410 => (if 0 ≤ a2 then (if a2 < (t410.length : Int) then (if 0 ≤ a1 then (if a1 < (t410.length : Int) then (some (((t410.set (a1 : Int).toNat (rd t410 a2)).set (a2 : Int).toNat (rd t410 a1)), a0_1, true)) else (none)) else (none)) else (none)) else (none))) else (some (([] : List Int), 0, false)))) = some (r1, r2, r3) := by first | (rw [hy406]; with_reducible exact H) | (have H2_ := (Option.bind_some _ _).symm.trans H; rw [hy406]; with_reducible exact H2_) | (have H2_ := (Option.bind_some _ _).symm.trans H; with_reducible exact H2_) | with_reducible exact H | (rw [hy406]; exact H) | exact H
  have Ny406 := Az_ hy406
  clear hy406
  replace H := bqz_ H; obtain ⟨t409, A6, H⟩ := H
  replace H : (if t409 = true then ((clone_Int.f l0_0).bind fun t410 => (if 0 ≤ a2 then (if a2 < (t410.length : Int) then (if 0 ≤ a1 then (if a1 < (t410.length : Int) then (some (((t410.set (a1 : Int).toNat (rd t410 a2)).set (a2 : Int).toNat (rd t410 a1)), a0_1, true)) else (none)) else (none)) else (none)) else (none))) else (some (([] : List Int), 0, false))) = some (r1, r2, r3) := H
  by_cases c7 : t409 = true; rotate_left
  ·replace c7 := Bool.eq_false_iff.mpr c7
   subst c7
   rw [if_neg nfz_] at H
   simp only [Option.some.injEq, Prod.mk.injEq] at H
   obtain ⟨rfl, rfl, rfl⟩ := H
   go_enter Tryz.func28, Tryz.ntmps28
   go_wp2_with (first | ((with_reducible refine gate_dst (N := 3) rfl ?_); (try (refine gate_guard (by rfl) ?_; dsimp only)); refine box_event ?hg (N := 3) ?hd (cs := #[.slice A0_0 l0_0.length c0_0, .int .i64 a0_1]) (t := 26) ?hr ?_; (case hd => rfl); (case hg => rfl); (case hr => first | (go_simp; done) | (go_simp; rfl)); intro gb403 hg w42 hbox hb; have BK403 := Az_ (hbox); have GW403 := Az_ ((by rw [hg]; exact (below_size (ubz_ HB.out)) : w.heap.size ≤ gb403)); have GE403 := Az_ ((by rw [hg]; exact (below_size (ubz_ HB.out)) : w.heap.size ≤ gb403)); replace HB := Az_ (btz_ (ubz_ HB.out) hb); clear hb hbox hg) | ((with_reducible refine gate_dst (N := 6) rfl ?_); (try (refine gate_guard (by rfl) ?_; dsimp only)); refine box_event ?hg (N := 6) ?hd (cs := #[.slice none 0 0, .int .i64 0]) (t := 26) ?hr ?_; (case hd => rfl); (case hg => rfl); (case hr => first | (go_simp; done) | (go_simp; rfl)); intro gb404 hg w43 hbox hb; have n1_ := Az_ (btz_ (w52_) hb); have n2_ := Az_ (hbox); have n3_ := Az_ ((by rw [hg]; exact (below_size (w52_)) : w.heap.size ≤ gb404)); have n4_ := Az_ ((by rw [hg]; exact (below_size (w52_)) : w.heap.size ≤ gb404)); have n5_ := Az_ ((by rw [hg]; exact Nat.ne_of_lt (uklz_ BK403.out) : gb403 ≠ gb404)); have n6_ := Az_ ((by rw [hg]; exact Nat.ne_of_gt (uklz_ BK403.out) : gb404 ≠ gb403)); clear HB; replace BK403 := Az_ (ukbz_ BK403.out hb); have HB := n1_; have BK404 := n2_; have GW404 := n3_; have GE404 := n4_; have NB403_404 := n5_; have NB404_403 := n6_; clear n1_ n2_ n3_ n4_ n5_ n6_; clear hb hbox hg; have hnb44 := NB403_404.out; have hnc44 := NB404_403.out; have hcz45_0 : w43.cell? ⟨gb403, 0, none⟩ = some (.slice A0_0 l0_0.length c0_0) := (blk_cell BK403.out 0).trans rfl; have hcz45_1 : w43.cell? ⟨gb403, 1, none⟩ = some (.int .i64 a0_1) := (blk_cell BK403.out 1).trans rfl; have hfz45_0 := blk_frozen BK403.out 0; have hfz45_1 := blk_frozen BK403.out 1) | ((with_reducible refine gate_callee (f := 19) rfl ?_); refine goesL_ (some 10) rfl rfl Tryz.func19 (w94_) rfl #[.agg #[.slice A0_0 l0_0.length c0_0, .int .i64 a0_1]] rfl maz_ ?_; (with_reducible refine (impl_IsShelf.calls k _ _ l0_0 a0_1 true _ ?side1 ?side2 A4.out).mono ?_); (case side1 => exact ucz_ ((Kd.C_below HR0_0.out HB.out))); (case side2 => exact HC0_0.out); rintro e w46 ⟨rfl, hb⟩; refine ⟨_, rfl, ?_⟩; have n2_ := Az_ (btz_ (w52_) hb); clear HB; replace BK403 := Az_ (ukbz_ BK403.out hb); replace BK404 := Az_ (ukbz_ BK404.out hb); have HB := n2_; clear n2_; (try clear hb); have hcz47_0 : w46.cell? ⟨gb403, 0, none⟩ = some (.slice A0_0 l0_0.length c0_0) := (blk_cell BK403.out 0).trans rfl; have hcz47_1 : w46.cell? ⟨gb403, 1, none⟩ = some (.int .i64 a0_1) := (blk_cell BK403.out 1).trans rfl; have hfz47_0 := blk_frozen BK403.out 0; have hfz47_1 := blk_frozen BK403.out 1) | ((with_reducible refine gate_dst (N := 16) rfl ?_); (try (refine gate_guard (by rfl) ?_; dsimp only)); refine Kd.R_lit (Kd.int .i64) _ 3 ?hg (N := 16) ?hd (xs := ([a1, a2] : List Int)) (inner := [.int .i64 a1, .int .i64 a2]) (ok := fun _ => True) (okp := fun _ => True) ?hr ?hp (fun _ hk => hk) trivial (Below.refl _ _) (Nat.le_refl _) (by simp) ?_; (case hd => rfl); (case hg => rfl); (case hr => first | (go_simp; done) | (go_simp; rfl)); (case hp => exact (Reps.one (show Kd.M (Kd.int .i64) _ _ _ a1 [.int .i64 a1] from rfl) (Reps.one (show Kd.M (Kd.int .i64) _ _ _ a2 [.int .i64 a2] from rfl) (Reps.none _ _)))); intro v407 w48 ho49 hb hg_ hnew_; clear hg_ hnew_; (first | rw [← Ny406.out] at ho49 | (simp only [Int.reduceToNat] at ho49; rw [← Ny406.out] at ho49)); have n0_ := Az_ (Kd.R_lower ho49 (below_size (w52_))); have n3_ := Az_ (btz_ (w52_) hb); clear HB; have HO408 := n0_; replace BK403 := Az_ (ukbz_ BK403.out hb); replace BK404 := Az_ (ukbz_ BK404.out hb); have HB := n3_; clear n0_ n3_; clear hb ho49; obtain ⟨Ao50, co50, eo50⟩ := Kd.R_slice HO408.out; subst eo50) | (go_at_call 35; (with_reducible refine (impl_Shelf_has.calls k _ _ l0_0 a0_1 _ _ y406 false _ ?side1 ?side2 ?side3 ?side4 A6.out).mono ?_); (case side1 => exact ucz_ ((Kd.C_below HR0_0.out HB.out))); (case side2 => exact HC0_0.out); (case side3 => exact ucz_ ((Kd.R_reads' HO408.out).2.2)); (case side4 => exact (Kd.R_reads' HO408.out).2.1); rintro e w51 ⟨rfl, hb⟩; have n0_ := Az_ (Kd.R_below (w89_) hb); have n3_ := Az_ (btz_ (w52_) hb); clear HO408; clear HB; have HO408 := n0_; replace BK403 := Az_ (ukbz_ BK403.out hb); replace BK404 := Az_ (ukbz_ BK404.out hb); have HB := n3_; clear n0_ n3_; (try clear hb); have hcz52_0 : w51.cell? ⟨gb404, 0, none⟩ = some (.slice none 0 0) := (blk_cell BK404.out 0).trans rfl; have hcz52_1 : w51.cell? ⟨gb404, 1, none⟩ = some (.int .i64 0) := (blk_cell BK404.out 1).trans rfl; have hfz52_0 := blk_frozen BK404.out 0; have hfz52_1 := blk_frozen BK404.out 1))
   refine bodyPost_ret (results_ct rfl _ _ gb404 26 #[.slice none 0 0, .int .i64 0] (0, 0) _ rfl (w3_) Tryz.underlying26 rfl (w94_)) rfl ?_
   exact ⟨_, w74_, w53_, w52_⟩
  subst c7
  rw [if_pos rfl] at H
  replace H := bqz_ H; obtain ⟨t410, A8, H⟩ := H
  replace H : (if 0 ≤ a2 then (if a2 < (t410.length : Int) then (if 0 ≤ a1 then (if a1 < (t410.length : Int) then (some (((t410.set (a1 : Int).toNat (rd t410 a2)).set (a2 : Int).toNat (rd t410 a1)), a0_1, true)) else (none)) else (none)) else (none)) else (none)) = some (r1, r2, r3) := H
  by_cases c9 : 0 ≤ a2; rotate_left
  ·rw [if_neg c9] at H
   exact absurd H (by simp)
  rw [if_pos c9] at H
  have c9b0 := decide_eq_true c9
  clear c9
  by_cases c10 : a2 < (t410.length : Int); rotate_left
  ·rw [if_neg c10] at H
   exact absurd H (by simp)
  rw [if_pos c10] at H
  have c10b0 := decide_eq_true c10
  clear c10
  by_cases c11 : 0 ≤ a1; rotate_left
  ·rw [if_neg c11] at H
   exact absurd H (by simp)
  rw [if_pos c11] at H
  have c11b0 := decide_eq_true c11
  clear c11
  by_cases c12 : a1 < (t410.length : Int); rotate_left
  ·rw [if_neg c12] at H
   exact absurd H (by simp)
  rw [if_pos c12] at H
  have c12b0 := decide_eq_true c12
  clear c12
  obtain ⟨y416, hy416⟩ : ∃ y_ : List Int, y_ = (t410.set (a1 : Int).toNat (rd t410 a2)) := ⟨_, rfl⟩
  replace H : (some ((y416.set (a2 : Int).toNat (rd t410 a1)), a0_1, true)) = some (r1, r2, r3) := by first | (rw [hy416]; with_reducible exact H) | (have H2_ := (Option.bind_some _ _).symm.trans H; rw [hy416]; with_reducible exact H2_) | (have H2_ := (Option.bind_some _ _).symm.trans H; with_reducible exact H2_) | with_reducible exact H | (rw [hy416]; exact H) | exact H
  have Ny416 := Az_ hy416
  clear hy416
  obtain ⟨y417, hy417⟩ : ∃ y_ : List Int, y_ = (y416.set (a2 : Int).toNat (rd t410 a1)) := ⟨_, rfl⟩
  replace H : (some (y417, a0_1, true)) = some (r1, r2, r3) := by first | (rw [hy417]; with_reducible exact H) | (have H2_ := (Option.bind_some _ _).symm.trans H; rw [hy417]; with_reducible exact H2_) | (have H2_ := (Option.bind_some _ _).symm.trans H; with_reducible exact H2_) | with_reducible exact H | (rw [hy417]; exact H) | exact H
  have Ny417 := Az_ hy417
  clear hy417
  simp only [Option.some.injEq, Prod.mk.injEq] at H
  obtain ⟨rfl, rfl, rfl⟩ := H
  go_enter Tryz.func28, Tryz.ntmps28
  try go_wp2_with (first | ((with_reducible refine gate_dst (N := 3) rfl ?_); (try (refine gate_guard (by rfl) ?_; dsimp only)); refine box_event ?hg (N := 3) ?hd (cs := #[.slice A0_0 l0_0.length c0_0, .int .i64 a0_1]) (t := 26) ?hr ?_; (case hd => rfl); (case hg => rfl); (case hr => first | (go_simp; done) | (go_simp; rfl)); intro gb403 hg w15 hbox hb; have BK403 := Az_ (hbox); have GW403 := Az_ ((by rw [hg]; exact (below_size (ubz_ HB.out)) : w.heap.size ≤ gb403)); have GE403 := Az_ ((by rw [hg]; exact (below_size (ubz_ HB.out)) : w.heap.size ≤ gb403)); replace HB := Az_ (btz_ (ubz_ HB.out) hb); clear hb hbox hg) | ((with_reducible refine gate_dst (N := 6) rfl ?_); (try (refine gate_guard (by rfl) ?_; dsimp only)); refine box_event ?hg (N := 6) ?hd (cs := #[.slice none 0 0, .int .i64 0]) (t := 26) ?hr ?_; (case hd => rfl); (case hg => rfl); (case hr => first | (go_simp; done) | (go_simp; rfl)); intro gb404 hg w16 hbox hb; have n1_ := Az_ (btz_ (w52_) hb); have n2_ := Az_ (hbox); have n3_ := Az_ ((by rw [hg]; exact (below_size (w52_)) : w.heap.size ≤ gb404)); have n4_ := Az_ ((by rw [hg]; exact (below_size (w52_)) : w.heap.size ≤ gb404)); have n5_ := Az_ ((by rw [hg]; exact Nat.ne_of_lt (uklz_ BK403.out) : gb403 ≠ gb404)); have n6_ := Az_ ((by rw [hg]; exact Nat.ne_of_gt (uklz_ BK403.out) : gb404 ≠ gb403)); clear HB; replace BK403 := Az_ (ukbz_ BK403.out hb); have HB := n1_; have BK404 := n2_; have GW404 := n3_; have GE404 := n4_; have NB403_404 := n5_; have NB404_403 := n6_; clear n1_ n2_ n3_ n4_ n5_ n6_; clear hb hbox hg; have hnb17 := NB403_404.out; have hnc17 := NB404_403.out; have hcz18_0 : w16.cell? ⟨gb403, 0, none⟩ = some (.slice A0_0 l0_0.length c0_0) := (blk_cell BK403.out 0).trans rfl; have hcz18_1 : w16.cell? ⟨gb403, 1, none⟩ = some (.int .i64 a0_1) := (blk_cell BK403.out 1).trans rfl; have hfz18_0 := blk_frozen BK403.out 0; have hfz18_1 := blk_frozen BK403.out 1) | ((with_reducible refine gate_callee (f := 19) rfl ?_); refine goesL_ (some 10) rfl rfl Tryz.func19 (w94_) rfl #[.agg #[.slice A0_0 l0_0.length c0_0, .int .i64 a0_1]] rfl maz_ ?_; (with_reducible refine (impl_IsShelf.calls k _ _ l0_0 a0_1 true _ ?side1 ?side2 A4.out).mono ?_); (case side1 => exact ucz_ ((Kd.C_below HR0_0.out HB.out))); (case side2 => exact HC0_0.out); rintro e w19 ⟨rfl, hb⟩; refine ⟨_, rfl, ?_⟩; have n2_ := Az_ (btz_ (w52_) hb); clear HB; replace BK403 := Az_ (ukbz_ BK403.out hb); replace BK404 := Az_ (ukbz_ BK404.out hb); have HB := n2_; clear n2_; (try clear hb); have hcz20_0 : w19.cell? ⟨gb403, 0, none⟩ = some (.slice A0_0 l0_0.length c0_0) := (blk_cell BK403.out 0).trans rfl; have hcz20_1 : w19.cell? ⟨gb403, 1, none⟩ = some (.int .i64 a0_1) := (blk_cell BK403.out 1).trans rfl; have hfz20_0 := blk_frozen BK403.out 0; have hfz20_1 := blk_frozen BK403.out 1) | ((with_reducible refine gate_dst (N := 16) rfl ?_); (try (refine gate_guard (by rfl) ?_; dsimp only)); refine Kd.R_lit (Kd.int .i64) _ 3 ?hg (N := 16) ?hd (xs := ([a1, a2] : List Int)) (inner := [.int .i64 a1, .int .i64 a2]) (ok := fun _ => True) (okp := fun _ => True) ?hr ?hp (fun _ hk => hk) trivial (Below.refl _ _) (Nat.le_refl _) (by simp) ?_; (case hd => rfl); (case hg => rfl); (case hr => first | (go_simp; done) | (go_simp; rfl)); (case hp => exact (Reps.one (show Kd.M (Kd.int .i64) _ _ _ a1 [.int .i64 a1] from rfl) (Reps.one (show Kd.M (Kd.int .i64) _ _ _ a2 [.int .i64 a2] from rfl) (Reps.none _ _)))); intro v407 w21 ho22 hb hg_ hnew_; clear hg_ hnew_; (first | rw [← Ny406.out] at ho22 | (simp only [Int.reduceToNat] at ho22; rw [← Ny406.out] at ho22)); have n0_ := Az_ (Kd.R_lower ho22 (below_size (w52_))); have n3_ := Az_ (btz_ (w52_) hb); clear HB; have HO408 := n0_; replace BK403 := Az_ (ukbz_ BK403.out hb); replace BK404 := Az_ (ukbz_ BK404.out hb); have HB := n3_; clear n0_ n3_; clear hb ho22; obtain ⟨Ao23, co23, eo23⟩ := Kd.R_slice HO408.out; subst eo23) | (go_at_call 35; (with_reducible refine (impl_Shelf_has.calls k _ _ l0_0 a0_1 _ _ y406 true _ ?side1 ?side2 ?side3 ?side4 A6.out).mono ?_); (case side1 => exact ucz_ ((Kd.C_below HR0_0.out HB.out))); (case side2 => exact HC0_0.out); (case side3 => exact ucz_ ((Kd.R_reads' HO408.out).2.2)); (case side4 => exact (Kd.R_reads' HO408.out).2.1); rintro e w24 ⟨rfl, hb⟩; have n0_ := Az_ (Kd.R_below (w89_) hb); have n3_ := Az_ (btz_ (w52_) hb); clear HO408; clear HB; have HO408 := n0_; replace BK403 := Az_ (ukbz_ BK403.out hb); replace BK404 := Az_ (ukbz_ BK404.out hb); have HB := n3_; clear n0_ n3_; (try clear hb)))
  have n0_ := Az_ (rdz_ HO408.out)
  have n1_ := Az_ (kdz_ BK403.out)
  have n2_ := Az_ (kdz_ BK404.out)
  have n3_ := Az_ (bdz_ HB.out)
  clear HO408 BK403 BK404 HB
  have HO408 := n0_
  have BK403 := n1_
  have BK404 := n2_
  have HB := n3_
  clear n0_ n1_ n2_ n3_
  refine start_ (n := 8) (S := fun w' => w'.cell? ⟨gb403, 0, none⟩ = some (.slice A0_0 l0_0.length c0_0) ∧ w'.cell? ⟨gb403, 1, none⟩ = some (.int .i64 a0_1)) (ds := []) #[false, false, false, false, false, false, false, false] (w94_) rfl rfl ⟨(blk_cell BK403.out 0).trans rfl, (blk_cell BK403.out 1).trans rfl⟩ (fun hHeld => ?_); refine with_tabW impl_SwapVolumes.tab3 impl_SwapVolumes.bits3 (fun HT_ HW_ => ?_)
  generalize w24.drew = w25 at HO408 BK403 BK404 HB hHeld ⊢
  refine pz_ 0 21 [1,7] ?_
  refine pz_ 3 24 [1,2,1,4] ?_
  refine tz2_ 1 22 [2,1,1,4] ?_
  refine tz2_ 4 25 [2,1,2,3] ?_
  refine join_ (σ := Value × Nat) 1 #[true, true, true, true, true, true, true, false] (fun s_ => [(23, s_.1), (8, .pointer (some ⟨s_.2, 0, none⟩)), (26, .agg #[s_.1, .int .i64 a0_1])]) (fun s_ w' => (w'.cell? ⟨gb403, 0, none⟩ = some (.slice A0_0 l0_0.length c0_0) ∧ w'.cell? ⟨gb403, 1, none⟩ = some (.int .i64 a0_1)) ∧ (Kd.R (Kd.int .i64) 3 w' w.heap.size (fun k_ => some k_ ≠ (s_.1 : Value).ownBlock) (.slice Ao23 y406.length co23) y406) ∧ (Kd.R (Kd.int .i64) 3 w' w.heap.size (fun k_ => some k_ ≠ (.slice Ao23 y406.length co23 : Value).ownBlock) s_.1 t410) ∧ (w'.heap[gb403]? = some (.cells #[.slice A0_0 l0_0.length c0_0, .int .i64 a0_1] 26 (0, 0))) ∧ (w'.heap[gb404]? = some (.cells #[.slice none 0 0, .int .i64 0] 26 (0, 0))) ∧ (w'.heap[s_.2]? = some (.cells #[.slice none 0 0, .int .i64 0] 26 (0, 0))) ∧ (w.heap.size ≤ s_.2) ∧ (w.heap.size ≤ s_.2) ∧ (gb403 ≠ s_.2) ∧ (s_.2 ≠ gb403) ∧ (gb404 ≠ s_.2) ∧ (s_.2 ≠ gb404) ∧ (Below w.heap.size w w')) ?_ ?_
  rotate_left
  ·intro hCont
   refine two_ (i := 2) (j := 6) (Ni := some 23) (Nj := some 8) (mz_ [5,3]) #[true, true, false, true, true, false, true, false] rfl rfl rfl rfl (two_of HT_.out (w94_)) (by decide) (by decide) (fun K hK => ?_) (fun K hK => ?_)
   ·skip
    refine goes_ Tryz.func52 (w94_) rfl #[.slice A0_0 l0_0.length c0_0] (by rfl) rfl rfl maz_ ?_
    with_reducible refine (clone_Int.calls _ _ l0_0 t410 _ ?side1 ?side2 A8.out).mono ?_
    (case side1 => repeat (first | exact (Kd.C_below HR0_0.out HB.out) | (with_reducible refine Kd.C_alloc ?_ _) | (with_reducible refine Kd.C_drewN ?_ _) | (with_reducible refine Kd.C_drew ?_)))
    (case side2 => exact HC0_0.out)
    rintro e w26 ⟨v411, rfl, ho0, hb⟩
    refine ⟨_, rfl, ?_⟩
    have n0_ := Az_ (rez_ (w89_) (Kd.R_base ho0) hb)
    have n1_ := Az_ (Kd.R_lower (Kd.R_new' ho0 (Kd.R_lt (w89_))) (below_size (w52_)))
    have n4_ := Az_ (btz_ (w52_) hb)
    clear HO408 HB
    have HO408 := n0_
    have HO412 := n1_
    replace BK403 := Az_ (ukbz_ BK403.out hb)
    replace BK404 := Az_ (ukbz_ BK404.out hb)
    have HB := n4_
    clear n0_ n1_ n4_
    clear hb
    clear ho0
    obtain ⟨Ao27, co27, eo27⟩ := Kd.R_slice HO412.out
    (first | subst eo27 | (injection eo27 with f1_ f2_ f3_; have f4_ := f1_.symm; have f5_ := f3_.symm; clear f1_ f2_ f3_; subst f4_; subst f5_))
    refine hK.out _ _ ⟨(blk_cell BK403.out 0).trans rfl, (blk_cell BK403.out 1).trans rfl⟩ (fun hHeld => ?_)
    clear hK K
    refine nz_ 23 ?_
    refine pz_ 5 26 [6,2] ?_
    refine one_ (i := 6) (N := some 8) (mz_ [7,1]) rfl rfl (one_of HT_.out (w94_)) (by decide) (fun K hK => ?_)
    refine box_step ?hg (N := 8) ?hd (cs := #[.slice none 0 0, .int .i64 0]) (t := 26) ?hr ?_; (case hd => rfl); (case hg => rfl); (case hr => first | (go_simp; done) | (go_simp; rfl))
    intro gb413 hg w28 hbox hb
    have n0_ := Az_ (Kd.R_below (w89_) hb)
    have n1_ := Az_ (Kd.R_below (by exact urz_ HO412.out) hb)
    have n4_ := Az_ (btz_ (w52_) hb)
    have n5_ := Az_ (hbox)
    have n6_ := Az_ ((by rw [hg]; exact (below_size (w52_)) : w.heap.size ≤ gb413))
    have n7_ := Az_ ((by rw [hg]; exact (below_size (w52_)) : w.heap.size ≤ gb413))
    have n8_ := Az_ ((by rw [hg]; exact Nat.ne_of_lt (uklz_ BK403.out) : gb403 ≠ gb413))
    have n9_ := Az_ ((by rw [hg]; exact Nat.ne_of_gt (uklz_ BK403.out) : gb413 ≠ gb403))
    have n10_ := Az_ ((by rw [hg]; exact Nat.ne_of_lt (uklz_ BK404.out) : gb404 ≠ gb413))
    have n11_ := Az_ ((by rw [hg]; exact Nat.ne_of_gt (uklz_ BK404.out) : gb413 ≠ gb404))
    clear HO408 HO412 HB
    have HO408 := n0_
    have HO412 := n1_
    replace BK403 := Az_ (ukbz_ BK403.out hb)
    replace BK404 := Az_ (ukbz_ BK404.out hb)
    have HB := n4_
    have BK413 := n5_
    have GW413 := n6_
    have GE413 := n7_
    have NB403_413 := n8_
    have NB413_403 := n9_
    have NB404_413 := n10_
    have NB413_404 := n11_
    clear n0_ n1_ n4_ n5_ n6_ n7_ n8_ n9_ n10_ n11_ hb hbox hg
    refine hK.out _ _ ⟨(blk_cell BK403.out 0).trans rfl, (blk_cell BK403.out 1).trans rfl⟩ (fun hHeld => ?_)
    clear hK K
    refine nz_ 8 ?_
    exact norm_ (w73_) (hCont (.slice Ao27 t410.length co27, gb413) _ ⟨hHeld, (by (with_reducible repeat (first | apply raz_ | apply rnz_ | apply rdz_)); exact Kd.R_mono HO408.out (fun _ hk => hk.2)), (by (with_reducible repeat (first | apply raz_ | apply rnz_ | apply rdz_)); exact Kd.R_mono HO412.out (fun _ hk => hk.2)), (by exact ukz_ BK403.out), (by exact ukz_ BK404.out), (by exact ukz_ BK413.out), GW413.out, GE413.out, NB403_413.out, NB413_403.out, NB404_413.out, NB413_404.out, (w52_)⟩)
   ·skip
    refine box_step ?hg (N := 8) ?hd (cs := #[.slice none 0 0, .int .i64 0]) (t := 26) ?hr ?_; (case hd => rfl); (case hg => rfl); (case hr => first | (go_simp; done) | (go_simp; rfl))
    intro gb413 hg w26 hbox hb
    have n0_ := Az_ (Kd.R_below (w89_) hb)
    have n3_ := Az_ (btz_ (w52_) hb)
    have n4_ := Az_ (hbox)
    have n5_ := Az_ ((by rw [hg]; exact (below_size (w52_)) : w.heap.size ≤ gb413))
    have n6_ := Az_ ((by rw [hg]; exact (below_size (w52_)) : w.heap.size ≤ gb413))
    have n7_ := Az_ ((by rw [hg]; exact Nat.ne_of_lt (uklz_ BK403.out) : gb403 ≠ gb413))
    have n8_ := Az_ ((by rw [hg]; exact Nat.ne_of_gt (uklz_ BK403.out) : gb413 ≠ gb403))
    have n9_ := Az_ ((by rw [hg]; exact Nat.ne_of_lt (uklz_ BK404.out) : gb404 ≠ gb413))
    have n10_ := Az_ ((by rw [hg]; exact Nat.ne_of_gt (uklz_ BK404.out) : gb413 ≠ gb404))
    clear HO408 HB
    have HO408 := n0_
    replace BK403 := Az_ (ukbz_ BK403.out hb)
    replace BK404 := Az_ (ukbz_ BK404.out hb)
    have HB := n3_
    have BK413 := n4_
    have GW413 := n5_
    have GE413 := n6_
    have NB403_413 := n7_
    have NB413_403 := n8_
    have NB404_413 := n9_
    have NB413_404 := n10_
    clear n0_ n3_ n4_ n5_ n6_ n7_ n8_ n9_ n10_ hb hbox hg
    refine hK.out _ _ ⟨(blk_cell BK403.out 0).trans rfl, (blk_cell BK403.out 1).trans rfl⟩ (fun hHeld => ?_)
    clear hK K
    refine nz_ 8 ?_
    refine one_ (i := 2) (N := some 23) (mz_ [5,1,1,1]) rfl rfl (one_of HT_.out (w94_)) (by decide) (fun K hK => ?_)
    refine goes_ Tryz.func52 (w94_) rfl #[.slice A0_0 l0_0.length c0_0] (by rfl) rfl rfl maz_ ?_
    with_reducible refine (clone_Int.calls _ _ l0_0 t410 _ ?side1 ?side2 A8.out).mono ?_
    (case side1 => repeat (first | exact (Kd.C_below HR0_0.out HB.out) | (with_reducible refine Kd.C_alloc ?_ _) | (with_reducible refine Kd.C_drewN ?_ _) | (with_reducible refine Kd.C_drew ?_)))
    (case side2 => exact HC0_0.out)
    rintro e w27 ⟨v411, rfl, ho0, hb⟩
    refine ⟨_, rfl, ?_⟩
    have n0_ := Az_ (rez_ (w89_) (Kd.R_base ho0) hb)
    have n1_ := Az_ (Kd.R_lower (Kd.R_new' ho0 (Kd.R_lt (w89_))) (below_size (w52_)))
    have n5_ := Az_ (btz_ (w52_) hb)
    clear HO408 HB
    have HO408 := n0_
    have HO412 := n1_
    replace BK403 := Az_ (ukbz_ BK403.out hb)
    replace BK404 := Az_ (ukbz_ BK404.out hb)
    replace BK413 := Az_ (ukbz_ BK413.out hb)
    have HB := n5_
    clear n0_ n1_ n5_
    clear hb
    clear ho0
    obtain ⟨Ao28, co28, eo28⟩ := Kd.R_slice HO412.out
    (first | subst eo28 | (injection eo28 with f1_ f2_ f3_; have f4_ := f1_.symm; have f5_ := f3_.symm; clear f1_ f2_ f3_; subst f4_; subst f5_))
    refine hK.out _ _ ⟨(blk_cell BK403.out 0).trans rfl, (blk_cell BK403.out 1).trans rfl⟩ (fun hHeld => ?_)
    clear hK K
    refine nz_ 23 ?_
    refine pz_ 5 26 [7,1] ?_
    exact norm_ (w73_) (hCont (.slice Ao28 t410.length co28, gb413) _ ⟨hHeld, (by (with_reducible repeat (first | apply raz_ | apply rnz_ | apply rdz_)); exact Kd.R_mono HO408.out (fun _ hk => hk.2)), (by (with_reducible repeat (first | apply raz_ | apply rnz_ | apply rdz_)); exact Kd.R_mono HO412.out (fun _ hk => hk.2)), (by exact ukz_ BK403.out), (by exact ukz_ BK404.out), (by exact ukz_ BK413.out), GW413.out, GE413.out, NB403_413.out, NB413_403.out, NB404_413.out, NB413_404.out, (w52_)⟩)
  rintro ⟨v411, gb413⟩ w29 ⟨hS_, h0_, h1_, h2_, h3_, h4_, h5_, h6_, h7_, h8_, h9_, h10_, h11_⟩
  have n0_ : Aside0 (Kd.R (Kd.int .i64) 3 w29 w.heap.size (fun k_ => some k_ ≠ (v411 : Value).ownBlock) (.slice Ao23 y406.length co23) y406) := ⟨h0_⟩
  have n1_ : Aside0 (Kd.R (Kd.int .i64) 3 w29 w.heap.size (fun k_ => some k_ ≠ (.slice Ao23 y406.length co23 : Value).ownBlock) v411 t410) := ⟨h1_⟩
  have n2_ : Aside0 (w29.heap[gb403]? = some (.cells #[.slice A0_0 l0_0.length c0_0, .int .i64 a0_1] 26 (0, 0))) := ⟨h2_⟩
  have n3_ : Aside0 (w29.heap[gb404]? = some (.cells #[.slice none 0 0, .int .i64 0] 26 (0, 0))) := ⟨h3_⟩
  have n4_ : Aside0 (w29.heap[gb413]? = some (.cells #[.slice none 0 0, .int .i64 0] 26 (0, 0))) := ⟨h4_⟩
  have n5_ : Aside0 (w.heap.size ≤ gb413) := ⟨h5_⟩
  have n6_ : Aside0 (w.heap.size ≤ gb413) := ⟨h6_⟩
  have n7_ : Aside0 (gb403 ≠ gb413) := ⟨h7_⟩
  have n8_ : Aside0 (gb413 ≠ gb403) := ⟨h8_⟩
  have n9_ : Aside0 (gb404 ≠ gb413) := ⟨h9_⟩
  have n10_ : Aside0 (gb413 ≠ gb404) := ⟨h10_⟩
  have n11_ : Aside0 (Below w.heap.size w w29) := ⟨h11_⟩
  clear HO408 BK403 BK404 HB h0_ h1_ h2_ h3_ h4_ h5_ h6_ h7_ h8_ h9_ h10_ h11_
  have HO408 := n0_
  have HO412 := n1_
  have BK403 := n2_
  have BK404 := n3_
  have BK413 := n4_
  have GW413 := n5_
  have GE413 := n6_
  have NB403_413 := n7_
  have NB413_403 := n8_
  have NB404_413 := n9_
  have NB413_404 := n10_
  have HB := n11_
  clear n0_ n1_ n2_ n3_ n4_ n5_ n6_ n7_ n8_ n9_ n10_ n11_
  have hHeld : w29.cell? ⟨gb403, 0, none⟩ = some (.slice A0_0 l0_0.length c0_0) ∧ w29.cell? ⟨gb403, 1, none⟩ = some (.int .i64 a0_1) := hS_
  obtain ⟨Ao30, co30, eo30⟩ := Kd.R_slice HO412.out
  (first | subst eo30 | (injection eo30 with f1_ f2_ f3_; have f4_ := f1_.symm; have f5_ := f3_.symm; clear f1_ f2_ f3_; subst f4_; subst f5_))
  refine norm_ (a' := ?_) ?_ ?_
  rotate_left
  ·simp only [putAll, Act.put, List.setIfInBounds_toArray, List.set_cons_zero, List.set_cons_succ]
   rfl
  refine one_ (i := 7) (N := none) (mz_ [8]) rfl rfl (one_of HT_.out (w94_)) (by decide) (fun K hK => ?_)
  have hs31 : w29.cell? ⟨gb413, 0, none⟩ = some (.slice none 0 0) := (blk_cell BK413.out 0).trans rfl
  have hfs31 := blk_frozen BK413.out 0
  have hns31_0 := NB403_413.out
  have hns31_1 := NB404_413.out
  have hms31_0 := NB413_403.out
  have hms31_1 := NB413_404.out
  have hs32 : w29.cell? ⟨gb413, 1, none⟩ = some (.int .i64 0) := (blk_cell BK413.out 1).trans rfl
  have hfs32 := blk_frozen BK413.out 1
  have hns32_0 := NB403_413.out
  have hns32_1 := NB404_413.out
  have hms32_0 := NB413_403.out
  have hms32_1 := NB413_404.out
  refine skip_ (w1 := ?_) (by rfl) rfl ?_ ?_
  rotate_left
  ·go_simp
   rfl
  refine hK.out _ _ ⟨((cell_far (p := ⟨gb413, _, none⟩) NB403_413.out _).trans (((cell_far (p := ⟨gb413, _, none⟩) NB403_413.out _).trans (hHeld.1)))), ((cell_far (p := ⟨gb413, _, none⟩) NB403_413.out _).trans (((cell_far (p := ⟨gb413, _, none⟩) NB403_413.out _).trans (hHeld.2))))⟩ (fun hHeld => ?_)
  clear hK K
  refine done_ (done_of HT_.out (w94_)) ?_
  try go_wp2
  have n0_ : Aside0 (Kd.R (Kd.int .i64) 3 ((w29.setCell ⟨gb413, 0, none⟩ (.slice Ao30 t410.length co30)).setCell ⟨gb413, 1, none⟩ (.int .i64 a0_1)) w.heap.size (fun k_ => some k_ ≠ (.slice Ao30 t410.length co30 : Value).ownBlock) (.slice Ao23 y406.length co23) y406) := ⟨by (with_reducible repeat (first | apply raz_ | apply rnz_ | apply rdz_)); exact Kd.R_mono (Kd.R_far (p := ⟨gb413, 1, none⟩) (Kd.R_far (p := ⟨gb413, 0, none⟩) (Kd.R_types HO408.out BK413.out (by decide)) (fun _ hk => hk.2) (.slice Ao30 t410.length co30)) (fun _ hk => hk.2) (.int .i64 a0_1)) (fun _ hk => hk.1)⟩
  have n1_ : Aside0 (Kd.R (Kd.int .i64) 3 ((w29.setCell ⟨gb413, 0, none⟩ (.slice Ao30 t410.length co30)).setCell ⟨gb413, 1, none⟩ (.int .i64 a0_1)) w.heap.size (fun k_ => some k_ ≠ (.slice Ao23 y406.length co23 : Value).ownBlock) (.slice Ao30 t410.length co30) t410) := ⟨by (with_reducible repeat (first | apply raz_ | apply rnz_ | apply rdz_)); exact Kd.R_mono (Kd.R_far (p := ⟨gb413, 1, none⟩) (Kd.R_far (p := ⟨gb413, 0, none⟩) (Kd.R_types HO412.out BK413.out (by decide)) (fun _ hk => hk.2) (.slice Ao30 t410.length co30)) (fun _ hk => hk.2) (.int .i64 a0_1)) (fun _ hk => hk.1)⟩
  have n2_ : Aside0 (((w29.setCell ⟨gb413, 0, none⟩ (.slice Ao30 t410.length co30)).setCell ⟨gb413, 1, none⟩ (.int .i64 a0_1)).heap[gb403]? = some (.cells #[.slice A0_0 l0_0.length c0_0, .int .i64 a0_1] 26 (0, 0))) := ⟨by (with_reducible repeat (first | refine knz_ ?_ _ | refine kdz_ ?_ | refine kaz_ ?_ _)); refine blk_far ?_ NB403_413.out _; (with_reducible repeat (first | refine knz_ ?_ _ | refine kdz_ ?_ | refine kaz_ ?_ _)); refine blk_far ?_ NB403_413.out _; (with_reducible repeat (first | refine knz_ ?_ _ | refine kdz_ ?_ | refine kaz_ ?_ _)); exact BK403.out⟩
  have n3_ : Aside0 (((w29.setCell ⟨gb413, 0, none⟩ (.slice Ao30 t410.length co30)).setCell ⟨gb413, 1, none⟩ (.int .i64 a0_1)).heap[gb404]? = some (.cells #[.slice none 0 0, .int .i64 0] 26 (0, 0))) := ⟨by (with_reducible repeat (first | refine knz_ ?_ _ | refine kdz_ ?_ | refine kaz_ ?_ _)); refine blk_far ?_ NB404_413.out _; (with_reducible repeat (first | refine knz_ ?_ _ | refine kdz_ ?_ | refine kaz_ ?_ _)); refine blk_far ?_ NB404_413.out _; (with_reducible repeat (first | refine knz_ ?_ _ | refine kdz_ ?_ | refine kaz_ ?_ _)); exact BK404.out⟩
  have n4_ : Aside0 (((w29.setCell ⟨gb413, 0, none⟩ (.slice Ao30 t410.length co30)).setCell ⟨gb413, 1, none⟩ (.int .i64 a0_1)).heap[gb413]? = some (.cells #[.slice Ao30 t410.length co30, .int .i64 a0_1] 26 (0, 0))) := ⟨by (with_reducible repeat (first | refine knz_ ?_ _ | refine kdz_ ?_ | refine kaz_ ?_ _)); refine blk_put (cs := #[.slice Ao30 t410.length co30, .int .i64 0]) ?_ 1 _ rfl; (with_reducible repeat (first | refine knz_ ?_ _ | refine kdz_ ?_ | refine kaz_ ?_ _)); refine blk_put (cs := #[.slice none 0 0, .int .i64 0]) ?_ 0 _ rfl; (with_reducible repeat (first | refine knz_ ?_ _ | refine kdz_ ?_ | refine kaz_ ?_ _)); exact BK413.out⟩
  have n5_ : Aside0 (Below w.heap.size w ((w29.setCell ⟨gb413, 0, none⟩ (.slice Ao30 t410.length co30)).setCell ⟨gb413, 1, none⟩ (.int .i64 a0_1))) := ⟨w52_⟩
  clear HO408
  clear HO412
  clear BK403
  clear BK404
  clear BK413
  clear HB
  generalize ((w29.setCell ⟨gb413, 0, none⟩ (.slice Ao30 t410.length co30)).setCell ⟨gb413, 1, none⟩ (.int .i64 a0_1)) = w33 at n0_ n1_ n2_ n3_ n4_ n5_ ⊢
  have HO408 := n0_
  have HO412 := n1_
  have BK403 := n2_
  have BK404 := n3_
  have BK413 := n4_
  have HB := n5_
  clear n0_ n1_ n2_ n3_ n4_ n5_
  have n0_ := Az_ (rdz_ HO408.out)
  have n1_ := Az_ (rdz_ HO412.out)
  have n2_ := Az_ (kdz_ BK403.out)
  have n3_ := Az_ (kdz_ BK404.out)
  have n4_ := Az_ (kdz_ BK413.out)
  have n5_ := Az_ (bdz_ HB.out)
  clear HO408 HO412 BK403 BK404 BK413 HB
  have HO408 := n0_
  have HO412 := n1_
  have BK403 := n2_
  have BK404 := n3_
  have BK413 := n4_
  have HB := n5_
  clear n0_ n1_ n2_ n3_ n4_ n5_
  have p414 : 0 ≤ (a2 : Int) := od_
  have q414 : a2 < (t410.length : Int) := od_
  obtain ⟨ad414, e414, hx414_0⟩ := Kd.at_int (Kd.R_reads' HO412.out).2.2 a2 p414 q414
  cases e414
  replace p414 := eq_true p414
  replace q414 := eq_true q414
  have p415 : 0 ≤ (a1 : Int) := od_
  have q415 : a1 < (t410.length : Int) := od_
  obtain ⟨ad415, e415, hx415_0⟩ := Kd.at_int (Kd.R_reads' HO412.out).2.2 a1 p415 q415
  obtain rfl : ad414 = ad415 := (by injection e415)
  replace p415 := eq_true p415
  replace q415 := eq_true q415
  have p13 : 0 ≤ (a1 : Int) := od_
  have q13 : (a1 : Int) < ((t410.length : Int) : Int) := od_
  obtain ⟨go13, co13, eo13, gb13, gl13, cl13, HG13⟩ := Kd.R_form HO412.out (by omega)
  (first | cases eo13 | (injection eo13 with ea_ en_ ec_; (first | subst ea_ | (injection ea_ with ea_; subst ea_)); subst ec_; clear en_))
  have GB13 := Az_ gb13
  have GG13 := Az_ HG13
  clear gb13 gl13 HG13
  (first | simp only [add_plain] at hx414_0 | skip)
  (first | simp only [add_plain] at hx415_0 | skip)
  obtain ⟨hx13_0, hf13_0⟩ := Kd.R_celln 0 HO412.out (a1 : Int) p13 q13
  replace p13 := eq_true p13
  replace q13 := eq_true q13
  have HP35 := Kd.R_putn HO412.out (a1 : Int) (rd t410 a2)
  rw [← Ny416.out] at HP35
  have HQ35 := Az_ HP35
  clear HP35
  have p14 : 0 ≤ (a2 : Int) := od_
  have q14 : (a2 : Int) < ((t410.length : Int) : Int) := od_
  obtain ⟨hx14_0, hf14_0⟩ := Kd.R_celln 0 HQ35.out (a2 : Int) p14 q14
  replace p14 := eq_true p14
  replace q14 := eq_true q14
  have HP36 := Kd.R_putn HQ35.out (a2 : Int) (rd t410 a1)
  rw [← Ny417.out] at HP36
  have HQ36 := Az_ HP36
  clear HP36
  refine start_ (n := 20) (S := fun w' => w'.cell? ⟨gb413, 0, none⟩ = some (.slice (some ⟨go13, 0, none⟩) t410.length co30)) (ds := [19]) #[false, false, false, false, false, false, false, false, false, false, false, false, false, false, false, false, false, false, false, false] (w94_) rfl rfl ((blk_cell BK413.out 0).trans rfl) (fun hHeld => ?_)
  generalize w33.drew = w34 at HO408 HO412 BK403 BK404 BK413 HB GG13 HQ35 HQ36 hf13_0 hf14_0 hx13_0 hx14_0 hx414_0 hx415_0 hHeld ⊢
  refine pure_ (i := 0) (N := some 27) (v := ?_) (a' := ?_) (mz_ [1,19]) rfl rfl (w94_) (fun _ _ _ h => h) (Or.inl ⟨by rfl, ?_⟩) ?_ ?_
  rotate_left
  · intro w'
    go_simp
    with_reducible rfl
  rotate_left
  · simp only [Act.put, List.setIfInBounds_toArray, List.set_cons_zero, List.set_cons_succ, i64_w, i32_w]
    rfl
  refine pure_ (i := 2) (N := some 29) (v := ?_) (a' := ?_) (mz_ [1,1,1,17]) rfl rfl (w94_) (fun _ _ _ h => h) (Or.inl ⟨by rfl, ?_⟩) ?_ ?_
  rotate_left
  · intro w'
    go_simp
    with_reducible rfl
  rotate_left
  · simp only [Act.put, List.setIfInBounds_toArray, List.set_cons_zero, List.set_cons_succ, i64_w, i32_w]
    rfl
  refine pure_ (i := 3) (N := some 30) (v := ?_) (a' := ?_) (mz_ [1,1,2,16]) rfl rfl (w94_) (fun _ _ _ h => h) (Or.inl ⟨by rfl, ?_⟩) ?_ ?_
  rotate_left
  · intro w'
    go_simp
    with_reducible rfl
  rotate_left
  · simp only [Act.put, List.setIfInBounds_toArray, List.set_cons_zero, List.set_cons_succ, i64_w, i32_w]
    rfl
  refine pure_ (i := 5) (N := some 32) (v := ?_) (a' := ?_) (mz_ [1,1,2,1,1,14]) rfl rfl (w94_) (fun _ _ _ h => h) (Or.inl ⟨by rfl, ?_⟩) ?_ ?_
  rotate_left
  · intro w'
    go_simp
    with_reducible rfl
  rotate_left
  · simp only [Act.put, List.setIfInBounds_toArray, List.set_cons_zero, List.set_cons_succ, i64_w, i32_w]
    rfl
  refine pure_ (i := 6) (N := some 33) (v := ?_) (a' := ?_) (mz_ [1,1,2,1,2,13]) rfl rfl (w94_) (fun _ _ _ h => h) (Or.inl ⟨by rfl, ?_⟩) ?_ ?_
  rotate_left
  · intro w'
    go_simp
    with_reducible rfl
  rotate_left
  · simp only [Act.put, List.setIfInBounds_toArray, List.set_cons_zero, List.set_cons_succ, i64_w, i32_w]
    rfl
  refine pure_ (i := 8) (N := some 35) (v := ?_) (a' := ?_) (mz_ [1,1,2,1,2,1,1,11]) rfl rfl (w94_) (fun _ _ _ h => h) (Or.inl ⟨by rfl, ?_⟩) ?_ ?_
  rotate_left
  · intro w'
    go_simp
    with_reducible rfl
  rotate_left
  · simp only [Act.put, List.setIfInBounds_toArray, List.set_cons_zero, List.set_cons_succ, i64_w, i32_w]
    rfl
  refine pure_ (i := 11) (N := some 38) (v := ?_) (a' := ?_) (mz_ [1,1,2,1,2,1,1,2,1,8]) rfl rfl (w94_) (fun _ _ _ h => h) (Or.inl ⟨by rfl, ?_⟩) ?_ ?_
  rotate_left
  · intro w'
    go_simp
    with_reducible rfl
  rotate_left
  · simp only [Act.put, List.setIfInBounds_toArray, List.set_cons_zero, List.set_cons_succ, i64_w, i32_w]
    rfl
  refine pure_ (i := 13) (N := some 40) (v := ?_) (a' := ?_) (mz_ [1,1,2,1,2,1,1,2,1,1,1,6]) rfl rfl (w94_) (fun _ _ _ h => h) (Or.inl ⟨by rfl, ?_⟩) ?_ ?_
  rotate_left
  · intro w'
    go_simp
    with_reducible rfl
  rotate_left
  · simp only [Act.put, List.setIfInBounds_toArray, List.set_cons_zero, List.set_cons_succ, i64_w, i32_w]
    rfl
  refine take_ (i := 1) (N := some 28) (v := ?_) (a' := ?_) (mz_ [4,1,2,1,1,2,1,1,1,6]) rfl rfl (w94_) (fun _ _ _ h => h) (Or.inl ⟨by rfl, ?_⟩) hHeld ?_ ?_
  rotate_left
  · intro w' s0
    go_simp
    with_reducible rfl
  rotate_left
  · simp only [Act.put, List.setIfInBounds_toArray, List.set_cons_zero, List.set_cons_succ, i64_w, i32_w]
    rfl
  refine take_ (i := 4) (N := some 31) (v := ?_) (a' := ?_) (mz_ [7,1,1,2,1,1,1,6]) rfl rfl (w94_) (fun _ _ _ h => h) (Or.inl ⟨by rfl, ?_⟩) hHeld ?_ ?_
  rotate_left
  · intro w' s0
    go_simp
    with_reducible rfl
  rotate_left
  · simp only [Act.put, List.setIfInBounds_toArray, List.set_cons_zero, List.set_cons_succ, i64_w, i32_w]
    rfl
  refine take_ (i := 7) (N := some 34) (v := ?_) (a' := ?_) (mz_ [9,2,1,1,1,6]) rfl rfl (w94_) (fun _ _ _ h => h) (Or.inl ⟨by rfl, ?_⟩) hHeld ?_ ?_
  rotate_left
  · intro w' s0
    go_simp
    with_reducible rfl
  rotate_left
  · simp only [Act.put, List.setIfInBounds_toArray, List.set_cons_zero, List.set_cons_succ, i64_w, i32_w]
    rfl
  refine pure_ (i := 9) (N := some 36) (v := ?_) (a' := ?_) (mz_ [10,1,1,1,1,6]) rfl rfl (w94_) (fun _ _ _ h => h) (Or.inl ⟨by rfl, ?_⟩) ?_ ?_
  rotate_left
  · intro w'
    go_simp
    with_reducible rfl
  rotate_left
  · simp only [Act.put, List.setIfInBounds_toArray, List.set_cons_zero, List.set_cons_succ, i64_w, i32_w]
    rfl
  refine take_ (i := 12) (N := some 39) (v := ?_) (a' := ?_) (mz_ [10,1,3,6]) rfl rfl (w94_) (fun _ _ _ h => h) (Or.inl ⟨by rfl, ?_⟩) hHeld ?_ ?_
  rotate_left
  · intro w' s0
    go_simp
    with_reducible rfl
  rotate_left
  · simp only [Act.put, List.setIfInBounds_toArray, List.set_cons_zero, List.set_cons_succ, i64_w, i32_w]
    rfl
  refine pure_ (i := 14) (N := some 41) (v := ?_) (a' := ?_) (mz_ [10,1,4,5]) rfl rfl (w94_) (fun _ _ _ h => h) (Or.inl ⟨by rfl, ?_⟩) ?_ ?_
  rotate_left
  · intro w'
    go_simp
    with_reducible rfl
  rotate_left
  · simp only [Act.put, List.setIfInBounds_toArray, List.set_cons_zero, List.set_cons_succ, i64_w, i32_w]
    rfl
  refine join_ (σ := Unit) 4 #[true, true, true, true, true, true, true, true, true, true, true, true, true, true, true, true, false, false, false, false] (fun _ => [(37, .int .i64 (rd t410 a2)), (42, .int .i64 (rd t410 a1))]) (fun _ w' => (w'.cell? ⟨gb413, 0, none⟩ = some (.slice (some ⟨go13, 0, none⟩) t410.length co30)) ∧ w34 = w') ?_ ?_
  rotate_left
  · intro hCont
    refine two_ (i := 10) (j := 15) (Ni := some 37) (Nj := some 42) (mz_ [15,5]) #[true, true, true, true, true, true, true, true, true, true, false, true, true, true, true, true, false, false, false, false] rfl rfl rfl rfl (w94_) (by decide) (by decide) (fun K hK => ?_) (fun K hK => ?_)
    · skip
      refine value_ (w1 := ?_) (v := ?_) (by rfl) rfl ?_ ?_
      rotate_left 2
      · go_simp
        constructor
        · rfl
        · rfl
      refine hK.out _ _ (hHeld) (fun hHeld => ?_)
      clear hK K
      refine norm_ (a' := ?_) ?_ ?_
      rotate_left
      · show Act.put _ (some 37) _ = _
        simp only [Act.put, List.setIfInBounds_toArray, List.set_cons_zero, List.set_cons_succ, i64_w, i32_w]
        rfl
      refine one_ (i := 15) (N := some 42) (mz_ [16,4]) rfl rfl (w94_) (by decide) (fun K hK => ?_)
      refine value_ (w1 := ?_) (v := ?_) (by rfl) rfl ?_ ?_
      rotate_left 2
      · go_simp
        constructor
        · rfl
        · rfl
      refine hK.out _ _ (hHeld) (fun hHeld => ?_)
      clear hK K
      refine norm_ (a' := ?_) ?_ ?_
      rotate_left
      · show Act.put _ (some 42) _ = _
        simp only [Act.put, List.setIfInBounds_toArray, List.set_cons_zero, List.set_cons_succ, i64_w, i32_w]
        rfl
      exact norm_ (w29_) (hCont () _ ⟨hHeld, rfl⟩)
    · skip
      refine value_ (w1 := ?_) (v := ?_) (by rfl) rfl ?_ ?_
      rotate_left 2
      · go_simp
        constructor
        · rfl
        · rfl
      refine hK.out _ _ (hHeld) (fun hHeld => ?_)
      clear hK K
      refine norm_ (a' := ?_) ?_ ?_
      rotate_left
      · show Act.put _ (some 42) _ = _
        simp only [Act.put, List.setIfInBounds_toArray, List.set_cons_zero, List.set_cons_succ, i64_w, i32_w]
        rfl
      refine one_ (i := 10) (N := some 37) (mz_ [16,4]) rfl rfl (w94_) (by decide) (fun K hK => ?_)
      refine value_ (w1 := ?_) (v := ?_) (by rfl) rfl ?_ ?_
      rotate_left 2
      · go_simp
        constructor
        · rfl
        · rfl
      refine hK.out _ _ (hHeld) (fun hHeld => ?_)
      clear hK K
      refine norm_ (a' := ?_) ?_ ?_
      rotate_left
      · show Act.put _ (some 37) _ = _
        simp only [Act.put, List.setIfInBounds_toArray, List.set_cons_zero, List.set_cons_succ, i64_w, i32_w]
        rfl
      exact norm_ (w29_) (hCont () _ ⟨hHeld, rfl⟩)
  rintro _ w' ⟨hHeld, rfl⟩
  refine norm_ (a' := ?_) ?_ ?_
  rotate_left
  · simp only [putAll, Act.put, List.setIfInBounds_toArray, List.set_cons_zero, List.set_cons_succ]
    rfl
  refine pure_ (i := 16) (N := some 43) (v := ?_) (a' := ?_) (mz_ [17,3]) rfl rfl (w94_) (fun _ _ _ h => h) (Or.inl ⟨by rfl, ?_⟩) ?_ ?_
  rotate_left
  · intro w'
    go_simp
    with_reducible rfl
  rotate_left
  · simp only [Act.put, List.setIfInBounds_toArray, List.set_cons_zero, List.set_cons_succ, i64_w, i32_w]
    rfl
  refine one_ (i := 17) (N := none) (mz_ [18,2]) rfl rfl (w94_) (by decide) (fun K hK => ?_)
  refine skip_ (w1 := ?_) (by rfl) rfl ?_ ?_
  rotate_left
  · go_simp
    rfl
  refine hK.out _ _ (((cell_far (p := ⟨go13, _, none⟩) (by have h_ := Kd.R_ne HO412.out BK413.out (by decide); intro e_; exact h_ (congrArg some e_)) _).trans hHeld)) (fun hHeld => ?_)
  clear hK K
  refine pure_ (i := 18) (N := some 44) (v := ?_) (a' := ?_) (mz_ [19,1]) rfl rfl (w94_) (fun _ _ _ h => h) (Or.inl ⟨by rfl, ?_⟩) ?_ ?_
  rotate_left
  · intro w'
    go_simp
    with_reducible rfl
  rotate_left
  · simp only [Act.put, List.setIfInBounds_toArray, List.set_cons_zero, List.set_cons_succ, i64_w, i32_w]
    rfl
  refine last_ (i := 19) (N := none) (mz_ [20]) rfl rfl (w94_) (by decide) (fun K hK => ?_)
  refine skip_ (w1 := ?_) (by rfl) rfl ?_ ?_
  rotate_left
  · go_simp
    rfl
  refine hK.out _ _ ?_
  clear hK K
  refine done_ (w94_) ?_
  have n0_ : Aside0 (Kd.R (Kd.int .i64) 3 ((w34.setCell ⟨go13, (a1 : Int).toNat, none⟩ (.int .i64 (rd t410 a2))).setCell ⟨go13, (a2 : Int).toNat, none⟩ (.int .i64 (rd t410 a1))) w.heap.size (fun k_ => some k_ ≠ (.slice (some ⟨go13, 0, none⟩) t410.length co30 : Value).ownBlock) (.slice Ao23 y406.length co23) y406) := ⟨by (with_reducible repeat (first | apply raz_ | apply rnz_ | apply rdz_)); exact Kd.R_mono (Kd.R_far (p := ⟨go13, (a2 : Int).toNat, none⟩) (Kd.R_far (p := ⟨go13, (a1 : Int).toNat, none⟩) (Kd.R_mono HO408.out (fun k_ hk => (⟨hk, fun e_ => hk (w93_)⟩ : _ ∧ k_ ≠ go13))) (fun _ hk => hk.2) (.int .i64 (rd t410 a2))) (fun _ hk => hk.2) (.int .i64 (rd t410 a1))) (fun _ hk => hk.1)⟩
  have n1_ : Aside0 (Kd.R (Kd.int .i64) 3 ((w34.setCell ⟨go13, (a1 : Int).toNat, none⟩ (.int .i64 (rd t410 a2))).setCell ⟨go13, (a2 : Int).toNat, none⟩ (.int .i64 (rd t410 a1))) w.heap.size (fun k_ => some k_ ≠ (.slice Ao23 y406.length co23 : Value).ownBlock) (.slice (some ⟨go13, 0, none⟩) t410.length co30) y417) := ⟨by (with_reducible repeat (first | apply raz_ | apply rnz_ | apply rdz_)); exact HQ36.out⟩
  have n2_ : Aside0 (((w34.setCell ⟨go13, (a1 : Int).toNat, none⟩ (.int .i64 (rd t410 a2))).setCell ⟨go13, (a2 : Int).toNat, none⟩ (.int .i64 (rd t410 a1))).heap[gb403]? = some (.cells #[.slice A0_0 l0_0.length c0_0, .int .i64 a0_1] 26 (0, 0))) := ⟨by (with_reducible repeat (first | refine knz_ ?_ _ | refine kdz_ ?_ | refine kaz_ ?_ _)); refine blk_far ?_ (by have h_ := Kd.R_ne HO412.out BK403.out (by decide); intro e_; exact h_ (w93_)) _; (with_reducible repeat (first | refine knz_ ?_ _ | refine kdz_ ?_ | refine kaz_ ?_ _)); refine blk_far ?_ (by have h_ := Kd.R_ne HO412.out BK403.out (by decide); intro e_; exact h_ (w93_)) _; (with_reducible repeat (first | refine knz_ ?_ _ | refine kdz_ ?_ | refine kaz_ ?_ _)); exact BK403.out⟩
  have n3_ : Aside0 (((w34.setCell ⟨go13, (a1 : Int).toNat, none⟩ (.int .i64 (rd t410 a2))).setCell ⟨go13, (a2 : Int).toNat, none⟩ (.int .i64 (rd t410 a1))).heap[gb404]? = some (.cells #[.slice none 0 0, .int .i64 0] 26 (0, 0))) := ⟨by (with_reducible repeat (first | refine knz_ ?_ _ | refine kdz_ ?_ | refine kaz_ ?_ _)); refine blk_far ?_ (by have h_ := Kd.R_ne HO412.out BK404.out (by decide); intro e_; exact h_ (w93_)) _; (with_reducible repeat (first | refine knz_ ?_ _ | refine kdz_ ?_ | refine kaz_ ?_ _)); refine blk_far ?_ (by have h_ := Kd.R_ne HO412.out BK404.out (by decide); intro e_; exact h_ (w93_)) _; (with_reducible repeat (first | refine knz_ ?_ _ | refine kdz_ ?_ | refine kaz_ ?_ _)); exact BK404.out⟩
  have n4_ : Aside0 (((w34.setCell ⟨go13, (a1 : Int).toNat, none⟩ (.int .i64 (rd t410 a2))).setCell ⟨go13, (a2 : Int).toNat, none⟩ (.int .i64 (rd t410 a1))).heap[gb413]? = some (.cells #[.slice (some ⟨go13, 0, none⟩) t410.length co30, .int .i64 a0_1] 26 (0, 0))) := ⟨by (with_reducible repeat (first | refine knz_ ?_ _ | refine kdz_ ?_ | refine kaz_ ?_ _)); refine blk_far ?_ (by have h_ := Kd.R_ne HO412.out BK413.out (by decide); intro e_; exact h_ (w93_)) _; (with_reducible repeat (first | refine knz_ ?_ _ | refine kdz_ ?_ | refine kaz_ ?_ _)); refine blk_far ?_ (by have h_ := Kd.R_ne HO412.out BK413.out (by decide); intro e_; exact h_ (w93_)) _; (with_reducible repeat (first | refine knz_ ?_ _ | refine kdz_ ?_ | refine kaz_ ?_ _)); exact BK413.out⟩
  have n5_ : Aside0 (Below w.heap.size w ((w34.setCell ⟨go13, (a1 : Int).toNat, none⟩ (.int .i64 (rd t410 a2))).setCell ⟨go13, (a2 : Int).toNat, none⟩ (.int .i64 (rd t410 a1)))) := ⟨by repeat (first | (with_reducible first | exact HB.out | apply baz_ | apply bnz_ | apply bdz_ | refine bsz_ ?_ GB13.out | refine bsz_ ?_ GB13.out | refine bsz_ ?_ GE403.out | refine bsz_ ?_ GE404.out | refine bsz_ ?_ GE413.out) | exact HB.out)⟩
  clear HO408
  clear HO412
  clear BK403
  clear BK404
  clear BK413
  clear HB
  generalize ((w34.setCell ⟨go13, (a1 : Int).toNat, none⟩ (.int .i64 (rd t410 a2))).setCell ⟨go13, (a2 : Int).toNat, none⟩ (.int .i64 (rd t410 a1))) = w37 at n0_ n1_ n2_ n3_ n4_ n5_ ⊢
  have HO408 := n0_
  have HO412 := n1_
  have BK403 := n2_
  have BK404 := n3_
  have BK413 := n4_
  have HB := n5_
  clear n0_ n1_ n2_ n3_ n4_ n5_
  have hnb38 := NB413_403.out
  have hnc38 := NB403_413.out
  have hnb39 := NB413_404.out
  have hnc39 := NB404_413.out
  have hcz40_0 : w37.cell? ⟨gb413, 0, none⟩ = some (.slice (some ⟨go13, 0, none⟩) t410.length co30) := (blk_cell BK413.out 0).trans rfl
  have hcz40_1 : w37.cell? ⟨gb413, 1, none⟩ = some (.int .i64 a0_1) := (blk_cell BK413.out 1).trans rfl
  have hfz40_0 := blk_frozen BK413.out 0
  have hfz40_1 := blk_frozen BK413.out 1
  have hcz41_0 : w37.cell? ⟨gb404, 0, none⟩ = some (.slice none 0 0) := (blk_cell BK404.out 0).trans rfl
  have hcz41_1 : w37.cell? ⟨gb404, 1, none⟩ = some (.int .i64 0) := (blk_cell BK404.out 1).trans rfl
  have hfz41_0 := blk_frozen BK404.out 0
  have hfz41_1 := blk_frozen BK404.out 1
  try go_wp2
  refine bodyPost_ret (results_ct rfl _ _ gb404 26 #[.slice (some ⟨go13, 0, none⟩) t410.length co30, .int .i64 a0_1] (0, 0) _ rfl (by (with_reducible repeat (first | refine knz_ ?_ _ | refine kdz_ ?_ | refine kaz_ ?_ _)); refine blk_put (cs := #[.slice (some ⟨go13, 0, none⟩) t410.length co30, .int .i64 0]) ?_ 1 _ rfl; (with_reducible repeat (first | refine knz_ ?_ _ | refine kdz_ ?_ | refine kaz_ ?_ _)); refine blk_put (cs := #[.slice none 0 0, .int .i64 0]) ?_ 0 _ rfl; (with_reducible repeat (first | refine knz_ ?_ _ | refine kdz_ ?_ | refine kaz_ ?_ _)); exact BK404.out) Tryz.underlying26 rfl (w94_)) rfl ?_
  exact ⟨_, w74_, by (with_reducible repeat (first | apply raz_ | apply rnz_ | apply rdz_)); exact Kd.R_mono (Kd.R_far (p := ⟨gb404, 1, none⟩) (Kd.R_far (p := ⟨gb404, 0, none⟩) (Kd.R_types HO412.out BK404.out (by decide)) (fun _ hk => hk.2) (.slice (some ⟨go13, 0, none⟩) t410.length co30)) (fun _ hk => hk.2) (.int .i64 a0_1)) (fun _ hk => trivial), w52_⟩
 ·replace c5 := Bool.eq_false_iff.mpr c5
  subst c5
  rw [if_neg nfz_] at H
  simp only [Option.some.injEq, Prod.mk.injEq] at H
  obtain ⟨rfl, rfl, rfl⟩ := H
  go_enter Tryz.func28, Tryz.ntmps28
  go_wp2_with (first | ((with_reducible refine gate_dst (N := 3) rfl ?_); (try (refine gate_guard (by rfl) ?_; dsimp only)); refine box_event ?hg (N := 3) ?hd (cs := #[.slice A0_0 l0_0.length c0_0, .int .i64 a0_1]) (t := 26) ?hr ?_; (case hd => rfl); (case hg => rfl); (case hr => first | (go_simp; done) | (go_simp; rfl)); intro gb403 hg w53 hbox hb; have BK403 := Az_ (hbox); have GW403 := Az_ ((by rw [hg]; exact (below_size (ubz_ HB.out)) : w.heap.size ≤ gb403)); have GE403 := Az_ ((by rw [hg]; exact (below_size (ubz_ HB.out)) : w.heap.size ≤ gb403)); replace HB := Az_ (btz_ (ubz_ HB.out) hb); clear hb hbox hg) | ((with_reducible refine gate_dst (N := 6) rfl ?_); (try (refine gate_guard (by rfl) ?_; dsimp only)); refine box_event ?hg (N := 6) ?hd (cs := #[.slice none 0 0, .int .i64 0]) (t := 26) ?hr ?_; (case hd => rfl); (case hg => rfl); (case hr => first | (go_simp; done) | (go_simp; rfl)); intro gb404 hg w54 hbox hb; have n1_ := Az_ (btz_ (w52_) hb); have n2_ := Az_ (hbox); have n3_ := Az_ ((by rw [hg]; exact (below_size (w52_)) : w.heap.size ≤ gb404)); have n4_ := Az_ ((by rw [hg]; exact (below_size (w52_)) : w.heap.size ≤ gb404)); have n5_ := Az_ ((by rw [hg]; exact Nat.ne_of_lt (uklz_ BK403.out) : gb403 ≠ gb404)); have n6_ := Az_ ((by rw [hg]; exact Nat.ne_of_gt (uklz_ BK403.out) : gb404 ≠ gb403)); clear HB; replace BK403 := Az_ (ukbz_ BK403.out hb); have HB := n1_; have BK404 := n2_; have GW404 := n3_; have GE404 := n4_; have NB403_404 := n5_; have NB404_403 := n6_; clear n1_ n2_ n3_ n4_ n5_ n6_; clear hb hbox hg; have hnb55 := NB403_404.out; have hnc55 := NB404_403.out; have hcz56_0 : w54.cell? ⟨gb403, 0, none⟩ = some (.slice A0_0 l0_0.length c0_0) := (blk_cell BK403.out 0).trans rfl; have hcz56_1 : w54.cell? ⟨gb403, 1, none⟩ = some (.int .i64 a0_1) := (blk_cell BK403.out 1).trans rfl; have hfz56_0 := blk_frozen BK403.out 0; have hfz56_1 := blk_frozen BK403.out 1) | ((with_reducible refine gate_callee (f := 19) rfl ?_); refine goesL_ (some 10) rfl rfl Tryz.func19 (w94_) rfl #[.agg #[.slice A0_0 l0_0.length c0_0, .int .i64 a0_1]] rfl maz_ ?_; (with_reducible refine (impl_IsShelf.calls k _ _ l0_0 a0_1 false _ ?side1 ?side2 A4.out).mono ?_); (case side1 => exact ucz_ ((Kd.C_below HR0_0.out HB.out))); (case side2 => exact HC0_0.out); rintro e w57 ⟨rfl, hb⟩; refine ⟨_, rfl, ?_⟩; have n2_ := Az_ (btz_ (w52_) hb); clear HB; replace BK403 := Az_ (ukbz_ BK403.out hb); replace BK404 := Az_ (ukbz_ BK404.out hb); have HB := n2_; clear n2_; (try clear hb); have hcz58_0 : w57.cell? ⟨gb404, 0, none⟩ = some (.slice none 0 0) := (blk_cell BK404.out 0).trans rfl; have hcz58_1 : w57.cell? ⟨gb404, 1, none⟩ = some (.int .i64 0) := (blk_cell BK404.out 1).trans rfl; have hfz58_0 := blk_frozen BK404.out 0; have hfz58_1 := blk_frozen BK404.out 1))
  refine bodyPost_ret (results_ct rfl _ _ gb404 26 #[.slice none 0 0, .int .i64 0] (0, 0) _ rfl (w3_) Tryz.underlying26 rfl (w94_)) rfl ?_
  exact ⟨_, w74_, w53_, w52_⟩


def spec_l1Own.f (l0 : List Int) : Option (List Int) := (some (([] : List Int) : List Int)).bind fun y418 => (if y418.length + l0.length < 17592186044416 then (some (y418 ++ l0)) else (none))
set_option maxHeartbeats 8000000 in
set_option maxRecDepth 100000 in
theorem spec_l1Own.calls (A0 : Option Addr) (c0 : Nat) (l0 : List Int) (r : List Int) (w : World) (hr0 : Kd.C (Kd.int .i64) w A0 l0.length l0) (hc0 : l0.length ≤ c0) (h : spec_l1Own.f l0 = some r) :
  Calls Tryz.prog 53 #[.slice A0 l0.length c0] w fun e w' => ∃ v0_ : Value, e = .returned (v0_) ∧ Kd.R (Kd.int .i64) 3 w' w.heap.size (fun _ => True) v0_ r ∧ Below w.heap.size w w' := by
 have HR0 := Az_ hr0
 have HC0 := Az_ hc0
 clear hr0 hc0
 have HB := Az_ (Below.refl w.heap.size w)
 have H : ((some (([] : List Int) : List Int)).bind fun y418 => (if y418.length + l0.length < 17592186044416 then (some (y418 ++ l0)) else (none))) = some r := h
 clear h
 obtain ⟨y418, hy418⟩ : ∃ y_ : List Int, y_ = (([] : List Int)) := ⟨_, rfl⟩
 replace H : (if y418.length + l0.length < 17592186044416 then (some (y418 ++ l0)) else (none)) = some r := by first | (rw [hy418]; with_reducible exact H) | (have H2_ := (Option.bind_some _ _).symm.trans H; rw [hy418]; with_reducible exact H2_) | (have H2_ := (Option.bind_some _ _).symm.trans H; with_reducible exact H2_) | with_reducible exact H | (rw [hy418]; exact H) | exact H
 have Ny418 := Az_ hy418
 clear hy418
 by_cases c2 : y418.length + l0.length < 17592186044416
 ·rw [if_pos c2] at H
  have LMc2 := Az_ c2
  clear c2
  obtain ⟨y421, hy421⟩ : ∃ y_ : List Int, y_ = (y418 ++ l0) := ⟨_, rfl⟩
  replace H : (some y421) = some r := by first | (rw [hy421]; with_reducible exact H) | (have H2_ := (Option.bind_some _ _).symm.trans H; rw [hy421]; with_reducible exact H2_) | (have H2_ := (Option.bind_some _ _).symm.trans H; with_reducible exact H2_) | with_reducible exact H | (rw [hy421]; exact H) | exact H
  have Ny421 := Az_ hy421
  clear hy421
  obtain rfl := Option.some.inj H
  go_enter Tryz.func53, Tryz.ntmps53
  go_wp2_with (first | ((with_reducible refine gate_dst (N := 3) rfl ?_); refine Kd.R_lit (Kd.int .i64) _ 3 ?hg (N := 3) ?hd (xs := ([] : List Int)) (inner := []) (ok := fun _ => True) (okp := fun _ => True) ?hr ?hp (fun _ hk => hk) trivial (Below.refl _ _) (Nat.le_refl _) (by simp) ?_; (case hd => rfl); (case hg => rfl); (case hr => first | (go_simp; done) | (go_simp; rfl)); (case hp => exact (Reps.none _ _)); intro v419 w3 ho4 hb hg_ hnew_; clear hg_ hnew_; (first | rw [← Ny418.out] at ho4 | (simp only [Int.reduceToNat] at ho4; rw [← Ny418.out] at ho4)); have HO420 := Az_ (Kd.R_lower ho4 (below_size (ubz_ HB.out))); replace HB := Az_ (btz_ (ubz_ HB.out) hb); clear hb ho4) | ((with_reducible refine gate_builtin (b := .append) (xs := #[.tmp 3, .tmp 4]) rfl ?_); at_builtin; refine Kd.R_append_rows (Kd.int .i64) (w0 := w) w.heap.size rfl (.tmp 3) (.tmp 4) 24 3 (.int .i64 0) 8 rfl Tryz.underlying24 info3 rfl (by decide) (by omega) v419 y418 l0 _ _ _ (fun _ => True) (fun _ => False) rfl rfl ?aO ?aR (fun _ _ h => h) (fun _ h => h.elim) ?aF ?aB ?aS ?aL ?_; (case aR => repeat (first | exact (Kd.C_below HR0.out HB.out) | (with_reducible refine Kd.C_alloc ?_ _) | (with_reducible refine Kd.C_drewN ?_ _) | (with_reducible refine Kd.C_drew ?_))); (case aB => exact (ubz_ HB.out)); (case aF => exact (fun _ _ => trivial)); (case aO => exact (by exact urz_ HO420.out)); (case aS => exact (below_size (ubz_ HB.out))); (case aL => have := LMc2.out; omega); intro v422 w5 ho hb hg hat; rw [← Ny421.out] at ho; replace HB := Az_ (hb); have HO423 := Az_ (ho); clear HO420; clear ho hb hg hat))
  go_ret
  exact ⟨_, w74_, by (with_reducible repeat (first | apply raz_ | apply rnz_ | apply rdz_)); exact HO423.out, w92_⟩
 ·rw [if_neg c2] at H
  exact absurd H (by simp)


def spec_SwapVolumes.f (k : Nat) (l0_0 : List Int) (a0_1 : Int) (a1 : Int) (a2 : Int) : Option (List Int × Int × Bool) := (spec_shBoth.f k l0_0 a0_1 a1).bind fun t426 => (if t426 = true then ((spec_shBoth.f k l0_0 a0_1 a2).bind fun t427 => (if t427 = true then ((spec_l1Own.f l0_0).bind fun t428 => (if 0 ≤ a2 then (if a2 < (l0_0.length : Int) then (if 0 ≤ a1 then (if a1 < (t428.length : Int) then (if a1 < (l0_0.length : Int) then (if a2 < (t428.length : Int) then (some (((t428.set (a1 : Int).toNat (rd l0_0 a2)).set (a2 : Int).toNat (rd l0_0 a1)), a0_1, true)) else (none)) else (none)) else (none)) else (none)) else (none)) else (none))) else (some (([] : List Int), 0, false)))) else (some (([] : List Int), 0, false)))
def spec_SwapVolumes.T3 : Bool × List (List Nat × List Nat) := (true, [([], []), ([0], [0]), ([1], [1]), ([], []), ([3], [3]), ([2, 4], [2, 4]), ([], []), ([6, 5, 2, 0, 1, 2, 3, 4, 5, 6], [5, 6])])
def spec_SwapVolumes.B3 : List Nat := [0, 1, 3, 0, 8, 31, 0, 127]
theorem spec_SwapVolumes.tab3 : rtab .any (opsOf Tryz.f29 3) = spec_SwapVolumes.T3 := by kernel_rfl
theorem spec_SwapVolumes.bits3 : waitsOk spec_SwapVolumes.T3.2 spec_SwapVolumes.B3 = true := by kernel_rfl
def spec_SwapVolumes.T4 : Bool × List (List Nat × List Nat) := (true, [([], []), ([0], [0]), ([], []), ([], []), ([3], [3]), ([], []), ([4, 5], [4, 5]), ([6], [6]), ([1, 2, 0, 1, 2, 3, 4, 5, 6, 7], [1, 2]), ([8, 7, 0, 1, 2, 3, 4, 5, 6, 7], [7, 8])])
def spec_SwapVolumes.B4 : List Nat := [0, 1, 0, 0, 8, 0, 56, 120, 255, 511]
theorem spec_SwapVolumes.tab4 : rtab .any (opsOf Tryz.f29 4) = spec_SwapVolumes.T4 := by kernel_rfl
theorem spec_SwapVolumes.bits4 : waitsOk spec_SwapVolumes.T4.2 spec_SwapVolumes.B4 = true := by kernel_rfl
def spec_SwapVolumes.T5 : Bool × List (List Nat × List Nat) := (true, [([], []), ([0], [0]), ([], []), ([], []), ([3], [3]), ([], []), ([4, 5], [4, 5]), ([6], [6]), ([1, 2, 0, 1, 2, 3, 4, 5, 6, 7], [1, 2]), ([8, 7, 0, 1, 2, 3, 4, 5, 6, 7], [7, 8])])
def spec_SwapVolumes.B5 : List Nat := [0, 1, 0, 0, 8, 0, 56, 120, 255, 511]
theorem spec_SwapVolumes.tab5 : rtab .any (opsOf Tryz.f29 5) = spec_SwapVolumes.T5 := by kernel_rfl
theorem spec_SwapVolumes.bits5 : waitsOk spec_SwapVolumes.T5.2 spec_SwapVolumes.B5 = true := by kernel_rfl
set_option maxHeartbeats 8000000 in
set_option maxRecDepth 100000 in
theorem spec_SwapVolumes.calls (k : Nat) (A0_0 : Option Addr) (c0_0 : Nat) (l0_0 : List Int) (a0_1 : Int) (a1 : Int) (a2 : Int) (r1 : List Int) (r2 : Int) (r3 : Bool) (w : World) (hr0_0 : Kd.C (Kd.int .i64) w A0_0 l0_0.length l0_0) (hc0_0 : l0_0.length ≤ c0_0) (h : spec_SwapVolumes.f k l0_0 a0_1 a1 a2 = some (r1, r2, r3)) :
  Calls Tryz.prog 29 #[.agg #[.slice A0_0 l0_0.length c0_0, .int .i64 a0_1], .int .i64 a1, .int .i64 a2] w fun e w' => ∃ v0_ : Value, e = .returned (.tuple #[.agg #[v0_, .int .i64 r2], .bool r3]) ∧ Kd.R (Kd.int .i64) 3 w' w.heap.size (fun _ => True) v0_ r1 ∧ Below w.heap.size w w' := by
 have hu26 := Tryz.underlying26
 have HR0_0 := Az_ hr0_0
 have HC0_0 := Az_ hc0_0
 clear hr0_0 hc0_0
 have HB := Az_ (Below.refl w.heap.size w)
 have H : ((spec_shBoth.f k l0_0 a0_1 a1).bind fun t426 => (if t426 = true then ((spec_shBoth.f k l0_0 a0_1 a2).bind fun t427 => (if t427 = true then ((spec_l1Own.f l0_0).bind fun t428 => (if 0 ≤ a2 then (if a2 < (l0_0.length : Int) then (if 0 ≤ a1 then (if a1 < (t428.length : Int) then (if a1 < (l0_0.length : Int) then (if a2 < (t428.length : Int) then (some (((t428.set (a1 : Int).toNat (rd l0_0 a2)).set (a2 : Int).toNat (rd l0_0 a1)), a0_1, true)) else (none)) else (none)) else (none)) else (none)) else (none)) else (none))) else (some (([] : List Int), 0, false)))) else (some (([] : List Int), 0, false)))) = some (r1, r2, r3) := h
 clear h
 replace H := bqz_ H; obtain ⟨t426, A4, H⟩ := H
 replace H : (if t426 = true then ((spec_shBoth.f k l0_0 a0_1 a2).bind fun t427 => (if t427 = true then ((spec_l1Own.f l0_0).bind fun t428 => (if 0 ≤ a2 then (if a2 < (l0_0.length : Int) then (if 0 ≤ a1 then (if a1 < (t428.length : Int) then (if a1 < (l0_0.length : Int) then (if a2 < (t428.length : Int) then (some (((t428.set (a1 : Int).toNat (rd l0_0 a2)).set (a2 : Int).toNat (rd l0_0 a1)), a0_1, true)) else (none)) else (none)) else (none)) else (none)) else (none)) else (none))) else (some (([] : List Int), 0, false)))) else (some (([] : List Int), 0, false))) = some (r1, r2, r3) := H
 by_cases c5 : t426 = true
 ·subst c5
  rw [if_pos rfl] at H
  replace H := bqz_ H; obtain ⟨t427, A6, H⟩ := H
  replace H : (if t427 = true then ((spec_l1Own.f l0_0).bind fun t428 => (if 0 ≤ a2 then (if a2 < (l0_0.length : Int) then (if 0 ≤ a1 then (if a1 < (t428.length : Int) then (if a1 < (l0_0.length : Int) then (if a2 < (t428.length : Int) then (some (((t428.set (a1 : Int).toNat (rd l0_0 a2)).set (a2 : Int).toNat (rd l0_0 a1)), a0_1, true)) else (none)) else (none)) else (none)) else (none)) else (none)) else (none))) else (some (([] : List Int), 0, false))) = some (r1, r2, r3) := H
  by_cases c7 : t427 = true; rotate_left
  ·replace c7 := Bool.eq_false_iff.mpr c7
   subst c7
   rw [if_neg nfz_] at H
   simp only [Option.some.injEq, Prod.mk.injEq] at H
   obtain ⟨rfl, rfl, rfl⟩ := H
   go_enter Tryz.func29, Tryz.ntmps29
   go_wp2_with (first | ((with_reducible refine gate_dst (N := 3) rfl ?_); refine box_event ?hg (N := 3) ?hd (cs := #[.slice A0_0 l0_0.length c0_0, .int .i64 a0_1]) (t := 26) ?hr ?_; (case hd => rfl); (case hg => rfl); (case hr => first | (go_simp; done) | (go_simp; rfl)); intro gb424 hg w43 hbox hb; have BK424 := Az_ (hbox); have GW424 := Az_ ((by rw [hg]; exact (below_size (ubz_ HB.out)) : w.heap.size ≤ gb424)); have GE424 := Az_ ((by rw [hg]; exact (below_size (ubz_ HB.out)) : w.heap.size ≤ gb424)); replace HB := Az_ (btz_ (ubz_ HB.out) hb); clear hb hbox hg) | ((with_reducible refine gate_dst (N := 6) rfl ?_); refine box_event ?hg (N := 6) ?hd (cs := #[.slice none 0 0, .int .i64 0]) (t := 26) ?hr ?_; (case hd => rfl); (case hg => rfl); (case hr => first | (go_simp; done) | (go_simp; rfl)); intro gb425 hg w44 hbox hb; have n1_ := Az_ (btz_ (w52_) hb); have n2_ := Az_ (hbox); have n3_ := Az_ ((by rw [hg]; exact (below_size (w52_)) : w.heap.size ≤ gb425)); have n4_ := Az_ ((by rw [hg]; exact (below_size (w52_)) : w.heap.size ≤ gb425)); have n5_ := Az_ ((by rw [hg]; exact Nat.ne_of_lt (uklz_ BK424.out) : gb424 ≠ gb425)); have n6_ := Az_ ((by rw [hg]; exact Nat.ne_of_gt (uklz_ BK424.out) : gb425 ≠ gb424)); clear HB; replace BK424 := Az_ (ukbz_ BK424.out hb); have HB := n1_; have BK425 := n2_; have GW425 := n3_; have GE425 := n4_; have NB424_425 := n5_; have NB425_424 := n6_; clear n1_ n2_ n3_ n4_ n5_ n6_; clear hb hbox hg; have hnb45 := NB424_425.out; have hnc45 := NB425_424.out; have hcz46_0 : w44.cell? ⟨gb424, 0, none⟩ = some (.slice A0_0 l0_0.length c0_0) := (blk_cell BK424.out 0).trans rfl; have hcz46_1 : w44.cell? ⟨gb424, 1, none⟩ = some (.int .i64 a0_1) := (blk_cell BK424.out 1).trans rfl; have hfz46_0 := blk_frozen BK424.out 0; have hfz46_1 := blk_frozen BK424.out 1) | ((with_reducible refine gate_callee (f := 37) rfl ?_); refine goesL_ (some 11) rfl rfl Tryz.func37 (w94_) rfl #[.agg #[.slice A0_0 l0_0.length c0_0, .int .i64 a0_1], .int .i64 a1] rfl maz_ ?_; (with_reducible refine (spec_shBoth.calls k _ _ l0_0 a0_1 a1 true _ ?side1 ?side2 A4.out).mono ?_); (case side1 => exact ucz_ ((Kd.C_below HR0_0.out HB.out))); (case side2 => exact HC0_0.out); rintro e w47 ⟨rfl, hb⟩; refine ⟨_, rfl, ?_⟩; have n2_ := Az_ (btz_ (w52_) hb); clear HB; replace BK424 := Az_ (ukbz_ BK424.out hb); replace BK425 := Az_ (ukbz_ BK425.out hb); have HB := n2_; clear n2_; (try clear hb); have hcz48_0 : w47.cell? ⟨gb424, 0, none⟩ = some (.slice A0_0 l0_0.length c0_0) := (blk_cell BK424.out 0).trans rfl; have hcz48_1 : w47.cell? ⟨gb424, 1, none⟩ = some (.int .i64 a0_1) := (blk_cell BK424.out 1).trans rfl; have hfz48_0 := blk_frozen BK424.out 0; have hfz48_1 := blk_frozen BK424.out 1) | (go_at_call 37; (with_reducible refine (spec_shBoth.calls k _ _ l0_0 a0_1 a2 false _ ?side1 ?side2 A6.out).mono ?_); (case side1 => exact ucz_ ((Kd.C_below HR0_0.out HB.out))); (case side2 => exact HC0_0.out); rintro e w49 ⟨rfl, hb⟩; have n2_ := Az_ (btz_ (w52_) hb); clear HB; replace BK424 := Az_ (ukbz_ BK424.out hb); replace BK425 := Az_ (ukbz_ BK425.out hb); have HB := n2_; clear n2_; (try clear hb); have hcz50_0 : w49.cell? ⟨gb425, 0, none⟩ = some (.slice none 0 0) := (blk_cell BK425.out 0).trans rfl; have hcz50_1 : w49.cell? ⟨gb425, 1, none⟩ = some (.int .i64 0) := (blk_cell BK425.out 1).trans rfl; have hfz50_0 := blk_frozen BK425.out 0; have hfz50_1 := blk_frozen BK425.out 1))
   refine bodyPost_ret (results_ct rfl _ _ gb425 26 #[.slice none 0 0, .int .i64 0] (0, 0) _ rfl (w4_) Tryz.underlying26 rfl (w94_)) rfl ?_
   exact ⟨_, w74_, w53_, w52_⟩
  subst c7
  rw [if_pos rfl] at H
  replace H := bqz_ H; obtain ⟨t428, A8, H⟩ := H
  replace H : (if 0 ≤ a2 then (if a2 < (l0_0.length : Int) then (if 0 ≤ a1 then (if a1 < (t428.length : Int) then (if a1 < (l0_0.length : Int) then (if a2 < (t428.length : Int) then (some (((t428.set (a1 : Int).toNat (rd l0_0 a2)).set (a2 : Int).toNat (rd l0_0 a1)), a0_1, true)) else (none)) else (none)) else (none)) else (none)) else (none)) else (none)) = some (r1, r2, r3) := H
  by_cases c9 : 0 ≤ a2; rotate_left
  ·rw [if_neg c9] at H
   exact absurd H (by simp)
  rw [if_pos c9] at H
  have c9b0 := decide_eq_true c9
  clear c9
  by_cases c10 : a2 < (l0_0.length : Int); rotate_left
  ·rw [if_neg c10] at H
   exact absurd H (by simp)
  rw [if_pos c10] at H
  have c10b0 := decide_eq_true c10
  clear c10
  by_cases c11 : 0 ≤ a1; rotate_left
  ·rw [if_neg c11] at H
   exact absurd H (by simp)
  rw [if_pos c11] at H
  have c11b0 := decide_eq_true c11
  clear c11
  by_cases c12 : a1 < (t428.length : Int); rotate_left
  ·rw [if_neg c12] at H
   exact absurd H (by simp)
  rw [if_pos c12] at H
  have c12b0 := decide_eq_true c12
  clear c12
  obtain ⟨y433, hy433⟩ : ∃ y_ : List Int, y_ = (t428.set (a1 : Int).toNat (rd l0_0 a2)) := ⟨_, rfl⟩
  replace H : (if a1 < (l0_0.length : Int) then (if a2 < (t428.length : Int) then (some ((y433.set (a2 : Int).toNat (rd l0_0 a1)), a0_1, true)) else (none)) else (none)) = some (r1, r2, r3) := by first | (rw [hy433]; with_reducible exact H) | (have H2_ := (Option.bind_some _ _).symm.trans H; rw [hy433]; with_reducible exact H2_) | (have H2_ := (Option.bind_some _ _).symm.trans H; with_reducible exact H2_) | with_reducible exact H | (rw [hy433]; exact H) | exact H
  have Ny433 := Az_ hy433
  clear hy433
  by_cases c14 : a1 < (l0_0.length : Int); rotate_left
  ·rw [if_neg c14] at H
   exact absurd H (by simp)
  rw [if_pos c14] at H
  have c14b0 := decide_eq_true c14
  clear c14
  by_cases c15 : a2 < (t428.length : Int); rotate_left
  ·rw [if_neg c15] at H
   exact absurd H (by simp)
  rw [if_pos c15] at H
  have c15b0 := decide_eq_true c15
  clear c15
  obtain ⟨y435, hy435⟩ : ∃ y_ : List Int, y_ = (y433.set (a2 : Int).toNat (rd l0_0 a1)) := ⟨_, rfl⟩
  replace H : (some (y435, a0_1, true)) = some (r1, r2, r3) := by first | (rw [hy435]; with_reducible exact H) | (have H2_ := (Option.bind_some _ _).symm.trans H; rw [hy435]; with_reducible exact H2_) | (have H2_ := (Option.bind_some _ _).symm.trans H; with_reducible exact H2_) | with_reducible exact H | (rw [hy435]; exact H) | exact H
  have Ny435 := Az_ hy435
  clear hy435
  simp only [Option.some.injEq, Prod.mk.injEq] at H
  obtain ⟨rfl, rfl, rfl⟩ := H
  go_enter Tryz.func29, Tryz.ntmps29
  try go_wp2_with (first | ((with_reducible refine gate_dst (N := 3) rfl ?_); refine box_event ?hg (N := 3) ?hd (cs := #[.slice A0_0 l0_0.length c0_0, .int .i64 a0_1]) (t := 26) ?hr ?_; (case hd => rfl); (case hg => rfl); (case hr => first | (go_simp; done) | (go_simp; rfl)); intro gb424 hg w17 hbox hb; have BK424 := Az_ (hbox); have GW424 := Az_ ((by rw [hg]; exact (below_size (ubz_ HB.out)) : w.heap.size ≤ gb424)); have GE424 := Az_ ((by rw [hg]; exact (below_size (ubz_ HB.out)) : w.heap.size ≤ gb424)); replace HB := Az_ (btz_ (ubz_ HB.out) hb); clear hb hbox hg) | ((with_reducible refine gate_dst (N := 6) rfl ?_); refine box_event ?hg (N := 6) ?hd (cs := #[.slice none 0 0, .int .i64 0]) (t := 26) ?hr ?_; (case hd => rfl); (case hg => rfl); (case hr => first | (go_simp; done) | (go_simp; rfl)); intro gb425 hg w18 hbox hb; have n1_ := Az_ (btz_ (w52_) hb); have n2_ := Az_ (hbox); have n3_ := Az_ ((by rw [hg]; exact (below_size (w52_)) : w.heap.size ≤ gb425)); have n4_ := Az_ ((by rw [hg]; exact (below_size (w52_)) : w.heap.size ≤ gb425)); have n5_ := Az_ ((by rw [hg]; exact Nat.ne_of_lt (uklz_ BK424.out) : gb424 ≠ gb425)); have n6_ := Az_ ((by rw [hg]; exact Nat.ne_of_gt (uklz_ BK424.out) : gb425 ≠ gb424)); clear HB; replace BK424 := Az_ (ukbz_ BK424.out hb); have HB := n1_; have BK425 := n2_; have GW425 := n3_; have GE425 := n4_; have NB424_425 := n5_; have NB425_424 := n6_; clear n1_ n2_ n3_ n4_ n5_ n6_; clear hb hbox hg; have hnb19 := NB424_425.out; have hnc19 := NB425_424.out; have hcz20_0 : w18.cell? ⟨gb424, 0, none⟩ = some (.slice A0_0 l0_0.length c0_0) := (blk_cell BK424.out 0).trans rfl; have hcz20_1 : w18.cell? ⟨gb424, 1, none⟩ = some (.int .i64 a0_1) := (blk_cell BK424.out 1).trans rfl; have hfz20_0 := blk_frozen BK424.out 0; have hfz20_1 := blk_frozen BK424.out 1) | ((with_reducible refine gate_callee (f := 37) rfl ?_); refine goesL_ (some 11) rfl rfl Tryz.func37 (w94_) rfl #[.agg #[.slice A0_0 l0_0.length c0_0, .int .i64 a0_1], .int .i64 a1] rfl maz_ ?_; (with_reducible refine (spec_shBoth.calls k _ _ l0_0 a0_1 a1 true _ ?side1 ?side2 A4.out).mono ?_); (case side1 => exact ucz_ ((Kd.C_below HR0_0.out HB.out))); (case side2 => exact HC0_0.out); rintro e w21 ⟨rfl, hb⟩; refine ⟨_, rfl, ?_⟩; have n2_ := Az_ (btz_ (w52_) hb); clear HB; replace BK424 := Az_ (ukbz_ BK424.out hb); replace BK425 := Az_ (ukbz_ BK425.out hb); have HB := n2_; clear n2_; (try clear hb); have hcz22_0 : w21.cell? ⟨gb424, 0, none⟩ = some (.slice A0_0 l0_0.length c0_0) := (blk_cell BK424.out 0).trans rfl; have hcz22_1 : w21.cell? ⟨gb424, 1, none⟩ = some (.int .i64 a0_1) := (blk_cell BK424.out 1).trans rfl; have hfz22_0 := blk_frozen BK424.out 0; have hfz22_1 := blk_frozen BK424.out 1) | (go_at_call 37; (with_reducible refine (spec_shBoth.calls k _ _ l0_0 a0_1 a2 true _ ?side1 ?side2 A6.out).mono ?_); (case side1 => exact ucz_ ((Kd.C_below HR0_0.out HB.out))); (case side2 => exact HC0_0.out); rintro e w23 ⟨rfl, hb⟩; have n2_ := Az_ (btz_ (w52_) hb); clear HB; replace BK424 := Az_ (ukbz_ BK424.out hb); replace BK425 := Az_ (ukbz_ BK425.out hb); have HB := n2_; clear n2_; (try clear hb)))
  have n0_ := Az_ (kdz_ BK424.out)
  have n1_ := Az_ (kdz_ BK425.out)
  have n2_ := Az_ (bdz_ HB.out)
  clear BK424 BK425 HB
  have BK424 := n0_
  have BK425 := n1_
  have HB := n2_
  clear n0_ n1_ n2_
  refine start_ (n := 8) (S := fun w' => w'.cell? ⟨gb424, 0, none⟩ = some (.slice A0_0 l0_0.length c0_0) ∧ w'.cell? ⟨gb424, 1, none⟩ = some (.int .i64 a0_1)) (ds := []) #[false, false, false, false, false, false, false, false] (w94_) rfl rfl ⟨(blk_cell BK424.out 0).trans rfl, (blk_cell BK424.out 1).trans rfl⟩ (fun hHeld => ?_); refine with_tabW spec_SwapVolumes.tab3 spec_SwapVolumes.bits3 (fun HT_ HW_ => ?_)
  generalize w23.drew = w24 at BK424 BK425 HB hHeld ⊢
  refine pz_ 0 20 [1,7] ?_
  refine pz_ 3 23 [1,2,1,4] ?_
  refine tz2_ 1 21 [2,1,1,4] ?_
  refine tz2_ 4 24 [2,1,2,3] ?_
  refine join_ (σ := Value × Nat) 1 #[true, true, true, true, true, true, true, false] (fun s_ => [(22, s_.1), (8, .pointer (some ⟨s_.2, 0, none⟩)), (25, .agg #[s_.1, .int .i64 a0_1])]) (fun s_ w' => (w'.cell? ⟨gb424, 0, none⟩ = some (.slice A0_0 l0_0.length c0_0) ∧ w'.cell? ⟨gb424, 1, none⟩ = some (.int .i64 a0_1)) ∧ (Kd.R (Kd.int .i64) 3 w' w.heap.size (fun _ => True) s_.1 t428) ∧ (w'.heap[gb424]? = some (.cells #[.slice A0_0 l0_0.length c0_0, .int .i64 a0_1] 26 (0, 0))) ∧ (w'.heap[gb425]? = some (.cells #[.slice none 0 0, .int .i64 0] 26 (0, 0))) ∧ (w'.heap[s_.2]? = some (.cells #[.slice none 0 0, .int .i64 0] 26 (0, 0))) ∧ (w.heap.size ≤ s_.2) ∧ (w.heap.size ≤ s_.2) ∧ (gb424 ≠ s_.2) ∧ (s_.2 ≠ gb424) ∧ (gb425 ≠ s_.2) ∧ (s_.2 ≠ gb425) ∧ (Below w.heap.size w w')) ?_ ?_
  rotate_left
  ·intro hCont
   refine two_ (i := 2) (j := 6) (Ni := some 22) (Nj := some 8) (mz_ [5,3]) #[true, true, false, true, true, false, true, false] rfl rfl rfl rfl (two_of HT_.out (w94_)) (by decide) (by decide) (fun K hK => ?_) (fun K hK => ?_)
   ·skip
    refine goes_ Tryz.func53 (w94_) rfl #[.slice A0_0 l0_0.length c0_0] (by rfl) rfl rfl maz_ ?_
    with_reducible refine (spec_l1Own.calls _ _ l0_0 t428 _ ?side1 ?side2 A8.out).mono ?_
    (case side1 => repeat (first | exact (Kd.C_below HR0_0.out HB.out) | (with_reducible refine Kd.C_alloc ?_ _) | (with_reducible refine Kd.C_drewN ?_ _) | (with_reducible refine Kd.C_drew ?_)))
    (case side2 => exact HC0_0.out)
    rintro e w25 ⟨v429, rfl, ho0, hb⟩
    refine ⟨_, rfl, ?_⟩
    have n0_ := Az_ (Kd.R_lower ho0 (below_size (w52_)))
    have n3_ := Az_ (btz_ (w52_) hb)
    clear HB
    have HO430 := n0_
    replace BK424 := Az_ (ukbz_ BK424.out hb)
    replace BK425 := Az_ (ukbz_ BK425.out hb)
    have HB := n3_
    clear n0_ n3_
    clear hb
    clear ho0
    obtain ⟨Ao26, co26, eo26⟩ := Kd.R_slice HO430.out
    (first | subst eo26 | (injection eo26 with f1_ f2_ f3_; have f4_ := f1_.symm; have f5_ := f3_.symm; clear f1_ f2_ f3_; subst f4_; subst f5_))
    refine hK.out _ _ ⟨(blk_cell BK424.out 0).trans rfl, (blk_cell BK424.out 1).trans rfl⟩ (fun hHeld => ?_)
    clear hK K
    refine nz_ 22 ?_
    refine pz_ 5 25 [6,2] ?_
    refine one_ (i := 6) (N := some 8) (mz_ [7,1]) rfl rfl (one_of HT_.out (w94_)) (by decide) (fun K hK => ?_)
    refine box_step ?hg (N := 8) ?hd (cs := #[.slice none 0 0, .int .i64 0]) (t := 26) ?hr ?_; (case hd => rfl); (case hg => rfl); (case hr => first | (go_simp; done) | (go_simp; rfl))
    intro gb431 hg w27 hbox hb
    have n0_ := Az_ (Kd.R_below (by exact urz_ HO430.out) hb)
    have n3_ := Az_ (btz_ (w52_) hb)
    have n4_ := Az_ (hbox)
    have n5_ := Az_ ((by rw [hg]; exact (below_size (w52_)) : w.heap.size ≤ gb431))
    have n6_ := Az_ ((by rw [hg]; exact (below_size (w52_)) : w.heap.size ≤ gb431))
    have n7_ := Az_ ((by rw [hg]; exact Nat.ne_of_lt (uklz_ BK424.out) : gb424 ≠ gb431))
    have n8_ := Az_ ((by rw [hg]; exact Nat.ne_of_gt (uklz_ BK424.out) : gb431 ≠ gb424))
    have n9_ := Az_ ((by rw [hg]; exact Nat.ne_of_lt (uklz_ BK425.out) : gb425 ≠ gb431))
    have n10_ := Az_ ((by rw [hg]; exact Nat.ne_of_gt (uklz_ BK425.out) : gb431 ≠ gb425))
    clear HO430 HB
    have HO430 := n0_
    replace BK424 := Az_ (ukbz_ BK424.out hb)
    replace BK425 := Az_ (ukbz_ BK425.out hb)
    have HB := n3_
    have BK431 := n4_
    have GW431 := n5_
    have GE431 := n6_
    have NB424_431 := n7_
    have NB431_424 := n8_
    have NB425_431 := n9_
    have NB431_425 := n10_
    clear n0_ n3_ n4_ n5_ n6_ n7_ n8_ n9_ n10_ hb hbox hg
    refine hK.out _ _ ⟨(blk_cell BK424.out 0).trans rfl, (blk_cell BK424.out 1).trans rfl⟩ (fun hHeld => ?_)
    clear hK K
    refine nz_ 8 ?_
    exact norm_ (w73_) (hCont (.slice Ao26 t428.length co26, gb431) _ ⟨hHeld, (by exact urz_ HO430.out), (by exact ukz_ BK424.out), (by exact ukz_ BK425.out), (by exact ukz_ BK431.out), GW431.out, GE431.out, NB424_431.out, NB431_424.out, NB425_431.out, NB431_425.out, (w52_)⟩)
   ·skip
    refine box_step ?hg (N := 8) ?hd (cs := #[.slice none 0 0, .int .i64 0]) (t := 26) ?hr ?_; (case hd => rfl); (case hg => rfl); (case hr => first | (go_simp; done) | (go_simp; rfl))
    intro gb431 hg w25 hbox hb
    have n2_ := Az_ (btz_ (w52_) hb)
    have n3_ := Az_ (hbox)
    have n4_ := Az_ ((by rw [hg]; exact (below_size (w52_)) : w.heap.size ≤ gb431))
    have n5_ := Az_ ((by rw [hg]; exact (below_size (w52_)) : w.heap.size ≤ gb431))
    have n6_ := Az_ ((by rw [hg]; exact Nat.ne_of_lt (uklz_ BK424.out) : gb424 ≠ gb431))
    have n7_ := Az_ ((by rw [hg]; exact Nat.ne_of_gt (uklz_ BK424.out) : gb431 ≠ gb424))
    have n8_ := Az_ ((by rw [hg]; exact Nat.ne_of_lt (uklz_ BK425.out) : gb425 ≠ gb431))
    have n9_ := Az_ ((by rw [hg]; exact Nat.ne_of_gt (uklz_ BK425.out) : gb431 ≠ gb425))
    clear HB
    replace BK424 := Az_ (ukbz_ BK424.out hb)
    replace BK425 := Az_ (ukbz_ BK425.out hb)
    have HB := n2_
    have BK431 := n3_
    have GW431 := n4_
    have GE431 := n5_
    have NB424_431 := n6_
    have NB431_424 := n7_
    have NB425_431 := n8_
    have NB431_425 := n9_
    clear n2_ n3_ n4_ n5_ n6_ n7_ n8_ n9_ hb hbox hg
    refine hK.out _ _ ⟨(blk_cell BK424.out 0).trans rfl, (blk_cell BK424.out 1).trans rfl⟩ (fun hHeld => ?_)
    clear hK K
    refine nz_ 8 ?_
    refine one_ (i := 2) (N := some 22) (mz_ [5,1,1,1]) rfl rfl (one_of HT_.out (w94_)) (by decide) (fun K hK => ?_)
    refine goes_ Tryz.func53 (w94_) rfl #[.slice A0_0 l0_0.length c0_0] (by rfl) rfl rfl maz_ ?_
    with_reducible refine (spec_l1Own.calls _ _ l0_0 t428 _ ?side1 ?side2 A8.out).mono ?_
    (case side1 => repeat (first | exact (Kd.C_below HR0_0.out HB.out) | (with_reducible refine Kd.C_alloc ?_ _) | (with_reducible refine Kd.C_drewN ?_ _) | (with_reducible refine Kd.C_drew ?_)))
    (case side2 => exact HC0_0.out)
    rintro e w26 ⟨v429, rfl, ho0, hb⟩
    refine ⟨_, rfl, ?_⟩
    have n0_ := Az_ (Kd.R_lower ho0 (below_size (w52_)))
    have n4_ := Az_ (btz_ (w52_) hb)
    clear HB
    have HO430 := n0_
    replace BK424 := Az_ (ukbz_ BK424.out hb)
    replace BK425 := Az_ (ukbz_ BK425.out hb)
    replace BK431 := Az_ (ukbz_ BK431.out hb)
    have HB := n4_
    clear n0_ n4_
    clear hb
    clear ho0
    obtain ⟨Ao27, co27, eo27⟩ := Kd.R_slice HO430.out
    (first | subst eo27 | (injection eo27 with f1_ f2_ f3_; have f4_ := f1_.symm; have f5_ := f3_.symm; clear f1_ f2_ f3_; subst f4_; subst f5_))
    refine hK.out _ _ ⟨(blk_cell BK424.out 0).trans rfl, (blk_cell BK424.out 1).trans rfl⟩ (fun hHeld => ?_)
    clear hK K
    refine nz_ 22 ?_
    refine pz_ 5 25 [7,1] ?_
    exact norm_ (w73_) (hCont (.slice Ao27 t428.length co27, gb431) _ ⟨hHeld, (by exact urz_ HO430.out), (by exact ukz_ BK424.out), (by exact ukz_ BK425.out), (by exact ukz_ BK431.out), GW431.out, GE431.out, NB424_431.out, NB431_424.out, NB425_431.out, NB431_425.out, (w52_)⟩)
  rintro ⟨v429, gb431⟩ w28 ⟨hS_, h0_, h1_, h2_, h3_, h4_, h5_, h6_, h7_, h8_, h9_, h10_⟩
  have n0_ : Aside0 (Kd.R (Kd.int .i64) 3 w28 w.heap.size (fun _ => True) v429 t428) := ⟨h0_⟩
  have n1_ : Aside0 (w28.heap[gb424]? = some (.cells #[.slice A0_0 l0_0.length c0_0, .int .i64 a0_1] 26 (0, 0))) := ⟨h1_⟩
  have n2_ : Aside0 (w28.heap[gb425]? = some (.cells #[.slice none 0 0, .int .i64 0] 26 (0, 0))) := ⟨h2_⟩
  have n3_ : Aside0 (w28.heap[gb431]? = some (.cells #[.slice none 0 0, .int .i64 0] 26 (0, 0))) := ⟨h3_⟩
  have n4_ : Aside0 (w.heap.size ≤ gb431) := ⟨h4_⟩
  have n5_ : Aside0 (w.heap.size ≤ gb431) := ⟨h5_⟩
  have n6_ : Aside0 (gb424 ≠ gb431) := ⟨h6_⟩
  have n7_ : Aside0 (gb431 ≠ gb424) := ⟨h7_⟩
  have n8_ : Aside0 (gb425 ≠ gb431) := ⟨h8_⟩
  have n9_ : Aside0 (gb431 ≠ gb425) := ⟨h9_⟩
  have n10_ : Aside0 (Below w.heap.size w w28) := ⟨h10_⟩
  clear BK424 BK425 HB h0_ h1_ h2_ h3_ h4_ h5_ h6_ h7_ h8_ h9_ h10_
  have HO430 := n0_
  have BK424 := n1_
  have BK425 := n2_
  have BK431 := n3_
  have GW431 := n4_
  have GE431 := n5_
  have NB424_431 := n6_
  have NB431_424 := n7_
  have NB425_431 := n8_
  have NB431_425 := n9_
  have HB := n10_
  clear n0_ n1_ n2_ n3_ n4_ n5_ n6_ n7_ n8_ n9_ n10_
  have hHeld : w28.cell? ⟨gb424, 0, none⟩ = some (.slice A0_0 l0_0.length c0_0) ∧ w28.cell? ⟨gb424, 1, none⟩ = some (.int .i64 a0_1) := hS_
  obtain ⟨Ao29, co29, eo29⟩ := Kd.R_slice HO430.out
  (first | subst eo29 | (injection eo29 with f1_ f2_ f3_; have f4_ := f1_.symm; have f5_ := f3_.symm; clear f1_ f2_ f3_; subst f4_; subst f5_))
  refine norm_ (a' := ?_) ?_ ?_
  rotate_left
  ·simp only [putAll, Act.put, List.setIfInBounds_toArray, List.set_cons_zero, List.set_cons_succ]
   rfl
  refine one_ (i := 7) (N := none) (mz_ [8]) rfl rfl (one_of HT_.out (w94_)) (by decide) (fun K hK => ?_)
  have hs30 : w28.cell? ⟨gb431, 0, none⟩ = some (.slice none 0 0) := (blk_cell BK431.out 0).trans rfl
  have hfs30 := blk_frozen BK431.out 0
  have hns30_0 := NB424_431.out
  have hns30_1 := NB425_431.out
  have hms30_0 := NB431_424.out
  have hms30_1 := NB431_425.out
  have hs31 : w28.cell? ⟨gb431, 1, none⟩ = some (.int .i64 0) := (blk_cell BK431.out 1).trans rfl
  have hfs31 := blk_frozen BK431.out 1
  have hns31_0 := NB424_431.out
  have hns31_1 := NB425_431.out
  have hms31_0 := NB431_424.out
  have hms31_1 := NB431_425.out
  refine skip_ (w1 := ?_) (by rfl) rfl ?_ ?_
  rotate_left
  ·go_simp
   rfl
  refine hK.out _ _ ⟨((cell_far (p := ⟨gb431, _, none⟩) NB424_431.out _).trans (((cell_far (p := ⟨gb431, _, none⟩) NB424_431.out _).trans (hHeld.1)))), ((cell_far (p := ⟨gb431, _, none⟩) NB424_431.out _).trans (((cell_far (p := ⟨gb431, _, none⟩) NB424_431.out _).trans (hHeld.2))))⟩ (fun hHeld => ?_)
  clear hK K
  refine done_ (done_of HT_.out (w94_)) ?_
  try go_wp2
  have n0_ : Aside0 (Kd.R (Kd.int .i64) 3 ((w28.setCell ⟨gb431, 0, none⟩ (.slice Ao29 t428.length co29)).setCell ⟨gb431, 1, none⟩ (.int .i64 a0_1)) w.heap.size (fun _ => True) (.slice Ao29 t428.length co29) t428) := ⟨by (with_reducible repeat (first | apply raz_ | apply rnz_ | apply rdz_)); exact Kd.R_mono (Kd.R_far (p := ⟨gb431, 1, none⟩) (Kd.R_far (p := ⟨gb431, 0, none⟩) (Kd.R_types HO430.out BK431.out (by decide)) (fun _ hk => hk.2) (.slice Ao29 t428.length co29)) (fun _ hk => hk.2) (.int .i64 a0_1)) (fun _ hk => trivial)⟩
  have n1_ : Aside0 (((w28.setCell ⟨gb431, 0, none⟩ (.slice Ao29 t428.length co29)).setCell ⟨gb431, 1, none⟩ (.int .i64 a0_1)).heap[gb424]? = some (.cells #[.slice A0_0 l0_0.length c0_0, .int .i64 a0_1] 26 (0, 0))) := ⟨by (with_reducible repeat (first | refine knz_ ?_ _ | refine kdz_ ?_ | refine kaz_ ?_ _)); refine blk_far ?_ NB424_431.out _; (with_reducible repeat (first | refine knz_ ?_ _ | refine kdz_ ?_ | refine kaz_ ?_ _)); refine blk_far ?_ NB424_431.out _; (with_reducible repeat (first | refine knz_ ?_ _ | refine kdz_ ?_ | refine kaz_ ?_ _)); exact BK424.out⟩
  have n2_ : Aside0 (((w28.setCell ⟨gb431, 0, none⟩ (.slice Ao29 t428.length co29)).setCell ⟨gb431, 1, none⟩ (.int .i64 a0_1)).heap[gb425]? = some (.cells #[.slice none 0 0, .int .i64 0] 26 (0, 0))) := ⟨by (with_reducible repeat (first | refine knz_ ?_ _ | refine kdz_ ?_ | refine kaz_ ?_ _)); refine blk_far ?_ NB425_431.out _; (with_reducible repeat (first | refine knz_ ?_ _ | refine kdz_ ?_ | refine kaz_ ?_ _)); refine blk_far ?_ NB425_431.out _; (with_reducible repeat (first | refine knz_ ?_ _ | refine kdz_ ?_ | refine kaz_ ?_ _)); exact BK425.out⟩
  have n3_ : Aside0 (((w28.setCell ⟨gb431, 0, none⟩ (.slice Ao29 t428.length co29)).setCell ⟨gb431, 1, none⟩ (.int .i64 a0_1)).heap[gb431]? = some (.cells #[.slice Ao29 t428.length co29, .int .i64 a0_1] 26 (0, 0))) := ⟨by (with_reducible repeat (first | refine knz_ ?_ _ | refine kdz_ ?_ | refine kaz_ ?_ _)); refine blk_put (cs := #[.slice Ao29 t428.length co29, .int .i64 0]) ?_ 1 _ rfl; (with_reducible repeat (first | refine knz_ ?_ _ | refine kdz_ ?_ | refine kaz_ ?_ _)); refine blk_put (cs := #[.slice none 0 0, .int .i64 0]) ?_ 0 _ rfl; (with_reducible repeat (first | refine knz_ ?_ _ | refine kdz_ ?_ | refine kaz_ ?_ _)); exact BK431.out⟩
  have n4_ : Aside0 (Below w.heap.size w ((w28.setCell ⟨gb431, 0, none⟩ (.slice Ao29 t428.length co29)).setCell ⟨gb431, 1, none⟩ (.int .i64 a0_1))) := ⟨w52_⟩
  clear HO430
  clear BK424
  clear BK425
  clear BK431
  clear HB
  generalize ((w28.setCell ⟨gb431, 0, none⟩ (.slice Ao29 t428.length co29)).setCell ⟨gb431, 1, none⟩ (.int .i64 a0_1)) = w32 at n0_ n1_ n2_ n3_ n4_ ⊢
  have HO430 := n0_
  have BK424 := n1_
  have BK425 := n2_
  have BK431 := n3_
  have HB := n4_
  clear n0_ n1_ n2_ n3_ n4_
  have n0_ := Az_ (rdz_ HO430.out)
  have n1_ := Az_ (kdz_ BK424.out)
  have n2_ := Az_ (kdz_ BK425.out)
  have n3_ := Az_ (kdz_ BK431.out)
  have n4_ := Az_ (bdz_ HB.out)
  clear HO430 BK424 BK425 BK431 HB
  have HO430 := n0_
  have BK424 := n1_
  have BK425 := n2_
  have BK431 := n3_
  have HB := n4_
  clear n0_ n1_ n2_ n3_ n4_
  have p432 : 0 ≤ (a2 : Int) := od_
  have q432 : a2 < (l0_0.length : Int) := od_
  obtain ⟨ad432, e432, hx432_0⟩ := Kd.at_int HR0_0.out a2 p432 q432
  have hw432_0 := hx432_0
  cases e432
  replace hx432_0 := hbz_ HB.out hx432_0
  replace p432 := eq_true p432
  replace q432 := eq_true q432
  have p13 : 0 ≤ (a1 : Int) := od_
  have q13 : (a1 : Int) < ((t428.length : Int) : Int) := od_
  obtain ⟨go13, co13, eo13, gb13, gl13, cl13, HG13⟩ := Kd.R_form HO430.out (by omega)
  (first | cases eo13 | (injection eo13 with ea_ en_ ec_; (first | subst ea_ | (injection ea_ with ea_; subst ea_)); subst ec_; clear en_))
  have GB13 := Az_ gb13
  have GG13 := Az_ HG13
  clear gb13 gl13 HG13
  obtain ⟨hx13_0, hf13_0⟩ := Kd.R_celln 0 HO430.out (a1 : Int) p13 q13
  replace p13 := eq_true p13
  replace q13 := eq_true q13
  have HP34 := Kd.R_putn HO430.out (a1 : Int) (rd l0_0 a2)
  rw [← Ny433.out] at HP34
  have HQ34 := Az_ HP34
  clear HP34
  refine start_ (n := 10) (S := fun w' => w'.cell? ⟨gb431, 0, none⟩ = some (.slice (some ⟨go13, 0, none⟩) t428.length co29) ∧ w'.cell? ⟨gb431, 1, none⟩ = some (.int .i64 a0_1) ∧ w'.cell? ⟨gb424, 0, none⟩ = some (.slice (some ad432) l0_0.length c0_0) ∧ w'.cell? ⟨gb424, 1, none⟩ = some (.int .i64 a0_1) ∧ w'.cell? (ad432.add (a2).toNat) = some (.int .i64 (rd l0_0 a2))) (ds := [9]) #[false, false, false, false, false, false, false, false, false, false] (w94_) rfl rfl ⟨(blk_cell BK431.out 0).trans rfl, (blk_cell BK431.out 1).trans rfl, (blk_cell BK424.out 0).trans rfl, (blk_cell BK424.out 1).trans rfl, (hbz_ HB.out hw432_0)⟩ (fun hHeld => ?_); refine with_tabW spec_SwapVolumes.tab4 spec_SwapVolumes.bits4 (fun HT_ HW_ => ?_)
  generalize w32.drew = w33 at HO430 BK424 BK425 BK431 HB GG13 HQ34 hf13_0 hx13_0 hx432_0 hHeld ⊢
  refine pz_ 0 26 [1,9] ?_
  refine pz_ 2 28 [1,1,1,7] ?_
  refine pz_ 3 29 [1,1,2,6] ?_
  refine pz_ 5 31 [1,1,2,1,1,4] ?_
  refine take_ (i := 1) (N := some 27) (v := ?_) (a' := ?_) (mz_ [4,1,1,4]) rfl rfl (take_ofW HT_.out HW_.out (w94_)) (fun _ _ _ h => h) (Or.inl ⟨by rfl, ?_⟩) hHeld ?_ ?_
  rotate_left
  ·rintro w' ⟨s0, s1, s2, s3, s4⟩
   go_simp
   with_reducible rfl
  rotate_left
  ·simp only [Act.put, usz_, utz_, uvz_, i64_w, i32_w]
   rfl
  refine take_ (i := 4) (N := some 30) (v := ?_) (a' := ?_) (mz_ [6,4]) rfl rfl (take_ofW HT_.out HW_.out (w94_)) (fun _ _ _ h => h) (Or.inl ⟨by rfl, ?_⟩) hHeld ?_ ?_
  rotate_left
  ·rintro w' ⟨s0, s1, s2, s3, s4⟩
   go_simp
   with_reducible rfl
  rotate_left
  ·simp only [Act.put, usz_, utz_, uvz_, i64_w, i32_w]
   rfl
  refine pz_ 6 32 [7,3] ?_
  refine take_ (i := 7) (N := some 33) (v := ?_) (a' := ?_) (mz_ [8,2]) rfl rfl (take_ofW HT_.out HW_.out (w94_)) (fun _ _ _ h => h) (Or.inl ⟨by rfl, ?_⟩) hHeld ?_ ?_
  rotate_left
  ·rintro w' ⟨s0, s1, s2, s3, s4⟩
   go_simp
   with_reducible rfl
  rotate_left
  ·simp only [Act.put, usz_, utz_, uvz_, i64_w, i32_w]
   rfl
  refine pz_ 8 34 [9,1] ?_
  refine last_ (i := 9) (N := none) (mz_ [10]) rfl rfl (one_of HT_.out (w94_)) (by decide) (fun K hK => ?_)
  refine skip_ (w1 := ?_) (by rfl) rfl ?_ ?_
  rotate_left
  ·go_simp
   rfl
  refine hK.out _ _ ?_
  clear hK K
  refine done_ (done_of HT_.out (w94_)) ?_
  have n0_ : Aside0 (Kd.R (Kd.int .i64) 3 (w33.setCell ⟨go13, (a1 : Int).toNat, none⟩ (.int .i64 (rd l0_0 a2))) w.heap.size (fun _ => True) (.slice (some ⟨go13, 0, none⟩) t428.length co29) y433) := ⟨by (with_reducible repeat (first | apply raz_ | apply rnz_ | apply rdz_)); exact HQ34.out⟩
  have n1_ : Aside0 ((w33.setCell ⟨go13, (a1 : Int).toNat, none⟩ (.int .i64 (rd l0_0 a2))).heap[gb424]? = some (.cells #[.slice (some ad432) l0_0.length c0_0, .int .i64 a0_1] 26 (0, 0))) := ⟨w23_⟩
  have n2_ : Aside0 ((w33.setCell ⟨go13, (a1 : Int).toNat, none⟩ (.int .i64 (rd l0_0 a2))).heap[gb425]? = some (.cells #[.slice none 0 0, .int .i64 0] 26 (0, 0))) := ⟨w24_⟩
  have n3_ : Aside0 ((w33.setCell ⟨go13, (a1 : Int).toNat, none⟩ (.int .i64 (rd l0_0 a2))).heap[gb431]? = some (.cells #[.slice (some ⟨go13, 0, none⟩) t428.length co29, .int .i64 a0_1] 26 (0, 0))) := ⟨w25_⟩
  have n4_ : Aside0 (Below w.heap.size w (w33.setCell ⟨go13, (a1 : Int).toNat, none⟩ (.int .i64 (rd l0_0 a2)))) := ⟨w30_⟩
  clear HO430
  clear BK424
  clear BK425
  clear BK431
  clear HB
  generalize (w33.setCell ⟨go13, (a1 : Int).toNat, none⟩ (.int .i64 (rd l0_0 a2))) = w35 at n0_ n1_ n2_ n3_ n4_ ⊢
  have HO430 := n0_
  have BK424 := n1_
  have BK425 := n2_
  have BK431 := n3_
  have HB := n4_
  clear n0_ n1_ n2_ n3_ n4_
  try go_wp2
  have n0_ := Az_ (rdz_ HO430.out)
  have n1_ := Az_ (kdz_ BK424.out)
  have n2_ := Az_ (kdz_ BK425.out)
  have n3_ := Az_ (kdz_ BK431.out)
  have n4_ := Az_ (bdz_ HB.out)
  clear HO430 BK424 BK425 BK431 HB
  have HO430 := n0_
  have BK424 := n1_
  have BK425 := n2_
  have BK431 := n3_
  have HB := n4_
  clear n0_ n1_ n2_ n3_ n4_
  have p434 : 0 ≤ (a1 : Int) := od_
  have q434 : a1 < (l0_0.length : Int) := od_
  obtain ⟨ad434, e434, hx434_0⟩ := Kd.at_int HR0_0.out a1 p434 q434
  have hw434_0 := hx434_0
  obtain rfl : ad432 = ad434 := (by injection e434)
  replace hx434_0 := hbz_ HB.out hx434_0
  replace p434 := eq_true p434
  replace q434 := eq_true q434
  have p16 : 0 ≤ (a2 : Int) := od_
  have q16 : (a2 : Int) < ((t428.length : Int) : Int) := od_
  obtain ⟨hx16_0, hf16_0⟩ := Kd.R_celln 0 HO430.out (a2 : Int) p16 q16
  replace p16 := eq_true p16
  replace q16 := eq_true q16
  have HP37 := Kd.R_putn HO430.out (a2 : Int) (rd l0_0 a1)
  rw [← Ny435.out] at HP37
  have HQ37 := Az_ HP37
  clear HP37
  refine start_ (n := 10) (S := fun w' => w'.cell? ⟨gb431, 0, none⟩ = some (.slice (some ⟨go13, 0, none⟩) t428.length co29) ∧ w'.cell? ⟨gb431, 1, none⟩ = some (.int .i64 a0_1) ∧ w'.cell? ⟨gb424, 0, none⟩ = some (.slice (some ad432) l0_0.length c0_0) ∧ w'.cell? ⟨gb424, 1, none⟩ = some (.int .i64 a0_1) ∧ w'.cell? (ad432.add (a1).toNat) = some (.int .i64 (rd l0_0 a1))) (ds := [9]) #[false, false, false, false, false, false, false, false, false, false] (w94_) rfl rfl ⟨(blk_cell BK431.out 0).trans rfl, (blk_cell BK431.out 1).trans rfl, (blk_cell BK424.out 0).trans rfl, (blk_cell BK424.out 1).trans rfl, (hbz_ HB.out hw434_0)⟩ (fun hHeld => ?_); refine with_tabW spec_SwapVolumes.tab5 spec_SwapVolumes.bits5 (fun HT_ HW_ => ?_)
  generalize w35.drew = w36 at HO430 BK424 BK425 BK431 HB HQ37 hf16_0 hx16_0 hx434_0 hHeld ⊢
  refine pz_ 0 35 [1,9] ?_
  refine pz_ 2 37 [1,1,1,7] ?_
  refine pz_ 3 38 [1,1,2,6] ?_
  refine pz_ 5 40 [1,1,2,1,1,4] ?_
  refine take_ (i := 1) (N := some 36) (v := ?_) (a' := ?_) (mz_ [4,1,1,4]) rfl rfl (take_ofW HT_.out HW_.out (w94_)) (fun _ _ _ h => h) (Or.inl ⟨by rfl, ?_⟩) hHeld ?_ ?_
  rotate_left
  ·rintro w' ⟨s0, s1, s2, s3, s4⟩
   go_simp
   with_reducible rfl
  rotate_left
  ·simp only [Act.put, usz_, utz_, uvz_, i64_w, i32_w]
   rfl
  refine take_ (i := 4) (N := some 39) (v := ?_) (a' := ?_) (mz_ [6,4]) rfl rfl (take_ofW HT_.out HW_.out (w94_)) (fun _ _ _ h => h) (Or.inl ⟨by rfl, ?_⟩) hHeld ?_ ?_
  rotate_left
  ·rintro w' ⟨s0, s1, s2, s3, s4⟩
   go_simp
   with_reducible rfl
  rotate_left
  ·simp only [Act.put, usz_, utz_, uvz_, i64_w, i32_w]
   rfl
  refine pz_ 6 41 [7,3] ?_
  refine take_ (i := 7) (N := some 42) (v := ?_) (a' := ?_) (mz_ [8,2]) rfl rfl (take_ofW HT_.out HW_.out (w94_)) (fun _ _ _ h => h) (Or.inl ⟨by rfl, ?_⟩) hHeld ?_ ?_
  rotate_left
  ·rintro w' ⟨s0, s1, s2, s3, s4⟩
   go_simp
   with_reducible rfl
  rotate_left
  ·simp only [Act.put, usz_, utz_, uvz_, i64_w, i32_w]
   rfl
  refine pz_ 8 43 [9,1] ?_
  refine last_ (i := 9) (N := none) (mz_ [10]) rfl rfl (one_of HT_.out (w94_)) (by decide) (fun K hK => ?_)
  refine skip_ (w1 := ?_) (by rfl) rfl ?_ ?_
  rotate_left
  ·go_simp
   rfl
  refine hK.out _ _ ?_
  clear hK K
  refine done_ (done_of HT_.out (w94_)) ?_
  have n0_ : Aside0 (Kd.R (Kd.int .i64) 3 (w36.setCell ⟨go13, (a2 : Int).toNat, none⟩ (.int .i64 (rd l0_0 a1))) w.heap.size (fun _ => True) (.slice (some ⟨go13, 0, none⟩) t428.length co29) y435) := ⟨by (with_reducible repeat (first | apply raz_ | apply rnz_ | apply rdz_)); exact HQ37.out⟩
  have n1_ : Aside0 ((w36.setCell ⟨go13, (a2 : Int).toNat, none⟩ (.int .i64 (rd l0_0 a1))).heap[gb424]? = some (.cells #[.slice (some ad432) l0_0.length c0_0, .int .i64 a0_1] 26 (0, 0))) := ⟨w23_⟩
  have n2_ : Aside0 ((w36.setCell ⟨go13, (a2 : Int).toNat, none⟩ (.int .i64 (rd l0_0 a1))).heap[gb425]? = some (.cells #[.slice none 0 0, .int .i64 0] 26 (0, 0))) := ⟨w24_⟩
  have n3_ : Aside0 ((w36.setCell ⟨go13, (a2 : Int).toNat, none⟩ (.int .i64 (rd l0_0 a1))).heap[gb431]? = some (.cells #[.slice (some ⟨go13, 0, none⟩) t428.length co29, .int .i64 a0_1] 26 (0, 0))) := ⟨w25_⟩
  have n4_ : Aside0 (Below w.heap.size w (w36.setCell ⟨go13, (a2 : Int).toNat, none⟩ (.int .i64 (rd l0_0 a1)))) := ⟨w30_⟩
  clear HO430
  clear BK424
  clear BK425
  clear BK431
  clear HB
  generalize (w36.setCell ⟨go13, (a2 : Int).toNat, none⟩ (.int .i64 (rd l0_0 a1))) = w38 at n0_ n1_ n2_ n3_ n4_ ⊢
  have HO430 := n0_
  have BK424 := n1_
  have BK425 := n2_
  have BK431 := n3_
  have HB := n4_
  clear n0_ n1_ n2_ n3_ n4_
  have hnb39 := NB431_424.out
  have hnc39 := NB424_431.out
  have hnb40 := NB431_425.out
  have hnc40 := NB425_431.out
  have hcz41_0 : w38.cell? ⟨gb431, 0, none⟩ = some (.slice (some ⟨go13, 0, none⟩) t428.length co29) := (blk_cell BK431.out 0).trans rfl
  have hcz41_1 : w38.cell? ⟨gb431, 1, none⟩ = some (.int .i64 a0_1) := (blk_cell BK431.out 1).trans rfl
  have hfz41_0 := blk_frozen BK431.out 0
  have hfz41_1 := blk_frozen BK431.out 1
  have hcz42_0 : w38.cell? ⟨gb425, 0, none⟩ = some (.slice none 0 0) := (blk_cell BK425.out 0).trans rfl
  have hcz42_1 : w38.cell? ⟨gb425, 1, none⟩ = some (.int .i64 0) := (blk_cell BK425.out 1).trans rfl
  have hfz42_0 := blk_frozen BK425.out 0
  have hfz42_1 := blk_frozen BK425.out 1
  try go_wp2
  refine bodyPost_ret (results_ct rfl _ _ gb425 26 #[.slice (some ⟨go13, 0, none⟩) t428.length co29, .int .i64 a0_1] (0, 0) _ rfl (by (with_reducible repeat (first | refine knz_ ?_ _ | refine kdz_ ?_ | refine kaz_ ?_ _)); refine blk_put (cs := #[.slice (some ⟨go13, 0, none⟩) t428.length co29, .int .i64 0]) ?_ 1 _ rfl; (with_reducible repeat (first | refine knz_ ?_ _ | refine kdz_ ?_ | refine kaz_ ?_ _)); refine blk_put (cs := #[.slice none 0 0, .int .i64 0]) ?_ 0 _ rfl; (with_reducible repeat (first | refine knz_ ?_ _ | refine kdz_ ?_ | refine kaz_ ?_ _)); exact BK425.out) Tryz.underlying26 rfl (w94_)) rfl ?_
  exact ⟨_, w74_, by (with_reducible repeat (first | apply raz_ | apply rnz_ | apply rdz_)); exact Kd.R_mono (Kd.R_far (p := ⟨gb425, 1, none⟩) (Kd.R_far (p := ⟨gb425, 0, none⟩) (Kd.R_types HO430.out BK425.out (by decide)) (fun _ hk => hk.2) (.slice (some ⟨go13, 0, none⟩) t428.length co29)) (fun _ hk => hk.2) (.int .i64 a0_1)) (fun _ hk => trivial), w52_⟩
 ·replace c5 := Bool.eq_false_iff.mpr c5
  subst c5
  rw [if_neg nfz_] at H
  simp only [Option.some.injEq, Prod.mk.injEq] at H
  obtain ⟨rfl, rfl, rfl⟩ := H
  go_enter Tryz.func29, Tryz.ntmps29
  go_wp2_with (first | ((with_reducible refine gate_dst (N := 3) rfl ?_); refine box_event ?hg (N := 3) ?hd (cs := #[.slice A0_0 l0_0.length c0_0, .int .i64 a0_1]) (t := 26) ?hr ?_; (case hd => rfl); (case hg => rfl); (case hr => first | (go_simp; done) | (go_simp; rfl)); intro gb424 hg w51 hbox hb; have BK424 := Az_ (hbox); have GW424 := Az_ ((by rw [hg]; exact (below_size (ubz_ HB.out)) : w.heap.size ≤ gb424)); have GE424 := Az_ ((by rw [hg]; exact (below_size (ubz_ HB.out)) : w.heap.size ≤ gb424)); replace HB := Az_ (btz_ (ubz_ HB.out) hb); clear hb hbox hg) | ((with_reducible refine gate_dst (N := 6) rfl ?_); refine box_event ?hg (N := 6) ?hd (cs := #[.slice none 0 0, .int .i64 0]) (t := 26) ?hr ?_; (case hd => rfl); (case hg => rfl); (case hr => first | (go_simp; done) | (go_simp; rfl)); intro gb425 hg w52 hbox hb; have n1_ := Az_ (btz_ (w52_) hb); have n2_ := Az_ (hbox); have n3_ := Az_ ((by rw [hg]; exact (below_size (w52_)) : w.heap.size ≤ gb425)); have n4_ := Az_ ((by rw [hg]; exact (below_size (w52_)) : w.heap.size ≤ gb425)); have n5_ := Az_ ((by rw [hg]; exact Nat.ne_of_lt (uklz_ BK424.out) : gb424 ≠ gb425)); have n6_ := Az_ ((by rw [hg]; exact Nat.ne_of_gt (uklz_ BK424.out) : gb425 ≠ gb424)); clear HB; replace BK424 := Az_ (ukbz_ BK424.out hb); have HB := n1_; have BK425 := n2_; have GW425 := n3_; have GE425 := n4_; have NB424_425 := n5_; have NB425_424 := n6_; clear n1_ n2_ n3_ n4_ n5_ n6_; clear hb hbox hg; have hnb53 := NB424_425.out; have hnc53 := NB425_424.out; have hcz54_0 : w52.cell? ⟨gb424, 0, none⟩ = some (.slice A0_0 l0_0.length c0_0) := (blk_cell BK424.out 0).trans rfl; have hcz54_1 : w52.cell? ⟨gb424, 1, none⟩ = some (.int .i64 a0_1) := (blk_cell BK424.out 1).trans rfl; have hfz54_0 := blk_frozen BK424.out 0; have hfz54_1 := blk_frozen BK424.out 1) | ((with_reducible refine gate_callee (f := 37) rfl ?_); refine goesL_ (some 11) rfl rfl Tryz.func37 (w94_) rfl #[.agg #[.slice A0_0 l0_0.length c0_0, .int .i64 a0_1], .int .i64 a1] rfl maz_ ?_; (with_reducible refine (spec_shBoth.calls k _ _ l0_0 a0_1 a1 false _ ?side1 ?side2 A4.out).mono ?_); (case side1 => exact ucz_ ((Kd.C_below HR0_0.out HB.out))); (case side2 => exact HC0_0.out); rintro e w55 ⟨rfl, hb⟩; refine ⟨_, rfl, ?_⟩; have n2_ := Az_ (btz_ (w52_) hb); clear HB; replace BK424 := Az_ (ukbz_ BK424.out hb); replace BK425 := Az_ (ukbz_ BK425.out hb); have HB := n2_; clear n2_; (try clear hb); have hcz56_0 : w55.cell? ⟨gb425, 0, none⟩ = some (.slice none 0 0) := (blk_cell BK425.out 0).trans rfl; have hcz56_1 : w55.cell? ⟨gb425, 1, none⟩ = some (.int .i64 0) := (blk_cell BK425.out 1).trans rfl; have hfz56_0 := blk_frozen BK425.out 0; have hfz56_1 := blk_frozen BK425.out 1))
  refine bodyPost_ret (results_ct rfl _ _ gb425 26 #[.slice none 0 0, .int .i64 0] (0, 0) _ rfl (w4_) Tryz.underlying26 rfl (w94_)) rfl ?_
  exact ⟨_, w74_, w53_, w52_⟩


mutual
def spec_l1Cur_spoilt.l0 : Nat → ByteArray → ByteArray → Int → List Int → Int → Int → Option (ByteArray × Int × Int)
 | 0, _, _, _, _, _, _ => none
 | k + 1, x1, x2, x7, x1000, x1001, x1002 => if x7 > 0 then (spec_l1Cur_spoilt.j1 k x1 x2 x7 (decide ((x1.size : Int) > 0)) x1000 x1001 x1002) else (spec_l1Cur_spoilt.j1 k x1 x2 x7 false x1000 x1001 x1002)
def spec_l1Cur_spoilt.j1 : Nat → ByteArray → ByteArray → Int → Bool → List Int → Int → Int → Option (ByteArray × Int × Int)
 | 0, _, _, _, _, _, _, _ => none
 | k + 1, x1, x2, x7, x19, x1000, x1001, x1002 => if x19 = true then ((spec_l1Cur_pick.f x1000 x1001 x1002 (x1.size : Int)).bind fun bt439 => ((spec_l1Cur_pick.f x1000 bt439.2.1 bt439.2.2 (x2.size : Int)).bind fun bt442 => (if 0 ≤ bt442.1 then (if bt442.1 < (x2.size : Int) then ((some (([bt x2 bt442.1] : List Int) : List Int)).bind fun y445 => ((spec_l1Cur_pick.f x1000 bt442.2.1 bt442.2.2 3).bind fun bt448 => (if bt448.1 = 0 then (if 0 ≤ bt439.1 then (if bt439.1 ≤ (x1.size : Int) then (if (x1.extract 0 (bt439.1 : Int).toNat).size + (strOfNums y445).size ≤ 9223372036854775807 then (if ((x1.extract 0 (bt439.1 : Int).toNat) ++ (strOfNums y445)).size + (x1.extract (bt439.1 : Int).toNat x1.size).size ≤ 9223372036854775807 then (spec_l1Cur_spoilt.l0 k (((x1.extract 0 (bt439.1 : Int).toNat) ++ (strOfNums y445)) ++ (x1.extract (bt439.1 : Int).toNat x1.size)) x2 (wrap64 (x7 - 1)) x1000 bt448.2.1 bt448.2.2) else (none)) else (none)) else (none)) else (none)) else (if bt448.1 = 1 then (if 0 ≤ bt439.1 then (if bt439.1 ≤ (x1.size : Int) then (if (x1.extract 0 (bt439.1 : Int).toNat).size + (strOfNums y445).size ≤ 9223372036854775807 then (if 0 ≤ (wrap64 (bt439.1 + 1)) then (if (wrap64 (bt439.1 + 1)) ≤ (x1.size : Int) then (if ((x1.extract 0 (bt439.1 : Int).toNat) ++ (strOfNums y445)).size + (x1.extract ((wrap64 (bt439.1 + 1)) : Int).toNat x1.size).size ≤ 9223372036854775807 then (spec_l1Cur_spoilt.l0 k (((x1.extract 0 (bt439.1 : Int).toNat) ++ (strOfNums y445)) ++ (x1.extract ((wrap64 (bt439.1 + 1)) : Int).toNat x1.size)) x2 (wrap64 (x7 - 1)) x1000 bt448.2.1 bt448.2.2) else (none)) else (none)) else (none)) else (none)) else (none)) else (none)) else (if 0 ≤ bt439.1 then (if bt439.1 ≤ (x1.size : Int) then (if 0 ≤ (wrap64 (bt439.1 + 1)) then (if (wrap64 (bt439.1 + 1)) ≤ (x1.size : Int) then (if (x1.extract 0 (bt439.1 : Int).toNat).size + (x1.extract ((wrap64 (bt439.1 + 1)) : Int).toNat x1.size).size ≤ 9223372036854775807 then (spec_l1Cur_spoilt.l0 k ((x1.extract 0 (bt439.1 : Int).toNat) ++ (x1.extract ((wrap64 (bt439.1 + 1)) : Int).toNat x1.size)) x2 (wrap64 (x7 - 1)) x1000 bt448.2.1 bt448.2.2) else (none)) else (none)) else (none)) else (none)) else (none)))))) else (none)) else (none)))) else (some (x1, x1001, x1002))
end
def spec_l1Cur_spoilt.f (k : Nat) (s0_0 : List Int) (s0_1 : Int) (s0_2 : Int) (a1 : ByteArray) (a2 : ByteArray) : Option (ByteArray × Int × Int) := (spec_l1Cur_pick.f s0_0 s0_1 s0_2 2).bind fun bt436 => (spec_l1Cur_spoilt.l0 k a1 a2 (wrap64 (1 + bt436.1)) s0_0 bt436.2.1 bt436.2.2)
set_option maxHeartbeats 8000000 in
set_option maxRecDepth 100000 in
theorem spec_l1Cur_spoilt.calls (k : Nat) (g : Nat) (s0_0 : List Int) (s0_1 : Int) (s0_2 : Int) (a1 : ByteArray) (a2 : ByteArray) (r1 : ByteArray) (r2 : Int) (r3 : Int) (w0 w : World) (hI : IsS54 w0 w g s0_0 s0_1 s0_2) (hB : Below w0.heap.size w0 w) (h : spec_l1Cur_spoilt.f k s0_0 s0_1 s0_2 a1 a2 = some (r1, r2, r3)) :
  Calls Tryz.prog 55 #[.pointer (some ⟨g, 0, none⟩), .string a1, .string a2] w fun e w' => e = .returned (.string r1) ∧ IsS54 w0 w' g s0_0 r2 r3 ∧ Below w0.heap.size w0 w' ∧ KeepBut w w' g none := by
 have HI0 := Az_ hI
 have HK := Az_ (KeepBut.refl w g none)
 have HL := Az_ hB.size
 clear hI
 have HW0 := Az_ hB.size
 have HB := Az_ hB
 clear hB
 have H : ((spec_l1Cur_pick.f s0_0 s0_1 s0_2 2).bind fun bt436 => (spec_l1Cur_spoilt.l0 k a1 a2 (wrap64 (1 + bt436.1)) s0_0 bt436.2.1 bt436.2.2)) = some (r1, r2, r3) := h
 clear h
 replace H := bqz_ H; obtain ⟨⟨t436, t437, t438⟩, A4, H⟩ := H
 replace H : (spec_l1Cur_spoilt.l0 k a1 a2 (wrap64 (1 + t436)) s0_0 t437 t438) = some (r1, r2, r3) := H
 have H' := Az_ H
 clear H
 go_enter Tryz.func55, Tryz.ntmps55
 go_wp2_with ((go_at_call 57; (with_reducible refine (spec_l1Cur_pick.calls g s0_0 s0_1 s0_2 2 t436 t437 t438 w0 _ ?side1 ?side2 A4.out).mono ?_); (case side1 => repeat (first | (with_reducible first | exact HI0.out | apply IsS54.alloc | apply IsS54.drewN | apply IsS54.drew | apply IsS54.set_1 | apply IsS54.set_2) | exact HI0.out)); (case side2 => repeat (first | (with_reducible first | exact HB.out | apply baz_ | apply bnz_ | apply bdz_ | refine bsz_ ?_ (IsS54.ge HI0.out)) | exact HB.out)); rintro e w5 ⟨rfl, hi, hb, hk⟩; replace HK := Az_ (KeepBut.trans (w49_) hk (.inl rfl)); replace HB := Az_ (hb); replace HI0 := Az_ (hi); (try clear hb); (try clear hk); (try clear hi)))
 go_loopg [1, 7] k (fun kq v1 v7 w' => ∃ (x1_1 : ByteArray) (x7_1 : Int) (x1001_1 : Int) (x1002_1 : Int), v1 = .string x1_1 ∧ v7 = .int .i64 x7_1 ∧ Aside0 (spec_l1Cur_spoilt.l0 kq x1_1 a2 x7_1 s0_0 x1001_1 x1002_1 = some (r1, r2, r3)) ∧ Aside0 (kq ≤ k) ∧ Aside0 (IsS54 w0 w' g s0_0 x1001_1 x1002_1) ∧ Aside0 (KeepBut w w' g none) ∧ Aside0 (Below w0.heap.size w0 w'))
 case atStart => exact ⟨(a1), (wrap64 (1 + t436)), (t437), (t438), qaz_, qaz_, H', ⟨Nat.le_refl _⟩, ⟨w47_⟩, ⟨w49_⟩, ⟨w51_⟩⟩
 case round =>
  clear H'
  obtain ⟨x1_1, x7_1, x1001_1, x1002_1, rfl, rfl, HA, HK1, HI0, HK, HB⟩ := hrel
  cases gk with
  | zero => exact absurd HA.out (by simp [spec_l1Cur_spoilt.l0])
  | succ k1 =>
   have H := HA.out
   clear HA
   simp only [spec_l1Cur_spoilt.l0] at H
   have HC6 := Az_ H
   clear H
   go_upto_region 2 with (fail)
   go_cut [19] (fun v19 wc => ∃ (kq : Nat) (x19_5 : Bool), v19 = .bool x19_5 ∧ Aside0 (j1 kq x1_1 a2 x7_1 x19_5 s0_0 x1001_1 x1002_1 = some (r1, r2, r3)) ∧ Aside0 (kq ≤ k1) ∧ Aside0 (IsS54 w0 wc g s0_0 x1001_1 x1002_1) ∧ Aside0 (KeepBut w wc g none) ∧ Aside0 (Below w0.heap.size w0 wc))
   case first =>
    have H := HC6.out
    clear HC6
    by_cases c7 : x7_1 > 0; rotate_left
    ·rw [if_neg c7] at H
     have c7b0 := decide_eq_false c7
     clear c7
     (first | rw [c7b0] | (simp only [i64_w, i32_w]; rw [c7b0]) | skip)
     have H' := Az_ H
     clear H
     go_wp2
     go_meet
     case rel => exact ⟨_, (false), qaz_, H', ⟨by have := HK1.out; first | omega | exact Nat.le_refl _⟩, ⟨w47_⟩, ⟨w49_⟩, ⟨w51_⟩⟩
    rw [if_pos c7] at H
    have c7b0 := decide_eq_true c7
    clear c7
    (first | rw [c7b0] | (simp only [i64_w, i32_w]; rw [c7b0]) | skip)
    have H' := Az_ H
    clear H
    go_wp2
    go_meet
    case rel => exact ⟨_, (decide ((x1_1.size : Int) > 0)), qaz_, H', ⟨by have := HK1.out; first | omega | exact Nat.le_refl _⟩, ⟨w47_⟩, ⟨w49_⟩, ⟨w51_⟩⟩
   case rest =>
    clear HC6
    obtain ⟨kq, x19_5, rfl, HA, HJ5, HI0, HK, HB⟩ := hcut
    cases kq with
    | zero => exact absurd HA.out (by simp [j1])
    | succ kj5 =>
     have H := HA.out
     clear HA
     simp only [j1] at H
     by_cases c8 : x19_5 = true
     ·subst c8
      rw [if_pos rfl] at H
      replace H := bqz_ H; obtain ⟨⟨t439, t440, t441⟩, A9, H⟩ := H
      replace H := bqz_ H; obtain ⟨⟨t442, t443, t444⟩, A10, H⟩ := H
      replace H : (if 0 ≤ t442 then (if t442 < (a2.size : Int) then ((some (([bt a2 t442] : List Int) : List Int)).bind fun y445 => ((spec_l1Cur_pick.f s0_0 t443 t444 3).bind fun bt448 => (if bt448.1 = 0 then (if 0 ≤ t439 then (if t439 ≤ (x1_1.size : Int) then (if (x1_1.extract 0 (t439 : Int).toNat).size + (strOfNums y445).size ≤ 9223372036854775807 then (if ((x1_1.extract 0 (t439 : Int).toNat) ++ (strOfNums y445)).size + (x1_1.extract (t439 : Int).toNat x1_1.size).size ≤ 9223372036854775807 then (spec_l1Cur_spoilt.l0 kj5 (((x1_1.extract 0 (t439 : Int).toNat) ++ (strOfNums y445)) ++ (x1_1.extract (t439 : Int).toNat x1_1.size)) a2 (wrap64 (x7_1 - 1)) s0_0 bt448.2.1 bt448.2.2) else (none)) else (none)) else (none)) else (none)) else (if bt448.1 = 1 then (if 0 ≤ t439 then (if t439 ≤ (x1_1.size : Int) then (if (x1_1.extract 0 (t439 : Int).toNat).size + (strOfNums y445).size ≤ 9223372036854775807 then (if 0 ≤ (wrap64 (t439 + 1)) then (if (wrap64 (t439 + 1)) ≤ (x1_1.size : Int) then (if ((x1_1.extract 0 (t439 : Int).toNat) ++ (strOfNums y445)).size + (x1_1.extract ((wrap64 (t439 + 1)) : Int).toNat x1_1.size).size ≤ 9223372036854775807 then (spec_l1Cur_spoilt.l0 kj5 (((x1_1.extract 0 (t439 : Int).toNat) ++ (strOfNums y445)) ++ (x1_1.extract ((wrap64 (t439 + 1)) : Int).toNat x1_1.size)) a2 (wrap64 (x7_1 - 1)) s0_0 bt448.2.1 bt448.2.2) else (none)) else (none)) else (none)) else (none)) else (none)) else (none)) else (if 0 ≤ t439 then (if t439 ≤ (x1_1.size : Int) then (if 0 ≤ (wrap64 (t439 + 1)) then (if (wrap64 (t439 + 1)) ≤ (x1_1.size : Int) then (if (x1_1.extract 0 (t439 : Int).toNat).size + (x1_1.extract ((wrap64 (t439 + 1)) : Int).toNat x1_1.size).size ≤ 9223372036854775807 then (spec_l1Cur_spoilt.l0 kj5 ((x1_1.extract 0 (t439 : Int).toNat) ++ (x1_1.extract ((wrap64 (t439 + 1)) : Int).toNat x1_1.size)) a2 (wrap64 (x7_1 - 1)) s0_0 bt448.2.1 bt448.2.2) else (none)) else (none)) else (none)) else (none)) else (none)))))) else (none)) else (none)) = some (r1, r2, r3) := H
      by_cases c11 : 0 ≤ t442; rotate_left
      ·rw [if_neg c11] at H
       exact absurd H (by simp)
      rw [if_pos c11] at H
      have c11b0 := decide_eq_true c11
      clear c11
      by_cases c12 : t442 < (a2.size : Int); rotate_left
      ·rw [if_neg c12] at H
       exact absurd H (by simp)
      rw [if_pos c12] at H
      have c12b0 := decide_eq_true c12
      clear c12
      obtain ⟨y445, hy445⟩ : ∃ y_ : List Int, y_ = (([bt a2 t442] : List Int)) := ⟨_, rfl⟩
      replace H : ((spec_l1Cur_pick.f s0_0 t443 t444 3).bind fun bt448 => (if bt448.1 = 0 then (if 0 ≤ t439 then (if t439 ≤ (x1_1.size : Int) then (if (x1_1.extract 0 (t439 : Int).toNat).size + (strOfNums y445).size ≤ 9223372036854775807 then (if ((x1_1.extract 0 (t439 : Int).toNat) ++ (strOfNums y445)).size + (x1_1.extract (t439 : Int).toNat x1_1.size).size ≤ 9223372036854775807 then (spec_l1Cur_spoilt.l0 kj5 (((x1_1.extract 0 (t439 : Int).toNat) ++ (strOfNums y445)) ++ (x1_1.extract (t439 : Int).toNat x1_1.size)) a2 (wrap64 (x7_1 - 1)) s0_0 bt448.2.1 bt448.2.2) else (none)) else (none)) else (none)) else (none)) else (if bt448.1 = 1 then (if 0 ≤ t439 then (if t439 ≤ (x1_1.size : Int) then (if (x1_1.extract 0 (t439 : Int).toNat).size + (strOfNums y445).size ≤ 9223372036854775807 then (if 0 ≤ (wrap64 (t439 + 1)) then (if (wrap64 (t439 + 1)) ≤ (x1_1.size : Int) then (if ((x1_1.extract 0 (t439 : Int).toNat) ++ (strOfNums y445)).size + (x1_1.extract ((wrap64 (t439 + 1)) : Int).toNat x1_1.size).size ≤ 9223372036854775807 then (spec_l1Cur_spoilt.l0 kj5 (((x1_1.extract 0 (t439 : Int).toNat) ++ (strOfNums y445)) ++ (x1_1.extract ((wrap64 (t439 + 1)) : Int).toNat x1_1.size)) a2 (wrap64 (x7_1 - 1)) s0_0 bt448.2.1 bt448.2.2) else (none)) else (none)) else (none)) else (none)) else (none)) else (none)) else (if 0 ≤ t439 then (if t439 ≤ (x1_1.size : Int) then (if 0 ≤ (wrap64 (t439 + 1)) then (if (wrap64 (t439 + 1)) ≤ (x1_1.size : Int) then (if (x1_1.extract 0 (t439 : Int).toNat).size + (x1_1.extract ((wrap64 (t439 + 1)) : Int).toNat x1_1.size).size ≤ 9223372036854775807 then (spec_l1Cur_spoilt.l0 kj5 ((x1_1.extract 0 (t439 : Int).toNat) ++ (x1_1.extract ((wrap64 (t439 + 1)) : Int).toNat x1_1.size)) a2 (wrap64 (x7_1 - 1)) s0_0 bt448.2.1 bt448.2.2) else (none)) else (none)) else (none)) else (none)) else (none))))) = some (r1, r2, r3) := by first | (rw [hy445]; with_reducible exact H) | (have H2_ := (Option.bind_some _ _).symm.trans H; rw [hy445]; with_reducible exact H2_) | (have H2_ := (Option.bind_some _ _).symm.trans H; with_reducible exact H2_) | with_reducible exact H | (rw [hy445]; exact H) | exact H
      have Ny445 := Az_ hy445
      clear hy445
      replace H := bqz_ H; obtain ⟨⟨t448, t449, t450⟩, A14, H⟩ := H
      replace H : (if t448 = 0 then (if 0 ≤ t439 then (if t439 ≤ (x1_1.size : Int) then (if (x1_1.extract 0 (t439 : Int).toNat).size + (strOfNums y445).size ≤ 9223372036854775807 then (if ((x1_1.extract 0 (t439 : Int).toNat) ++ (strOfNums y445)).size + (x1_1.extract (t439 : Int).toNat x1_1.size).size ≤ 9223372036854775807 then (spec_l1Cur_spoilt.l0 kj5 (((x1_1.extract 0 (t439 : Int).toNat) ++ (strOfNums y445)) ++ (x1_1.extract (t439 : Int).toNat x1_1.size)) a2 (wrap64 (x7_1 - 1)) s0_0 t449 t450) else (none)) else (none)) else (none)) else (none)) else (if t448 = 1 then (if 0 ≤ t439 then (if t439 ≤ (x1_1.size : Int) then (if (x1_1.extract 0 (t439 : Int).toNat).size + (strOfNums y445).size ≤ 9223372036854775807 then (if 0 ≤ (wrap64 (t439 + 1)) then (if (wrap64 (t439 + 1)) ≤ (x1_1.size : Int) then (if ((x1_1.extract 0 (t439 : Int).toNat) ++ (strOfNums y445)).size + (x1_1.extract ((wrap64 (t439 + 1)) : Int).toNat x1_1.size).size ≤ 9223372036854775807 then (spec_l1Cur_spoilt.l0 kj5 (((x1_1.extract 0 (t439 : Int).toNat) ++ (strOfNums y445)) ++ (x1_1.extract ((wrap64 (t439 + 1)) : Int).toNat x1_1.size)) a2 (wrap64 (x7_1 - 1)) s0_0 t449 t450) else (none)) else (none)) else (none)) else (none)) else (none)) else (none)) else (if 0 ≤ t439 then (if t439 ≤ (x1_1.size : Int) then (if 0 ≤ (wrap64 (t439 + 1)) then (if (wrap64 (t439 + 1)) ≤ (x1_1.size : Int) then (if (x1_1.extract 0 (t439 : Int).toNat).size + (x1_1.extract ((wrap64 (t439 + 1)) : Int).toNat x1_1.size).size ≤ 9223372036854775807 then (spec_l1Cur_spoilt.l0 kj5 ((x1_1.extract 0 (t439 : Int).toNat) ++ (x1_1.extract ((wrap64 (t439 + 1)) : Int).toNat x1_1.size)) a2 (wrap64 (x7_1 - 1)) s0_0 t449 t450) else (none)) else (none)) else (none)) else (none)) else (none)))) = some (r1, r2, r3) := H
      by_cases c15 : t448 = 0
      ·rw [if_pos c15] at H
       have c15b0 : (t448 == 0) = true := beq_iff_eq.mpr c15
       have c15b1 : (t448 != 0) = false := bne_eq_false_iff_eq.mpr c15
       clear c15
       by_cases c16 : 0 ≤ t439; rotate_left
       ·rw [if_neg c16] at H
        exact absurd H (by simp)
       rw [if_pos c16] at H
       have c16b0 := eq_true c16
       have c16b1 := decide_eq_true c16
       clear c16
       by_cases c17 : t439 ≤ (x1_1.size : Int); rotate_left
       ·rw [if_neg c17] at H
        exact absurd H (by simp)
       rw [if_pos c17] at H
       have c17b0 := eq_true c17
       have c17b1 := decide_eq_true c17
       clear c17
       by_cases c18 : (x1_1.extract 0 (t439 : Int).toNat).size + (strOfNums y445).size ≤ 9223372036854775807; rotate_left
       ·rw [if_neg c18] at H
        exact absurd H (by simp)
       rw [if_pos c18] at H
       have c18b0 := eq_true c18
       have c18b1 := decide_eq_true c18
       try have c18b2 : (9223372036854775807 < (x1_1.extract 0 (t439 : Int).toNat).size + (strOfNums y445).size) = False := eq_false (Nat.not_lt.2 c18)
       have c19b0 := eq_true (od_ : 0 ≤ t439)
       have c20b0 := eq_true (od_ : t439 ≤ (x1_1.size : Int))
       by_cases c21 : ((x1_1.extract 0 (t439 : Int).toNat) ++ (strOfNums y445)).size + (x1_1.extract (t439 : Int).toNat x1_1.size).size ≤ 9223372036854775807; rotate_left
       ·rw [if_neg c21] at H
        exact absurd H (by simp)
       rw [if_pos c21] at H
       have c21b0 := eq_true c21
       have c21b1 := decide_eq_true c21
       try have c21b2 : (9223372036854775807 < ((x1_1.extract 0 (t439 : Int).toNat) ++ (strOfNums y445)).size + (x1_1.extract (t439 : Int).toNat x1_1.size).size) = False := eq_false (Nat.not_lt.2 c21)
       have H' := Az_ H
       clear H
       go_wp2_with (first | (go_at_call 57; (with_reducible refine (spec_l1Cur_pick.calls g s0_0 x1001_1 x1002_1 (x1_1.size : Int) t439 t440 t441 w0 _ ?side1 ?side2 A9.out).mono ?_); (case side1 => repeat (first | (with_reducible first | exact HI0.out | apply IsS54.alloc | apply IsS54.drewN | apply IsS54.drew | apply IsS54.set_1 | apply IsS54.set_2) | exact HI0.out)); (case side2 => repeat (first | (with_reducible first | exact HB.out | apply baz_ | apply bnz_ | apply bdz_ | refine bsz_ ?_ (IsS54.ge HI0.out)) | exact HB.out)); rintro e w22 ⟨rfl, hi, hb, hk⟩; replace HK := Az_ (KeepBut.trans (w49_) hk (.inl rfl)); replace HB := Az_ (hb); replace HI0 := Az_ (hi); (try clear hb); (try clear hk); (try clear hi)) | (go_at_call 57; (with_reducible refine (spec_l1Cur_pick.calls g s0_0 t440 t441 (a2.size : Int) t442 t443 t444 w0 _ ?side1 ?side2 A10.out).mono ?_); (case side1 => repeat (first | (with_reducible first | exact HI0.out | apply IsS54.alloc | apply IsS54.drewN | apply IsS54.drew | apply IsS54.set_1 | apply IsS54.set_2) | exact HI0.out)); (case side2 => repeat (first | (with_reducible first | exact HB.out | apply baz_ | apply bnz_ | apply bdz_ | refine bsz_ ?_ (IsS54.ge HI0.out)) | exact HB.out)); rintro e w23 ⟨rfl, hi, hb, hk⟩; replace HK := Az_ (KeepBut.trans (w49_) hk (.inl rfl)); replace HB := Az_ (hb); replace HI0 := Az_ (hi); (try clear hb); (try clear hk); (try clear hi); have p13 : 0 ≤ (t442 : Int) := od_; have q13 : t442 < (a2.size : Int) := od_; have hx13 := bt_at a2 t442; replace p13 := eq_true p13; replace q13 := eq_true q13) | ((with_reducible refine gate_dst (N := 32) rfl ?_); (try (refine gate_guard (by rfl) ?_; dsimp only)); refine Kd.R_lit (Kd.int .u8) _ 5 ?hg (N := 32) ?hd (xs := ([bt a2 t442] : List Int)) (inner := [.int .u8 (bt a2 t442)]) (ok := fun _ => True) (okp := fun _ => True) ?hr ?hp (fun _ hk => hk) trivial (Below.refl _ _) (Nat.le_refl _) (by simp) ?_; (case hd => rfl); (case hg => rfl); (case hr => first | (go_simp; done) | (go_simp; rfl)); (case hp => exact (Reps.one (show Kd.M (Kd.int .u8) _ _ _ (bt a2 t442) [.int .u8 (bt a2 t442)] from rfl) (Reps.none _ _))); intro v446 w24 ho25 hb hg_ hnew_; clear hg_ hnew_; (first | rw [← Ny445.out] at ho25 | (simp only [Int.reduceToNat] at ho25; rw [← Ny445.out] at ho25)); have HO447 := Az_ (Kd.R_lower ho25 (keep_size (w := w) (g := g) (row := none) (w49_))); replace HK := Az_ (KeepBut.trans (w49_) (KeepBut.of_below hb g none) (.inl rfl)); replace HB := Az_ (btz_ (w51_) hb); replace HI0 := Az_ (IsS54.below (w47_) hb); clear hb ho25; have hcv26 := own_string (P := Tryz.prog) Tryz.underlying22 Tryz.underlying5 Tryz.underlying9 (Kd.own_of_R HO447.out)) | (go_at_call 57; (with_reducible refine (spec_l1Cur_pick.calls g s0_0 t443 t444 3 t448 t449 t450 w0 _ ?side1 ?side2 A14.out).mono ?_); (case side1 => repeat (first | (with_reducible first | exact HI0.out | apply IsS54.alloc | apply IsS54.drewN | apply IsS54.drew | apply IsS54.set_1 | apply IsS54.set_2) | exact HI0.out)); (case side2 => repeat (first | (with_reducible first | exact HB.out | apply baz_ | apply bnz_ | apply bdz_ | refine bsz_ ?_ (IsS54.ge HI0.out)) | exact HB.out)); rintro e w27 ⟨rfl, hi, hb, hk⟩; replace HO447 := Az_ (Kd.R_mono (Kd.R_keep (IsS54.apart (show IsS54 w0 _ g s0_0 t443 t444 from w47_) (by exact urz_ HO447.out) (by decide)) hk (fun _ h => h.2)) (fun _ h => h.1)); replace HK := Az_ (KeepBut.trans (w49_) hk (.inl rfl)); replace HB := Az_ (hb); replace HI0 := Az_ (hi); (try clear hb); (try clear hk); (try clear hi)))
       repeat (go_quiet (fail); try go_wp2)
       go_roundg kj5
       case measure => have := HK1.out; have := HJ5.out; omega
       case rel => exact ⟨(((x1_1.extract 0 (t439 : Int).toNat) ++ (strOfNums y445)) ++ (x1_1.extract (t439 : Int).toNat x1_1.size)), (wrap64 (x7_1 - 1)), (t449), (t450), qaz_, qaz_, H', ⟨by have := HK1.out; have := HJ5.out; omega⟩, ⟨w47_⟩, ⟨w49_⟩, ⟨w51_⟩⟩
      rw [if_neg c15] at H
      have c15b0 : (t448 == 0) = false := beq_eq_false_iff_ne.mpr c15
      have c15b1 : (t448 != 0) = true := bne_iff_ne.mpr c15
      by_cases c28 : t448 = 1; rotate_left
      ·rw [if_neg c28] at H
       have c28b0 : (t448 == 1) = false := beq_eq_false_iff_ne.mpr c28
       have c28b1 : (t448 != 1) = true := bne_iff_ne.mpr c28
       by_cases c42 : 0 ≤ t439; rotate_left
       ·rw [if_neg c42] at H
        exact absurd H (by simp)
       rw [if_pos c42] at H
       have c42b0 := eq_true c42
       have c42b1 := decide_eq_true c42
       clear c42
       by_cases c43 : t439 ≤ (x1_1.size : Int); rotate_left
       ·rw [if_neg c43] at H
        exact absurd H (by simp)
       rw [if_pos c43] at H
       have c43b0 := eq_true c43
       have c43b1 := decide_eq_true c43
       clear c43
       obtain ⟨ji44, hji44⟩ : ∃ j_ : Int, (wrap64 (t439 + 1)) = j_ := ⟨_, rfl⟩
       replace H : (if 0 ≤ (ji44) then (if (ji44) ≤ (x1_1.size : Int) then (if (x1_1.extract 0 (t439 : Int).toNat).size + (x1_1.extract ((ji44) : Int).toNat x1_1.size).size ≤ 9223372036854775807 then (spec_l1Cur_spoilt.l0 kj5 ((x1_1.extract 0 (t439 : Int).toNat) ++ (x1_1.extract ((ji44) : Int).toNat x1_1.size)) a2 (wrap64 (x7_1 - 1)) s0_0 t449 t450) else (none)) else (none)) else (none)) = some (r1, r2, r3) := by first | (rw [hji44] at H; exact H) | (simp only [hji44] at H ⊢; exact H)
       (try rw [hji44] at A9)
       (try rw [hji44] at A10)
       (try rw [hji44] at A14)
       have hji44w : (IntKind.i64.wrap (t439 + 1)) = ji44 := (i64_w _).trans hji44
       by_cases c45 : 0 ≤ (ji44); rotate_left
       ·rw [if_neg c45] at H
        exact absurd H (by simp)
       rw [if_pos c45] at H
       have c45b0 := eq_true c45
       have c45b1 := decide_eq_true c45
       clear c45
       by_cases c46 : (ji44) ≤ (x1_1.size : Int); rotate_left
       ·rw [if_neg c46] at H
        exact absurd H (by simp)
       rw [if_pos c46] at H
       have c46b0 := eq_true c46
       have c46b1 := decide_eq_true c46
       clear c46
       by_cases c47 : (x1_1.extract 0 (t439 : Int).toNat).size + (x1_1.extract ((ji44) : Int).toNat x1_1.size).size ≤ 9223372036854775807; rotate_left
       ·rw [if_neg c47] at H
        exact absurd H (by simp)
       rw [if_pos c47] at H
       have c47b0 := eq_true c47
       have c47b1 := decide_eq_true c47
       try have c47b2 : (9223372036854775807 < (x1_1.extract 0 (t439 : Int).toNat).size + (x1_1.extract ((ji44) : Int).toNat x1_1.size).size) = False := eq_false (Nat.not_lt.2 c47)
       have H' := Az_ H
       clear H
       go_wp2_with (first | (go_at_call 57; (with_reducible refine (spec_l1Cur_pick.calls g s0_0 x1001_1 x1002_1 (x1_1.size : Int) t439 t440 t441 w0 _ ?side1 ?side2 A9.out).mono ?_); (case side1 => repeat (first | (with_reducible first | exact HI0.out | apply IsS54.alloc | apply IsS54.drewN | apply IsS54.drew | apply IsS54.set_1 | apply IsS54.set_2) | exact HI0.out)); (case side2 => repeat (first | (with_reducible first | exact HB.out | apply baz_ | apply bnz_ | apply bdz_ | refine bsz_ ?_ (IsS54.ge HI0.out)) | exact HB.out)); rintro e w48 ⟨rfl, hi, hb, hk⟩; replace HK := Az_ (KeepBut.trans (w49_) hk (.inl rfl)); replace HB := Az_ (hb); replace HI0 := Az_ (hi); (try clear hb); (try clear hk); (try clear hi)) | (go_at_call 57; (with_reducible refine (spec_l1Cur_pick.calls g s0_0 t440 t441 (a2.size : Int) t442 t443 t444 w0 _ ?side1 ?side2 A10.out).mono ?_); (case side1 => repeat (first | (with_reducible first | exact HI0.out | apply IsS54.alloc | apply IsS54.drewN | apply IsS54.drew | apply IsS54.set_1 | apply IsS54.set_2) | exact HI0.out)); (case side2 => repeat (first | (with_reducible first | exact HB.out | apply baz_ | apply bnz_ | apply bdz_ | refine bsz_ ?_ (IsS54.ge HI0.out)) | exact HB.out)); rintro e w49 ⟨rfl, hi, hb, hk⟩; replace HK := Az_ (KeepBut.trans (w49_) hk (.inl rfl)); replace HB := Az_ (hb); replace HI0 := Az_ (hi); (try clear hb); (try clear hk); (try clear hi); have p13 : 0 ≤ (t442 : Int) := od_; have q13 : t442 < (a2.size : Int) := od_; have hx13 := bt_at a2 t442; replace p13 := eq_true p13; replace q13 := eq_true q13) | ((with_reducible refine gate_dst (N := 32) rfl ?_); (try (refine gate_guard (by rfl) ?_; dsimp only)); refine Kd.R_lit (Kd.int .u8) _ 5 ?hg (N := 32) ?hd (xs := ([bt a2 t442] : List Int)) (inner := [.int .u8 (bt a2 t442)]) (ok := fun _ => True) (okp := fun _ => True) ?hr ?hp (fun _ hk => hk) trivial (Below.refl _ _) (Nat.le_refl _) (by simp) ?_; (case hd => rfl); (case hg => rfl); (case hr => first | (go_simp; done) | (go_simp; rfl)); (case hp => exact (Reps.one (show Kd.M (Kd.int .u8) _ _ _ (bt a2 t442) [.int .u8 (bt a2 t442)] from rfl) (Reps.none _ _))); intro v446 w50 ho51 hb hg_ hnew_; clear hg_ hnew_; (first | rw [← Ny445.out] at ho51 | (simp only [Int.reduceToNat] at ho51; rw [← Ny445.out] at ho51)); have HO447 := Az_ (Kd.R_lower ho51 (keep_size (w := w) (g := g) (row := none) (w49_))); replace HK := Az_ (KeepBut.trans (w49_) (KeepBut.of_below hb g none) (.inl rfl)); replace HB := Az_ (btz_ (w51_) hb); replace HI0 := Az_ (IsS54.below (w47_) hb); clear hb ho51; have hcv52 := own_string (P := Tryz.prog) Tryz.underlying22 Tryz.underlying5 Tryz.underlying9 (Kd.own_of_R HO447.out)) | (go_at_call 57; (with_reducible refine (spec_l1Cur_pick.calls g s0_0 t443 t444 3 t448 t449 t450 w0 _ ?side1 ?side2 A14.out).mono ?_); (case side1 => repeat (first | (with_reducible first | exact HI0.out | apply IsS54.alloc | apply IsS54.drewN | apply IsS54.drew | apply IsS54.set_1 | apply IsS54.set_2) | exact HI0.out)); (case side2 => repeat (first | (with_reducible first | exact HB.out | apply baz_ | apply bnz_ | apply bdz_ | refine bsz_ ?_ (IsS54.ge HI0.out)) | exact HB.out)); rintro e w53 ⟨rfl, hi, hb, hk⟩; replace HO447 := Az_ (Kd.R_mono (Kd.R_keep (IsS54.apart (show IsS54 w0 _ g s0_0 t443 t444 from w47_) (by exact urz_ HO447.out) (by decide)) hk (fun _ h => h.2)) (fun _ h => h.1)); replace HK := Az_ (KeepBut.trans (w49_) hk (.inl rfl)); replace HB := Az_ (hb); replace HI0 := Az_ (hi); (try clear hb); (try clear hk); (try clear hi)))
       repeat (go_quiet (fail); try go_wp2)
       go_roundg kj5
       case measure => have := HK1.out; have := HJ5.out; omega
       case rel => exact ⟨((x1_1.extract 0 (t439 : Int).toNat) ++ (x1_1.extract ((ji44) : Int).toNat x1_1.size)), (wrap64 (x7_1 - 1)), (t449), (t450), (by first | rfl | (simp; done) | (simp only [← hji44] <;> (first | rfl | simp)) | (simp [*]; done)), qaz_, H', ⟨by have := HK1.out; have := HJ5.out; omega⟩, ⟨w47_⟩, ⟨w49_⟩, ⟨w51_⟩⟩
      rw [if_pos c28] at H
      have c28b0 : (t448 == 1) = true := beq_iff_eq.mpr c28
      have c28b1 : (t448 != 1) = false := bne_eq_false_iff_eq.mpr c28
      clear c28
      by_cases c29 : 0 ≤ t439; rotate_left
      ·rw [if_neg c29] at H
       exact absurd H (by simp)
      rw [if_pos c29] at H
      have c29b0 := eq_true c29
      have c29b1 := decide_eq_true c29
      clear c29
      by_cases c30 : t439 ≤ (x1_1.size : Int); rotate_left
      ·rw [if_neg c30] at H
       exact absurd H (by simp)
      rw [if_pos c30] at H
      have c30b0 := eq_true c30
      have c30b1 := decide_eq_true c30
      clear c30
      by_cases c31 : (x1_1.extract 0 (t439 : Int).toNat).size + (strOfNums y445).size ≤ 9223372036854775807; rotate_left
      ·rw [if_neg c31] at H
       exact absurd H (by simp)
      rw [if_pos c31] at H
      have c31b0 := eq_true c31
      have c31b1 := decide_eq_true c31
      try have c31b2 : (9223372036854775807 < (x1_1.extract 0 (t439 : Int).toNat).size + (strOfNums y445).size) = False := eq_false (Nat.not_lt.2 c31)
      obtain ⟨ji32, hji32⟩ : ∃ j_ : Int, (wrap64 (t439 + 1)) = j_ := ⟨_, rfl⟩
      replace H : (if 0 ≤ (ji32) then (if (ji32) ≤ (x1_1.size : Int) then (if ((x1_1.extract 0 (t439 : Int).toNat) ++ (strOfNums y445)).size + (x1_1.extract ((ji32) : Int).toNat x1_1.size).size ≤ 9223372036854775807 then (spec_l1Cur_spoilt.l0 kj5 (((x1_1.extract 0 (t439 : Int).toNat) ++ (strOfNums y445)) ++ (x1_1.extract ((ji32) : Int).toNat x1_1.size)) a2 (wrap64 (x7_1 - 1)) s0_0 t449 t450) else (none)) else (none)) else (none)) = some (r1, r2, r3) := by first | (rw [hji32] at H; exact H) | (simp only [hji32] at H ⊢; exact H)
      (try rw [hji32] at A9)
      (try rw [hji32] at A10)
      (try rw [hji32] at A14)
      have hji32w : (IntKind.i64.wrap (t439 + 1)) = ji32 := (i64_w _).trans hji32
      by_cases c33 : 0 ≤ (ji32); rotate_left
      ·rw [if_neg c33] at H
       exact absurd H (by simp)
      rw [if_pos c33] at H
      have c33b0 := eq_true c33
      have c33b1 := decide_eq_true c33
      clear c33
      by_cases c34 : (ji32) ≤ (x1_1.size : Int); rotate_left
      ·rw [if_neg c34] at H
       exact absurd H (by simp)
      rw [if_pos c34] at H
      have c34b0 := eq_true c34
      have c34b1 := decide_eq_true c34
      clear c34
      by_cases c35 : ((x1_1.extract 0 (t439 : Int).toNat) ++ (strOfNums y445)).size + (x1_1.extract ((ji32) : Int).toNat x1_1.size).size ≤ 9223372036854775807; rotate_left
      ·rw [if_neg c35] at H
       exact absurd H (by simp)
      rw [if_pos c35] at H
      have c35b0 := eq_true c35
      have c35b1 := decide_eq_true c35
      try have c35b2 : (9223372036854775807 < ((x1_1.extract 0 (t439 : Int).toNat) ++ (strOfNums y445)).size + (x1_1.extract ((ji32) : Int).toNat x1_1.size).size) = False := eq_false (Nat.not_lt.2 c35)
      have H' := Az_ H
      clear H
      go_wp2_with (first | (go_at_call 57; (with_reducible refine (spec_l1Cur_pick.calls g s0_0 x1001_1 x1002_1 (x1_1.size : Int) t439 t440 t441 w0 _ ?side1 ?side2 A9.out).mono ?_); (case side1 => repeat (first | (with_reducible first | exact HI0.out | apply IsS54.alloc | apply IsS54.drewN | apply IsS54.drew | apply IsS54.set_1 | apply IsS54.set_2) | exact HI0.out)); (case side2 => repeat (first | (with_reducible first | exact HB.out | apply baz_ | apply bnz_ | apply bdz_ | refine bsz_ ?_ (IsS54.ge HI0.out)) | exact HB.out)); rintro e w36 ⟨rfl, hi, hb, hk⟩; replace HK := Az_ (KeepBut.trans (w49_) hk (.inl rfl)); replace HB := Az_ (hb); replace HI0 := Az_ (hi); (try clear hb); (try clear hk); (try clear hi)) | (go_at_call 57; (with_reducible refine (spec_l1Cur_pick.calls g s0_0 t440 t441 (a2.size : Int) t442 t443 t444 w0 _ ?side1 ?side2 A10.out).mono ?_); (case side1 => repeat (first | (with_reducible first | exact HI0.out | apply IsS54.alloc | apply IsS54.drewN | apply IsS54.drew | apply IsS54.set_1 | apply IsS54.set_2) | exact HI0.out)); (case side2 => repeat (first | (with_reducible first | exact HB.out | apply baz_ | apply bnz_ | apply bdz_ | refine bsz_ ?_ (IsS54.ge HI0.out)) | exact HB.out)); rintro e w37 ⟨rfl, hi, hb, hk⟩; replace HK := Az_ (KeepBut.trans (w49_) hk (.inl rfl)); replace HB := Az_ (hb); replace HI0 := Az_ (hi); (try clear hb); (try clear hk); (try clear hi); have p13 : 0 ≤ (t442 : Int) := od_; have q13 : t442 < (a2.size : Int) := od_; have hx13 := bt_at a2 t442; replace p13 := eq_true p13; replace q13 := eq_true q13) | ((with_reducible refine gate_dst (N := 32) rfl ?_); (try (refine gate_guard (by rfl) ?_; dsimp only)); refine Kd.R_lit (Kd.int .u8) _ 5 ?hg (N := 32) ?hd (xs := ([bt a2 t442] : List Int)) (inner := [.int .u8 (bt a2 t442)]) (ok := fun _ => True) (okp := fun _ => True) ?hr ?hp (fun _ hk => hk) trivial (Below.refl _ _) (Nat.le_refl _) (by simp) ?_; (case hd => rfl); (case hg => rfl); (case hr => first | (go_simp; done) | (go_simp; rfl)); (case hp => exact (Reps.one (show Kd.M (Kd.int .u8) _ _ _ (bt a2 t442) [.int .u8 (bt a2 t442)] from rfl) (Reps.none _ _))); intro v446 w38 ho39 hb hg_ hnew_; clear hg_ hnew_; (first | rw [← Ny445.out] at ho39 | (simp only [Int.reduceToNat] at ho39; rw [← Ny445.out] at ho39)); have HO447 := Az_ (Kd.R_lower ho39 (keep_size (w := w) (g := g) (row := none) (w49_))); replace HK := Az_ (KeepBut.trans (w49_) (KeepBut.of_below hb g none) (.inl rfl)); replace HB := Az_ (btz_ (w51_) hb); replace HI0 := Az_ (IsS54.below (w47_) hb); clear hb ho39; have hcv40 := own_string (P := Tryz.prog) Tryz.underlying22 Tryz.underlying5 Tryz.underlying9 (Kd.own_of_R HO447.out)) | (go_at_call 57; (with_reducible refine (spec_l1Cur_pick.calls g s0_0 t443 t444 3 t448 t449 t450 w0 _ ?side1 ?side2 A14.out).mono ?_); (case side1 => repeat (first | (with_reducible first | exact HI0.out | apply IsS54.alloc | apply IsS54.drewN | apply IsS54.drew | apply IsS54.set_1 | apply IsS54.set_2) | exact HI0.out)); (case side2 => repeat (first | (with_reducible first | exact HB.out | apply baz_ | apply bnz_ | apply bdz_ | refine bsz_ ?_ (IsS54.ge HI0.out)) | exact HB.out)); rintro e w41 ⟨rfl, hi, hb, hk⟩; replace HO447 := Az_ (Kd.R_mono (Kd.R_keep (IsS54.apart (show IsS54 w0 _ g s0_0 t443 t444 from w47_) (by exact urz_ HO447.out) (by decide)) hk (fun _ h => h.2)) (fun _ h => h.1)); replace HK := Az_ (KeepBut.trans (w49_) hk (.inl rfl)); replace HB := Az_ (hb); replace HI0 := Az_ (hi); (try clear hb); (try clear hk); (try clear hi)))
      repeat (go_quiet (fail); try go_wp2)
      go_roundg kj5
      case measure => have := HK1.out; have := HJ5.out; omega
      case rel => exact ⟨(((x1_1.extract 0 (t439 : Int).toNat) ++ (strOfNums y445)) ++ (x1_1.extract ((ji32) : Int).toNat x1_1.size)), (wrap64 (x7_1 - 1)), (t449), (t450), (by first | rfl | (simp; done) | (simp only [← hji32] <;> (first | rfl | simp)) | (simp [*]; done)), qaz_, H', ⟨by have := HK1.out; have := HJ5.out; omega⟩, ⟨w47_⟩, ⟨w49_⟩, ⟨w51_⟩⟩
     ·replace c8 := Bool.eq_false_iff.mpr c8
      subst c8
      rw [if_neg nfz_] at H
      simp only [Option.some.injEq, Prod.mk.injEq] at H
      obtain ⟨rfl, rfl, rfl⟩ := H
      go_wp2
      go_ret
      exact ⟨w74_, w47_, w51_, w49_⟩

def spec_DrawParseShelf.f (k : Nat) (l0 : List Int) : Option (ByteArray) := (spec_l1Cur_sureShelf.f k l0 0 0).bind fun bt452 => ((spec_shText.f k bt452.1 bt452.2.1).bind fun t458 => ((spec_l1Cur_one.f l0 bt452.2.2.1 bt452.2.2.2 3).bind fun bt459 => (if bt459.1 = true then ((spec_l1Cur_spoilt.f k l0 bt459.2.1 bt459.2.2 t458 (⟨#[48, 49, 50, 51, 44, 99, 120]⟩ : ByteArray)).bind fun bt462 => (some bt462.1)) else (some t458))))
set_option maxHeartbeats 8000000 in
set_option maxRecDepth 100000 in
theorem spec_DrawParseShelf.calls (k : Nat) (A0 : Option Addr) (c0 : Nat) (l0 : List Int) (r : ByteArray) (w : World) (hr0 : Kd.C (Kd.int .u8) w A0 l0.length l0) (hc0 : l0.length ≤ c0) (h : spec_DrawParseShelf.f k l0 = some r) :
  Calls Tryz.prog 30 #[.slice A0 l0.length c0] w fun e w' => e = .returned (.string r) ∧ Below w.heap.size w w' := by
 have hu54 := Tryz.underlying54
 have HR0 := Az_ hr0
 have HC0 := Az_ hc0
 clear hr0 hc0
 have HB := Az_ (Below.refl w.heap.size w)
 have H : ((spec_l1Cur_sureShelf.f k l0 0 0).bind fun bt452 => ((spec_shText.f k bt452.1 bt452.2.1).bind fun t458 => ((spec_l1Cur_one.f l0 bt452.2.2.1 bt452.2.2.2 3).bind fun bt459 => (if bt459.1 = true then ((spec_l1Cur_spoilt.f k l0 bt459.2.1 bt459.2.2 t458 (⟨#[48, 49, 50, 51, 44, 99, 120]⟩ : ByteArray)).bind fun bt462 => (some bt462.1)) else (some t458))))) = some r := h
 clear h
 replace H := bqz_ H; obtain ⟨⟨t452, t455, t456, t457⟩, A2, H⟩ := H
 replace H := bqz_ H; obtain ⟨t458, A3, H⟩ := H
 replace H := bqz_ H; obtain ⟨⟨t459, t460, t461⟩, A4, H⟩ := H
 replace H : (if t459 = true then ((spec_l1Cur_spoilt.f k l0 t460 t461 t458 (⟨#[48, 49, 50, 51, 44, 99, 120]⟩ : ByteArray)).bind fun bt462 => (some bt462.1)) else (some t458)) = some r := H
 by_cases c5 : t459 = true
 ·subst c5
  rw [if_pos rfl] at H
  replace H := bqz_ H; obtain ⟨⟨t462, t463, t464⟩, A6, H⟩ := H
  replace H : (some t462) = some r := H
  obtain rfl := Option.some.inj H
  go_enter Tryz.func30, Tryz.ntmps30
  go_wp2_with (first | ((with_reducible refine gate_dst (N := 7) rfl ?_); refine box_event ?hg (N := 7) ?hd (cs := #[.slice A0 l0.length c0, .int .i64 0, .int .u64 0]) (t := 54) ?hr ?_; (case hd => rfl); (case hg => rfl); (case hr => first | (go_simp; done) | (go_simp; rfl)); intro gb451 hg w7 hbox hb; have BK451 := Az_ (hbox); have GW451 := Az_ ((by rw [hg]; exact (below_size (ubz_ HB.out)) : w.heap.size ≤ gb451)); have GE451 := Az_ ((by rw [hg]; exact (below_size (ubz_ HB.out)) : w.heap.size ≤ gb451)); replace HB := Az_ (btz_ (ubz_ HB.out) hb); clear hb hbox hg) | ((with_reducible refine gate_callee (f := 54) rfl ?_); refine goesL_ (some 9) rfl rfl Tryz.func54 (w94_) rfl #[.pointer (some ⟨gb451, 0, none⟩)] rfl maz_ ?_; have HI451 := Az_ (show IsS54 w w7 gb451 l0 0 0 from ⟨_, _, BK451.out, GE451.out, HR0.out⟩); (with_reducible refine (spec_l1Cur_sureShelf.calls k gb451 l0 0 0 t452 t455 t456 t457 w _ ?side1 ?side2 A2.out).mono ?_); (case side1 => repeat (first | (with_reducible first | exact HI451.out | apply IsS54.alloc | apply IsS54.drewN | apply IsS54.drew | apply IsS54.set_1 | apply IsS54.set_2) | exact HI451.out)); (case side2 => repeat (first | (with_reducible first | exact HB.out | apply baz_ | apply bnz_ | apply bdz_ | refine bsz_ ?_ (IsS54.ge HI451.out)) | exact HB.out)); rintro e w8 ⟨v453, rfl, ho0, hi, hb, hk⟩; refine ⟨_, rfl, ?_⟩; have HO454 := Az_ (Kd.R_lower ho0 (below_size (w50_))); replace HB := Az_ (hb); replace HI451 := Az_ (hi); (try clear hb); (try clear hk); (try clear hi); (try clear ho0); obtain ⟨Ao9, co9, eo9⟩ := Kd.R_slice HO454.out; subst eo9) | ((with_reducible refine gate_callee (f := 46) rfl ?_); refine goesL_ (some 10) rfl rfl Tryz.func46 (w94_) rfl #[.agg #[.slice Ao9 t452.length co9, .int .i64 t455]] rfl maz_ ?_; (with_reducible refine (spec_shText.calls k _ _ t452 t455 t458 _ ?side1 ?side2 A3.out).mono ?_); (case side1 => exact ucz_ ((Kd.R_reads' HO454.out).2.2)); (case side2 => exact (Kd.R_reads' HO454.out).2.1); rintro e w10 ⟨rfl, hb⟩; refine ⟨_, rfl, ?_⟩; replace HO454 := Az_ (Kd.R_below (by exact urz_ HO454.out) hb); replace HB := Az_ (btz_ (w50_) hb); replace HI451 := Az_ (IsS54.below (w42_) hb); (try clear hb); (try clear hk); (try clear hi)) | ((with_reducible refine gate_callee (f := 34) rfl ?_); refine goesL_ (some 12) rfl rfl Tryz.func34 (w94_) rfl #[.pointer (some ⟨gb451, 0, none⟩), .int .i64 3] rfl maz_ ?_; (with_reducible refine (spec_l1Cur_one.calls gb451 l0 t456 t457 3 true t460 t461 w _ ?side1 ?side2 A4.out).mono ?_); (case side1 => repeat (first | (with_reducible first | exact HI451.out | apply IsS54.alloc | apply IsS54.drewN | apply IsS54.drew | apply IsS54.set_1 | apply IsS54.set_2) | exact HI451.out)); (case side2 => repeat (first | (with_reducible first | exact HB.out | apply baz_ | apply bnz_ | apply bdz_ | refine bsz_ ?_ (IsS54.ge HI451.out)) | exact HB.out)); rintro e w11 ⟨rfl, hi, hb, hk⟩; refine ⟨_, rfl, ?_⟩; replace HO454 := Az_ (Kd.R_mono (Kd.R_keep (IsS54.apart (show IsS54 w _ gb451 l0 t456 t457 from w42_) (by exact urz_ HO454.out) (by decide)) hk (fun _ h => h.2)) (fun _ h => h.1)); replace HB := Az_ (hb); replace HI451 := Az_ (hi); (try clear hb); (try clear hk); (try clear hi)) | ((with_reducible refine gate_callee (f := 55) rfl ?_); refine goesL_ (some 15) rfl rfl Tryz.func55 (w94_) rfl #[.pointer (some ⟨gb451, 0, none⟩), .string t458, .string (⟨#[48, 49, 50, 51, 44, 99, 120]⟩ : ByteArray)] rfl maz_ ?_; (with_reducible refine (spec_l1Cur_spoilt.calls k gb451 l0 t460 t461 t458 (⟨#[48, 49, 50, 51, 44, 99, 120]⟩ : ByteArray) t462 t463 t464 w _ ?side1 ?side2 A6.out).mono ?_); (case side1 => repeat (first | (with_reducible first | exact HI451.out | apply IsS54.alloc | apply IsS54.drewN | apply IsS54.drew | apply IsS54.set_1 | apply IsS54.set_2) | exact HI451.out)); (case side2 => repeat (first | (with_reducible first | exact HB.out | apply baz_ | apply bnz_ | apply bdz_ | refine bsz_ ?_ (IsS54.ge HI451.out)) | exact HB.out)); rintro e w12 ⟨rfl, hi, hb, hk⟩; refine ⟨_, rfl, ?_⟩; replace HO454 := Az_ (Kd.R_mono (Kd.R_keep (IsS54.apart (show IsS54 w _ gb451 l0 t460 t461 from w42_) (by exact urz_ HO454.out) (by decide)) hk (fun _ h => h.2)) (fun _ h => h.1)); replace HB := Az_ (hb); replace HI451 := Az_ (hi); (try clear hb); (try clear hk); (try clear hi)))
  go_ret
  exact ⟨w74_, w50_⟩
 ·replace c5 := Bool.eq_false_iff.mpr c5
  subst c5
  rw [if_neg nfz_] at H
  obtain rfl := Option.some.inj H
  go_enter Tryz.func30, Tryz.ntmps30
  go_wp2_with (first | ((with_reducible refine gate_dst (N := 7) rfl ?_); refine box_event ?hg (N := 7) ?hd (cs := #[.slice A0 l0.length c0, .int .i64 0, .int .u64 0]) (t := 54) ?hr ?_; (case hd => rfl); (case hg => rfl); (case hr => first | (go_simp; done) | (go_simp; rfl)); intro gb451 hg w13 hbox hb; have BK451 := Az_ (hbox); have GW451 := Az_ ((by rw [hg]; exact (below_size (ubz_ HB.out)) : w.heap.size ≤ gb451)); have GE451 := Az_ ((by rw [hg]; exact (below_size (ubz_ HB.out)) : w.heap.size ≤ gb451)); replace HB := Az_ (btz_ (ubz_ HB.out) hb); clear hb hbox hg) | ((with_reducible refine gate_callee (f := 54) rfl ?_); refine goesL_ (some 9) rfl rfl Tryz.func54 (w94_) rfl #[.pointer (some ⟨gb451, 0, none⟩)] rfl maz_ ?_; have HI451 := Az_ (show IsS54 w w13 gb451 l0 0 0 from ⟨_, _, BK451.out, GE451.out, HR0.out⟩); (with_reducible refine (spec_l1Cur_sureShelf.calls k gb451 l0 0 0 t452 t455 t456 t457 w _ ?side1 ?side2 A2.out).mono ?_); (case side1 => repeat (first | (with_reducible first | exact HI451.out | apply IsS54.alloc | apply IsS54.drewN | apply IsS54.drew | apply IsS54.set_1 | apply IsS54.set_2) | exact HI451.out)); (case side2 => repeat (first | (with_reducible first | exact HB.out | apply baz_ | apply bnz_ | apply bdz_ | refine bsz_ ?_ (IsS54.ge HI451.out)) | exact HB.out)); rintro e w14 ⟨v453, rfl, ho0, hi, hb, hk⟩; refine ⟨_, rfl, ?_⟩; have HO454 := Az_ (Kd.R_lower ho0 (below_size (w50_))); replace HB := Az_ (hb); replace HI451 := Az_ (hi); (try clear hb); (try clear hk); (try clear hi); (try clear ho0); obtain ⟨Ao15, co15, eo15⟩ := Kd.R_slice HO454.out; subst eo15) | ((with_reducible refine gate_callee (f := 46) rfl ?_); refine goesL_ (some 10) rfl rfl Tryz.func46 (w94_) rfl #[.agg #[.slice Ao15 t452.length co15, .int .i64 t455]] rfl maz_ ?_; (with_reducible refine (spec_shText.calls k _ _ t452 t455 t458 _ ?side1 ?side2 A3.out).mono ?_); (case side1 => exact ucz_ ((Kd.R_reads' HO454.out).2.2)); (case side2 => exact (Kd.R_reads' HO454.out).2.1); rintro e w16 ⟨rfl, hb⟩; refine ⟨_, rfl, ?_⟩; replace HO454 := Az_ (Kd.R_below (by exact urz_ HO454.out) hb); replace HB := Az_ (btz_ (w50_) hb); replace HI451 := Az_ (IsS54.below (w42_) hb); (try clear hb); (try clear hk); (try clear hi)) | ((with_reducible refine gate_callee (f := 34) rfl ?_); refine goesL_ (some 12) rfl rfl Tryz.func34 (w94_) rfl #[.pointer (some ⟨gb451, 0, none⟩), .int .i64 3] rfl maz_ ?_; (with_reducible refine (spec_l1Cur_one.calls gb451 l0 t456 t457 3 false t460 t461 w _ ?side1 ?side2 A4.out).mono ?_); (case side1 => repeat (first | (with_reducible first | exact HI451.out | apply IsS54.alloc | apply IsS54.drewN | apply IsS54.drew | apply IsS54.set_1 | apply IsS54.set_2) | exact HI451.out)); (case side2 => repeat (first | (with_reducible first | exact HB.out | apply baz_ | apply bnz_ | apply bdz_ | refine bsz_ ?_ (IsS54.ge HI451.out)) | exact HB.out)); rintro e w17 ⟨rfl, hi, hb, hk⟩; refine ⟨_, rfl, ?_⟩; replace HO454 := Az_ (Kd.R_mono (Kd.R_keep (IsS54.apart (show IsS54 w _ gb451 l0 t456 t457 from w42_) (by exact urz_ HO454.out) (by decide)) hk (fun _ h => h.2)) (fun _ h => h.1)); replace HB := Az_ (hb); replace HI451 := Az_ (hi); (try clear hb); (try clear hk); (try clear hi)))
  go_ret
  exact ⟨w74_, w50_⟩

end Go.Proofs.YtimladcenifppaaGreatDoor.P
end
