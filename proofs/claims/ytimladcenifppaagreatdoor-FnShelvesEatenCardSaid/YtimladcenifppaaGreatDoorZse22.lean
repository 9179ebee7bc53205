/- Lean functions with the answers of the program's Go functions, and for each the proof that the Go code comes to these answers; no condition. -/
import Derived.Test.YtimladcenifppaaGreatDoorZse21
section
namespace Go.Proofs.YtimladcenifppaaGreatDoor.P
open Go.RowKit Go.Proofs.YtimladcenifppaaGreatDoorW.PrintWords Go.Proofs.YtimladcenifppaaGreatDoorW.PrintLast Go.Proofs.YtimladcenifppaaGreatDoorW.PrintMore
attribute [local go_sem] max2_int min2_int max_two min_two max_three min_three max_four min_four   -- for this text's walks alone
set_option linter.unusedVariables false
set_option linter.unusedSimpArgs false

def impl_WormEats.j0 : Nat → Int → Bool → Int → Bool → Bool → List Int → Int → Option (Int × Bool)
 | 0, _, _, _, _, _, _, _ => none
 | k + 1, x1, x2, x3, x4, x23, x216000, x216001 => if x23 = true then (some (0, false)) else ((impl_Shelf_face.f k x216000 x216001 x1 x2).bind fun t221 => ((impl_Shelf_face.f k x216000 x216001 x3 x4).bind fun t222 => (some (mx (wrap64 (t221 - t222)) (wrap64 (-(wrap64 (t221 - t222)))), true))))
def impl_WormEats.f (k : Nat) (l0_0 : List Int) (a0_1 : Int) (a1 : Int) (a2 : Bool) (a3 : Int) (a4 : Bool) : Option (Int × Bool) := (impl_IsShelf.f k l0_0 a0_1).bind fun t216 => (if t216 = true then ((impl_Shelf_has.f k l0_0 a0_1 (([a1, a3] : List Int))).bind fun t220 => (impl_WormEats.j0 k a1 a2 a3 a4 (!t220) l0_0 a0_1)) else (impl_WormEats.j0 k a1 a2 a3 a4 true l0_0 a0_1))
def impl_WormEats.T3 : Bool × List (List Nat × List Nat) := (true, [([], []), ([], []), ([], []), ([0, 1, 2], [0, 1, 2]), ([], []), ([], []), ([], []), ([4, 5, 6, 3], [4, 5, 6]), ([3, 7], [3, 7]), ([8, 7, 0, 1, 2, 3, 4, 5, 6, 7, 8], [8])])
def impl_WormEats.B3 : List Nat := [0, 0, 0, 7, 0, 0, 0, 127, 255, 511]
theorem impl_WormEats.tab3 : rtab .any (opsOf Tryz.f6 3) = impl_WormEats.T3 := by kernel_rfl
theorem impl_WormEats.bits3 : waitsOk impl_WormEats.T3.2 impl_WormEats.B3 = true := by kernel_rfl
set_option maxHeartbeats 8000000 in
set_option maxRecDepth 100000 in
theorem impl_WormEats.calls (k : Nat) (A0_0 : Option Addr) (c0_0 : Nat) (l0_0 : List Int) (a0_1 : Int) (a1 : Int) (a2 : Bool) (a3 : Int) (a4 : Bool) (r1 : Int) (r2 : Bool) (w : World) (hr0_0 : Kd.C (Kd.int .i64) w A0_0 l0_0.length l0_0) (hc0_0 : l0_0.length ≤ c0_0) (h : impl_WormEats.f k l0_0 a0_1 a1 a2 a3 a4 = some (r1, r2)) :
  Calls Tryz.prog 6 #[.agg #[.slice A0_0 l0_0.length c0_0, .int .i64 a0_1], .int .i64 a1, .bool a2, .int .i64 a3, .bool a4] w fun e w' => e = .returned (.tuple #[.int .i64 r1, .bool r2]) ∧ Below w.heap.size w w' := by
 have hu26 := Tryz.underlying26
 have HR0_0 := Az_ hr0_0
 have HC0_0 := Az_ hc0_0
 clear hr0_0 hc0_0
 have HB := Az_ (Below.refl w.heap.size w)
 have H : ((impl_IsShelf.f k l0_0 a0_1).bind fun t216 => (if t216 = true then ((impl_Shelf_has.f k l0_0 a0_1 (([a1, a3] : List Int))).bind fun t220 => (j0 k a1 a2 a3 a4 (!t220) l0_0 a0_1)) else (j0 k a1 a2 a3 a4 true l0_0 a0_1))) = some (r1, r2) := h
 clear h
 have HC6 := Az_ H
 clear H
 go_enter Tryz.func6, Tryz.ntmps6
 go_upto_region 1 with (((with_reducible refine gate_dst (N := 5) rfl ?_); (try (refine gate_guard (by rfl) ?_; dsimp only)); refine box_event ?hg (N := 5) ?hd (cs := #[.slice A0_0 l0_0.length c0_0, .int .i64 a0_1]) (t := 26) ?hr ?_; (case hd => rfl); (case hg => rfl); (case hr => first | (go_simp; done) | (go_simp; rfl)); intro gb215 hg w7 hbox hb; have BK215 := Az_ (hbox); have GW215 := Az_ ((by rw [hg]; exact (below_size (ubz_ HB.out)) : w.heap.size ≤ gb215)); have GE215 := Az_ ((by rw [hg]; exact (below_size (ubz_ HB.out)) : w.heap.size ≤ gb215)); replace HB := Az_ (btz_ (ubz_ HB.out) hb); clear hb hbox hg))
 (try simp only [Act.put, List.setIfInBounds_toArray, List.set_cons_zero, List.set_cons_succ])
 go_cut [23] (fun v23 wc => ∃ (kq : Nat) (x23_5 : Bool), v23 = .bool x23_5 ∧ Aside0 (j0 kq a1 a2 a3 a4 x23_5 l0_0 a0_1 = some (r1, r2)) ∧ Aside0 (kq ≤ k) ∧ Aside0 (wc.heap[gb215]? = some (.cells #[(.slice A0_0 l0_0.length c0_0), .int .i64 a0_1] 26 (0, 0))) ∧ Aside0 (Below w.heap.size w wc))
 case first =>
  have H := HC6.out
  clear HC6
  replace H := bqz_ H; obtain ⟨t216, A8, H⟩ := H
  replace H : (if t216 = true then ((impl_Shelf_has.f k l0_0 a0_1 (([a1, a3] : List Int))).bind fun t220 => (j0 k a1 a2 a3 a4 (!t220) l0_0 a0_1)) else (j0 k a1 a2 a3 a4 true l0_0 a0_1)) = some (r1, r2) := H
  by_cases c9 : t216 = true; rotate_left
  ·replace c9 := Bool.eq_false_iff.mpr c9
   subst c9
   rw [if_neg nfz_] at H
   have H' := Az_ H
   clear H
   have hcz18_0 : w7.cell? ⟨gb215, 0, none⟩ = some (.slice A0_0 l0_0.length c0_0) := (blk_cell BK215.out 0).trans rfl
   have hcz18_1 : w7.cell? ⟨gb215, 1, none⟩ = some (.int .i64 a0_1) := (blk_cell BK215.out 1).trans rfl
   have hfz18_0 := blk_frozen BK215.out 0
   have hfz18_1 := blk_frozen BK215.out 1
   go_wp2_with (((with_reducible refine gate_callee (f := 19) rfl ?_); refine goesL_ (some 14) rfl rfl Tryz.func19 (w94_) rfl #[.agg #[.slice A0_0 l0_0.length c0_0, .int .i64 a0_1]] rfl maz_ ?_; (with_reducible refine (impl_IsShelf.calls k _ _ l0_0 a0_1 false _ ?side1 ?side2 A8.out).mono ?_); (case side1 => exact ucz_ ((Kd.C_below HR0_0.out HB.out))); (case side2 => exact HC0_0.out); rintro e w19 ⟨rfl, hb⟩; refine ⟨_, rfl, ?_⟩; have n1_ := Az_ (btz_ (w52_) hb); clear HB; replace BK215 := Az_ (ukbz_ BK215.out hb); have HB := n1_; clear n1_; (try clear hb)))
   go_meet
   case rel => exact ⟨_, (true), qaz_, H', ⟨w80_⟩, ⟨by (with_reducible repeat (first | refine knz_ ?_ _ | refine kdz_ ?_ | refine kaz_ ?_ _)); exact BK215.out⟩, ⟨w52_⟩⟩
  subst c9
  rw [if_pos rfl] at H
  obtain ⟨y217, hy217⟩ : ∃ y_ : List Int, y_ = (([a1, a3] : List Int)) := ⟨_, rfl⟩
  replace H : ((impl_Shelf_has.f k l0_0 a0_1 y217).bind fun t220 => (j0 k a1 a2 a3 a4 (!t220) l0_0 a0_1)) = some (r1, r2) := by first | (rw [hy217]; with_reducible exact H) | (have H2_ := (Option.bind_some _ _).symm.trans H; rw [hy217]; with_reducible exact H2_) | (have H2_ := (Option.bind_some _ _).symm.trans H; with_reducible exact H2_) | with_reducible exact H | (rw [hy217]; exact H) | exact H
  have Ny217 := Az_ hy217
  clear hy217
  replace H := bqz_ H; obtain ⟨t220, A10, H⟩ := H
  replace H : (j0 k a1 a2 a3 a4 (!t220) l0_0 a0_1) = some (r1, r2) := H
  have H' := Az_ H
  clear H
  have hcz11_0 : w7.cell? ⟨gb215, 0, none⟩ = some (.slice A0_0 l0_0.length c0_0) := (blk_cell BK215.out 0).trans rfl
  have hcz11_1 : w7.cell? ⟨gb215, 1, none⟩ = some (.int .i64 a0_1) := (blk_cell BK215.out 1).trans rfl
  have hfz11_0 := blk_frozen BK215.out 0
  have hfz11_1 := blk_frozen BK215.out 1
  go_wp2_with (first | ((with_reducible refine gate_callee (f := 19) rfl ?_); refine goesL_ (some 14) rfl rfl Tryz.func19 (w94_) rfl #[.agg #[.slice A0_0 l0_0.length c0_0, .int .i64 a0_1]] rfl maz_ ?_; (with_reducible refine (impl_IsShelf.calls k _ _ l0_0 a0_1 true _ ?side1 ?side2 A8.out).mono ?_); (case side1 => exact ucz_ ((Kd.C_below HR0_0.out HB.out))); (case side2 => exact HC0_0.out); rintro e w12 ⟨rfl, hb⟩; refine ⟨_, rfl, ?_⟩; have n1_ := Az_ (btz_ (w52_) hb); clear HB; replace BK215 := Az_ (ukbz_ BK215.out hb); have HB := n1_; clear n1_; (try clear hb); have hcz13_0 : w12.cell? ⟨gb215, 0, none⟩ = some (.slice A0_0 l0_0.length c0_0) := (blk_cell BK215.out 0).trans rfl; have hcz13_1 : w12.cell? ⟨gb215, 1, none⟩ = some (.int .i64 a0_1) := (blk_cell BK215.out 1).trans rfl; have hfz13_0 := blk_frozen BK215.out 0; have hfz13_1 := blk_frozen BK215.out 1) | ((with_reducible refine gate_dst (N := 20) rfl ?_); (try (refine gate_guard (by rfl) ?_; dsimp only)); refine Kd.R_lit (Kd.int .i64) _ 3 ?hg (N := 20) ?hd (xs := ([a1, a3] : List Int)) (inner := [.int .i64 a1, .int .i64 a3]) (ok := fun _ => True) (okp := fun _ => True) ?hr ?hp (fun _ hk => hk) trivial (Below.refl _ _) (Nat.le_refl _) (by simp) ?_; (case hd => rfl); (case hg => rfl); (case hr => first | (go_simp; done) | (go_simp; rfl)); (case hp => exact (Reps.one (show Kd.M (Kd.int .i64) _ _ _ a1 [.int .i64 a1] from rfl) (Reps.one (show Kd.M (Kd.int .i64) _ _ _ a3 [.int .i64 a3] from rfl) (Reps.none _ _)))); intro v218 w14 ho15 hb hg_ hnew_; clear hg_ hnew_; (first | rw [← Ny217.out] at ho15 | (simp only [Int.reduceToNat] at ho15; rw [← Ny217.out] at ho15)); have n0_ := Az_ (Kd.R_lower ho15 (below_size (w52_))); have n2_ := Az_ (btz_ (w52_) hb); clear HB; have HO219 := n0_; replace BK215 := Az_ (ukbz_ BK215.out hb); have HB := n2_; clear n0_ n2_; clear hb ho15; obtain ⟨Ao16, co16, eo16⟩ := Kd.R_slice HO219.out; subst eo16) | (go_at_call 35; (with_reducible refine (impl_Shelf_has.calls k _ _ l0_0 a0_1 _ _ y217 t220 _ ?side1 ?side2 ?side3 ?side4 A10.out).mono ?_); (case side1 => exact ucz_ ((Kd.C_below HR0_0.out HB.out))); (case side2 => exact HC0_0.out); (case side3 => exact ucz_ ((Kd.R_reads' HO219.out).2.2)); (case side4 => exact (Kd.R_reads' HO219.out).2.1); rintro e w17 ⟨rfl, hb⟩; have n0_ := Az_ (Kd.R_below (by exact urz_ HO219.out) hb); have n2_ := Az_ (btz_ (w52_) hb); clear HO219; clear HB; have HO219 := n0_; replace BK215 := Az_ (ukbz_ BK215.out hb); have HB := n2_; clear n0_ n2_; (try clear hb)))
  go_meet
  case rel => exact ⟨_, (!t220), qaz_, H', ⟨w80_⟩, ⟨by (with_reducible repeat (first | refine knz_ ?_ _ | refine kdz_ ?_ | refine kaz_ ?_ _)); exact BK215.out⟩, ⟨w52_⟩⟩
 case rest =>
  clear HC6
  obtain ⟨kq, x23_5, rfl, HA, HJ5, BK215, HB⟩ := hcut
  cases kq with
  | zero => exact absurd HA.out (by simp [j0])
  | succ kj5 =>
   have H := HA.out
   clear HA
   simp only [j0] at H
   by_cases c20 : x23_5 = true
   ·subst c20
    rw [if_pos rfl] at H
    simp only [Option.some.injEq, Prod.mk.injEq] at H
    obtain ⟨rfl, rfl⟩ := H
    go_wp2
    go_ret2
    exact ⟨w74_, w52_⟩
   ·replace c20 := Bool.eq_false_iff.mpr c20
    subst c20
    rw [if_neg nfz_] at H
    replace H := bqz_ H; obtain ⟨t221, A21, H⟩ := H
    replace H := bqz_ H; obtain ⟨t222, A22, H⟩ := H
    replace H : (some (mx (wrap64 (t221 - t222)) (wrap64 (-(wrap64 (t221 - t222)))), true)) = some (r1, r2) := H
    obtain ⟨ji23, hji23⟩ : ∃ j_ : Int, (mx (wrap64 (t221 - t222)) (wrap64 (-(wrap64 (t221 - t222))))) = j_ := ⟨_, rfl⟩
    replace H : (some (ji23, true)) = some (r1, r2) := by first | (rw [hji23] at H; exact H) | (simp only [hji23] at H ⊢; exact H)
    (try rw [hji23] at A21)
    (try rw [hji23] at A22)
    have hji23_ : (if (wrap64 (t221 - t222)) < (wrap64 (-(wrap64 (t221 - t222)))) then (wrap64 (-(wrap64 (t221 - t222)))) else (wrap64 (t221 - t222))) = ji23 := hji23
    simp only [Option.some.injEq, Prod.mk.injEq] at H
    obtain ⟨rfl, rfl⟩ := H
    try go_wp2
    have n0_ := Az_ (kdz_ BK215.out)
    have n1_ := Az_ (bdz_ HB.out)
    clear BK215 HB
    have BK215 := n0_
    have HB := n1_
    clear n0_ n1_
    refine start_ (n := 10) (S := fun w' => w'.cell? ⟨gb215, 0, none⟩ = some (.slice A0_0 l0_0.length c0_0) ∧ w'.cell? ⟨gb215, 1, none⟩ = some (.int .i64 a0_1)) (ds := []) #[false, false, false, false, false, false, false, false, false, false] (w94_) rfl rfl ⟨(blk_cell BK215.out 0).trans rfl, (blk_cell BK215.out 1).trans rfl⟩ (fun hHeld => ?_); refine with_tabW impl_WormEats.tab3 impl_WormEats.bits3 (fun HT_ HW_ => ?_)
    generalize wc.drew = w24 at BK215 HB hHeld ⊢
    refine pz_ 1 25 [0,1,1,8] ?_
    refine pz_ 2 26 [0,1,2,7] ?_
    refine pz_ 5 29 [0,1,2,2,1,4] ?_
    refine pz_ 6 30 [0,1,2,2,2,3] ?_
    refine tz2_ 0 24 [3,2,2,3] ?_
    refine tz2_ 4 28 [3,1,3,3] ?_
    refine one_ (i := 3) (N := some 27) (mz_ [7,3]) rfl rfl (one_of HT_.out (w94_)) (by decide) (fun K hK => ?_)
    refine goes_ Tryz.func36 (w94_) rfl #[.agg #[.slice A0_0 l0_0.length c0_0, .int .i64 a0_1], .int .i64 a1, .bool a2] (by rfl) rfl rfl maz_ ?_
    with_reducible refine (impl_Shelf_face.calls kj5 _ _ l0_0 a0_1 a1 a2 t221 _ ?side1 ?side2 A21.out).mono ?_
    (case side1 => repeat (first | exact (Kd.C_below HR0_0.out HB.out) | (with_reducible refine Kd.C_alloc ?_ _) | (with_reducible refine Kd.C_drewN ?_ _) | (with_reducible refine Kd.C_drew ?_)))
    (case side2 => exact HC0_0.out)
    rintro e w25 ⟨rfl, hb⟩
    refine ⟨_, rfl, ?_⟩
    have n1_ := Az_ (btz_ (w52_) hb)
    clear HB
    replace BK215 := Az_ (ukbz_ BK215.out hb)
    have HB := n1_
    clear n1_
    clear hb
    refine hK.out _ _ ⟨(blk_cell BK215.out 0).trans rfl, (blk_cell BK215.out 1).trans rfl⟩ (fun hHeld => ?_)
    clear hK K
    refine nz_ 27 ?_
    refine one_ (i := 7) (N := some 31) (mz_ [8,2]) rfl rfl (one_of HT_.out (w94_)) (by decide) (fun K hK => ?_)
    refine goes_ Tryz.func36 (w94_) rfl #[.agg #[.slice A0_0 l0_0.length c0_0, .int .i64 a0_1], .int .i64 a3, .bool a4] (by rfl) rfl rfl maz_ ?_
    with_reducible refine (impl_Shelf_face.calls kj5 _ _ l0_0 a0_1 a3 a4 t222 _ ?side1 ?side2 A22.out).mono ?_
    (case side1 => repeat (first | exact (Kd.C_below HR0_0.out HB.out) | (with_reducible refine Kd.C_alloc ?_ _) | (with_reducible refine Kd.C_drewN ?_ _) | (with_reducible refine Kd.C_drew ?_)))
    (case side2 => exact HC0_0.out)
    rintro e w26 ⟨rfl, hb⟩
    refine ⟨_, rfl, ?_⟩
    have n1_ := Az_ (btz_ (w52_) hb)
    clear HB
    replace BK215 := Az_ (ukbz_ BK215.out hb)
    have HB := n1_
    clear n1_
    clear hb
    refine hK.out _ _ ⟨(blk_cell BK215.out 0).trans rfl, (blk_cell BK215.out 1).trans rfl⟩ (fun hHeld => ?_)
    clear hK K
    refine nz_ 31 ?_
    refine pz_ 8 32 [9,1] ?_
    refine pz_ 9 12 [10] ?_
    refine done_ (done_of HT_.out (w94_)) ?_
    try go_wp2
    go_ret2
    exact ⟨by first | rfl | (simp [errW_none, errW_some] <;> rfl) | (simp only [← hji23]; first | rfl | (simp [errW_none, errW_some] <;> rfl)) | (simp [*, errW_none, errW_some] <;> rfl), w52_⟩

def spec_l1In.f (a0 : Int) (a1 : Int) (a2 : Int) : Option (Bool) := if a0 ≥ a1 then (some (decide (a0 ≤ a2))) else (some false)
set_option maxHeartbeats 8000000 in
set_option maxRecDepth 100000 in
theorem spec_l1In.calls (a0 : Int) (a1 : Int) (a2 : Int) (r : Bool) (w : World) (h : spec_l1In.f a0 a1 a2 = some r) :
  Calls Tryz.prog 59 #[.int .i64 a0, .int .i64 a1, .int .i64 a2] w fun e w' => e = .returned (.bool r) ∧ Drawn0 w w' := by
 have H : (if a0 ≥ a1 then (some (decide (a0 ≤ a2))) else (some false)) = some r := h
 clear h
 by_cases c4 : a0 ≥ a1
 ·rw [if_pos c4] at H
  have c4b0 := decide_eq_true c4
  clear c4
  obtain rfl := Option.some.inj H
  go_enter Tryz.func59, Tryz.ntmps59
  go_wp2
  go_ret
  exact ⟨w79_, w77_⟩
 ·rw [if_neg c4] at H
  have c4b0 := decide_eq_false c4
  clear c4
  obtain rfl := Option.some.inj H
  go_enter Tryz.func59, Tryz.ntmps59
  go_wp2
  go_ret
  exact ⟨w79_, w77_⟩

def spec_l1All.l0 : Nat → Int → Int → List Int → Int → Int → Option (Bool)
 | 0, _, _, _, _, _ => none
 | k + 1, x1, x2, x9, x10, x11 => if x11 < x10 then (if 0 ≤ x11 then (if x11 < (x9.length : Int) then ((spec_l1In.f (rd x9 x11) x1 x2).bind fun t224 => (if t224 = true then (spec_l1All.l0 k x1 x2 x9 x10 (wrap64 (x11 + 1))) else (some false))) else (none)) else (none)) else (some true)
def spec_l1All.f (k : Nat) (l0 : List Int) (a1 : Int) (a2 : Int) : Option (Bool) := spec_l1All.l0 k a1 a2 l0 (l0.length : Int) 0
theorem spec_l1All.mono_l : ∀ k, (∀ y0 y1 y2 y3 y4, LeO (spec_l1All.l0 k y0 y1 y2 y3 y4) (spec_l1All.l0 (k + 1) y0 y1 y2 y3 y4))
 | 0 => fun _ _ _ _ _ r h => by simp [spec_l1All.l0] at h
 | k + 1 => by
  have ih0 := spec_l1All.mono_l k
  ·intro y0 y1 y2 y3 y4
   unfold spec_l1All.l0
   repeat' (with_reducible first | exact ih0 _ _ _ _ _ | exact LeO.refl _ | exact LeO.none _ | refine LeO.ite ?_ ?_ | refine LeO.bind ?_ (fun _ => ?_))
theorem spec_l1All.mono : ∀ a0 a1 a2 k, LeO (spec_l1All.f k a0 a1 a2) (spec_l1All.f (k + 1) a0 a1 a2) := by
 intro a0 a1 a2 k
 have ih0 := spec_l1All.mono_l k
 unfold spec_l1All.f
 repeat' (with_reducible first | exact ih0 _ _ _ _ _ | exact LeO.refl _ | exact LeO.none _ | refine LeO.ite ?_ ?_ | refine LeO.bind ?_ (fun _ => ?_))
set_option maxHeartbeats 8000000 in
set_option maxRecDepth 100000 in
theorem spec_l1All.calls (k : Nat) (A0 : Option Addr) (c0 : Nat) (l0 : List Int) (a1 : Int) (a2 : Int) (r : Bool) (w : World) (hr0 : Kd.C (Kd.int .i64) w A0 l0.length l0) (hc0 : l0.length ≤ c0) (h : spec_l1All.f k l0 a1 a2 = some r) :
  Calls Tryz.prog 64 #[.slice A0 l0.length c0, .int .i64 a1, .int .i64 a2] w fun e w' => e = .returned (.bool r) ∧ Drawn0 w w' := by
 have HR0 := Az_ hr0
 have HC0 := Az_ hc0
 clear hr0 hc0
 have H : (spec_l1All.l0 k a1 a2 l0 (l0.length : Int) 0) = some r := h
 clear h
 have H' := Az_ H
 clear H
 go_enter Tryz.func64, Tryz.ntmps64
 go_wp2
 go_loopg [11] k (fun kq v11 w' => ∃ (x11_1 : Int), v11 = .int .i64 x11_1 ∧ Aside0 (spec_l1All.l0 kq a1 a2 l0 (l0.length : Int) x11_1 = some r) ∧ Aside0 (kq ≤ k) ∧ Drawn0 w w')
 case atStart => exact ⟨(0), qaz_, H', ⟨Nat.le_refl _⟩, w77_⟩
 case round =>
  clear H'
  obtain ⟨x11_1, rfl, HA, HK1, ⟨m1, rfl⟩⟩ := hrel
  cases gk with
  | zero => exact absurd HA.out (by simp [spec_l1All.l0])
  | succ k1 =>
   have H := HA.out
   clear HA
   simp only [spec_l1All.l0] at H
   by_cases c4 : x11_1 < (l0.length : Int)
   ·rw [if_pos c4] at H
    have c4b0 := decide_eq_true c4
    clear c4
    by_cases c5 : 0 ≤ x11_1; rotate_left
    ·rw [if_neg c5] at H
     exact absurd H (by simp)
    rw [if_pos c5] at H
    have c5b0 := decide_eq_true c5
    clear c5
    by_cases c6 : x11_1 < (l0.length : Int); rotate_left
    ·rw [if_neg c6] at H
     exact absurd H (by simp)
    rw [if_pos c6] at H
    have c6b0 := decide_eq_true c6
    clear c6
    replace H := bqz_ H; obtain ⟨t224, A7, H⟩ := H
    replace H : (if t224 = true then (spec_l1All.l0 k1 a1 a2 l0 (l0.length : Int) (wrap64 (x11_1 + 1))) else (some false)) = some r := H
    by_cases c8 : t224 = true; rotate_left
    ·replace c8 := Bool.eq_false_iff.mpr c8
     subst c8
     rw [if_neg nfz_] at H
     obtain rfl := Option.some.inj H
     have p223 : 0 ≤ (x11_1 : Int) := od_
     have q223 : x11_1 < (l0.length : Int) := od_
     obtain ⟨ad223, e223, hx223_0⟩ := Kd.at_int HR0.out x11_1 p223 q223
     cases e223
     replace p223 := eq_true p223
     replace q223 := eq_true q223
     go_wp2_with (((with_reducible refine gate_callee (f := 59) rfl ?_); refine goesL_ (some 18) rfl rfl Tryz.func59 (w94_) rfl #[.int .i64 (rd l0 x11_1), .int .i64 a1, .int .i64 a2] rfl maz_ ?_; (with_reducible refine (spec_l1In.calls (rd l0 x11_1) a1 a2 false _ A7.out).mono ?_); rintro e w' ⟨rfl, ⟨nd, rfl⟩⟩; refine ⟨_, rfl, ?_⟩))
     go_ret
     exact ⟨w79_, w77_⟩
    subst c8
    rw [if_pos rfl] at H
    have H' := Az_ H
    clear H
    have p223 : 0 ≤ (x11_1 : Int) := od_
    have q223 : x11_1 < (l0.length : Int) := od_
    obtain ⟨ad223, e223, hx223_0⟩ := Kd.at_int HR0.out x11_1 p223 q223
    cases e223
    replace p223 := eq_true p223
    replace q223 := eq_true q223
    go_wp2_with (((with_reducible refine gate_callee (f := 59) rfl ?_); refine goesL_ (some 18) rfl rfl Tryz.func59 (w94_) rfl #[.int .i64 (rd l0 x11_1), .int .i64 a1, .int .i64 a2] rfl maz_ ?_; (with_reducible refine (spec_l1In.calls (rd l0 x11_1) a1 a2 true _ A7.out).mono ?_); rintro e w' ⟨rfl, ⟨nd, rfl⟩⟩; refine ⟨_, rfl, ?_⟩))
    go_roundg k1
    case measure => have := HK1.out; omega
    case rel => exact ⟨(wrap64 (x11_1 + 1)), qaz_, H', ⟨w85_⟩, w77_⟩
   ·rw [if_neg c4] at H
    have c4b0 := decide_eq_false c4
    clear c4
    obtain rfl := Option.some.inj H
    go_wp2
    go_ret
    exact ⟨w79_, w77_⟩


def spec_shGood.f (k : Nat) (l0_0 : List Int) (a0_1 : Int) : Option (Bool) := (spec_l1In.f (l0_0.length : Int) 1 8).bind fun t226 => (if t226 = true then ((spec_l1All.f k l0_0 1 100).bind fun t227 => (if t227 = true then ((spec_l1In.f a0_1 0 10).bind fun t228 => (some t228)) else (some false))) else (some false))
theorem spec_shGood.mono : ∀ a0 a1 k, LeO (spec_shGood.f k a0 a1) (spec_shGood.f (k + 1) a0 a1) := by
 intro a0 a1 k
 unfold spec_shGood.f
 repeat' (with_reducible first | exact spec_l1All.mono _ _ _ _ | exact LeO.refl _ | exact LeO.none _ | refine LeO.ite ?_ ?_ | refine LeO.bind ?_ (fun _ => ?_))
set_option maxHeartbeats 8000000 in
set_option maxRecDepth 100000 in
theorem spec_shGood.calls (k : Nat) (A0_0 : Option Addr) (c0_0 : Nat) (l0_0 : List Int) (a0_1 : Int) (r : Bool) (w : World) (hr0_0 : Kd.C (Kd.int .i64) w A0_0 l0_0.length l0_0) (hc0_0 : l0_0.length ≤ c0_0) (h : spec_shGood.f k l0_0 a0_1 = some r) :
  Calls Tryz.prog 43 #[.agg #[.slice A0_0 l0_0.length c0_0, .int .i64 a0_1]] w fun e w' => e = .returned (.bool r) ∧ Below w.heap.size w w' := by
 have hu26 := Tryz.underlying26
 have HR0_0 := Az_ hr0_0
 have HC0_0 := Az_ hc0_0
 clear hr0_0 hc0_0
 have HB := Az_ (Below.refl w.heap.size w)
 have H : ((spec_l1In.f (l0_0.length : Int) 1 8).bind fun t226 => (if t226 = true then ((spec_l1All.f k l0_0 1 100).bind fun t227 => (if t227 = true then ((spec_l1In.f a0_1 0 10).bind fun t228 => (some t228)) else (some false))) else (some false))) = some r := h
 clear h
 replace H := bqz_ H; obtain ⟨t226, A2, H⟩ := H
 replace H : (if t226 = true then ((spec_l1All.f k l0_0 1 100).bind fun t227 => (if t227 = true then ((spec_l1In.f a0_1 0 10).bind fun t228 => (some t228)) else (some false))) else (some false)) = some r := H
 by_cases c3 : t226 = true
 ·subst c3
  rw [if_pos rfl] at H
  replace H := bqz_ H; obtain ⟨t227, A4, H⟩ := H
  replace H : (if t227 = true then ((spec_l1In.f a0_1 0 10).bind fun t228 => (some t228)) else (some false)) = some r := H
  by_cases c5 : t227 = true; rotate_left
  ·replace c5 := Bool.eq_false_iff.mpr c5
   subst c5
   rw [if_neg nfz_] at H
   obtain rfl := Option.some.inj H
   go_enter Tryz.func43, Tryz.ntmps43
   go_wp2_with (first | ((with_reducible refine gate_dst (N := 1) rfl ?_); refine box_event ?hg (N := 1) ?hd (cs := #[.slice A0_0 l0_0.length c0_0, .int .i64 a0_1]) (t := 26) ?hr ?_; (case hd => rfl); (case hg => rfl); (case hr => first | (go_simp; done) | (go_simp; rfl)); intro gb225 hg w9 hbox hb; have BK225 := Az_ (hbox); have GW225 := Az_ ((by rw [hg]; exact (below_size (ubz_ HB.out)) : w.heap.size ≤ gb225)); have GE225 := Az_ ((by rw [hg]; exact (below_size (ubz_ HB.out)) : w.heap.size ≤ gb225)); replace HB := Az_ (btz_ (ubz_ HB.out) hb); clear hb hbox hg; have hcz10_0 : w9.cell? ⟨gb225, 0, none⟩ = some (.slice A0_0 l0_0.length c0_0) := (blk_cell BK225.out 0).trans rfl; have hcz10_1 : w9.cell? ⟨gb225, 1, none⟩ = some (.int .i64 a0_1) := (blk_cell BK225.out 1).trans rfl; have hfz10_0 := blk_frozen BK225.out 0; have hfz10_1 := blk_frozen BK225.out 1) | ((with_reducible refine gate_callee (f := 59) rfl ?_); refine goesL_ (some 6) rfl rfl Tryz.func59 (w94_) rfl #[.int .i64 (l0_0.length : Int), .int .i64 1, .int .i64 8] rfl maz_ ?_; (with_reducible refine (spec_l1In.calls (l0_0.length : Int) 1 8 true _ A2.out).mono ?_); rintro e w' ⟨rfl, ⟨nd, rfl⟩⟩; refine ⟨_, rfl, ?_⟩) | (go_at_call 64; (with_reducible refine (spec_l1All.calls k _ _ l0_0 1 100 false _ ?side1 ?side2 A4.out).mono ?_); (case side1 => repeat (first | exact (Kd.C_below HR0_0.out (w52_)) | (with_reducible refine Kd.C_alloc ?_ _) | (with_reducible refine Kd.C_drewN ?_ _) | (with_reducible refine Kd.C_drew ?_))); (case side2 => exact HC0_0.out); rintro e w' ⟨rfl, ⟨nd, rfl⟩⟩))
   go_ret
   exact ⟨w74_, w52_⟩
  subst c5
  rw [if_pos rfl] at H
  replace H := bqz_ H; obtain ⟨t228, A6, H⟩ := H
  replace H : (some t228) = some r := H
  obtain rfl := Option.some.inj H
  go_enter Tryz.func43, Tryz.ntmps43
  go_wp2_with (first | ((with_reducible refine gate_dst (N := 1) rfl ?_); refine box_event ?hg (N := 1) ?hd (cs := #[.slice A0_0 l0_0.length c0_0, .int .i64 a0_1]) (t := 26) ?hr ?_; (case hd => rfl); (case hg => rfl); (case hr => first | (go_simp; done) | (go_simp; rfl)); intro gb225 hg w7 hbox hb; have BK225 := Az_ (hbox); have GW225 := Az_ ((by rw [hg]; exact (below_size (ubz_ HB.out)) : w.heap.size ≤ gb225)); have GE225 := Az_ ((by rw [hg]; exact (below_size (ubz_ HB.out)) : w.heap.size ≤ gb225)); replace HB := Az_ (btz_ (ubz_ HB.out) hb); clear hb hbox hg; have hcz8_0 : w7.cell? ⟨gb225, 0, none⟩ = some (.slice A0_0 l0_0.length c0_0) := (blk_cell BK225.out 0).trans rfl; have hcz8_1 : w7.cell? ⟨gb225, 1, none⟩ = some (.int .i64 a0_1) := (blk_cell BK225.out 1).trans rfl; have hfz8_0 := blk_frozen BK225.out 0; have hfz8_1 := blk_frozen BK225.out 1) | ((with_reducible refine gate_callee (f := 59) rfl ?_); refine goesL_ (some 6) rfl rfl Tryz.func59 (w94_) rfl #[.int .i64 (l0_0.length : Int), .int .i64 1, .int .i64 8] rfl maz_ ?_; (with_reducible refine (spec_l1In.calls (l0_0.length : Int) 1 8 true _ A2.out).mono ?_); rintro e w' ⟨rfl, ⟨nd, rfl⟩⟩; refine ⟨_, rfl, ?_⟩) | (go_at_call 64; (with_reducible refine (spec_l1All.calls k _ _ l0_0 1 100 true _ ?side1 ?side2 A4.out).mono ?_); (case side1 => repeat (first | exact (Kd.C_below HR0_0.out (w52_)) | (with_reducible refine Kd.C_alloc ?_ _) | (with_reducible refine Kd.C_drewN ?_ _) | (with_reducible refine Kd.C_drew ?_))); (case side2 => exact HC0_0.out); rintro e w' ⟨rfl, ⟨nd, rfl⟩⟩) | (go_at_call 59; (with_reducible refine (spec_l1In.calls a0_1 0 10 t228 _ A6.out).mono ?_); rintro e w' ⟨rfl, ⟨nd, rfl⟩⟩))
  go_ret
  exact ⟨w74_, w52_⟩
 ·replace c3 := Bool.eq_false_iff.mpr c3
  subst c3
  rw [if_neg nfz_] at H
  obtain rfl := Option.some.inj H
  go_enter Tryz.func43, Tryz.ntmps43
  go_wp2_with (first | ((with_reducible refine gate_dst (N := 1) rfl ?_); refine box_event ?hg (N := 1) ?hd (cs := #[.slice A0_0 l0_0.length c0_0, .int .i64 a0_1]) (t := 26) ?hr ?_; (case hd => rfl); (case hg => rfl); (case hr => first | (go_simp; done) | (go_simp; rfl)); intro gb225 hg w11 hbox hb; have BK225 := Az_ (hbox); have GW225 := Az_ ((by rw [hg]; exact (below_size (ubz_ HB.out)) : w.heap.size ≤ gb225)); have GE225 := Az_ ((by rw [hg]; exact (below_size (ubz_ HB.out)) : w.heap.size ≤ gb225)); replace HB := Az_ (btz_ (ubz_ HB.out) hb); clear hb hbox hg; have hcz12_0 : w11.cell? ⟨gb225, 0, none⟩ = some (.slice A0_0 l0_0.length c0_0) := (blk_cell BK225.out 0).trans rfl; have hcz12_1 : w11.cell? ⟨gb225, 1, none⟩ = some (.int .i64 a0_1) := (blk_cell BK225.out 1).trans rfl; have hfz12_0 := blk_frozen BK225.out 0; have hfz12_1 := blk_frozen BK225.out 1) | ((with_reducible refine gate_callee (f := 59) rfl ?_); refine goesL_ (some 6) rfl rfl Tryz.func59 (w94_) rfl #[.int .i64 (l0_0.length : Int), .int .i64 1, .int .i64 8] rfl maz_ ?_; (with_reducible refine (spec_l1In.calls (l0_0.length : Int) 1 8 false _ A2.out).mono ?_); rintro e w' ⟨rfl, ⟨nd, rfl⟩⟩; refine ⟨_, rfl, ?_⟩))
  go_ret
  exact ⟨w74_, w52_⟩

def spec_shBoth.f (k : Nat) (l0_0 : List Int) (a0_1 : Int) (a1 : Int) : Option (Bool) := (spec_shGood.f k l0_0 a0_1).bind fun t230 => (if t230 = true then ((spec_l1In.f a1 0 (wrap64 ((l0_0.length : Int) - 1))).bind fun t231 => (some t231)) else (some false))
theorem spec_shBoth.mono : ∀ a0 a1 a2 k, LeO (spec_shBoth.f k a0 a1 a2) (spec_shBoth.f (k + 1) a0 a1 a2) := by
 intro a0 a1 a2 k
 unfold spec_shBoth.f
 repeat' (with_reducible first | exact spec_shGood.mono _ _ _ | exact LeO.refl _ | exact LeO.none _ | refine LeO.ite ?_ ?_ | refine LeO.bind ?_ (fun _ => ?_))
set_option maxHeartbeats 8000000 in
set_option maxRecDepth 100000 in
theorem spec_shBoth.calls (k : Nat) (A0_0 : Option Addr) (c0_0 : Nat) (l0_0 : List Int) (a0_1 : Int) (a1 : Int) (r : Bool) (w : World) (hr0_0 : Kd.C (Kd.int .i64) w A0_0 l0_0.length l0_0) (hc0_0 : l0_0.length ≤ c0_0) (h : spec_shBoth.f k l0_0 a0_1 a1 = some r) :
  Calls Tryz.prog 37 #[.agg #[.slice A0_0 l0_0.length c0_0, .int .i64 a0_1], .int .i64 a1] w fun e w' => e = .returned (.bool r) ∧ Below w.heap.size w w' := by
 have hu26 := Tryz.underlying26
 have HR0_0 := Az_ hr0_0
 have HC0_0 := Az_ hc0_0
 clear hr0_0 hc0_0
 have HB := Az_ (Below.refl w.heap.size w)
 have H : ((spec_shGood.f k l0_0 a0_1).bind fun t230 => (if t230 = true then ((spec_l1In.f a1 0 (wrap64 ((l0_0.length : Int) - 1))).bind fun t231 => (some t231)) else (some false))) = some r := h
 clear h
 replace H := bqz_ H; obtain ⟨t230, A3, H⟩ := H
 replace H : (if t230 = true then ((spec_l1In.f a1 0 (wrap64 ((l0_0.length : Int) - 1))).bind fun t231 => (some t231)) else (some false)) = some r := H
 by_cases c4 : t230 = true
 ·subst c4
  rw [if_pos rfl] at H
  replace H := bqz_ H; obtain ⟨t231, A5, H⟩ := H
  replace H : (some t231) = some r := H
  obtain rfl := Option.some.inj H
  go_enter Tryz.func37, Tryz.ntmps37
  go_wp2_with (first | ((with_reducible refine gate_dst (N := 2) rfl ?_); (try (refine gate_guard (by rfl) ?_; dsimp only)); refine box_event ?hg (N := 2) ?hd (cs := #[.slice A0_0 l0_0.length c0_0, .int .i64 a0_1]) (t := 26) ?hr ?_; (case hd => rfl); (case hg => rfl); (case hr => first | (go_simp; done) | (go_simp; rfl)); intro gb229 hg w6 hbox hb; have BK229 := Az_ (hbox); have GW229 := Az_ ((by rw [hg]; exact (below_size (ubz_ HB.out)) : w.heap.size ≤ gb229)); have GE229 := Az_ ((by rw [hg]; exact (below_size (ubz_ HB.out)) : w.heap.size ≤ gb229)); replace HB := Az_ (btz_ (ubz_ HB.out) hb); clear hb hbox hg; have hcz7_0 : w6.cell? ⟨gb229, 0, none⟩ = some (.slice A0_0 l0_0.length c0_0) := (blk_cell BK229.out 0).trans rfl; have hcz7_1 : w6.cell? ⟨gb229, 1, none⟩ = some (.int .i64 a0_1) := (blk_cell BK229.out 1).trans rfl; have hfz7_0 := blk_frozen BK229.out 0; have hfz7_1 := blk_frozen BK229.out 1) | ((with_reducible refine gate_callee (f := 43) rfl ?_); refine goesL_ (some 6) rfl rfl Tryz.func43 (w94_) rfl #[.agg #[.slice A0_0 l0_0.length c0_0, .int .i64 a0_1]] rfl maz_ ?_; (with_reducible refine (spec_shGood.calls k _ _ l0_0 a0_1 true _ ?side1 ?side2 A3.out).mono ?_); (case side1 => exact ucz_ ((Kd.C_below HR0_0.out HB.out))); (case side2 => exact HC0_0.out); rintro e w8 ⟨rfl, hb⟩; refine ⟨_, rfl, ?_⟩; have n1_ := Az_ (btz_ (w52_) hb); clear HB; replace BK229 := Az_ (ukbz_ BK229.out hb); have HB := n1_; clear n1_; (try clear hb); have hcz9_0 : w8.cell? ⟨gb229, 0, none⟩ = some (.slice A0_0 l0_0.length c0_0) := (blk_cell BK229.out 0).trans rfl; have hcz9_1 : w8.cell? ⟨gb229, 1, none⟩ = some (.int .i64 a0_1) := (blk_cell BK229.out 1).trans rfl; have hfz9_0 := blk_frozen BK229.out 0; have hfz9_1 := blk_frozen BK229.out 1) | (go_at_call 59; (with_reducible refine (spec_l1In.calls a1 0 (wrap64 ((l0_0.length : Int) - 1)) t231 _ A5.out).mono ?_); rintro e w' ⟨rfl, ⟨nd, rfl⟩⟩))
  go_ret
  exact ⟨w74_, w52_⟩
 ·replace c4 := Bool.eq_false_iff.mpr c4
  subst c4
  rw [if_neg nfz_] at H
  obtain rfl := Option.some.inj H
  go_enter Tryz.func37, Tryz.ntmps37
  go_wp2_with (first | ((with_reducible refine gate_dst (N := 2) rfl ?_); (try (refine gate_guard (by rfl) ?_; dsimp only)); refine box_event ?hg (N := 2) ?hd (cs := #[.slice A0_0 l0_0.length c0_0, .int .i64 a0_1]) (t := 26) ?hr ?_; (case hd => rfl); (case hg => rfl); (case hr => first | (go_simp; done) | (go_simp; rfl)); intro gb229 hg w10 hbox hb; have BK229 := Az_ (hbox); have GW229 := Az_ ((by rw [hg]; exact (below_size (ubz_ HB.out)) : w.heap.size ≤ gb229)); have GE229 := Az_ ((by rw [hg]; exact (below_size (ubz_ HB.out)) : w.heap.size ≤ gb229)); replace HB := Az_ (btz_ (ubz_ HB.out) hb); clear hb hbox hg; have hcz11_0 : w10.cell? ⟨gb229, 0, none⟩ = some (.slice A0_0 l0_0.length c0_0) := (blk_cell BK229.out 0).trans rfl; have hcz11_1 : w10.cell? ⟨gb229, 1, none⟩ = some (.int .i64 a0_1) := (blk_cell BK229.out 1).trans rfl; have hfz11_0 := blk_frozen BK229.out 0; have hfz11_1 := blk_frozen BK229.out 1) | ((with_reducible refine gate_callee (f := 43) rfl ?_); refine goesL_ (some 6) rfl rfl Tryz.func43 (w94_) rfl #[.agg #[.slice A0_0 l0_0.length c0_0, .int .i64 a0_1]] rfl maz_ ?_; (with_reducible refine (spec_shGood.calls k _ _ l0_0 a0_1 false _ ?side1 ?side2 A3.out).mono ?_); (case side1 => exact ucz_ ((Kd.C_below HR0_0.out HB.out))); (case side2 => exact HC0_0.out); rintro e w12 ⟨rfl, hb⟩; refine ⟨_, rfl, ?_⟩; have n1_ := Az_ (btz_ (w52_) hb); clear HB; replace BK229 := Az_ (ukbz_ BK229.out hb); have HB := n1_; clear n1_; (try clear hb)))
  go_ret
  exact ⟨w74_, w52_⟩

def spec_l1Most.f (a0 : Int) (a1 : Int) : Option (Int) := if a0 > a1 then (some a0) else (some a1)
set_option maxHeartbeats 8000000 in
set_option maxRecDepth 100000 in
theorem spec_l1Most.calls (a0 : Int) (a1 : Int) (r : Int) (w : World) (h : spec_l1Most.f a0 a1 = some r) :
  Calls Tryz.prog 60 #[.int .i64 a0, .int .i64 a1] w fun e w' => e = .returned (.int .i64 r) ∧ Drawn0 w w' := by
 have H : (if a0 > a1 then (some a0) else (some a1)) = some r := h
 clear h
 by_cases c3 : a0 > a1
 ·rw [if_pos c3] at H
  have c3b0 := decide_eq_true c3
  clear c3
  obtain rfl := Option.some.inj H
  go_enter Tryz.func60, Tryz.ntmps60
  go_wp2
  go_ret
  exact ⟨w79_, w77_⟩
 ·rw [if_neg c3] at H
  have c3b0 := decide_eq_false c3
  clear c3
  obtain rfl := Option.some.inj H
  go_enter Tryz.func60, Tryz.ntmps60
  go_wp2
  go_ret
  exact ⟨w79_, w77_⟩

def spec_l1Abs.f (a0 : Int) : Option (Int) := (spec_l1Most.f a0 (wrap64 (-a0))).bind fun t232 => (some t232)
set_option maxHeartbeats 8000000 in
set_option maxRecDepth 100000 in
theorem spec_l1Abs.calls (a0 : Int) (r : Int) (w : World) (h : spec_l1Abs.f a0 = some r) :
  Calls Tryz.prog 38 #[.int .i64 a0] w fun e w' => e = .returned (.int .i64 r) ∧ Drawn0 w w' := by
 have H : ((spec_l1Most.f a0 (wrap64 (-a0))).bind fun t232 => (some t232)) = some r := h
 clear h
 replace H := bqz_ H; obtain ⟨t232, A2, H⟩ := H
 replace H : (some t232) = some r := H
 obtain rfl := Option.some.inj H
 go_enter Tryz.func38, Tryz.ntmps38
 go_wp2_with (((with_reducible refine gate_callee (f := 60) rfl ?_); refine goesL_ (some 6) rfl rfl Tryz.func60 (w94_) rfl #[.int .i64 a0, .int .i64 (wrap64 (-a0))] rfl maz_ ?_; (with_reducible refine (spec_l1Most.calls a0 (wrap64 (-a0)) t232 _ A2.out).mono ?_); rintro e w' ⟨rfl, ⟨nd, rfl⟩⟩; refine ⟨_, rfl, ?_⟩))
 go_ret
 exact ⟨w79_, w77_⟩

def spec_shLeft.l0 : Nat → Int → List Int → Int → Int → List Int → Int → Option (Int)
 | 0, _, _, _, _, _, _ => none
 | k + 1, x5, x11, x12, x13, x234000, x234001 => if x13 < x12 then (if 0 ≤ x13 then (if x13 < (x11.length : Int) then (spec_shLeft.l0 k (wrap64 (x5 + (wrap64 ((rd x11 x13) + (wrap64 (2 * x234001)))))) x11 x12 (wrap64 (x13 + 1)) x234000 x234001) else (none)) else (none)) else (some x5)
def spec_shLeft.f (k : Nat) (l0_0 : List Int) (a0_1 : Int) (a1 : Int) : Option (Int) := if 0 ≤ a1 then (if a1 ≤ (l0_0.length : Int) then (spec_shLeft.l0 k 0 (l0_0.take (a1 : Int).toNat) ((l0_0.take (a1 : Int).toNat).length : Int) 0 l0_0 a0_1) else (none)) else (none)
set_option maxHeartbeats 8000000 in
set_option maxRecDepth 100000 in
theorem spec_shLeft.calls (k : Nat) (A0_0 : Option Addr) (c0_0 : Nat) (l0_0 : List Int) (a0_1 : Int) (a1 : Int) (r : Int) (w : World) (hr0_0 : Kd.C (Kd.int .i64) w A0_0 l0_0.length l0_0) (hc0_0 : l0_0.length ≤ c0_0) (h : spec_shLeft.f k l0_0 a0_1 a1 = some r) :
  Calls Tryz.prog 44 #[.agg #[.slice A0_0 l0_0.length c0_0, .int .i64 a0_1], .int .i64 a1] w fun e w' => e = .returned (.int .i64 r) ∧ Below w.heap.size w w' := by
 have hu26 := Tryz.underlying26
 have HR0_0 := Az_ hr0_0
 have HC0_0 := Az_ hc0_0
 clear hr0_0 hc0_0
 have HB := Az_ (Below.refl w.heap.size w)
 have H : (if 0 ≤ a1 then (if a1 ≤ (l0_0.length : Int) then (spec_shLeft.l0 k 0 (l0_0.take (a1 : Int).toNat) ((l0_0.take (a1 : Int).toNat).length : Int) 0 l0_0 a0_1) else (none)) else (none)) = some r := h
 clear h
 by_cases c3 : 0 ≤ a1
 ·rw [if_pos c3] at H
  have c3b0 := eq_true c3
  have c3b1 := decide_eq_true c3
  clear c3
  by_cases c4 : a1 ≤ (l0_0.length : Int); rotate_left
  ·rw [if_neg c4] at H
   exact absurd H (by simp)
  rw [if_pos c4] at H
  have c4b0 := eq_true c4
  have c4b1 := decide_eq_true c4
  have CL_l0_0_a1 := Az_ (show ((l0_0.take (a1 : Int).toNat).length : Int) = max a1 0 from by rw [List.length_take]; omega)
  clear c4
  have H' := Az_ H
  clear H
  go_enter Tryz.func44, Tryz.ntmps44
  go_wp2_with (((with_reducible refine gate_dst (N := 2) rfl ?_); refine box_event ?hg (N := 2) ?hd (cs := #[.slice A0_0 l0_0.length c0_0, .int .i64 a0_1]) (t := 26) ?hr ?_; (case hd => rfl); (case hg => rfl); (case hr => first | (go_simp; done) | (go_simp; rfl)); intro gb233 hg w5 hbox hb; have BK233 := Az_ (hbox); have GW233 := Az_ ((by rw [hg]; exact (below_size (ubz_ HB.out)) : w.heap.size ≤ gb233)); have GE233 := Az_ ((by rw [hg]; exact (below_size (ubz_ HB.out)) : w.heap.size ≤ gb233)); replace HB := Az_ (btz_ (ubz_ HB.out) hb); clear hb hbox hg; have hcz6_0 : w5.cell? ⟨gb233, 0, none⟩ = some (.slice A0_0 l0_0.length c0_0) := (blk_cell BK233.out 0).trans rfl; have hcz6_1 : w5.cell? ⟨gb233, 1, none⟩ = some (.int .i64 a0_1) := (blk_cell BK233.out 1).trans rfl; have hfz6_0 := blk_frozen BK233.out 0; have hfz6_1 := blk_frozen BK233.out 1; obtain ⟨i07, hi07, _, hsz7, _⟩ := info_parts info3; obtain ⟨hcut7, hA7, hC7⟩ := print_take_of (P := Tryz.prog) (Value.int .i64) 0 24 3 .i64 Tryz.underlying24 hi07 hsz7 A0_0 c0_0 l0_0 a1 (od_) (od_) HC0_0.out; have HR234 := Az_ (Kd.C_of_reads (h1 := fun _ => rfl) (hA7 _ (Kd.reads_of_C HR0_0.out))); have HC234 := Az_ hC7; clear hA7 hC7 hi07 hsz7))
  go_loopg [5, 13] k (fun kq v5 v13 w' => ∃ (x5_1 : Int) (x13_1 : Int), v5 = .int .i64 x5_1 ∧ v13 = .int .i64 x13_1 ∧ Aside0 (spec_shLeft.l0 kq x5_1 (l0_0.take (a1 : Int).toNat) ((l0_0.take (a1 : Int).toNat).length : Int) x13_1 l0_0 a0_1 = some r) ∧ Aside0 (kq ≤ k) ∧ Aside0 (w'.heap[gb233]? = some (.cells #[(.slice A0_0 l0_0.length c0_0), .int .i64 a0_1] 26 (0, 0))) ∧ Aside0 (Below w.heap.size w w'))
  case atStart => exact ⟨(0), (0), qaz_, qaz_, H', ⟨Nat.le_refl _⟩, ⟨by (with_reducible repeat (first | refine knz_ ?_ _ | refine kdz_ ?_ | refine kaz_ ?_ _)); exact BK233.out⟩, ⟨w52_⟩⟩
  case round =>
   clear H'
   clear c3b0 c3b1 c4b0 c4b1 hcz6_0 hcz6_1 hfz6_0 hfz6_1
   obtain ⟨x5_1, x13_1, rfl, rfl, HA, HK1, BK233, HB⟩ := hrel
   cases gk with
   | zero => exact absurd HA.out (by simp [spec_shLeft.l0])
   | succ k1 =>
    have H := HA.out
    clear HA
    simp only [spec_shLeft.l0] at H
    by_cases c8 : x13_1 < ((l0_0.take (a1 : Int).toNat).length : Int); rotate_left
    ·rw [if_neg c8] at H
     have c8b0 := decide_eq_false c8
     have c8b9 : decide (x13_1 < max a1 0) = false := decide_eq_false (by have h1_ := c8; have h2_ := CL_l0_0_a1.out; omega)
     clear c8
     obtain rfl := Option.some.inj H
     go_wp2
     go_ret
     exact ⟨w74_, w52_⟩
    rw [if_pos c8] at H
    have c8b0 := decide_eq_true c8
    have c8b9 : decide (x13_1 < max a1 0) = true := decide_eq_true (by have h1_ := c8; have h2_ := CL_l0_0_a1.out; omega)
    clear c8
    by_cases c9 : 0 ≤ x13_1; rotate_left
    ·rw [if_neg c9] at H
     exact absurd H (by simp)
    rw [if_pos c9] at H
    have c9b0 := decide_eq_true c9
    clear c9
    by_cases c10 : x13_1 < ((l0_0.take (a1 : Int).toNat).length : Int); rotate_left
    ·rw [if_neg c10] at H
     exact absurd H (by simp)
    rw [if_pos c10] at H
    have c10b0 := decide_eq_true c10
    have c10b9 : decide (x13_1 < max a1 0) = true := decide_eq_true (by have h1_ := c10; have h2_ := CL_l0_0_a1.out; omega)
    clear c10
    have H' := Az_ H
    clear H
    have p235 : 0 ≤ (x13_1 : Int) := od_
    have q235 : x13_1 < ((l0_0.take (a1 : Int).toNat).length : Int) := od_
    have q235x : (x13_1 < max a1 0) = True := eq_true (by have h1_ := q235; have h2_ := CL_l0_0_a1.out; omega)
    obtain ⟨ad235, e235, hx235_0⟩ := Kd.at_int HR234.out x13_1 p235 q235
    cases e235
    replace hx235_0 := hbz_ HB.out hx235_0
    replace p235 := eq_true p235
    replace q235 := eq_true q235
    have hcz11_0 : wr.cell? ⟨gb233, 0, none⟩ = some (.slice (some ad235) l0_0.length c0_0) := (blk_cell BK233.out 0).trans rfl
    have hcz11_1 : wr.cell? ⟨gb233, 1, none⟩ = some (.int .i64 a0_1) := (blk_cell BK233.out 1).trans rfl
    have hfz11_0 := blk_frozen BK233.out 0
    have hfz11_1 := blk_frozen BK233.out 1
    go_wp2
    go_roundg k1
    case measure => have := HK1.out; omega
    case rel => exact ⟨(wrap64 (x5_1 + (wrap64 ((rd (l0_0.take (a1 : Int).toNat) x13_1) + (wrap64 (2 * a0_1)))))), (wrap64 (x13_1 + 1)), qaz_, qaz_, H', ⟨w85_⟩, ⟨by (with_reducible repeat (first | refine knz_ ?_ _ | refine kdz_ ?_ | refine kaz_ ?_ _)); exact BK233.out⟩, ⟨w52_⟩⟩
 ·rw [if_neg c3] at H
  exact absurd H (by simp)


def spec_shFace.f (k : Nat) (l0_0 : List Int) (a0_1 : Int) (a1 : Int) (a2 : Bool) : Option (Int) := (spec_shLeft.f k l0_0 a0_1 a1).bind fun t237 => (if a2 = true then (some (wrap64 (t237 + a0_1))) else (if 0 ≤ a1 then (if a1 < (l0_0.length : Int) then (some (wrap64 ((wrap64 (t237 + a0_1)) + (rd l0_0 a1)))) else (none)) else (none)))
set_option maxHeartbeats 8000000 in
set_option maxRecDepth 100000 in
theorem spec_shFace.calls (k : Nat) (A0_0 : Option Addr) (c0_0 : Nat) (l0_0 : List Int) (a0_1 : Int) (a1 : Int) (a2 : Bool) (r : Int) (w : World) (hr0_0 : Kd.C (Kd.int .i64) w A0_0 l0_0.length l0_0) (hc0_0 : l0_0.length ≤ c0_0) (h : spec_shFace.f k l0_0 a0_1 a1 a2 = some r) :
  Calls Tryz.prog 39 #[.agg #[.slice A0_0 l0_0.length c0_0, .int .i64 a0_1], .int .i64 a1, .bool a2] w fun e w' => e = .returned (.int .i64 r) ∧ Below w.heap.size w w' := by
 have hu26 := Tryz.underlying26
 have HR0_0 := Az_ hr0_0
 have HC0_0 := Az_ hc0_0
 clear hr0_0 hc0_0
 have HB := Az_ (Below.refl w.heap.size w)
 have H : ((spec_shLeft.f k l0_0 a0_1 a1).bind fun t237 => (if a2 = true then (some (wrap64 (t237 + a0_1))) else (if 0 ≤ a1 then (if a1 < (l0_0.length : Int) then (some (wrap64 ((wrap64 (t237 + a0_1)) + (rd l0_0 a1)))) else (none)) else (none)))) = some r := h
 clear h
 replace H := bqz_ H; obtain ⟨t237, A4, H⟩ := H
 replace H : (if a2 = true then (some (wrap64 (t237 + a0_1))) else (if 0 ≤ a1 then (if a1 < (l0_0.length : Int) then (some (wrap64 ((wrap64 (t237 + a0_1)) + (rd l0_0 a1)))) else (none)) else (none))) = some r := H
 by_cases c5 : a2 = true
 ·subst c5
  rw [if_pos rfl] at H
  obtain rfl := Option.some.inj H
  go_enter Tryz.func39, Tryz.ntmps39
  try go_wp2_with (((with_reducible refine gate_dst (N := 3) rfl ?_); refine box_event ?hg (N := 3) ?hd (cs := #[.slice A0_0 l0_0.length c0_0, .int .i64 a0_1]) (t := 26) ?hr ?_; (case hd => rfl); (case hg => rfl); (case hr => first | (go_simp; done) | (go_simp; rfl)); intro gb236 hg w6 hbox hb; have BK236 := Az_ (hbox); have GW236 := Az_ ((by rw [hg]; exact (below_size (ubz_ HB.out)) : w.heap.size ≤ gb236)); have GE236 := Az_ ((by rw [hg]; exact (below_size (ubz_ HB.out)) : w.heap.size ≤ gb236)); replace HB := Az_ (btz_ (ubz_ HB.out) hb); clear hb hbox hg))
  have n0_ := Az_ (kdz_ BK236.out)
  have n1_ := Az_ (bdz_ HB.out)
  clear BK236 HB
  have BK236 := n0_
  have HB := n1_
  clear n0_ n1_
  refine start_ (n := 7) (S := fun w' => w'.cell? ⟨gb236, 0, none⟩ = some (.slice A0_0 l0_0.length c0_0) ∧ w'.cell? ⟨gb236, 1, none⟩ = some (.int .i64 a0_1)) (ds := []) #[false, false, false, false, false, false, false] (w94_) rfl rfl ⟨(blk_cell BK236.out 0).trans rfl, (blk_cell BK236.out 1).trans rfl⟩ (fun hHeld => ?_)
  generalize w6.drew = w7 at BK236 HB hHeld ⊢
  refine pzk_ 1 9 [0,1,1,5] ?_
  refine pzk_ 3 11 [0,1,1,1,1,3] ?_
  refine tzk2_ 0 8 [2,1,1,3] ?_
  refine tzk2_ 4 12 [2,1,2,2] ?_
  refine one_ (i := 2) (N := some 10) (mz_ [5,2]) rfl rfl (w94_) (by decide) (fun K hK => ?_)
  refine goes_ Tryz.func44 (w94_) rfl #[.agg #[.slice A0_0 l0_0.length c0_0, .int .i64 a0_1], .int .i64 a1] (by rfl) rfl rfl maz_ ?_
  with_reducible refine (spec_shLeft.calls k _ _ l0_0 a0_1 a1 t237 _ ?side1 ?side2 A4.out).mono ?_
  (case side1 => repeat (first | exact (Kd.C_below HR0_0.out HB.out) | (with_reducible refine Kd.C_alloc ?_ _) | (with_reducible refine Kd.C_drewN ?_ _) | (with_reducible refine Kd.C_drew ?_)))
  (case side2 => exact HC0_0.out)
  rintro e w8 ⟨rfl, hb⟩
  refine ⟨_, rfl, ?_⟩
  have n1_ := Az_ (btz_ (w52_) hb)
  clear HB
  replace BK236 := Az_ (ukbz_ BK236.out hb)
  have HB := n1_
  clear n1_
  clear hb
  refine hK.out _ _ ⟨(blk_cell BK236.out 0).trans rfl, (blk_cell BK236.out 1).trans rfl⟩ (fun hHeld => ?_)
  clear hK K
  refine nz_ 10 ?_
  refine pzk_ 5 13 [6,1] ?_
  refine pzk_ 6 7 [7] ?_
  refine done_ (w94_) ?_
  try go_wp2
  go_ret
  exact ⟨w74_, w52_⟩
 ·replace c5 := Bool.eq_false_iff.mpr c5
  subst c5
  rw [if_neg nfz_] at H
  by_cases c9 : 0 ≤ a1
  ·rw [if_pos c9] at H
   have c9b0 := decide_eq_true c9
   clear c9
   by_cases c10 : a1 < (l0_0.length : Int); rotate_left
   ·rw [if_neg c10] at H
    exact absurd H (by simp)
   rw [if_pos c10] at H
   have c10b0 := decide_eq_true c10
   clear c10
   obtain rfl := Option.some.inj H
   go_enter Tryz.func39, Tryz.ntmps39
   try go_wp2_with (((with_reducible refine gate_dst (N := 3) rfl ?_); refine box_event ?hg (N := 3) ?hd (cs := #[.slice A0_0 l0_0.length c0_0, .int .i64 a0_1]) (t := 26) ?hr ?_; (case hd => rfl); (case hg => rfl); (case hr => first | (go_simp; done) | (go_simp; rfl)); intro gb236 hg w11 hbox hb; have BK236 := Az_ (hbox); have GW236 := Az_ ((by rw [hg]; exact (below_size (ubz_ HB.out)) : w.heap.size ≤ gb236)); have GE236 := Az_ ((by rw [hg]; exact (below_size (ubz_ HB.out)) : w.heap.size ≤ gb236)); replace HB := Az_ (btz_ (ubz_ HB.out) hb); clear hb hbox hg))
   have n0_ := Az_ (kdz_ BK236.out)
   have n1_ := Az_ (bdz_ HB.out)
   clear BK236 HB
   have BK236 := n0_
   have HB := n1_
   clear n0_ n1_
   refine start_ (n := 7) (S := fun w' => w'.cell? ⟨gb236, 0, none⟩ = some (.slice A0_0 l0_0.length c0_0) ∧ w'.cell? ⟨gb236, 1, none⟩ = some (.int .i64 a0_1)) (ds := []) #[false, false, false, false, false, false, false] (w94_) rfl rfl ⟨(blk_cell BK236.out 0).trans rfl, (blk_cell BK236.out 1).trans rfl⟩ (fun hHeld => ?_)
   generalize w11.drew = w12 at BK236 HB hHeld ⊢
   refine pzk_ 1 9 [0,1,1,5] ?_
   refine pzk_ 3 11 [0,1,1,1,1,3] ?_
   refine tzk2_ 0 8 [2,1,1,3] ?_
   refine tzk2_ 4 12 [2,1,2,2] ?_
   refine one_ (i := 2) (N := some 10) (mz_ [5,2]) rfl rfl (w94_) (by decide) (fun K hK => ?_)
   refine goes_ Tryz.func44 (w94_) rfl #[.agg #[.slice A0_0 l0_0.length c0_0, .int .i64 a0_1], .int .i64 a1] (by rfl) rfl rfl maz_ ?_
   with_reducible refine (spec_shLeft.calls k _ _ l0_0 a0_1 a1 t237 _ ?side1 ?side2 A4.out).mono ?_
   (case side1 => repeat (first | exact (Kd.C_below HR0_0.out HB.out) | (with_reducible refine Kd.C_alloc ?_ _) | (with_reducible refine Kd.C_drewN ?_ _) | (with_reducible refine Kd.C_drew ?_)))
   (case side2 => exact HC0_0.out)
   rintro e w13 ⟨rfl, hb⟩
   refine ⟨_, rfl, ?_⟩
   have n1_ := Az_ (btz_ (w52_) hb)
   clear HB
   replace BK236 := Az_ (ukbz_ BK236.out hb)
   have HB := n1_
   clear n1_
   clear hb
   refine hK.out _ _ ⟨(blk_cell BK236.out 0).trans rfl, (blk_cell BK236.out 1).trans rfl⟩ (fun hHeld => ?_)
   clear hK K
   refine nz_ 10 ?_
   refine pzk_ 5 13 [6,1] ?_
   refine pzk_ 6 7 [7] ?_
   refine done_ (w94_) ?_
   have hcz14_0 : w13.cell? ⟨gb236, 0, none⟩ = some (.slice A0_0 l0_0.length c0_0) := (blk_cell BK236.out 0).trans rfl
   have hcz14_1 : w13.cell? ⟨gb236, 1, none⟩ = some (.int .i64 a0_1) := (blk_cell BK236.out 1).trans rfl
   have hfz14_0 := blk_frozen BK236.out 0
   have hfz14_1 := blk_frozen BK236.out 1
   have p238 : 0 ≤ (a1 : Int) := od_
   have q238 : a1 < (l0_0.length : Int) := od_
   obtain ⟨ad238, e238, hx238_0⟩ := Kd.at_int HR0_0.out a1 p238 q238
   cases e238
   replace hx238_0 := hbz_ HB.out hx238_0
   replace p238 := eq_true p238
   replace q238 := eq_true q238
   try go_wp2
   go_ret
   exact ⟨w74_, w52_⟩
  ·rw [if_neg c9] at H
   exact absurd H (by simp)


def spec_WormEats.j0 : Nat → Int → Bool → Int → Bool → Bool → List Int → Int → Option (Int × Bool)
 | 0, _, _, _, _, _, _, _ => none
 | k + 1, x1, x2, x3, x4, x21, x240000, x240001 => if x21 = true then (some (0, false)) else ((spec_shFace.f k x240000 x240001 x1 x2).bind fun t242 => ((spec_shFace.f k x240000 x240001 x3 x4).bind fun t243 => ((spec_l1Abs.f (wrap64 (t242 - t243))).bind fun t244 => (some (t244, true)))))
def spec_WormEats.f (k : Nat) (l0_0 : List Int) (a0_1 : Int) (a1 : Int) (a2 : Bool) (a3 : Int) (a4 : Bool) : Option (Int × Bool) := (spec_shBoth.f k l0_0 a0_1 a1).bind fun t240 => (if t240 = true then ((spec_shBoth.f k l0_0 a0_1 a3).bind fun t241 => (spec_WormEats.j0 k a1 a2 a3 a4 (!t241) l0_0 a0_1)) else (spec_WormEats.j0 k a1 a2 a3 a4 true l0_0 a0_1))
def spec_WormEats.T3 : Bool × List (List Nat × List Nat) := (true, [([], []), ([], []), ([], []), ([0, 1, 2], [0, 1, 2]), ([], []), ([], []), ([], []), ([4, 5, 6, 3], [4, 5, 6]), ([3, 7], [3, 7]), ([8, 7], [8]), ([9, 9, 0, 1, 2, 3, 4, 5, 6, 7, 8, 9], [9]), ([10, 0, 1, 2, 3, 4, 5, 6, 7, 8, 9, 10], [])])
def spec_WormEats.B3 : List Nat := [0, 0, 0, 7, 0, 0, 0, 127, 255, 511, 1023, 2047]
theorem spec_WormEats.tab3 : rtab .any (opsOf Tryz.f7 3) = spec_WormEats.T3 := by kernel_rfl
theorem spec_WormEats.bits3 : waitsOk spec_WormEats.T3.2 spec_WormEats.B3 = true := by kernel_rfl
set_option maxHeartbeats 8000000 in
set_option maxRecDepth 100000 in
theorem spec_WormEats.calls (k : Nat) (A0_0 : Option Addr) (c0_0 : Nat) (l0_0 : List Int) (a0_1 : Int) (a1 : Int) (a2 : Bool) (a3 : Int) (a4 : Bool) (r1 : Int) (r2 : Bool) (w : World) (hr0_0 : Kd.C (Kd.int .i64) w A0_0 l0_0.length l0_0) (hc0_0 : l0_0.length ≤ c0_0) (h : spec_WormEats.f k l0_0 a0_1 a1 a2 a3 a4 = some (r1, r2)) :
  Calls Tryz.prog 7 #[.agg #[.slice A0_0 l0_0.length c0_0, .int .i64 a0_1], .int .i64 a1, .bool a2, .int .i64 a3, .bool a4] w fun e w' => e = .returned (.tuple #[.int .i64 r1, .bool r2]) ∧ Below w.heap.size w w' := by
 have hu26 := Tryz.underlying26
 have HR0_0 := Az_ hr0_0
 have HC0_0 := Az_ hc0_0
 clear hr0_0 hc0_0
 have HB := Az_ (Below.refl w.heap.size w)
 have H : ((spec_shBoth.f k l0_0 a0_1 a1).bind fun t240 => (if t240 = true then ((spec_shBoth.f k l0_0 a0_1 a3).bind fun t241 => (j0 k a1 a2 a3 a4 (!t241) l0_0 a0_1)) else (j0 k a1 a2 a3 a4 true l0_0 a0_1))) = some (r1, r2) := h
 clear h
 have HC6 := Az_ H
 clear H
 go_enter Tryz.func7, Tryz.ntmps7
 go_upto_region 1 with (((with_reducible refine gate_dst (N := 5) rfl ?_); refine box_event ?hg (N := 5) ?hd (cs := #[.slice A0_0 l0_0.length c0_0, .int .i64 a0_1]) (t := 26) ?hr ?_; (case hd => rfl); (case hg => rfl); (case hr => first | (go_simp; done) | (go_simp; rfl)); intro gb239 hg w7 hbox hb; have BK239 := Az_ (hbox); have GW239 := Az_ ((by rw [hg]; exact (below_size (ubz_ HB.out)) : w.heap.size ≤ gb239)); have GE239 := Az_ ((by rw [hg]; exact (below_size (ubz_ HB.out)) : w.heap.size ≤ gb239)); replace HB := Az_ (btz_ (ubz_ HB.out) hb); clear hb hbox hg))
 (try simp only [Act.put, List.setIfInBounds_toArray, List.set_cons_zero, List.set_cons_succ])
 go_cut [21] (fun v21 wc => ∃ (kq : Nat) (x21_5 : Bool), v21 = .bool x21_5 ∧ Aside0 (j0 kq a1 a2 a3 a4 x21_5 l0_0 a0_1 = some (r1, r2)) ∧ Aside0 (kq ≤ k) ∧ Aside0 (wc.heap[gb239]? = some (.cells #[(.slice A0_0 l0_0.length c0_0), .int .i64 a0_1] 26 (0, 0))) ∧ Aside0 (Below w.heap.size w wc))
 case first =>
  have H := HC6.out
  clear HC6
  replace H := bqz_ H; obtain ⟨t240, A8, H⟩ := H
  replace H : (if t240 = true then ((spec_shBoth.f k l0_0 a0_1 a3).bind fun t241 => (j0 k a1 a2 a3 a4 (!t241) l0_0 a0_1)) else (j0 k a1 a2 a3 a4 true l0_0 a0_1)) = some (r1, r2) := H
  by_cases c9 : t240 = true; rotate_left
  ·replace c9 := Bool.eq_false_iff.mpr c9
   subst c9
   rw [if_neg nfz_] at H
   have H' := Az_ H
   clear H
   have hcz15_0 : w7.cell? ⟨gb239, 0, none⟩ = some (.slice A0_0 l0_0.length c0_0) := (blk_cell BK239.out 0).trans rfl
   have hcz15_1 : w7.cell? ⟨gb239, 1, none⟩ = some (.int .i64 a0_1) := (blk_cell BK239.out 1).trans rfl
   have hfz15_0 := blk_frozen BK239.out 0
   have hfz15_1 := blk_frozen BK239.out 1
   go_wp2_with (((with_reducible refine gate_callee (f := 37) rfl ?_); refine goesL_ (some 14) rfl rfl Tryz.func37 (w94_) rfl #[.agg #[.slice A0_0 l0_0.length c0_0, .int .i64 a0_1], .int .i64 a1] rfl maz_ ?_; (with_reducible refine (spec_shBoth.calls k _ _ l0_0 a0_1 a1 false _ ?side1 ?side2 A8.out).mono ?_); (case side1 => exact ucz_ ((Kd.C_below HR0_0.out HB.out))); (case side2 => exact HC0_0.out); rintro e w16 ⟨rfl, hb⟩; refine ⟨_, rfl, ?_⟩; have n1_ := Az_ (btz_ (w52_) hb); clear HB; replace BK239 := Az_ (ukbz_ BK239.out hb); have HB := n1_; clear n1_; (try clear hb)))
   go_meet
   case rel => exact ⟨_, (true), qaz_, H', ⟨w80_⟩, ⟨by (with_reducible repeat (first | refine knz_ ?_ _ | refine kdz_ ?_ | refine kaz_ ?_ _)); exact BK239.out⟩, ⟨w52_⟩⟩
  subst c9
  rw [if_pos rfl] at H
  replace H := bqz_ H; obtain ⟨t241, A10, H⟩ := H
  replace H : (j0 k a1 a2 a3 a4 (!t241) l0_0 a0_1) = some (r1, r2) := H
  have H' := Az_ H
  clear H
  have hcz11_0 : w7.cell? ⟨gb239, 0, none⟩ = some (.slice A0_0 l0_0.length c0_0) := (blk_cell BK239.out 0).trans rfl
  have hcz11_1 : w7.cell? ⟨gb239, 1, none⟩ = some (.int .i64 a0_1) := (blk_cell BK239.out 1).trans rfl
  have hfz11_0 := blk_frozen BK239.out 0
  have hfz11_1 := blk_frozen BK239.out 1
  go_wp2_with (first | ((with_reducible refine gate_callee (f := 37) rfl ?_); refine goesL_ (some 14) rfl rfl Tryz.func37 (w94_) rfl #[.agg #[.slice A0_0 l0_0.length c0_0, .int .i64 a0_1], .int .i64 a1] rfl maz_ ?_; (with_reducible refine (spec_shBoth.calls k _ _ l0_0 a0_1 a1 true _ ?side1 ?side2 A8.out).mono ?_); (case side1 => exact ucz_ ((Kd.C_below HR0_0.out HB.out))); (case side2 => exact HC0_0.out); rintro e w12 ⟨rfl, hb⟩; refine ⟨_, rfl, ?_⟩; have n1_ := Az_ (btz_ (w52_) hb); clear HB; replace BK239 := Az_ (ukbz_ BK239.out hb); have HB := n1_; clear n1_; (try clear hb); have hcz13_0 : w12.cell? ⟨gb239, 0, none⟩ = some (.slice A0_0 l0_0.length c0_0) := (blk_cell BK239.out 0).trans rfl; have hcz13_1 : w12.cell? ⟨gb239, 1, none⟩ = some (.int .i64 a0_1) := (blk_cell BK239.out 1).trans rfl; have hfz13_0 := blk_frozen BK239.out 0; have hfz13_1 := blk_frozen BK239.out 1) | (go_at_call 37; (with_reducible refine (spec_shBoth.calls k _ _ l0_0 a0_1 a3 t241 _ ?side1 ?side2 A10.out).mono ?_); (case side1 => exact ucz_ ((Kd.C_below HR0_0.out HB.out))); (case side2 => exact HC0_0.out); rintro e w14 ⟨rfl, hb⟩; have n1_ := Az_ (btz_ (w52_) hb); clear HB; replace BK239 := Az_ (ukbz_ BK239.out hb); have HB := n1_; clear n1_; (try clear hb)))
  go_meet
  case rel => exact ⟨_, (!t241), qaz_, H', ⟨w80_⟩, ⟨by (with_reducible repeat (first | refine knz_ ?_ _ | refine kdz_ ?_ | refine kaz_ ?_ _)); exact BK239.out⟩, ⟨w52_⟩⟩
 case rest =>
  clear HC6
  obtain ⟨kq, x21_5, rfl, HA, HJ5, BK239, HB⟩ := hcut
  cases kq with
  | zero => exact absurd HA.out (by simp [j0])
  | succ kj5 =>
   have H := HA.out
   clear HA
   simp only [j0] at H
   by_cases c17 : x21_5 = true
   ·subst c17
    rw [if_pos rfl] at H
    simp only [Option.some.injEq, Prod.mk.injEq] at H
    obtain ⟨rfl, rfl⟩ := H
    go_wp2
    go_ret2
    exact ⟨w74_, w52_⟩
   ·replace c17 := Bool.eq_false_iff.mpr c17
    subst c17
    rw [if_neg nfz_] at H
    replace H := bqz_ H; obtain ⟨t242, A18, H⟩ := H
    replace H := bqz_ H; obtain ⟨t243, A19, H⟩ := H
    replace H := bqz_ H; obtain ⟨t244, A20, H⟩ := H
    replace H : (some (t244, true)) = some (r1, r2) := H
    simp only [Option.some.injEq, Prod.mk.injEq] at H
    obtain ⟨rfl, rfl⟩ := H
    try go_wp2
    have n0_ := Az_ (kdz_ BK239.out)
    have n1_ := Az_ (bdz_ HB.out)
    clear BK239 HB
    have BK239 := n0_
    have HB := n1_
    clear n0_ n1_
    refine start_ (n := 12) (S := fun w' => w'.cell? ⟨gb239, 0, none⟩ = some (.slice A0_0 l0_0.length c0_0) ∧ w'.cell? ⟨gb239, 1, none⟩ = some (.int .i64 a0_1)) (ds := []) #[false, false, false, false, false, false, false, false, false, false, false, false] (w94_) rfl rfl ⟨(blk_cell BK239.out 0).trans rfl, (blk_cell BK239.out 1).trans rfl⟩ (fun hHeld => ?_); refine with_tabW spec_WormEats.tab3 spec_WormEats.bits3 (fun HT_ HW_ => ?_)
    generalize wc.drew = w21 at BK239 HB hHeld ⊢
    refine pz_ 1 23 [0,1,1,10] ?_
    refine pz_ 2 24 [0,1,2,9] ?_
    refine pz_ 5 27 [0,1,2,2,1,6] ?_
    refine pz_ 6 28 [0,1,2,2,2,5] ?_
    refine tz2_ 0 22 [3,2,2,5] ?_
    refine tz2_ 4 26 [3,1,3,5] ?_
    refine one_ (i := 3) (N := some 25) (mz_ [7,5]) rfl rfl (one_of HT_.out (w94_)) (by decide) (fun K hK => ?_)
    refine goes_ Tryz.func39 (w94_) rfl #[.agg #[.slice A0_0 l0_0.length c0_0, .int .i64 a0_1], .int .i64 a1, .bool a2] (by rfl) rfl rfl maz_ ?_
    with_reducible refine (spec_shFace.calls kj5 _ _ l0_0 a0_1 a1 a2 t242 _ ?side1 ?side2 A18.out).mono ?_
    (case side1 => repeat (first | exact (Kd.C_below HR0_0.out HB.out) | (with_reducible refine Kd.C_alloc ?_ _) | (with_reducible refine Kd.C_drewN ?_ _) | (with_reducible refine Kd.C_drew ?_)))
    (case side2 => exact HC0_0.out)
    rintro e w22 ⟨rfl, hb⟩
    refine ⟨_, rfl, ?_⟩
    have n1_ := Az_ (btz_ (w52_) hb)
    clear HB
    replace BK239 := Az_ (ukbz_ BK239.out hb)
    have HB := n1_
    clear n1_
    clear hb
    refine hK.out _ _ ⟨(blk_cell BK239.out 0).trans rfl, (blk_cell BK239.out 1).trans rfl⟩ (fun hHeld => ?_)
    clear hK K
    refine nz_ 25 ?_
    refine one_ (i := 7) (N := some 29) (mz_ [8,4]) rfl rfl (one_of HT_.out (w94_)) (by decide) (fun K hK => ?_)
    refine goes_ Tryz.func39 (w94_) rfl #[.agg #[.slice A0_0 l0_0.length c0_0, .int .i64 a0_1], .int .i64 a3, .bool a4] (by rfl) rfl rfl maz_ ?_
    with_reducible refine (spec_shFace.calls kj5 _ _ l0_0 a0_1 a3 a4 t243 _ ?side1 ?side2 A19.out).mono ?_
    (case side1 => repeat (first | exact (Kd.C_below HR0_0.out HB.out) | (with_reducible refine Kd.C_alloc ?_ _) | (with_reducible refine Kd.C_drewN ?_ _) | (with_reducible refine Kd.C_drew ?_)))
    (case side2 => exact HC0_0.out)
    rintro e w23 ⟨rfl, hb⟩
    refine ⟨_, rfl, ?_⟩
    have n1_ := Az_ (btz_ (w52_) hb)
    clear HB
    replace BK239 := Az_ (ukbz_ BK239.out hb)
    have HB := n1_
    clear n1_
    clear hb
    refine hK.out _ _ ⟨(blk_cell BK239.out 0).trans rfl, (blk_cell BK239.out 1).trans rfl⟩ (fun hHeld => ?_)
    clear hK K
    refine nz_ 29 ?_
    refine pz_ 8 30 [9,3] ?_
    refine one_ (i := 9) (N := some 31) (mz_ [10,2]) rfl rfl (one_of HT_.out (w94_)) (by decide) (fun K hK => ?_)
    refine goes_ Tryz.func38 (w94_) rfl #[.int .i64 (wrap64 (t242 - t243))] (by rfl) rfl rfl maz_ ?_
    with_reducible refine (spec_l1Abs.calls (wrap64 (t242 - t243)) t244 _ A20.out).mono ?_
    rintro e w' ⟨rfl, ⟨nd, rfl⟩⟩
    refine ⟨_, rfl, ?_⟩
    refine hK.out _ _ ⟨(blk_cell BK239.out 0).trans rfl, (blk_cell BK239.out 1).trans rfl⟩ (fun hHeld => ?_)
    clear hK K
    refine nz_ 31 ?_
    refine pz_ 10 10 [11,1] ?_
    refine pz_ 11 11 [12] ?_
    refine done_ (done_of HT_.out (w94_)) ?_
    try go_wp2
    go_ret2
    exact ⟨w74_, w52_⟩

def impl_eaten_1.f (a0 : Int) (a1 : Bool) : Option (Int) := if a1 = true then (some (wrap64 ((wrap64 (3 * a0)) + 1))) else (some (wrap64 ((wrap64 (3 * a0)) + 2)))
set_option maxHeartbeats 8000000 in
set_option maxRecDepth 100000 in
theorem impl_eaten_1.calls (a0 : Int) (a1 : Bool) (r : Int) (w : World) (h : impl_eaten_1.f a0 a1 = some r) :
  Calls Tryz.prog 61 #[.int .i64 a0, .bool a1] w fun e w' => e = .returned (.int .i64 r) ∧ Drawn0 w w' := by
 have H : (if a1 = true then (some (wrap64 ((wrap64 (3 * a0)) + 1))) else (some (wrap64 ((wrap64 (3 * a0)) + 2)))) = some r := h
 clear h
 by_cases c3 : a1 = true
 ·subst c3
  rw [if_pos rfl] at H
  obtain rfl := Option.some.inj H
  go_enter Tryz.func61, Tryz.ntmps61
  go_wp2
  go_ret
  exact ⟨w79_, w77_⟩
 ·replace c3 := Bool.eq_false_iff.mpr c3
  subst c3
  rw [if_neg nfz_] at H
  obtain rfl := Option.some.inj H
  go_enter Tryz.func61, Tryz.ntmps61
  go_wp2
  go_ret
  exact ⟨w79_, w77_⟩

def impl_eaten.l0 : Nat → Int → Int → Int → List Int → Int → Option (Int × List Int)
 | 0, _, _, _, _, _ => none
 | k + 1, x11, x12, x13, x14, x15 => if x15 < (mx x11 x12) then (if (Int.tmod x15 3) = 1 then (if x14.length < 17592186044416 then (impl_eaten.l0 k x11 x12 x13 (x14 ++ [wrap64 (Int.tdiv x15 3)]) (wrap64 (x15 + 1))) else (none)) else (impl_eaten.l0 k x11 x12 (wrap64 (x13 + 1)) x14 (wrap64 (x15 + 1)))) else (some (x13, x14))
def impl_eaten.f (k : Nat) (a0 : Int) (a1 : Bool) (a2 : Int) (a3 : Bool) : Option (Int × List Int) := (impl_eaten_1.f a0 a1).bind fun t245 => ((impl_eaten_1.f a2 a3).bind fun t246 => (impl_eaten.l0 k t245 t246 0 (([] : List Int)) (mn t245 t246)))
theorem impl_eaten.mono_l : ∀ k, (∀ y0 y1 y2 y3 y4, LeO (impl_eaten.l0 k y0 y1 y2 y3 y4) (impl_eaten.l0 (k + 1) y0 y1 y2 y3 y4))
 | 0 => fun _ _ _ _ _ r h => by simp [impl_eaten.l0] at h
 | k + 1 => by
  have ih0 := impl_eaten.mono_l k
  ·intro y0 y1 y2 y3 y4
   unfold impl_eaten.l0
   repeat' (with_reducible first | exact ih0 _ _ _ _ _ | exact LeO.refl _ | exact LeO.none _ | refine LeO.ite ?_ ?_ | refine LeO.bind ?_ (fun _ => ?_))
theorem impl_eaten.mono : ∀ a0 a1 a2 a3 k, LeO (impl_eaten.f k a0 a1 a2 a3) (impl_eaten.f (k + 1) a0 a1 a2 a3) := by
 intro a0 a1 a2 a3 k
 have ih0 := impl_eaten.mono_l k
 unfold impl_eaten.f
 repeat' (with_reducible first | exact ih0 _ _ _ _ _ | exact LeO.refl _ | exact LeO.none _ | refine LeO.ite ?_ ?_ | refine LeO.bind ?_ (fun _ => ?_))
set_option maxHeartbeats 8000000 in
set_option maxRecDepth 100000 in
theorem impl_eaten.calls (k : Nat) (a0 : Int) (a1 : Bool) (a2 : Int) (a3 : Bool) (r1 : Int) (r2 : List Int) (w : World) (h : impl_eaten.f k a0 a1 a2 a3 = some (r1, r2)) :
  Calls Tryz.prog 40 #[.int .i64 a0, .bool a1, .int .i64 a2, .bool a3] w fun e w' => ∃ v1_ : Value, e = .returned (.tuple #[.int .i64 r1, v1_]) ∧ Kd.R (Kd.int .i64) 3 w' w.heap.size (fun _ => True) v1_ r2 ∧ Below w.heap.size w w' := by
 have HB := Az_ (Below.refl w.heap.size w)
 have H : ((impl_eaten_1.f a0 a1).bind fun t245 => ((impl_eaten_1.f a2 a3).bind fun t246 => (impl_eaten.l0 k t245 t246 0 (([] : List Int)) (mn t245 t246)))) = some (r1, r2) := h
 clear h
 replace H := bqz_ H; obtain ⟨t245, A5, H⟩ := H
 replace H := bqz_ H; obtain ⟨t246, A6, H⟩ := H
 replace H : (impl_eaten.l0 k t245 t246 0 (([] : List Int)) (mn t245 t246)) = some (r1, r2) := H
 obtain ⟨y247, hy247⟩ : ∃ y_ : List Int, y_ = (([] : List Int)) := ⟨_, rfl⟩
 replace H : (impl_eaten.l0 k t245 t246 0 y247 (mn t245 t246)) = some (r1, r2) := by first | (rw [hy247]; with_reducible exact H) | (have H2_ := (Option.bind_some _ _).symm.trans H; rw [hy247]; with_reducible exact H2_) | (have H2_ := (Option.bind_some _ _).symm.trans H; with_reducible exact H2_) | with_reducible exact H | (rw [hy247]; exact H) | exact H
 have Ny247 := Az_ hy247
 clear hy247
 obtain ⟨ji7, hji7⟩ : ∃ j_ : Int, (mn t245 t246) = j_ := ⟨_, rfl⟩
 replace H : (impl_eaten.l0 k t245 t246 0 y247 ji7) = some (r1, r2) := by first | (rw [hji7] at H; exact H) | (simp only [hji7] at H ⊢; exact H)
 (try rw [hji7] at A5)
 (try rw [hji7] at A6)
 have hji7_ : (if t246 < t245 then t246 else t245) = ji7 := hji7
 have H' := Az_ H
 clear H
 go_enter Tryz.func40, Tryz.ntmps40
 go_wp2_with (first | (go_at_call 61; (with_reducible refine (impl_eaten_1.calls a0 a1 t245 _ A5.out).mono ?_); rintro e w' ⟨rfl, ⟨nd, rfl⟩⟩) | (go_at_call 61; (with_reducible refine (impl_eaten_1.calls a2 a3 t246 _ A6.out).mono ?_); rintro e w' ⟨rfl, ⟨nd, rfl⟩⟩) | ((with_reducible refine gate_dst (N := 24) rfl ?_); refine Kd.R_lit (Kd.int .i64) _ 3 ?hg (N := 24) ?hd (xs := ([] : List Int)) (inner := []) (ok := fun _ => True) (okp := fun _ => True) ?hr ?hp (fun _ hk => hk) trivial (Below.refl _ _) (Nat.le_refl _) (by simp) ?_; (case hd => rfl); (case hg => rfl); (case hr => first | (go_simp; done) | (go_simp; rfl)); (case hp => exact (Reps.none _ _)); intro v248 w8 ho9 hb hg_ hnew_; clear hg_ hnew_; (first | rw [← Ny247.out] at ho9 | (simp only [Int.reduceToNat] at ho9; rw [← Ny247.out] at ho9)); have HO249 := Az_ (Kd.R_lower ho9 (below_size (ubz_ HB.out))); replace HB := Az_ (btz_ (ubz_ HB.out) hb); clear hb ho9))
 go_loopg [13, 14, 15] k (fun kq v13 v14 v15 w' => ∃ (x13_1 : Int) (x14_1 : List Int) (x15_1 : Int), v13 = .int .i64 x13_1 ∧ v15 = .int .i64 x15_1 ∧ Aside0 (impl_eaten.l0 kq t245 t246 x13_1 x14_1 x15_1 = some (r1, r2)) ∧ Aside0 (kq ≤ k) ∧ Aside0 (Kd.R (Kd.int .i64) 3 w' w.heap.size (fun _ => True) v14 x14_1) ∧ Aside0 (Below w.heap.size w w'))
 case atStart => exact ⟨(0), (y247), (ji7), qaz_, (by first | rfl | (simp; done) | (simp only [← hji7] <;> (first | rfl | simp)) | (simp [*]; done)), H', ⟨Nat.le_refl _⟩, ⟨by (with_reducible repeat (first | apply raz_ | apply rnz_ | apply rdz_)); exact HO249.out⟩, ⟨w92_⟩⟩
 case round =>
  clear H'
  obtain ⟨x13_1, x14_1, x15_1, rfl, rfl, HA, HK1, HO_14, HB⟩ := hrel
  cases gk with
  | zero => exact absurd HA.out (by simp [impl_eaten.l0])
  | succ k1 =>
   have H := HA.out
   clear HA
   simp only [impl_eaten.l0] at H
   obtain ⟨ji10, hji10⟩ : ∃ j_ : Int, (mx t245 t246) = j_ := ⟨_, rfl⟩
   replace H : (if x15_1 < (ji10) then (if (Int.tmod x15_1 3) = 1 then (if x14_1.length < 17592186044416 then (impl_eaten.l0 k1 t245 t246 x13_1 (x14_1 ++ [wrap64 (Int.tdiv x15_1 3)]) (wrap64 (x15_1 + 1))) else (none)) else (impl_eaten.l0 k1 t245 t246 (wrap64 (x13_1 + 1)) x14_1 (wrap64 (x15_1 + 1)))) else (some (x13_1, x14_1))) = some (r1, r2) := by first | (rw [hji10] at H; exact H) | (simp only [hji10] at H ⊢; exact H)
   have hji10_ : (if t245 < t246 then t246 else t245) = ji10 := hji10
   by_cases c11 : x15_1 < (ji10)
   ·rw [if_pos c11] at H
    have c11b0 := decide_eq_true c11
    clear c11
    by_cases c12 : (Int.tmod x15_1 3) = 1; rotate_left
    ·rw [if_neg c12] at H
     have c12b0 : ((Int.tmod x15_1 3) == 1) = false := beq_eq_false_iff_ne.mpr c12
     have c12b1 : ((Int.tmod x15_1 3) != 1) = true := bne_iff_ne.mpr c12
     have H' := Az_ H
     clear H
     go_wp2
     go_roundg k1
     case measure => have := HK1.out; omega
     case rel => exact ⟨(wrap64 (x13_1 + 1)), (x14_1), (wrap64 (x15_1 + 1)), qaz_, qaz_, H', ⟨w85_⟩, ⟨w75_⟩, ⟨w92_⟩⟩
    rw [if_pos c12] at H
    have c12b0 : ((Int.tmod x15_1 3) == 1) = true := beq_iff_eq.mpr c12
    have c12b1 : ((Int.tmod x15_1 3) != 1) = false := bne_eq_false_iff_eq.mpr c12
    clear c12
    by_cases c13 : x14_1.length < 17592186044416; rotate_left
    ·rw [if_neg c13] at H
     exact absurd H (by simp)
    rw [if_pos c13] at H
    have LMc13 := Az_ c13
    clear c13
    obtain ⟨y250, hy250⟩ : ∃ y_ : List Int, y_ = (x14_1 ++ [wrap64 (Int.tdiv x15_1 3)]) := ⟨_, rfl⟩
    replace H : (impl_eaten.l0 k1 t245 t246 x13_1 y250 (wrap64 (x15_1 + 1))) = some (r1, r2) := by first | (rw [hy250]; with_reducible exact H) | (have H2_ := (Option.bind_some _ _).symm.trans H; rw [hy250]; with_reducible exact H2_) | (have H2_ := (Option.bind_some _ _).symm.trans H; with_reducible exact H2_) | with_reducible exact H | (rw [hy250]; exact H) | exact H
    have Ny250 := Az_ hy250
    clear hy250
    have H' := Az_ H
    clear H
    go_wp2_with (((with_reducible refine gate_builtin (b := .append) (xs := #[.tmp 38, .tmp 41]) rfl ?_); at_builtin; refine Kd.R_append (Kd.int .i64) (w0 := w) w.heap.size rfl (.tmp 38) (.tmp 41) 24 3 (.int .i64 0) 8 rfl Tryz.underlying24 info3 rfl (by decide) (by omega) u14 x14_1 (wrap64 (Int.tdiv x15_1 3)) [.int .i64 (wrap64 (Int.tdiv x15_1 3))] (fun _ => True) (fun _ => False) rfl rfl ?aP (fun _ hk => hk.elim) ?aF ?aO ?aB ?aS ?aL ?_; (case aP => exact rfl); (case aB => exact (ubz_ HB.out)); (case aF => exact (fun _ _ => trivial)); (case aO => exact (by exact urz_ HO_14.out)); (case aS => exact (below_size (ubz_ HB.out))); (case aL => have := LMc13.out; omega); intro v251 w14 ho hb hg hat; rw [← Ny250.out] at ho; replace HB := Az_ (hb); have HO252 := Az_ (ho); clear HO_14; clear ho hb hg hat))
    go_roundg k1
    case measure => have := HK1.out; omega
    case rel => exact ⟨(x13_1), (y250), (wrap64 (x15_1 + 1)), qaz_, qaz_, H', ⟨w85_⟩, ⟨by (with_reducible repeat (first | apply raz_ | apply rnz_ | apply rdz_)); exact HO252.out⟩, ⟨w92_⟩⟩
   ·rw [if_neg c11] at H
    have c11b0 := decide_eq_false c11
    clear c11
    simp only [Option.some.injEq, Prod.mk.injEq] at H
    obtain ⟨rfl, rfl⟩ := H
    go_wp2
    go_ret2
    exact ⟨_, by first | rfl | (simp [errW_none, errW_some] <;> rfl) | (simp only [← hji7, ← hji10]; first | rfl | (simp [errW_none, errW_some] <;> rfl)) | (simp [*, errW_none, errW_some] <;> rfl), w75_, w92_⟩


def impl_CoversEaten.f (k : Nat) (l0_0 : List Int) (a0_1 : Int) (a1 : Int) (a2 : Bool) (a3 : Int) (a4 : Bool) : Option (Int × Bool) := (impl_IsShelf.f k l0_0 a0_1).bind fun t254 => (if t254 = true then ((impl_Shelf_has.f k l0_0 a0_1 (([a1, a3] : List Int))).bind fun t258 => (if t258 = true then ((impl_eaten.f k a1 a2 a3 a4).bind fun bt259 => (some (bt259.1, true))) else (some (0, false)))) else (some (0, false)))
set_option maxHeartbeats 8000000 in
set_option maxRecDepth 100000 in
theorem impl_CoversEaten.calls (k : Nat) (A0_0 : Option Addr) (c0_0 : Nat) (l0_0 : List Int) (a0_1 : Int) (a1 : Int) (a2 : Bool) (a3 : Int) (a4 : Bool) (r1 : Int) (r2 : Bool) (w : World) (hr0_0 : Kd.C (Kd.int .i64) w A0_0 l0_0.length l0_0) (hc0_0 : l0_0.length ≤ c0_0) (h : impl_CoversEaten.f k l0_0 a0_1 a1 a2 a3 a4 = some (r1, r2)) :
  Calls Tryz.prog 8 #[.agg #[.slice A0_0 l0_0.length c0_0, .int .i64 a0_1], .int .i64 a1, .bool a2, .int .i64 a3, .bool a4] w fun e w' => e = .returned (.tuple #[.int .i64 r1, .bool r2]) ∧ Below w.heap.size w w' := by
 have hu26 := Tryz.underlying26
 have HR0_0 := Az_ hr0_0
 have HC0_0 := Az_ hc0_0
 clear hr0_0 hc0_0
 have HB := Az_ (Below.refl w.heap.size w)
 have H : ((impl_IsShelf.f k l0_0 a0_1).bind fun t254 => (if t254 = true then ((impl_Shelf_has.f k l0_0 a0_1 (([a1, a3] : List Int))).bind fun t258 => (if t258 = true then ((impl_eaten.f k a1 a2 a3 a4).bind fun bt259 => (some (bt259.1, true))) else (some (0, false)))) else (some (0, false)))) = some (r1, r2) := h
 clear h
 replace H := bqz_ H; obtain ⟨t254, A6, H⟩ := H
 replace H : (if t254 = true then ((impl_Shelf_has.f k l0_0 a0_1 (([a1, a3] : List Int))).bind fun t258 => (if t258 = true then ((impl_eaten.f k a1 a2 a3 a4).bind fun bt259 => (some (bt259.1, true))) else (some (0, false)))) else (some (0, false))) = some (r1, r2) := H
 by_cases c7 : t254 = true
 ·subst c7
  rw [if_pos rfl] at H
  obtain ⟨y255, hy255⟩ : ∃ y_ : List Int, y_ = (([a1, a3] : List Int)) := ⟨_, rfl⟩
  replace H : ((impl_Shelf_has.f k l0_0 a0_1 y255).bind fun t258 => (if t258 = true then ((impl_eaten.f k a1 a2 a3 a4).bind fun bt259 => (some (bt259.1, true))) else (some (0, false)))) = some (r1, r2) := by first | (rw [hy255]; with_reducible exact H) | (have H2_ := (Option.bind_some _ _).symm.trans H; rw [hy255]; with_reducible exact H2_) | (have H2_ := (Option.bind_some _ _).symm.trans H; with_reducible exact H2_) | with_reducible exact H | (rw [hy255]; exact H) | exact H
  have Ny255 := Az_ hy255
  clear hy255
  replace H := bqz_ H; obtain ⟨t258, A8, H⟩ := H
  replace H : (if t258 = true then ((impl_eaten.f k a1 a2 a3 a4).bind fun bt259 => (some (bt259.1, true))) else (some (0, false))) = some (r1, r2) := H
  by_cases c9 : t258 = true; rotate_left
  ·replace c9 := Bool.eq_false_iff.mpr c9
   subst c9
   rw [if_neg nfz_] at H
   simp only [Option.some.injEq, Prod.mk.injEq] at H
   obtain ⟨rfl, rfl⟩ := H
   go_enter Tryz.func8, Tryz.ntmps8
   go_wp2_with (first | ((with_reducible refine gate_dst (N := 5) rfl ?_); (try (refine gate_guard (by rfl) ?_; dsimp only)); refine box_event ?hg (N := 5) ?hd (cs := #[.slice A0_0 l0_0.length c0_0, .int .i64 a0_1]) (t := 26) ?hr ?_; (case hd => rfl); (case hg => rfl); (case hr => first | (go_simp; done) | (go_simp; rfl)); intro gb253 hg w20 hbox hb; have BK253 := Az_ (hbox); have GW253 := Az_ ((by rw [hg]; exact (below_size (ubz_ HB.out)) : w.heap.size ≤ gb253)); have GE253 := Az_ ((by rw [hg]; exact (below_size (ubz_ HB.out)) : w.heap.size ≤ gb253)); replace HB := Az_ (btz_ (ubz_ HB.out) hb); clear hb hbox hg; have hcz21_0 : w20.cell? ⟨gb253, 0, none⟩ = some (.slice A0_0 l0_0.length c0_0) := (blk_cell BK253.out 0).trans rfl; have hcz21_1 : w20.cell? ⟨gb253, 1, none⟩ = some (.int .i64 a0_1) := (blk_cell BK253.out 1).trans rfl; have hfz21_0 := blk_frozen BK253.out 0; have hfz21_1 := blk_frozen BK253.out 1) | ((with_reducible refine gate_callee (f := 19) rfl ?_); refine goesL_ (some 15) rfl rfl Tryz.func19 (w94_) rfl #[.agg #[.slice A0_0 l0_0.length c0_0, .int .i64 a0_1]] rfl maz_ ?_; (with_reducible refine (impl_IsShelf.calls k _ _ l0_0 a0_1 true _ ?side1 ?side2 A6.out).mono ?_); (case side1 => exact ucz_ ((Kd.C_below HR0_0.out HB.out))); (case side2 => exact HC0_0.out); rintro e w22 ⟨rfl, hb⟩; refine ⟨_, rfl, ?_⟩; have n1_ := Az_ (btz_ (w52_) hb); clear HB; replace BK253 := Az_ (ukbz_ BK253.out hb); have HB := n1_; clear n1_; (try clear hb); have hcz23_0 : w22.cell? ⟨gb253, 0, none⟩ = some (.slice A0_0 l0_0.length c0_0) := (blk_cell BK253.out 0).trans rfl; have hcz23_1 : w22.cell? ⟨gb253, 1, none⟩ = some (.int .i64 a0_1) := (blk_cell BK253.out 1).trans rfl; have hfz23_0 := blk_frozen BK253.out 0; have hfz23_1 := blk_frozen BK253.out 1) | ((with_reducible refine gate_dst (N := 21) rfl ?_); (try (refine gate_guard (by rfl) ?_; dsimp only)); refine Kd.R_lit (Kd.int .i64) _ 3 ?hg (N := 21) ?hd (xs := ([a1, a3] : List Int)) (inner := [.int .i64 a1, .int .i64 a3]) (ok := fun _ => True) (okp := fun _ => True) ?hr ?hp (fun _ hk => hk) trivial (Below.refl _ _) (Nat.le_refl _) (by simp) ?_; (case hd => rfl); (case hg => rfl); (case hr => first | (go_simp; done) | (go_simp; rfl)); (case hp => exact (Reps.one (show Kd.M (Kd.int .i64) _ _ _ a1 [.int .i64 a1] from rfl) (Reps.one (show Kd.M (Kd.int .i64) _ _ _ a3 [.int .i64 a3] from rfl) (Reps.none _ _)))); intro v256 w24 ho25 hb hg_ hnew_; clear hg_ hnew_; (first | rw [← Ny255.out] at ho25 | (simp only [Int.reduceToNat] at ho25; rw [← Ny255.out] at ho25)); have n0_ := Az_ (Kd.R_lower ho25 (below_size (w52_))); have n2_ := Az_ (btz_ (w52_) hb); clear HB; have HO257 := n0_; replace BK253 := Az_ (ukbz_ BK253.out hb); have HB := n2_; clear n0_ n2_; clear hb ho25; obtain ⟨Ao26, co26, eo26⟩ := Kd.R_slice HO257.out; subst eo26) | (go_at_call 35; (with_reducible refine (impl_Shelf_has.calls k _ _ l0_0 a0_1 _ _ y255 false _ ?side1 ?side2 ?side3 ?side4 A8.out).mono ?_); (case side1 => exact ucz_ ((Kd.C_below HR0_0.out HB.out))); (case side2 => exact HC0_0.out); (case side3 => exact ucz_ ((Kd.R_reads' HO257.out).2.2)); (case side4 => exact (Kd.R_reads' HO257.out).2.1); rintro e w27 ⟨rfl, hb⟩; have n0_ := Az_ (Kd.R_below (by exact urz_ HO257.out) hb); have n2_ := Az_ (btz_ (w52_) hb); clear HO257; clear HB; have HO257 := n0_; replace BK253 := Az_ (ukbz_ BK253.out hb); have HB := n2_; clear n0_ n2_; (try clear hb)))
   go_ret2
   exact ⟨w74_, w52_⟩
  subst c9
  rw [if_pos rfl] at H
  replace H := bqz_ H; obtain ⟨⟨t259, t260⟩, A10, H⟩ := H
  replace H : (some (t259, true)) = some (r1, r2) := H
  simp only [Option.some.injEq, Prod.mk.injEq] at H
  obtain ⟨rfl, rfl⟩ := H
  go_enter Tryz.func8, Tryz.ntmps8
  go_wp2_with (first | ((with_reducible refine gate_dst (N := 5) rfl ?_); (try (refine gate_guard (by rfl) ?_; dsimp only)); refine box_event ?hg (N := 5) ?hd (cs := #[.slice A0_0 l0_0.length c0_0, .int .i64 a0_1]) (t := 26) ?hr ?_; (case hd => rfl); (case hg => rfl); (case hr => first | (go_simp; done) | (go_simp; rfl)); intro gb253 hg w11 hbox hb; have BK253 := Az_ (hbox); have GW253 := Az_ ((by rw [hg]; exact (below_size (ubz_ HB.out)) : w.heap.size ≤ gb253)); have GE253 := Az_ ((by rw [hg]; exact (below_size (ubz_ HB.out)) : w.heap.size ≤ gb253)); replace HB := Az_ (btz_ (ubz_ HB.out) hb); clear hb hbox hg; have hcz12_0 : w11.cell? ⟨gb253, 0, none⟩ = some (.slice A0_0 l0_0.length c0_0) := (blk_cell BK253.out 0).trans rfl; have hcz12_1 : w11.cell? ⟨gb253, 1, none⟩ = some (.int .i64 a0_1) := (blk_cell BK253.out 1).trans rfl; have hfz12_0 := blk_frozen BK253.out 0; have hfz12_1 := blk_frozen BK253.out 1) | ((with_reducible refine gate_callee (f := 19) rfl ?_); refine goesL_ (some 15) rfl rfl Tryz.func19 (w94_) rfl #[.agg #[.slice A0_0 l0_0.length c0_0, .int .i64 a0_1]] rfl maz_ ?_; (with_reducible refine (impl_IsShelf.calls k _ _ l0_0 a0_1 true _ ?side1 ?side2 A6.out).mono ?_); (case side1 => exact ucz_ ((Kd.C_below HR0_0.out HB.out))); (case side2 => exact HC0_0.out); rintro e w13 ⟨rfl, hb⟩; refine ⟨_, rfl, ?_⟩; have n1_ := Az_ (btz_ (w52_) hb); clear HB; replace BK253 := Az_ (ukbz_ BK253.out hb); have HB := n1_; clear n1_; (try clear hb); have hcz14_0 : w13.cell? ⟨gb253, 0, none⟩ = some (.slice A0_0 l0_0.length c0_0) := (blk_cell BK253.out 0).trans rfl; have hcz14_1 : w13.cell? ⟨gb253, 1, none⟩ = some (.int .i64 a0_1) := (blk_cell BK253.out 1).trans rfl; have hfz14_0 := blk_frozen BK253.out 0; have hfz14_1 := blk_frozen BK253.out 1) | ((with_reducible refine gate_dst (N := 21) rfl ?_); (try (refine gate_guard (by rfl) ?_; dsimp only)); refine Kd.R_lit (Kd.int .i64) _ 3 ?hg (N := 21) ?hd (xs := ([a1, a3] : List Int)) (inner := [.int .i64 a1, .int .i64 a3]) (ok := fun _ => True) (okp := fun _ => True) ?hr ?hp (fun _ hk => hk) trivial (Below.refl _ _) (Nat.le_refl _) (by simp) ?_; (case hd => rfl); (case hg => rfl); (case hr => first | (go_simp; done) | (go_simp; rfl)); (case hp => exact (Reps.one (show Kd.M (Kd.int .i64) _ _ _ a1 [.int .i64 a1] from rfl) (Reps.one (show Kd.M (Kd.int .i64) _ _ _ a3 [.int .i64 a3] from rfl) (Reps.none _ _)))); intro v256 w15 ho16 hb hg_ hnew_; clear hg_ hnew_; (first | rw [← Ny255.out] at ho16 | (simp only [Int.reduceToNat] at ho16; rw [← Ny255.out] at ho16)); have n0_ := Az_ (Kd.R_lower ho16 (below_size (w52_))); have n2_ := Az_ (btz_ (w52_) hb); clear HB; have HO257 := n0_; replace BK253 := Az_ (ukbz_ BK253.out hb); have HB := n2_; clear n0_ n2_; clear hb ho16; obtain ⟨Ao17, co17, eo17⟩ := Kd.R_slice HO257.out; subst eo17) | (go_at_call 35; (with_reducible refine (impl_Shelf_has.calls k _ _ l0_0 a0_1 _ _ y255 true _ ?side1 ?side2 ?side3 ?side4 A8.out).mono ?_); (case side1 => exact ucz_ ((Kd.C_below HR0_0.out HB.out))); (case side2 => exact HC0_0.out); (case side3 => exact ucz_ ((Kd.R_reads' HO257.out).2.2)); (case side4 => exact (Kd.R_reads' HO257.out).2.1); rintro e w18 ⟨rfl, hb⟩; have n0_ := Az_ (Kd.R_below (by exact urz_ HO257.out) hb); have n2_ := Az_ (btz_ (w52_) hb); clear HO257; clear HB; have HO257 := n0_; replace BK253 := Az_ (ukbz_ BK253.out hb); have HB := n2_; clear n0_ n2_; (try clear hb)) | ((with_reducible refine gate_callee (f := 40) rfl ?_); refine goesL_ (some 30) rfl rfl Tryz.func40 (w94_) rfl #[.int .i64 a1, .bool a2, .int .i64 a3, .bool a4] rfl maz_ ?_; (with_reducible refine (impl_eaten.calls k a1 a2 a3 a4 t259 t260 _ A10.out).mono ?_); rintro e w19 ⟨v261, rfl, ho0, hb⟩; refine ⟨_, rfl, ?_⟩; have n0_ := Az_ (rez_ (by exact urz_ HO257.out) (Kd.R_base ho0) hb); have n1_ := Az_ (Kd.R_lower (Kd.R_new' ho0 (Kd.R_lt (by exact urz_ HO257.out))) (below_size (w52_))); have n3_ := Az_ (btz_ (w52_) hb); clear HO257; clear HB; have HO257 := n0_; have HO262 := n1_; replace BK253 := Az_ (ukbz_ BK253.out hb); have HB := n3_; clear n0_ n1_ n3_; (try clear hb); (try clear ho0)))
  go_ret2
  exact ⟨w74_, w52_⟩
 ·replace c7 := Bool.eq_false_iff.mpr c7
  subst c7
  rw [if_neg nfz_] at H
  simp only [Option.some.injEq, Prod.mk.injEq] at H
  obtain ⟨rfl, rfl⟩ := H
  go_enter Tryz.func8, Tryz.ntmps8
  go_wp2_with (first | ((with_reducible refine gate_dst (N := 5) rfl ?_); (try (refine gate_guard (by rfl) ?_; dsimp only)); refine box_event ?hg (N := 5) ?hd (cs := #[.slice A0_0 l0_0.length c0_0, .int .i64 a0_1]) (t := 26) ?hr ?_; (case hd => rfl); (case hg => rfl); (case hr => first | (go_simp; done) | (go_simp; rfl)); intro gb253 hg w28 hbox hb; have BK253 := Az_ (hbox); have GW253 := Az_ ((by rw [hg]; exact (below_size (ubz_ HB.out)) : w.heap.size ≤ gb253)); have GE253 := Az_ ((by rw [hg]; exact (below_size (ubz_ HB.out)) : w.heap.size ≤ gb253)); replace HB := Az_ (btz_ (ubz_ HB.out) hb); clear hb hbox hg; have hcz29_0 : w28.cell? ⟨gb253, 0, none⟩ = some (.slice A0_0 l0_0.length c0_0) := (blk_cell BK253.out 0).trans rfl; have hcz29_1 : w28.cell? ⟨gb253, 1, none⟩ = some (.int .i64 a0_1) := (blk_cell BK253.out 1).trans rfl; have hfz29_0 := blk_frozen BK253.out 0; have hfz29_1 := blk_frozen BK253.out 1) | ((with_reducible refine gate_callee (f := 19) rfl ?_); refine goesL_ (some 15) rfl rfl Tryz.func19 (w94_) rfl #[.agg #[.slice A0_0 l0_0.length c0_0, .int .i64 a0_1]] rfl maz_ ?_; (with_reducible refine (impl_IsShelf.calls k _ _ l0_0 a0_1 false _ ?side1 ?side2 A6.out).mono ?_); (case side1 => exact ucz_ ((Kd.C_below HR0_0.out HB.out))); (case side2 => exact HC0_0.out); rintro e w30 ⟨rfl, hb⟩; refine ⟨_, rfl, ?_⟩; have n1_ := Az_ (btz_ (w52_) hb); clear HB; replace BK253 := Az_ (ukbz_ BK253.out hb); have HB := n1_; clear n1_; (try clear hb)))
  go_ret2
  exact ⟨w74_, w52_⟩


mutual
def spec_CoversEaten.j0 : Nat → Int → Bool → Int → Bool → Bool → Option (Int × Bool)
 | 0, _, _, _, _, _ => none
 | k + 1, x1, x2, x3, x4, x25 => if x25 = true then (some (0, false)) else (if x2 = true then (spec_CoversEaten.j1 k x4 (wrap64 ((wrap64 ((wrap64 (2 * x1)) + 1)) - 1)) (wrap64 ((wrap64 (2 * x3)) + 1))) else (spec_CoversEaten.j1 k x4 (wrap64 ((wrap64 (2 * x1)) + 1)) (wrap64 ((wrap64 (2 * x3)) + 1))))
def spec_CoversEaten.j1 : Nat → Bool → Int → Int → Option (Int × Bool)
 | 0, _, _, _ => none
 | k + 1, x4, x12, x13 => if x4 = true then (spec_CoversEaten.j2 k x12 (wrap64 (x13 - 1))) else (spec_CoversEaten.j2 k x12 x13)
def spec_CoversEaten.j2 : Nat → Int → Int → Option (Int × Bool)
 | 0, _, _ => none
 | k + 1, x12, x13 => if x12 > x13 then (spec_CoversEaten.j3 k x13 x12) else (spec_CoversEaten.j3 k x12 x13)
def spec_CoversEaten.j3 : Nat → Int → Int → Option (Int × Bool)
 | 0, _, _ => none
 | k + 1, x12, x13 => spec_CoversEaten.l0 k x13 0 x12
def spec_CoversEaten.l0 : Nat → Int → Int → Int → Option (Int × Bool)
 | 0, _, _, _ => none
 | k + 1, x13, x14, x15 => if x15 < x13 then (if (Int.tmod x15 2) = 1 then (spec_CoversEaten.l0 k x13 (wrap64 (x14 + 2)) (wrap64 (x15 + 1))) else (spec_CoversEaten.l0 k x13 x14 (wrap64 (x15 + 1)))) else (some (x14, true))
end
def spec_CoversEaten.f (k : Nat) (l0_0 : List Int) (a0_1 : Int) (a1 : Int) (a2 : Bool) (a3 : Int) (a4 : Bool) : Option (Int × Bool) := (spec_shBoth.f k l0_0 a0_1 a1).bind fun t264 => (if t264 = true then ((spec_shBoth.f k l0_0 a0_1 a3).bind fun t265 => (spec_CoversEaten.j0 k a1 a2 a3 a4 (!t265))) else (spec_CoversEaten.j0 k a1 a2 a3 a4 true))
theorem spec_CoversEaten.mono_l : ∀ k, (∀ y0 y1 y2 y3 y4, LeO (spec_CoversEaten.j0 k y0 y1 y2 y3 y4) (spec_CoversEaten.j0 (k + 1) y0 y1 y2 y3 y4)) ∧ (∀ y0 y1 y2, LeO (spec_CoversEaten.j1 k y0 y1 y2) (spec_CoversEaten.j1 (k + 1) y0 y1 y2)) ∧ (∀ y0 y1, LeO (spec_CoversEaten.j2 k y0 y1) (spec_CoversEaten.j2 (k + 1) y0 y1)) ∧ (∀ y0 y1, LeO (spec_CoversEaten.j3 k y0 y1) (spec_CoversEaten.j3 (k + 1) y0 y1)) ∧ (∀ y0 y1 y2, LeO (spec_CoversEaten.l0 k y0 y1 y2) (spec_CoversEaten.l0 (k + 1) y0 y1 y2))
 | 0 => ⟨fun _ _ _ _ _ r h => by simp [spec_CoversEaten.j0] at h, fun _ _ _ r h => by simp [spec_CoversEaten.j1] at h, fun _ _ r h => by simp [spec_CoversEaten.j2] at h, fun _ _ r h => by simp [spec_CoversEaten.j3] at h, fun _ _ _ r h => by simp [spec_CoversEaten.l0] at h⟩
 | k + 1 => by
  obtain ⟨ih0, ih1, ih2, ih3, ih4⟩ := spec_CoversEaten.mono_l k
  refine ⟨?_, ?_, ?_, ?_, ?_⟩
  all_goals intros
  all_goals first | unfold spec_CoversEaten.j0 | unfold spec_CoversEaten.j1 | unfold spec_CoversEaten.j2 | unfold spec_CoversEaten.j3 | unfold spec_CoversEaten.l0
  all_goals repeat' (with_reducible first | exact ih0 _ _ _ _ _ | exact ih1 _ _ _ | exact ih2 _ _ | exact ih3 _ _ | exact ih4 _ _ _ | exact spec_shBoth.mono _ _ _ _ | exact LeO.refl _ | exact LeO.none _ | refine LeO.ite ?_ ?_ | refine LeO.bind ?_ (fun _ => ?_))
set_option maxHeartbeats 8000000 in
set_option maxRecDepth 100000 in
theorem spec_CoversEaten.calls (k : Nat) (A0_0 : Option Addr) (c0_0 : Nat) (l0_0 : List Int) (a0_1 : Int) (a1 : Int) (a2 : Bool) (a3 : Int) (a4 : Bool) (r1 : Int) (r2 : Bool) (w : World) (hr0_0 : Kd.C (Kd.int .i64) w A0_0 l0_0.length l0_0) (hc0_0 : l0_0.length ≤ c0_0) (h : spec_CoversEaten.f k l0_0 a0_1 a1 a2 a3 a4 = some (r1, r2)) :
  Calls Tryz.prog 9 #[.agg #[.slice A0_0 l0_0.length c0_0, .int .i64 a0_1], .int .i64 a1, .bool a2, .int .i64 a3, .bool a4] w fun e w' => e = .returned (.tuple #[.int .i64 r1, .bool r2]) ∧ Below w.heap.size w w' := by
 have hu26 := Tryz.underlying26
 have HR0_0 := Az_ hr0_0
 have HC0_0 := Az_ hc0_0
 clear hr0_0 hc0_0
 have HB := Az_ (Below.refl w.heap.size w)
 have H : ((spec_shBoth.f k l0_0 a0_1 a1).bind fun t264 => (if t264 = true then ((spec_shBoth.f k l0_0 a0_1 a3).bind fun t265 => (j0 k a1 a2 a3 a4 (!t265))) else (j0 k a1 a2 a3 a4 true))) = some (r1, r2) := h
 clear h
 have HC6 := Az_ H
 clear H
 go_enter Tryz.func9, Tryz.ntmps9
 go_upto_region 1 with (((with_reducible refine gate_dst (N := 5) rfl ?_); refine box_event ?hg (N := 5) ?hd (cs := #[.slice A0_0 l0_0.length c0_0, .int .i64 a0_1]) (t := 26) ?hr ?_; (case hd => rfl); (case hg => rfl); (case hr => first | (go_simp; done) | (go_simp; rfl)); intro gb263 hg w7 hbox hb; have BK263 := Az_ (hbox); have GW263 := Az_ ((by rw [hg]; exact (below_size (ubz_ HB.out)) : w.heap.size ≤ gb263)); have GE263 := Az_ ((by rw [hg]; exact (below_size (ubz_ HB.out)) : w.heap.size ≤ gb263)); replace HB := Az_ (btz_ (ubz_ HB.out) hb); clear hb hbox hg))
 (try simp only [Act.put, List.setIfInBounds_toArray, List.set_cons_zero, List.set_cons_succ])
 go_cut [25] (fun v25 wc => ∃ (kq : Nat) (x25_5 : Bool), v25 = .bool x25_5 ∧ Aside0 (j0 kq a1 a2 a3 a4 x25_5 = some (r1, r2)) ∧ Aside0 (kq ≤ k) ∧ Aside0 (wc.heap[gb263]? = some (.cells #[(.slice A0_0 l0_0.length c0_0), .int .i64 a0_1] 26 (0, 0))) ∧ Aside0 (Below w.heap.size w wc))
 case first =>
  have H := HC6.out
  clear HC6
  replace H := bqz_ H; obtain ⟨t264, A8, H⟩ := H
  replace H : (if t264 = true then ((spec_shBoth.f k l0_0 a0_1 a3).bind fun t265 => (j0 k a1 a2 a3 a4 (!t265))) else (j0 k a1 a2 a3 a4 true)) = some (r1, r2) := H
  by_cases c9 : t264 = true; rotate_left
  ·replace c9 := Bool.eq_false_iff.mpr c9
   subst c9
   rw [if_neg nfz_] at H
   have H' := Az_ H
   clear H
   have hcz15_0 : w7.cell? ⟨gb263, 0, none⟩ = some (.slice A0_0 l0_0.length c0_0) := (blk_cell BK263.out 0).trans rfl
   have hcz15_1 : w7.cell? ⟨gb263, 1, none⟩ = some (.int .i64 a0_1) := (blk_cell BK263.out 1).trans rfl
   have hfz15_0 := blk_frozen BK263.out 0
   have hfz15_1 := blk_frozen BK263.out 1
   go_wp2_with (((with_reducible refine gate_callee (f := 37) rfl ?_); refine goesL_ (some 18) rfl rfl Tryz.func37 (w94_) rfl #[.agg #[.slice A0_0 l0_0.length c0_0, .int .i64 a0_1], .int .i64 a1] rfl maz_ ?_; (with_reducible refine (spec_shBoth.calls k _ _ l0_0 a0_1 a1 false _ ?side1 ?side2 A8.out).mono ?_); (case side1 => exact ucz_ ((Kd.C_below HR0_0.out HB.out))); (case side2 => exact HC0_0.out); rintro e w16 ⟨rfl, hb⟩; refine ⟨_, rfl, ?_⟩; have n1_ := Az_ (btz_ (w52_) hb); clear HB; replace BK263 := Az_ (ukbz_ BK263.out hb); have HB := n1_; clear n1_; (try clear hb)))
   go_meet
   case rel => exact ⟨_, (true), qaz_, H', ⟨w80_⟩, ⟨w65_⟩, ⟨w52_⟩⟩
  subst c9
  rw [if_pos rfl] at H
  replace H := bqz_ H; obtain ⟨t265, A10, H⟩ := H
  replace H : (j0 k a1 a2 a3 a4 (!t265)) = some (r1, r2) := H
  have H' := Az_ H
  clear H
  have hcz11_0 : w7.cell? ⟨gb263, 0, none⟩ = some (.slice A0_0 l0_0.length c0_0) := (blk_cell BK263.out 0).trans rfl
  have hcz11_1 : w7.cell? ⟨gb263, 1, none⟩ = some (.int .i64 a0_1) := (blk_cell BK263.out 1).trans rfl
  have hfz11_0 := blk_frozen BK263.out 0
  have hfz11_1 := blk_frozen BK263.out 1
  go_wp2_with (first | ((with_reducible refine gate_callee (f := 37) rfl ?_); refine goesL_ (some 18) rfl rfl Tryz.func37 (w94_) rfl #[.agg #[.slice A0_0 l0_0.length c0_0, .int .i64 a0_1], .int .i64 a1] rfl maz_ ?_; (with_reducible refine (spec_shBoth.calls k _ _ l0_0 a0_1 a1 true _ ?side1 ?side2 A8.out).mono ?_); (case side1 => exact ucz_ ((Kd.C_below HR0_0.out HB.out))); (case side2 => exact HC0_0.out); rintro e w12 ⟨rfl, hb⟩; refine ⟨_, rfl, ?_⟩; have n1_ := Az_ (btz_ (w52_) hb); clear HB; replace BK263 := Az_ (ukbz_ BK263.out hb); have HB := n1_; clear n1_; (try clear hb); have hcz13_0 : w12.cell? ⟨gb263, 0, none⟩ = some (.slice A0_0 l0_0.length c0_0) := (blk_cell BK263.out 0).trans rfl; have hcz13_1 : w12.cell? ⟨gb263, 1, none⟩ = some (.int .i64 a0_1) := (blk_cell BK263.out 1).trans rfl; have hfz13_0 := blk_frozen BK263.out 0; have hfz13_1 := blk_frozen BK263.out 1) | (go_at_call 37; (with_reducible refine (spec_shBoth.calls k _ _ l0_0 a0_1 a3 t265 _ ?side1 ?side2 A10.out).mono ?_); (case side1 => exact ucz_ ((Kd.C_below HR0_0.out HB.out))); (case side2 => exact HC0_0.out); rintro e w14 ⟨rfl, hb⟩; have n1_ := Az_ (btz_ (w52_) hb); clear HB; replace BK263 := Az_ (ukbz_ BK263.out hb); have HB := n1_; clear n1_; (try clear hb)))
  go_meet
  case rel => exact ⟨_, (!t265), qaz_, H', ⟨w80_⟩, ⟨w65_⟩, ⟨w52_⟩⟩
 case rest =>
  clear HC6
  obtain ⟨kq, x25_5, rfl, HA, HJ5, BK263, HB⟩ := hcut
  cases kq with
  | zero => exact absurd HA.out (by simp [j0])
  | succ kj5 =>
   have H := HA.out
   clear HA
   simp only [j0] at H
   by_cases c17 : x25_5 = true
   ·subst c17
    rw [if_pos rfl] at H
    simp only [Option.some.injEq, Prod.mk.injEq] at H
    obtain ⟨rfl, rfl⟩ := H
    go_wp2
    go_ret2
    exact ⟨w74_, w52_⟩
   ·replace c17 := Bool.eq_false_iff.mpr c17
    subst c17
    rw [if_neg nfz_] at H
    have HC18 := Az_ H
    clear H
    go_upto_if 32 with (fail)
    go_cut [12] (fun v12 wc => ∃ (kq : Nat) (x12_17 : Int), v12 = .int .i64 x12_17 ∧ Aside0 (j1 kq a4 x12_17 (wrap64 ((wrap64 (2 * a3)) + 1)) = some (r1, r2)) ∧ Aside0 (kq ≤ kj5) ∧ Aside0 (wc.heap[gb263]? = some (.cells #[(.slice A0_0 l0_0.length c0_0), .int .i64 a0_1] 26 (0, 0))) ∧ Aside0 (Below w.heap.size w wc))
    case first =>
     have H := HC18.out
     clear HC18
     by_cases c19 : a2 = true
     ·subst c19
      rw [if_pos rfl] at H
      have H' := Az_ H
      clear H
      go_wp2
      go_meet
      case rel => exact ⟨_, (wrap64 ((wrap64 ((wrap64 (2 * a1)) + 1)) - 1)), qaz_, H', ⟨by have := HJ5.out; first | omega | exact Nat.le_refl _⟩, ⟨w65_⟩, ⟨w52_⟩⟩
     replace c19 := Bool.eq_false_iff.mpr c19
     subst c19
     rw [if_neg nfz_] at H
     have H' := Az_ H
     clear H
     go_wp2
     go_meet
     case rel => exact ⟨_, (wrap64 ((wrap64 (2 * a1)) + 1)), qaz_, H', ⟨by have := HJ5.out; first | omega | exact Nat.le_refl _⟩, ⟨w65_⟩, ⟨w52_⟩⟩
    case rest =>
     clear HC18
     obtain ⟨kq, x12_17, rfl, HA, HJ17, BK263, HB⟩ := hcut
     cases kq with
     | zero => exact absurd HA.out (by simp [j1])
     | succ kj17 =>
      have H := HA.out
      clear HA
      simp only [j1] at H
      have HC20 := Az_ H
      clear H
      go_upto_if 35 with (fail)
      go_cut [13] (fun v13 wc => ∃ (kq : Nat) (x13_19 : Int), v13 = .int .i64 x13_19 ∧ Aside0 (j2 kq x12_17 x13_19 = some (r1, r2)) ∧ Aside0 (kq ≤ kj17) ∧ Aside0 (wc.heap[gb263]? = some (.cells #[(.slice A0_0 l0_0.length c0_0), .int .i64 a0_1] 26 (0, 0))) ∧ Aside0 (Below w.heap.size w wc))
      case first =>
       have H := HC20.out
       clear HC20
       by_cases c21 : a4 = true
       ·subst c21
        rw [if_pos rfl] at H
        have H' := Az_ H
        clear H
        go_wp2
        go_meet
        case rel => exact ⟨_, (wrap64 ((wrap64 ((wrap64 (2 * a3)) + 1)) - 1)), qaz_, H', ⟨by have := HJ5.out; have := HJ17.out; first | omega | exact Nat.le_refl _⟩, ⟨w65_⟩, ⟨w52_⟩⟩
       replace c21 := Bool.eq_false_iff.mpr c21
       subst c21
       rw [if_neg nfz_] at H
       have H' := Az_ H
       clear H
       go_wp2
       go_meet
       case rel => exact ⟨_, ((wrap64 ((wrap64 (2 * a3)) + 1))), qaz_, H', ⟨by have := HJ5.out; have := HJ17.out; first | omega | exact Nat.le_refl _⟩, ⟨w65_⟩, ⟨w52_⟩⟩
      case rest =>
       clear HC20
       obtain ⟨kq, x13_19, rfl, HA, HJ19, BK263, HB⟩ := hcut
       cases kq with
       | zero => exact absurd HA.out (by simp [j2])
       | succ kj19 =>
        have H := HA.out
        clear HA
        simp only [j2] at H
        have HC22 := Az_ H
        clear H
        go_upto_if 40 with (fail)
        go_cut [12, 13] (fun v12 v13 wc => ∃ (kq : Nat) (x12_21 : Int) (x13_21 : Int), v12 = .int .i64 x12_21 ∧ v13 = .int .i64 x13_21 ∧ Aside0 (j3 kq x12_21 x13_21 = some (r1, r2)) ∧ Aside0 (kq ≤ kj19) ∧ Aside0 (wc.heap[gb263]? = some (.cells #[(.slice A0_0 l0_0.length c0_0), .int .i64 a0_1] 26 (0, 0))) ∧ Aside0 (Below w.heap.size w wc))
        case first =>
         have H := HC22.out
         clear HC22
         by_cases c23 : x12_17 > x13_19; rotate_left
         ·rw [if_neg c23] at H
          have c23b0 := decide_eq_false c23
          clear c23
          (first | rw [c23b0] | (simp only [i64_w, i32_w]; rw [c23b0]) | skip)
          have H' := Az_ H
          clear H
          go_wp2
          go_meet
          case rel => exact ⟨_, (x12_17), (x13_19), qaz_, qaz_, H', ⟨by have := HJ5.out; have := HJ17.out; have := HJ19.out; first | omega | exact Nat.le_refl _⟩, ⟨w65_⟩, ⟨w52_⟩⟩
         rw [if_pos c23] at H
         have c23b0 := decide_eq_true c23
         clear c23
         (first | rw [c23b0] | (simp only [i64_w, i32_w]; rw [c23b0]) | skip)
         have H' := Az_ H
         clear H
         go_wp2
         go_meet
         case rel => exact ⟨_, (x13_19), (x12_17), qaz_, qaz_, H', ⟨by have := HJ5.out; have := HJ17.out; have := HJ19.out; first | omega | exact Nat.le_refl _⟩, ⟨w65_⟩, ⟨w52_⟩⟩
        case rest =>
         clear HC22
         obtain ⟨kq, x12_21, x13_21, rfl, rfl, HA, HJ21, BK263, HB⟩ := hcut
         cases kq with
         | zero => exact absurd HA.out (by simp [j3])
         | succ kj21 =>
          have H := HA.out
          clear HA
          simp only [j3] at H
          have H' := Az_ H
          clear H
          go_wp2
          go_loopg [14, 15] kj21 (fun kq v14 v15 w' => ∃ (x14_5 : Int) (x15_5 : Int), v14 = .int .i64 x14_5 ∧ v15 = .int .i64 x15_5 ∧ Aside0 (spec_CoversEaten.l0 kq x13_21 x14_5 x15_5 = some (r1, r2)) ∧ Aside0 (kq ≤ kj21) ∧ Aside0 (w'.heap[gb263]? = some (.cells #[(.slice A0_0 l0_0.length c0_0), .int .i64 a0_1] 26 (0, 0))) ∧ Aside0 (Below w.heap.size w w'))
          case atStart => exact ⟨(0), (x12_21), qaz_, qaz_, H', ⟨Nat.le_refl _⟩, ⟨w65_⟩, ⟨w52_⟩⟩
          case round =>
           clear H'
           obtain ⟨x14_5, x15_5, rfl, rfl, HA, HK5, BK263, HB⟩ := hrel
           cases gk with
           | zero => exact absurd HA.out (by simp [spec_CoversEaten.l0])
           | succ k5 =>
            have H := HA.out
            clear HA
            simp only [spec_CoversEaten.l0] at H
            by_cases c24 : x15_5 < x13_21
            ·rw [if_pos c24] at H
             have c24b0 := decide_eq_true c24
             clear c24
             by_cases c25 : (Int.tmod x15_5 2) = 1; rotate_left
             ·rw [if_neg c25] at H
              have c25b0 : ((Int.tmod x15_5 2) == 1) = false := beq_eq_false_iff_ne.mpr c25
              have c25b1 : ((Int.tmod x15_5 2) != 1) = true := bne_iff_ne.mpr c25
              have H' := Az_ H
              clear H
              go_wp2
              go_roundg k5
              case measure => have := HJ5.out; have := HJ17.out; have := HJ19.out; have := HJ21.out; have := HK5.out; omega
              case rel => exact ⟨(x14_5), (wrap64 (x15_5 + 1)), qaz_, qaz_, H', ⟨by have := HJ5.out; have := HJ17.out; have := HJ19.out; have := HJ21.out; have := HK5.out; omega⟩, ⟨w65_⟩, ⟨w52_⟩⟩
             rw [if_pos c25] at H
             have c25b0 : ((Int.tmod x15_5 2) == 1) = true := beq_iff_eq.mpr c25
             have c25b1 : ((Int.tmod x15_5 2) != 1) = false := bne_eq_false_iff_eq.mpr c25
             clear c25
             have H' := Az_ H
             clear H
             go_wp2
             go_roundg k5
             case measure => have := HJ5.out; have := HJ17.out; have := HJ19.out; have := HJ21.out; have := HK5.out; omega
             case rel => exact ⟨(wrap64 (x14_5 + 2)), (wrap64 (x15_5 + 1)), qaz_, qaz_, H', ⟨by have := HJ5.out; have := HJ17.out; have := HJ19.out; have := HJ21.out; have := HK5.out; omega⟩, ⟨w65_⟩, ⟨w52_⟩⟩
            ·rw [if_neg c24] at H
             have c24b0 := decide_eq_false c24
             clear c24
             simp only [Option.some.injEq, Prod.mk.injEq] at H
             obtain ⟨rfl, rfl⟩ := H
             go_wp2
             go_ret2
             exact ⟨w74_, w52_⟩


def impl_PagesEaten.f (k : Nat) (l0_0 : List Int) (a0_1 : Int) (a1 : Int) (a2 : Bool) (a3 : Int) (a4 : Bool) : Option (List Int × Bool) := (impl_IsShelf.f k l0_0 a0_1).bind fun t267 => (if t267 = true then ((impl_Shelf_has.f k l0_0 a0_1 (([a1, a3] : List Int))).bind fun t271 => (if t271 = true then ((impl_eaten.f k a1 a2 a3 a4).bind fun bt272 => (some (bt272.2, true))) else (some (([] : List Int), false)))) else (some (([] : List Int), false)))
set_option maxHeartbeats 8000000 in
set_option maxRecDepth 100000 in
theorem impl_PagesEaten.calls (k : Nat) (A0_0 : Option Addr) (c0_0 : Nat) (l0_0 : List Int) (a0_1 : Int) (a1 : Int) (a2 : Bool) (a3 : Int) (a4 : Bool) (r1 : List Int) (r2 : Bool) (w : World) (hr0_0 : Kd.C (Kd.int .i64) w A0_0 l0_0.length l0_0) (hc0_0 : l0_0.length ≤ c0_0) (h : impl_PagesEaten.f k l0_0 a0_1 a1 a2 a3 a4 = some (r1, r2)) :
  Calls Tryz.prog 10 #[.agg #[.slice A0_0 l0_0.length c0_0, .int .i64 a0_1], .int .i64 a1, .bool a2, .int .i64 a3, .bool a4] w fun e w' => ∃ v0_ : Value, e = .returned (.tuple #[v0_, .bool r2]) ∧ Kd.R (Kd.int .i64) 3 w' w.heap.size (fun _ => True) v0_ r1 ∧ Below w.heap.size w w' := by
 have hu26 := Tryz.underlying26
 have HR0_0 := Az_ hr0_0
 have HC0_0 := Az_ hc0_0
 clear hr0_0 hc0_0
 have HB := Az_ (Below.refl w.heap.size w)
 have H : ((impl_IsShelf.f k l0_0 a0_1).bind fun t267 => (if t267 = true then ((impl_Shelf_has.f k l0_0 a0_1 (([a1, a3] : List Int))).bind fun t271 => (if t271 = true then ((impl_eaten.f k a1 a2 a3 a4).bind fun bt272 => (some (bt272.2, true))) else (some (([] : List Int), false)))) else (some (([] : List Int), false)))) = some (r1, r2) := h
 clear h
 replace H := bqz_ H; obtain ⟨t267, A6, H⟩ := H
 replace H : (if t267 = true then ((impl_Shelf_has.f k l0_0 a0_1 (([a1, a3] : List Int))).bind fun t271 => (if t271 = true then ((impl_eaten.f k a1 a2 a3 a4).bind fun bt272 => (some (bt272.2, true))) else (some (([] : List Int), false)))) else (some (([] : List Int), false))) = some (r1, r2) := H
 by_cases c7 : t267 = true
 ·subst c7
  rw [if_pos rfl] at H
  obtain ⟨y268, hy268⟩ : ∃ y_ : List Int, y_ = (([a1, a3] : List Int)) := ⟨_, rfl⟩
  replace H : ((impl_Shelf_has.f k l0_0 a0_1 y268).bind fun t271 => (if t271 = true then ((impl_eaten.f k a1 a2 a3 a4).bind fun bt272 => (some (bt272.2, true))) else (some (([] : List Int), false)))) = some (r1, r2) := by first | (rw [hy268]; with_reducible exact H) | (have H2_ := (Option.bind_some _ _).symm.trans H; rw [hy268]; with_reducible exact H2_) | (have H2_ := (Option.bind_some _ _).symm.trans H; with_reducible exact H2_) | with_reducible exact H | (rw [hy268]; exact H) | exact H
  have Ny268 := Az_ hy268
  clear hy268
  replace H := bqz_ H; obtain ⟨t271, A8, H⟩ := H
  replace H : (if t271 = true then ((impl_eaten.f k a1 a2 a3 a4).bind fun bt272 => (some (bt272.2, true))) else (some (([] : List Int), false))) = some (r1, r2) := H
  by_cases c9 : t271 = true; rotate_left
  ·replace c9 := Bool.eq_false_iff.mpr c9
   subst c9
   rw [if_neg nfz_] at H
   simp only [Option.some.injEq, Prod.mk.injEq] at H
   obtain ⟨rfl, rfl⟩ := H
   go_enter Tryz.func10, Tryz.ntmps10
   go_wp2_with (first | ((with_reducible refine gate_dst (N := 5) rfl ?_); (try (refine gate_guard (by rfl) ?_; dsimp only)); refine box_event ?hg (N := 5) ?hd (cs := #[.slice A0_0 l0_0.length c0_0, .int .i64 a0_1]) (t := 26) ?hr ?_; (case hd => rfl); (case hg => rfl); (case hr => first | (go_simp; done) | (go_simp; rfl)); intro gb266 hg w20 hbox hb; have BK266 := Az_ (hbox); have GW266 := Az_ ((by rw [hg]; exact (below_size (ubz_ HB.out)) : w.heap.size ≤ gb266)); have GE266 := Az_ ((by rw [hg]; exact (below_size (ubz_ HB.out)) : w.heap.size ≤ gb266)); replace HB := Az_ (btz_ (ubz_ HB.out) hb); clear hb hbox hg; have hcz21_0 : w20.cell? ⟨gb266, 0, none⟩ = some (.slice A0_0 l0_0.length c0_0) := (blk_cell BK266.out 0).trans rfl; have hcz21_1 : w20.cell? ⟨gb266, 1, none⟩ = some (.int .i64 a0_1) := (blk_cell BK266.out 1).trans rfl; have hfz21_0 := blk_frozen BK266.out 0; have hfz21_1 := blk_frozen BK266.out 1) | ((with_reducible refine gate_callee (f := 19) rfl ?_); refine goesL_ (some 15) rfl rfl Tryz.func19 (w94_) rfl #[.agg #[.slice A0_0 l0_0.length c0_0, .int .i64 a0_1]] rfl maz_ ?_; (with_reducible refine (impl_IsShelf.calls k _ _ l0_0 a0_1 true _ ?side1 ?side2 A6.out).mono ?_); (case side1 => exact ucz_ ((Kd.C_below HR0_0.out HB.out))); (case side2 => exact HC0_0.out); rintro e w22 ⟨rfl, hb⟩; refine ⟨_, rfl, ?_⟩; have n1_ := Az_ (btz_ (w52_) hb); clear HB; replace BK266 := Az_ (ukbz_ BK266.out hb); have HB := n1_; clear n1_; (try clear hb); have hcz23_0 : w22.cell? ⟨gb266, 0, none⟩ = some (.slice A0_0 l0_0.length c0_0) := (blk_cell BK266.out 0).trans rfl; have hcz23_1 : w22.cell? ⟨gb266, 1, none⟩ = some (.int .i64 a0_1) := (blk_cell BK266.out 1).trans rfl; have hfz23_0 := blk_frozen BK266.out 0; have hfz23_1 := blk_frozen BK266.out 1) | ((with_reducible refine gate_dst (N := 21) rfl ?_); (try (refine gate_guard (by rfl) ?_; dsimp only)); refine Kd.R_lit (Kd.int .i64) _ 3 ?hg (N := 21) ?hd (xs := ([a1, a3] : List Int)) (inner := [.int .i64 a1, .int .i64 a3]) (ok := fun _ => True) (okp := fun _ => True) ?hr ?hp (fun _ hk => hk) trivial (Below.refl _ _) (Nat.le_refl _) (by simp) ?_; (case hd => rfl); (case hg => rfl); (case hr => first | (go_simp; done) | (go_simp; rfl)); (case hp => exact (Reps.one (show Kd.M (Kd.int .i64) _ _ _ a1 [.int .i64 a1] from rfl) (Reps.one (show Kd.M (Kd.int .i64) _ _ _ a3 [.int .i64 a3] from rfl) (Reps.none _ _)))); intro v269 w24 ho25 hb hg_ hnew_; clear hg_ hnew_; (first | rw [← Ny268.out] at ho25 | (simp only [Int.reduceToNat] at ho25; rw [← Ny268.out] at ho25)); have n0_ := Az_ (Kd.R_lower ho25 (below_size (w52_))); have n2_ := Az_ (btz_ (w52_) hb); clear HB; have HO270 := n0_; replace BK266 := Az_ (ukbz_ BK266.out hb); have HB := n2_; clear n0_ n2_; clear hb ho25; obtain ⟨Ao26, co26, eo26⟩ := Kd.R_slice HO270.out; subst eo26) | (go_at_call 35; (with_reducible refine (impl_Shelf_has.calls k _ _ l0_0 a0_1 _ _ y268 false _ ?side1 ?side2 ?side3 ?side4 A8.out).mono ?_); (case side1 => exact ucz_ ((Kd.C_below HR0_0.out HB.out))); (case side2 => exact HC0_0.out); (case side3 => exact ucz_ ((Kd.R_reads' HO270.out).2.2)); (case side4 => exact (Kd.R_reads' HO270.out).2.1); rintro e w27 ⟨rfl, hb⟩; have n0_ := Az_ (Kd.R_below (by exact urz_ HO270.out) hb); have n2_ := Az_ (btz_ (w52_) hb); clear HO270; clear HB; have HO270 := n0_; replace BK266 := Az_ (ukbz_ BK266.out hb); have HB := n2_; clear n0_ n2_; (try clear hb)))
   go_ret2
   exact ⟨_, w74_, w53_, w52_⟩
  subst c9
  rw [if_pos rfl] at H
  replace H := bqz_ H; obtain ⟨⟨t272, t273⟩, A10, H⟩ := H
  replace H : (some (t273, true)) = some (r1, r2) := H
  simp only [Option.some.injEq, Prod.mk.injEq] at H
  obtain ⟨rfl, rfl⟩ := H
  go_enter Tryz.func10, Tryz.ntmps10
  go_wp2_with (first | ((with_reducible refine gate_dst (N := 5) rfl ?_); (try (refine gate_guard (by rfl) ?_; dsimp only)); refine box_event ?hg (N := 5) ?hd (cs := #[.slice A0_0 l0_0.length c0_0, .int .i64 a0_1]) (t := 26) ?hr ?_; (case hd => rfl); (case hg => rfl); (case hr => first | (go_simp; done) | (go_simp; rfl)); intro gb266 hg w11 hbox hb; have BK266 := Az_ (hbox); have GW266 := Az_ ((by rw [hg]; exact (below_size (ubz_ HB.out)) : w.heap.size ≤ gb266)); have GE266 := Az_ ((by rw [hg]; exact (below_size (ubz_ HB.out)) : w.heap.size ≤ gb266)); replace HB := Az_ (btz_ (ubz_ HB.out) hb); clear hb hbox hg; have hcz12_0 : w11.cell? ⟨gb266, 0, none⟩ = some (.slice A0_0 l0_0.length c0_0) := (blk_cell BK266.out 0).trans rfl; have hcz12_1 : w11.cell? ⟨gb266, 1, none⟩ = some (.int .i64 a0_1) := (blk_cell BK266.out 1).trans rfl; have hfz12_0 := blk_frozen BK266.out 0; have hfz12_1 := blk_frozen BK266.out 1) | ((with_reducible refine gate_callee (f := 19) rfl ?_); refine goesL_ (some 15) rfl rfl Tryz.func19 (w94_) rfl #[.agg #[.slice A0_0 l0_0.length c0_0, .int .i64 a0_1]] rfl maz_ ?_; (with_reducible refine (impl_IsShelf.calls k _ _ l0_0 a0_1 true _ ?side1 ?side2 A6.out).mono ?_); (case side1 => exact ucz_ ((Kd.C_below HR0_0.out HB.out))); (case side2 => exact HC0_0.out); rintro e w13 ⟨rfl, hb⟩; refine ⟨_, rfl, ?_⟩; have n1_ := Az_ (btz_ (w52_) hb); clear HB; replace BK266 := Az_ (ukbz_ BK266.out hb); have HB := n1_; clear n1_; (try clear hb); have hcz14_0 : w13.cell? ⟨gb266, 0, none⟩ = some (.slice A0_0 l0_0.length c0_0) := (blk_cell BK266.out 0).trans rfl; have hcz14_1 : w13.cell? ⟨gb266, 1, none⟩ = some (.int .i64 a0_1) := (blk_cell BK266.out 1).trans rfl; have hfz14_0 := blk_frozen BK266.out 0; have hfz14_1 := blk_frozen BK266.out 1) | ((with_reducible refine gate_dst (N := 21) rfl ?_); (try (refine gate_guard (by rfl) ?_; dsimp only)); refine Kd.R_lit (Kd.int .i64) _ 3 ?hg (N := 21) ?hd (xs := ([a1, a3] : List Int)) (inner := [.int .i64 a1, .int .i64 a3]) (ok := fun _ => True) (okp := fun _ => True) ?hr ?hp (fun _ hk => hk) trivial (Below.refl _ _) (Nat.le_refl _) (by simp) ?_; (case hd => rfl); (case hg => rfl); (case hr => first | (go_simp; done) | (go_simp; rfl)); (case hp => exact (Reps.one (show Kd.M (Kd.int .i64) _ _ _ a1 [.int .i64 a1] from rfl) (Reps.one (show Kd.M (Kd.int .i64) _ _ _ a3 [.int .i64 a3] from rfl) (Reps.none _ _)))); intro v269 w15 ho16 hb hg_ hnew_; clear hg_ hnew_; (first | rw [← Ny268.out] at ho16 | (simp only [Int.reduceToNat] at ho16; rw [← Ny268.out] at ho16)); have n0_ := Az_ (Kd.R_lower ho16 (below_size (w52_))); have n2_ := Az_ (btz_ (w52_) hb); clear HB; have HO270 := n0_; replace BK266 := Az_ (ukbz_ BK266.out hb); have HB := n2_; clear n0_ n2_; clear hb ho16; obtain ⟨Ao17, co17, eo17⟩ := Kd.R_slice HO270.out; subst eo17) | (go_at_call 35; (with_reducible refine (impl_Shelf_has.calls k _ _ l0_0 a0_1 _ _ y268 true _ ?side1 ?side2 ?side3 ?side4 A8.out).mono ?_); (case side1 => exact ucz_ ((Kd.C_below HR0_0.out HB.out))); (case side2 => exact HC0_0.out); (case side3 => exact ucz_ ((Kd.R_reads' HO270.out).2.2)); (case side4 => exact (Kd.R_reads' HO270.out).2.1); rintro e w18 ⟨rfl, hb⟩; have n0_ := Az_ (Kd.R_below (by exact urz_ HO270.out) hb); have n2_ := Az_ (btz_ (w52_) hb); clear HO270; clear HB; have HO270 := n0_; replace BK266 := Az_ (ukbz_ BK266.out hb); have HB := n2_; clear n0_ n2_; (try clear hb)) | ((with_reducible refine gate_callee (f := 40) rfl ?_); refine goesL_ (some 30) rfl rfl Tryz.func40 (w94_) rfl #[.int .i64 a1, .bool a2, .int .i64 a3, .bool a4] rfl maz_ ?_; (with_reducible refine (impl_eaten.calls k a1 a2 a3 a4 t272 t273 _ A10.out).mono ?_); rintro e w19 ⟨v274, rfl, ho0, hb⟩; refine ⟨_, rfl, ?_⟩; have n0_ := Az_ (rez_ (by exact urz_ HO270.out) (Kd.R_base ho0) hb); have n1_ := Az_ (Kd.R_lower (Kd.R_new' ho0 (Kd.R_lt (by exact urz_ HO270.out))) (below_size (w52_))); have n3_ := Az_ (btz_ (w52_) hb); clear HO270; clear HB; have HO270 := n0_; have HO275 := n1_; replace BK266 := Az_ (ukbz_ BK266.out hb); have HB := n3_; clear n0_ n1_ n3_; (try clear hb); (try clear ho0)))
  go_ret2
  exact ⟨_, w74_, by (with_reducible repeat (first | apply raz_ | apply rnz_ | apply rdz_)); exact Kd.R_mono HO275.out (fun _ hk => trivial), w52_⟩
 ·replace c7 := Bool.eq_false_iff.mpr c7
  subst c7
  rw [if_neg nfz_] at H
  simp only [Option.some.injEq, Prod.mk.injEq] at H
  obtain ⟨rfl, rfl⟩ := H
  go_enter Tryz.func10, Tryz.ntmps10
  go_wp2_with (first | ((with_reducible refine gate_dst (N := 5) rfl ?_); (try (refine gate_guard (by rfl) ?_; dsimp only)); refine box_event ?hg (N := 5) ?hd (cs := #[.slice A0_0 l0_0.length c0_0, .int .i64 a0_1]) (t := 26) ?hr ?_; (case hd => rfl); (case hg => rfl); (case hr => first | (go_simp; done) | (go_simp; rfl)); intro gb266 hg w28 hbox hb; have BK266 := Az_ (hbox); have GW266 := Az_ ((by rw [hg]; exact (below_size (ubz_ HB.out)) : w.heap.size ≤ gb266)); have GE266 := Az_ ((by rw [hg]; exact (below_size (ubz_ HB.out)) : w.heap.size ≤ gb266)); replace HB := Az_ (btz_ (ubz_ HB.out) hb); clear hb hbox hg; have hcz29_0 : w28.cell? ⟨gb266, 0, none⟩ = some (.slice A0_0 l0_0.length c0_0) := (blk_cell BK266.out 0).trans rfl; have hcz29_1 : w28.cell? ⟨gb266, 1, none⟩ = some (.int .i64 a0_1) := (blk_cell BK266.out 1).trans rfl; have hfz29_0 := blk_frozen BK266.out 0; have hfz29_1 := blk_frozen BK266.out 1) | ((with_reducible refine gate_callee (f := 19) rfl ?_); refine goesL_ (some 15) rfl rfl Tryz.func19 (w94_) rfl #[.agg #[.slice A0_0 l0_0.length c0_0, .int .i64 a0_1]] rfl maz_ ?_; (with_reducible refine (impl_IsShelf.calls k _ _ l0_0 a0_1 false _ ?side1 ?side2 A6.out).mono ?_); (case side1 => exact ucz_ ((Kd.C_below HR0_0.out HB.out))); (case side2 => exact HC0_0.out); rintro e w30 ⟨rfl, hb⟩; refine ⟨_, rfl, ?_⟩; have n1_ := Az_ (btz_ (w52_) hb); clear HB; replace BK266 := Az_ (ukbz_ BK266.out hb); have HB := n1_; clear n1_; (try clear hb)))
  go_ret2
  exact ⟨_, w74_, w53_, w52_⟩

def spec_l1Least.f (a0 : Int) (a1 : Int) : Option (Int) := if a0 < a1 then (some a0) else (some a1)
set_option maxHeartbeats 8000000 in
set_option maxRecDepth 100000 in
theorem spec_l1Least.calls (a0 : Int) (a1 : Int) (r : Int) (w : World) (h : spec_l1Least.f a0 a1 = some r) :
  Calls Tryz.prog 62 #[.int .i64 a0, .int .i64 a1] w fun e w' => e = .returned (.int .i64 r) ∧ Drawn0 w w' := by
 have H : (if a0 < a1 then (some a0) else (some a1)) = some r := h
 clear h
 by_cases c3 : a0 < a1
 ·rw [if_pos c3] at H
  have c3b0 := decide_eq_true c3
  clear c3
  obtain rfl := Option.some.inj H
  go_enter Tryz.func62, Tryz.ntmps62
  go_wp2
  go_ret
  exact ⟨w79_, w77_⟩
 ·rw [if_neg c3] at H
  have c3b0 := decide_eq_false c3
  clear c3
  obtain rfl := Option.some.inj H
  go_enter Tryz.func62, Tryz.ntmps62
  go_wp2
  go_ret
  exact ⟨w79_, w77_⟩

def spec_shSpan.f (k : Nat) (l0_0 : List Int) (a0_1 : Int) (a1 : Int) (a2 : Bool) (a3 : Int) (a4 : Bool) : Option (Int × Int) := (spec_shFace.f k l0_0 a0_1 a1 a2).bind fun t277 => ((spec_shFace.f k l0_0 a0_1 a3 a4).bind fun t278 => ((spec_l1Least.f t277 t278).bind fun t279 => ((spec_l1Most.f t277 t278).bind fun t280 => (some (t279, t280)))))
def spec_shSpan.T1 : Bool × List (List Nat × List Nat) := (true, [([], []), ([], []), ([], []), ([0, 1, 2], [0, 1, 2]), ([], []), ([], []), ([], []), ([4, 5, 6, 3], [4, 5, 6]), ([3, 7, 0, 1, 2, 3], [3]), ([7, 8, 0, 1, 2, 3, 4, 5, 6, 7, 8], [7])])
def spec_shSpan.B1 : List Nat := [0, 0, 0, 7, 0, 0, 0, 127, 255, 511]
theorem spec_shSpan.tab1 : rtab .any (opsOf Tryz.f41 1) = spec_shSpan.T1 := by kernel_rfl
theorem spec_shSpan.bits1 : waitsOk spec_shSpan.T1.2 spec_shSpan.B1 = true := by kernel_rfl
set_option maxHeartbeats 8000000 in
set_option maxRecDepth 100000 in
theorem spec_shSpan.calls (k : Nat) (A0_0 : Option Addr) (c0_0 : Nat) (l0_0 : List Int) (a0_1 : Int) (a1 : Int) (a2 : Bool) (a3 : Int) (a4 : Bool) (r1 : Int) (r2 : Int) (w : World) (hr0_0 : Kd.C (Kd.int .i64) w A0_0 l0_0.length l0_0) (hc0_0 : l0_0.length ≤ c0_0) (h : spec_shSpan.f k l0_0 a0_1 a1 a2 a3 a4 = some (r1, r2)) :
  Calls Tryz.prog 41 #[.agg #[.slice A0_0 l0_0.length c0_0, .int .i64 a0_1], .int .i64 a1, .bool a2, .int .i64 a3, .bool a4] w fun e w' => e = .returned (.tuple #[.int .i64 r1, .int .i64 r2]) ∧ Below w.heap.size w w' := by
 have hu26 := Tryz.underlying26
 have HR0_0 := Az_ hr0_0
 have HC0_0 := Az_ hc0_0
 clear hr0_0 hc0_0
 have HB := Az_ (Below.refl w.heap.size w)
 have H : ((spec_shFace.f k l0_0 a0_1 a1 a2).bind fun t277 => ((spec_shFace.f k l0_0 a0_1 a3 a4).bind fun t278 => ((spec_l1Least.f t277 t278).bind fun t279 => ((spec_l1Most.f t277 t278).bind fun t280 => (some (t279, t280)))))) = some (r1, r2) := h
 clear h
 replace H := bqz_ H; obtain ⟨t277, A6, H⟩ := H
 replace H := bqz_ H; obtain ⟨t278, A7, H⟩ := H
 replace H := bqz_ H; obtain ⟨t279, A8, H⟩ := H
 replace H := bqz_ H; obtain ⟨t280, A9, H⟩ := H
 replace H : (some (t279, t280)) = some (r1, r2) := H
 simp only [Option.some.injEq, Prod.mk.injEq] at H
 obtain ⟨rfl, rfl⟩ := H
 go_enter Tryz.func41, Tryz.ntmps41
 try go_wp2_with (((with_reducible refine gate_dst (N := 5) rfl ?_); refine box_event ?hg (N := 5) ?hd (cs := #[.slice A0_0 l0_0.length c0_0, .int .i64 a0_1]) (t := 26) ?hr ?_; (case hd => rfl); (case hg => rfl); (case hr => first | (go_simp; done) | (go_simp; rfl)); intro gb276 hg w10 hbox hb; have BK276 := Az_ (hbox); have GW276 := Az_ ((by rw [hg]; exact (below_size (ubz_ HB.out)) : w.heap.size ≤ gb276)); have GE276 := Az_ ((by rw [hg]; exact (below_size (ubz_ HB.out)) : w.heap.size ≤ gb276)); replace HB := Az_ (btz_ (ubz_ HB.out) hb); clear hb hbox hg))
 have n0_ := Az_ (kdz_ BK276.out)
 have n1_ := Az_ (bdz_ HB.out)
 clear BK276 HB
 have BK276 := n0_
 have HB := n1_
 clear n0_ n1_
 refine start_ (n := 10) (S := fun w' => w'.cell? ⟨gb276, 0, none⟩ = some (.slice A0_0 l0_0.length c0_0) ∧ w'.cell? ⟨gb276, 1, none⟩ = some (.int .i64 a0_1)) (ds := []) #[false, false, false, false, false, false, false, false, false, false] (w94_) rfl rfl ⟨(blk_cell BK276.out 0).trans rfl, (blk_cell BK276.out 1).trans rfl⟩ (fun hHeld => ?_); refine with_tabW spec_shSpan.tab1 spec_shSpan.bits1 (fun HT_ HW_ => ?_)
 generalize w10.drew = w11 at BK276 HB hHeld ⊢
 refine pz_ 1 15 [0,1,1,8] ?_
 refine pz_ 2 16 [0,1,2,7] ?_
 refine pz_ 5 19 [0,1,2,2,1,4] ?_
 refine pz_ 6 20 [0,1,2,2,2,3] ?_
 refine tz2_ 0 14 [3,2,2,3] ?_
 refine tz2_ 4 18 [3,1,3,3] ?_
 refine one_ (i := 3) (N := some 17) (mz_ [7,3]) rfl rfl (one_of HT_.out (w94_)) (by decide) (fun K hK => ?_)
 refine goes_ Tryz.func39 (w94_) rfl #[.agg #[.slice A0_0 l0_0.length c0_0, .int .i64 a0_1], .int .i64 a1, .bool a2] (by rfl) rfl rfl maz_ ?_
 with_reducible refine (spec_shFace.calls k _ _ l0_0 a0_1 a1 a2 t277 _ ?side1 ?side2 A6.out).mono ?_
 (case side1 => repeat (first | exact (Kd.C_below HR0_0.out HB.out) | (with_reducible refine Kd.C_alloc ?_ _) | (with_reducible refine Kd.C_drewN ?_ _) | (with_reducible refine Kd.C_drew ?_)))
 (case side2 => exact HC0_0.out)
 rintro e w12 ⟨rfl, hb⟩
 refine ⟨_, rfl, ?_⟩
 have n1_ := Az_ (btz_ (w52_) hb)
 clear HB
 replace BK276 := Az_ (ukbz_ BK276.out hb)
 have HB := n1_
 clear n1_
 clear hb
 refine hK.out _ _ ⟨(blk_cell BK276.out 0).trans rfl, (blk_cell BK276.out 1).trans rfl⟩ (fun hHeld => ?_)
 clear hK K
 refine nz_ 17 ?_
 refine one_ (i := 7) (N := some 21) (mz_ [8,2]) rfl rfl (one_of HT_.out (w94_)) (by decide) (fun K hK => ?_)
 refine goes_ Tryz.func39 (w94_) rfl #[.agg #[.slice A0_0 l0_0.length c0_0, .int .i64 a0_1], .int .i64 a3, .bool a4] (by rfl) rfl rfl maz_ ?_
 with_reducible refine (spec_shFace.calls k _ _ l0_0 a0_1 a3 a4 t278 _ ?side1 ?side2 A7.out).mono ?_
 (case side1 => repeat (first | exact (Kd.C_below HR0_0.out HB.out) | (with_reducible refine Kd.C_alloc ?_ _) | (with_reducible refine Kd.C_drewN ?_ _) | (with_reducible refine Kd.C_drew ?_)))
 (case side2 => exact HC0_0.out)
 rintro e w13 ⟨rfl, hb⟩
 refine ⟨_, rfl, ?_⟩
 have n1_ := Az_ (btz_ (w52_) hb)
 clear HB
 replace BK276 := Az_ (ukbz_ BK276.out hb)
 have HB := n1_
 clear n1_
 clear hb
 refine hK.out _ _ ⟨(blk_cell BK276.out 0).trans rfl, (blk_cell BK276.out 1).trans rfl⟩ (fun hHeld => ?_)
 clear hK K
 refine nz_ 21 ?_
 refine pz_ 8 12 [9,1] ?_
 refine pz_ 9 13 [10] ?_
 refine done_ (done_of HT_.out (w94_)) ?_
 try go_wp2_with (first | ((with_reducible refine gate_callee (f := 62) rfl ?_); refine goesL_ (some 24) rfl rfl Tryz.func62 (w94_) rfl #[.int .i64 t277, .int .i64 t278] rfl maz_ ?_; (with_reducible refine (spec_l1Least.calls t277 t278 t279 _ A8.out).mono ?_); rintro e w' ⟨rfl, ⟨nd, rfl⟩⟩; refine ⟨_, rfl, ?_⟩) | ((with_reducible refine gate_callee (f := 60) rfl ?_); refine goesL_ (some 27) rfl rfl Tryz.func60 (w94_) rfl #[.int .i64 t277, .int .i64 t278] rfl maz_ ?_; (with_reducible refine (spec_l1Most.calls t277 t278 t280 _ A9.out).mono ?_); rintro e w' ⟨rfl, ⟨nd, rfl⟩⟩; refine ⟨_, rfl, ?_⟩))
 go_ret2
 exact ⟨w74_, w52_⟩


mutual
def spec_PagesEaten.j0 : Nat → Int → Bool → Int → Bool → Bool → List Int → Int → Option (List Int × Bool)
 | 0, _, _, _, _, _, _, _ => none
 | k + 1, x1, x2, x3, x4, x25, x282000, x282001 => if x25 = true then (some (([] : List Int), false)) else ((spec_shSpan.f k x282000 x282001 x1 x2 x3 x4).bind fun bt284 => (spec_PagesEaten.l0 k bt284.1 bt284.2 ([] : List Int) (x282000.length : Int) 0 x282000 x282001))
def spec_PagesEaten.l0 : Nat → Int → Int → List Int → Int → Int → List Int → Int → Option (List Int × Bool)
 | 0, _, _, _, _, _, _, _ => none
 | k + 1, x12, x13, x14, x37, x38, x282000, x282001 => if x38 < x37 then ((spec_shFace.f k x282000 x282001 x38 true).bind fun t286 => (if t286 ≥ x12 then ((spec_shFace.f k x282000 x282001 x38 false).bind fun t287 => (if t287 ≤ x13 then (if x14.length < 17592186044416 then (spec_PagesEaten.l0 k x12 x13 (x14 ++ [x38]) x37 (wrap64 (x38 + 1)) x282000 x282001) else (none)) else (spec_PagesEaten.l0 k x12 x13 x14 x37 (wrap64 (x38 + 1)) x282000 x282001))) else (spec_PagesEaten.l0 k x12 x13 x14 x37 (wrap64 (x38 + 1)) x282000 x282001))) else (some (x14, true))
end
def spec_PagesEaten.f (k : Nat) (l0_0 : List Int) (a0_1 : Int) (a1 : Int) (a2 : Bool) (a3 : Int) (a4 : Bool) : Option (List Int × Bool) := (spec_shBoth.f k l0_0 a0_1 a1).bind fun t282 => (if t282 = true then ((spec_shBoth.f k l0_0 a0_1 a3).bind fun t283 => (spec_PagesEaten.j0 k a1 a2 a3 a4 (!t283) l0_0 a0_1)) else (spec_PagesEaten.j0 k a1 a2 a3 a4 true l0_0 a0_1))
set_option maxHeartbeats 8000000 in
set_option maxRecDepth 100000 in
theorem spec_PagesEaten.calls (k : Nat) (A0_0 : Option Addr) (c0_0 : Nat) (l0_0 : List Int) (a0_1 : Int) (a1 : Int) (a2 : Bool) (a3 : Int) (a4 : Bool) (r1 : List Int) (r2 : Bool) (w : World) (hr0_0 : Kd.C (Kd.int .i64) w A0_0 l0_0.length l0_0) (hc0_0 : l0_0.length ≤ c0_0) (h : spec_PagesEaten.f k l0_0 a0_1 a1 a2 a3 a4 = some (r1, r2)) :
  Calls Tryz.prog 11 #[.agg #[.slice A0_0 l0_0.length c0_0, .int .i64 a0_1], .int .i64 a1, .bool a2, .int .i64 a3, .bool a4] w fun e w' => ∃ v0_ : Value, e = .returned (.tuple #[v0_, .bool r2]) ∧ Kd.R (Kd.int .i64) 3 w' w.heap.size (fun _ => True) v0_ r1 ∧ Below w.heap.size w w' := by
 have hu26 := Tryz.underlying26
 have HR0_0 := Az_ hr0_0
 have HC0_0 := Az_ hc0_0
 clear hr0_0 hc0_0
 have HB := Az_ (Below.refl w.heap.size w)
 have H : ((spec_shBoth.f k l0_0 a0_1 a1).bind fun t282 => (if t282 = true then ((spec_shBoth.f k l0_0 a0_1 a3).bind fun t283 => (j0 k a1 a2 a3 a4 (!t283) l0_0 a0_1)) else (j0 k a1 a2 a3 a4 true l0_0 a0_1))) = some (r1, r2) := h
 clear h
 have HC6 := Az_ H
 clear H
 go_enter Tryz.func11, Tryz.ntmps11
 go_upto_region 1 with (((with_reducible refine gate_dst (N := 5) rfl ?_); refine box_event ?hg (N := 5) ?hd (cs := #[.slice A0_0 l0_0.length c0_0, .int .i64 a0_1]) (t := 26) ?hr ?_; (case hd => rfl); (case hg => rfl); (case hr => first | (go_simp; done) | (go_simp; rfl)); intro gb281 hg w7 hbox hb; have BK281 := Az_ (hbox); have GW281 := Az_ ((by rw [hg]; exact (below_size (ubz_ HB.out)) : w.heap.size ≤ gb281)); have GE281 := Az_ ((by rw [hg]; exact (below_size (ubz_ HB.out)) : w.heap.size ≤ gb281)); replace HB := Az_ (btz_ (ubz_ HB.out) hb); clear hb hbox hg))
 (try simp only [Act.put, List.setIfInBounds_toArray, List.set_cons_zero, List.set_cons_succ])
 go_cut [25] (fun v25 wc => ∃ (kq : Nat) (x25_5 : Bool), v25 = .bool x25_5 ∧ Aside0 (j0 kq a1 a2 a3 a4 x25_5 l0_0 a0_1 = some (r1, r2)) ∧ Aside0 (kq ≤ k) ∧ Aside0 (wc.heap[gb281]? = some (.cells #[(.slice A0_0 l0_0.length c0_0), .int .i64 a0_1] 26 (0, 0))) ∧ Aside0 (Below w.heap.size w wc))
 case first =>
  have H := HC6.out
  clear HC6
  replace H := bqz_ H; obtain ⟨t282, A8, H⟩ := H
  replace H : (if t282 = true then ((spec_shBoth.f k l0_0 a0_1 a3).bind fun t283 => (j0 k a1 a2 a3 a4 (!t283) l0_0 a0_1)) else (j0 k a1 a2 a3 a4 true l0_0 a0_1)) = some (r1, r2) := H
  by_cases c9 : t282 = true; rotate_left
  ·replace c9 := Bool.eq_false_iff.mpr c9
   subst c9
   rw [if_neg nfz_] at H
   have H' := Az_ H
   clear H
   have hcz15_0 : w7.cell? ⟨gb281, 0, none⟩ = some (.slice A0_0 l0_0.length c0_0) := (blk_cell BK281.out 0).trans rfl
   have hcz15_1 : w7.cell? ⟨gb281, 1, none⟩ = some (.int .i64 a0_1) := (blk_cell BK281.out 1).trans rfl
   have hfz15_0 := blk_frozen BK281.out 0
   have hfz15_1 := blk_frozen BK281.out 1
   go_wp2_with (((with_reducible refine gate_callee (f := 37) rfl ?_); refine goesL_ (some 18) rfl rfl Tryz.func37 (w94_) rfl #[.agg #[.slice A0_0 l0_0.length c0_0, .int .i64 a0_1], .int .i64 a1] rfl maz_ ?_; (with_reducible refine (spec_shBoth.calls k _ _ l0_0 a0_1 a1 false _ ?side1 ?side2 A8.out).mono ?_); (case side1 => exact ucz_ ((Kd.C_below HR0_0.out HB.out))); (case side2 => exact HC0_0.out); rintro e w16 ⟨rfl, hb⟩; refine ⟨_, rfl, ?_⟩; have n1_ := Az_ (btz_ (w52_) hb); clear HB; replace BK281 := Az_ (ukbz_ BK281.out hb); have HB := n1_; clear n1_; (try clear hb)))
   go_meet
   case rel => exact ⟨_, (true), qaz_, H', ⟨w80_⟩, ⟨w66_⟩, ⟨w52_⟩⟩
  subst c9
  rw [if_pos rfl] at H
  replace H := bqz_ H; obtain ⟨t283, A10, H⟩ := H
  replace H : (j0 k a1 a2 a3 a4 (!t283) l0_0 a0_1) = some (r1, r2) := H
  have H' := Az_ H
  clear H
  have hcz11_0 : w7.cell? ⟨gb281, 0, none⟩ = some (.slice A0_0 l0_0.length c0_0) := (blk_cell BK281.out 0).trans rfl
  have hcz11_1 : w7.cell? ⟨gb281, 1, none⟩ = some (.int .i64 a0_1) := (blk_cell BK281.out 1).trans rfl
  have hfz11_0 := blk_frozen BK281.out 0
  have hfz11_1 := blk_frozen BK281.out 1
  go_wp2_with (first | ((with_reducible refine gate_callee (f := 37) rfl ?_); refine goesL_ (some 18) rfl rfl Tryz.func37 (w94_) rfl #[.agg #[.slice A0_0 l0_0.length c0_0, .int .i64 a0_1], .int .i64 a1] rfl maz_ ?_; (with_reducible refine (spec_shBoth.calls k _ _ l0_0 a0_1 a1 true _ ?side1 ?side2 A8.out).mono ?_); (case side1 => exact ucz_ ((Kd.C_below HR0_0.out HB.out))); (case side2 => exact HC0_0.out); rintro e w12 ⟨rfl, hb⟩; refine ⟨_, rfl, ?_⟩; have n1_ := Az_ (btz_ (w52_) hb); clear HB; replace BK281 := Az_ (ukbz_ BK281.out hb); have HB := n1_; clear n1_; (try clear hb); have hcz13_0 : w12.cell? ⟨gb281, 0, none⟩ = some (.slice A0_0 l0_0.length c0_0) := (blk_cell BK281.out 0).trans rfl; have hcz13_1 : w12.cell? ⟨gb281, 1, none⟩ = some (.int .i64 a0_1) := (blk_cell BK281.out 1).trans rfl; have hfz13_0 := blk_frozen BK281.out 0; have hfz13_1 := blk_frozen BK281.out 1) | (go_at_call 37; (with_reducible refine (spec_shBoth.calls k _ _ l0_0 a0_1 a3 t283 _ ?side1 ?side2 A10.out).mono ?_); (case side1 => exact ucz_ ((Kd.C_below HR0_0.out HB.out))); (case side2 => exact HC0_0.out); rintro e w14 ⟨rfl, hb⟩; have n1_ := Az_ (btz_ (w52_) hb); clear HB; replace BK281 := Az_ (ukbz_ BK281.out hb); have HB := n1_; clear n1_; (try clear hb)))
  go_meet
  case rel => exact ⟨_, (!t283), qaz_, H', ⟨w80_⟩, ⟨w66_⟩, ⟨w52_⟩⟩
 case rest =>
  clear HC6
  obtain ⟨kq, x25_5, rfl, HA, HJ5, BK281, HB⟩ := hcut
  cases kq with
  | zero => exact absurd HA.out (by simp [j0])
  | succ kj5 =>
   have H := HA.out
   clear HA
   simp only [j0] at H
   by_cases c17 : x25_5 = true
   ·subst c17
    rw [if_pos rfl] at H
    simp only [Option.some.injEq, Prod.mk.injEq] at H
    obtain ⟨rfl, rfl⟩ := H
    go_wp2
    go_ret2
    exact ⟨_, w74_, w53_, w52_⟩
   ·replace c17 := Bool.eq_false_iff.mpr c17
    subst c17
    rw [if_neg nfz_] at H
    replace H := bqz_ H; obtain ⟨⟨t284, t285⟩, A18, H⟩ := H
    replace H : (spec_PagesEaten.l0 kj5 t284 t285 ([] : List Int) (l0_0.length : Int) 0 l0_0 a0_1) = some (r1, r2) := H
    have H' := Az_ H
    clear H
    have hcz19_0 : wc.cell? ⟨gb281, 0, none⟩ = some (.slice A0_0 l0_0.length c0_0) := (blk_cell BK281.out 0).trans rfl
    have hcz19_1 : wc.cell? ⟨gb281, 1, none⟩ = some (.int .i64 a0_1) := (blk_cell BK281.out 1).trans rfl
    have hfz19_0 := blk_frozen BK281.out 0
    have hfz19_1 := blk_frozen BK281.out 1
    go_wp2_with (((with_reducible refine gate_callee (f := 41) rfl ?_); refine goesL_ (some 32) rfl rfl Tryz.func41 (w94_) rfl #[.agg #[.slice A0_0 l0_0.length c0_0, .int .i64 a0_1], .int .i64 a1, .bool a2, .int .i64 a3, .bool a4] rfl maz_ ?_; (with_reducible refine (spec_shSpan.calls kj5 _ _ l0_0 a0_1 a1 a2 a3 a4 t284 t285 _ ?side1 ?side2 A18.out).mono ?_); (case side1 => exact ucz_ ((Kd.C_below HR0_0.out HB.out))); (case side2 => exact HC0_0.out); rintro e w20 ⟨rfl, hb⟩; refine ⟨_, rfl, ?_⟩; have n1_ := Az_ (btz_ (w52_) hb); clear HB; replace BK281 := Az_ (ukbz_ BK281.out hb); have HB := n1_; clear n1_; (try clear hb); have hcz21_0 : w20.cell? ⟨gb281, 0, none⟩ = some (.slice A0_0 l0_0.length c0_0) := (blk_cell BK281.out 0).trans rfl; have hcz21_1 : w20.cell? ⟨gb281, 1, none⟩ = some (.int .i64 a0_1) := (blk_cell BK281.out 1).trans rfl; have hfz21_0 := blk_frozen BK281.out 0; have hfz21_1 := blk_frozen BK281.out 1))
    go_loopg [14, 38] kj5 (fun kq v14 v38 w' => ∃ (x14_2 : List Int) (x38_2 : Int), v38 = .int .i64 x38_2 ∧ Aside0 (spec_PagesEaten.l0 kq t284 t285 x14_2 (l0_0.length : Int) x38_2 l0_0 a0_1 = some (r1, r2)) ∧ Aside0 (kq ≤ kj5) ∧ Aside0 (Kd.R (Kd.int .i64) 3 w' w.heap.size (fun _ => True) v14 x14_2) ∧ Aside0 (w'.heap[gb281]? = some (.cells #[(.slice A0_0 l0_0.length c0_0), .int .i64 a0_1] 26 (0, 0))) ∧ Aside0 (Below w.heap.size w w'))
    case atStart => exact ⟨(([] : List Int)), (0), qaz_, H', ⟨Nat.le_refl _⟩, ⟨w53_⟩, ⟨w66_⟩, ⟨w52_⟩⟩
    case round =>
     clear H'
     clear hcz19_0 hcz19_1 hcz21_0 hcz21_1 hfz19_0 hfz19_1 hfz21_0 hfz21_1
     obtain ⟨x14_2, x38_2, rfl, HA, HK2, HO_14, BK281, HB⟩ := hrel
     cases gk with
     | zero => exact absurd HA.out (by simp [spec_PagesEaten.l0])
     | succ k2 =>
      have H := HA.out
      clear HA
      simp only [spec_PagesEaten.l0] at H
      by_cases c22 : x38_2 < (l0_0.length : Int)
      ·rw [if_pos c22] at H
       have c22b0 := decide_eq_true c22
       clear c22
       replace H := bqz_ H; obtain ⟨t286, A23, H⟩ := H
       replace H : (if t286 ≥ t284 then ((spec_shFace.f k2 l0_0 a0_1 x38_2 false).bind fun t287 => (if t287 ≤ t285 then (if x14_2.length < 17592186044416 then (spec_PagesEaten.l0 k2 t284 t285 (x14_2 ++ [x38_2]) (l0_0.length : Int) (wrap64 (x38_2 + 1)) l0_0 a0_1) else (none)) else (spec_PagesEaten.l0 k2 t284 t285 x14_2 (l0_0.length : Int) (wrap64 (x38_2 + 1)) l0_0 a0_1))) else (spec_PagesEaten.l0 k2 t284 t285 x14_2 (l0_0.length : Int) (wrap64 (x38_2 + 1)) l0_0 a0_1)) = some (r1, r2) := H
       by_cases c24 : t286 ≥ t284; rotate_left
       ·rw [if_neg c24] at H
        have c24b0 := decide_eq_false c24
        clear c24
        have H' := Az_ H
        clear H
        have hcz37_0 : wr.cell? ⟨gb281, 0, none⟩ = some (.slice A0_0 l0_0.length c0_0) := (blk_cell BK281.out 0).trans rfl
        have hcz37_1 : wr.cell? ⟨gb281, 1, none⟩ = some (.int .i64 a0_1) := (blk_cell BK281.out 1).trans rfl
        have hfz37_0 := blk_frozen BK281.out 0
        have hfz37_1 := blk_frozen BK281.out 1
        go_wp2_with (((with_reducible refine gate_callee (f := 39) rfl ?_); refine goesL_ (some 43) rfl rfl Tryz.func39 (w94_) rfl #[.agg #[.slice A0_0 l0_0.length c0_0, .int .i64 a0_1], .int .i64 x38_2, .bool true] rfl maz_ ?_; (with_reducible refine (spec_shFace.calls k2 _ _ l0_0 a0_1 x38_2 true t286 _ ?side1 ?side2 A23.out).mono ?_); (case side1 => exact ucz_ ((Kd.C_below HR0_0.out HB.out))); (case side2 => exact HC0_0.out); rintro e w38 ⟨rfl, hb⟩; refine ⟨_, rfl, ?_⟩; have n0_ := Az_ (Kd.R_below (by exact urz_ HO_14.out) hb); have n2_ := Az_ (btz_ (w52_) hb); clear HO_14; clear HB; have HO_14 := n0_; replace BK281 := Az_ (ukbz_ BK281.out hb); have HB := n2_; clear n0_ n2_; (try clear hb)))
        go_roundg k2
        case measure => have := HJ5.out; have := HK2.out; omega
        case rel => exact ⟨(x14_2), (wrap64 (x38_2 + 1)), qaz_, H', ⟨by have := HJ5.out; have := HK2.out; omega⟩, ⟨w75_⟩, ⟨w66_⟩, ⟨w52_⟩⟩
       rw [if_pos c24] at H
       have c24b0 := decide_eq_true c24
       clear c24
       replace H := bqz_ H; obtain ⟨t287, A25, H⟩ := H
       replace H : (if t287 ≤ t285 then (if x14_2.length < 17592186044416 then (spec_PagesEaten.l0 k2 t284 t285 (x14_2 ++ [x38_2]) (l0_0.length : Int) (wrap64 (x38_2 + 1)) l0_0 a0_1) else (none)) else (spec_PagesEaten.l0 k2 t284 t285 x14_2 (l0_0.length : Int) (wrap64 (x38_2 + 1)) l0_0 a0_1)) = some (r1, r2) := H
       by_cases c26 : t287 ≤ t285; rotate_left
       ·rw [if_neg c26] at H
        have c26b0 := decide_eq_false c26
        clear c26
        have H' := Az_ H
        clear H
        have hcz33_0 : wr.cell? ⟨gb281, 0, none⟩ = some (.slice A0_0 l0_0.length c0_0) := (blk_cell BK281.out 0).trans rfl
        have hcz33_1 : wr.cell? ⟨gb281, 1, none⟩ = some (.int .i64 a0_1) := (blk_cell BK281.out 1).trans rfl
        have hfz33_0 := blk_frozen BK281.out 0
        have hfz33_1 := blk_frozen BK281.out 1
        go_wp2_with (first | ((with_reducible refine gate_callee (f := 39) rfl ?_); refine goesL_ (some 43) rfl rfl Tryz.func39 (w94_) rfl #[.agg #[.slice A0_0 l0_0.length c0_0, .int .i64 a0_1], .int .i64 x38_2, .bool true] rfl maz_ ?_; (with_reducible refine (spec_shFace.calls k2 _ _ l0_0 a0_1 x38_2 true t286 _ ?side1 ?side2 A23.out).mono ?_); (case side1 => exact ucz_ ((Kd.C_below HR0_0.out HB.out))); (case side2 => exact HC0_0.out); rintro e w34 ⟨rfl, hb⟩; refine ⟨_, rfl, ?_⟩; have n0_ := Az_ (Kd.R_below (by exact urz_ HO_14.out) hb); have n2_ := Az_ (btz_ (w52_) hb); clear HO_14; clear HB; have HO_14 := n0_; replace BK281 := Az_ (ukbz_ BK281.out hb); have HB := n2_; clear n0_ n2_; (try clear hb); have hcz35_0 : w34.cell? ⟨gb281, 0, none⟩ = some (.slice A0_0 l0_0.length c0_0) := (blk_cell BK281.out 0).trans rfl; have hcz35_1 : w34.cell? ⟨gb281, 1, none⟩ = some (.int .i64 a0_1) := (blk_cell BK281.out 1).trans rfl; have hfz35_0 := blk_frozen BK281.out 0; have hfz35_1 := blk_frozen BK281.out 1) | (go_at_call 39; (with_reducible refine (spec_shFace.calls k2 _ _ l0_0 a0_1 x38_2 false t287 _ ?side1 ?side2 A25.out).mono ?_); (case side1 => exact ucz_ ((Kd.C_below HR0_0.out HB.out))); (case side2 => exact HC0_0.out); rintro e w36 ⟨rfl, hb⟩; have n0_ := Az_ (Kd.R_below (by exact urz_ HO_14.out) hb); have n2_ := Az_ (btz_ (w52_) hb); clear HO_14; clear HB; have HO_14 := n0_; replace BK281 := Az_ (ukbz_ BK281.out hb); have HB := n2_; clear n0_ n2_; (try clear hb)))
        go_roundg k2
        case measure => have := HJ5.out; have := HK2.out; omega
        case rel => exact ⟨(x14_2), (wrap64 (x38_2 + 1)), qaz_, H', ⟨by have := HJ5.out; have := HK2.out; omega⟩, ⟨w75_⟩, ⟨w66_⟩, ⟨w52_⟩⟩
       rw [if_pos c26] at H
       have c26b0 := decide_eq_true c26
       clear c26
       by_cases c27 : x14_2.length < 17592186044416; rotate_left
       ·rw [if_neg c27] at H
        exact absurd H (by simp)
       rw [if_pos c27] at H
       have LMc27 := Az_ c27
       clear c27
       obtain ⟨y288, hy288⟩ : ∃ y_ : List Int, y_ = (x14_2 ++ [x38_2]) := ⟨_, rfl⟩
       replace H : (spec_PagesEaten.l0 k2 t284 t285 y288 (l0_0.length : Int) (wrap64 (x38_2 + 1)) l0_0 a0_1) = some (r1, r2) := by first | (rw [hy288]; with_reducible exact H) | (have H2_ := (Option.bind_some _ _).symm.trans H; rw [hy288]; with_reducible exact H2_) | (have H2_ := (Option.bind_some _ _).symm.trans H; with_reducible exact H2_) | with_reducible exact H | (rw [hy288]; exact H) | exact H
       have Ny288 := Az_ hy288
       clear hy288
       have H' := Az_ H
       clear H
       have hcz28_0 : wr.cell? ⟨gb281, 0, none⟩ = some (.slice A0_0 l0_0.length c0_0) := (blk_cell BK281.out 0).trans rfl
       have hcz28_1 : wr.cell? ⟨gb281, 1, none⟩ = some (.int .i64 a0_1) := (blk_cell BK281.out 1).trans rfl
       have hfz28_0 := blk_frozen BK281.out 0
       have hfz28_1 := blk_frozen BK281.out 1
       go_wp2_with (first | ((with_reducible refine gate_callee (f := 39) rfl ?_); refine goesL_ (some 43) rfl rfl Tryz.func39 (w94_) rfl #[.agg #[.slice A0_0 l0_0.length c0_0, .int .i64 a0_1], .int .i64 x38_2, .bool true] rfl maz_ ?_; (with_reducible refine (spec_shFace.calls k2 _ _ l0_0 a0_1 x38_2 true t286 _ ?side1 ?side2 A23.out).mono ?_); (case side1 => exact ucz_ ((Kd.C_below HR0_0.out HB.out))); (case side2 => exact HC0_0.out); rintro e w29 ⟨rfl, hb⟩; refine ⟨_, rfl, ?_⟩; have n0_ := Az_ (Kd.R_below (by exact urz_ HO_14.out) hb); have n2_ := Az_ (btz_ (w52_) hb); clear HO_14; clear HB; have HO_14 := n0_; replace BK281 := Az_ (ukbz_ BK281.out hb); have HB := n2_; clear n0_ n2_; (try clear hb); have hcz30_0 : w29.cell? ⟨gb281, 0, none⟩ = some (.slice A0_0 l0_0.length c0_0) := (blk_cell BK281.out 0).trans rfl; have hcz30_1 : w29.cell? ⟨gb281, 1, none⟩ = some (.int .i64 a0_1) := (blk_cell BK281.out 1).trans rfl; have hfz30_0 := blk_frozen BK281.out 0; have hfz30_1 := blk_frozen BK281.out 1) | (go_at_call 39; (with_reducible refine (spec_shFace.calls k2 _ _ l0_0 a0_1 x38_2 false t287 _ ?side1 ?side2 A25.out).mono ?_); (case side1 => exact ucz_ ((Kd.C_below HR0_0.out HB.out))); (case side2 => exact HC0_0.out); rintro e w31 ⟨rfl, hb⟩; have n0_ := Az_ (Kd.R_below (by exact urz_ HO_14.out) hb); have n2_ := Az_ (btz_ (w52_) hb); clear HO_14; clear HB; have HO_14 := n0_; replace BK281 := Az_ (ukbz_ BK281.out hb); have HB := n2_; clear n0_ n2_; (try clear hb)) | ((with_reducible refine gate_builtin (b := .append) (xs := #[.tmp 53, .tmp 55]) rfl ?_); at_builtin; refine Kd.R_append (Kd.int .i64) (w0 := w) w.heap.size rfl (.tmp 53) (.tmp 55) 24 3 (.int .i64 0) 8 rfl Tryz.underlying24 info3 rfl (by decide) (by omega) u14 x14_2 x38_2 [.int .i64 x38_2] (fun _ => True) (fun _ => False) rfl rfl ?aP (fun _ hk => hk.elim) ?aF ?aO ?aB ?aS ?aL ?_; (case aP => exact rfl); (case aB => exact (w52_)); (case aF => exact (fun _ _ => trivial)); (case aO => exact (by exact urz_ HO_14.out)); (case aS => exact (below_size (w52_))); (case aL => have := LMc27.out; omega); intro v289 w32 ho hb hg hat; rw [← Ny288.out] at ho; replace BK281 := Az_ (blk_grown (g := gb281) (o := .cells #[.slice A0_0 l0_0.length c0_0, .int .i64 a0_1] 26 (0, 0)) (by exact ukz_ BK281.out) hg (Kd.R_ne HO_14.out BK281.out (by decide))); replace HB := Az_ (hb); have HO290 := Az_ (ho); clear HO_14; clear ho hb hg hat))
       go_roundg k2
       case measure => have := HJ5.out; have := HK2.out; omega
       case rel => exact ⟨(y288), (wrap64 (x38_2 + 1)), qaz_, H', ⟨by have := HJ5.out; have := HK2.out; omega⟩, ⟨by (with_reducible repeat (first | apply raz_ | apply rnz_ | apply rdz_)); exact HO290.out⟩, ⟨w66_⟩, ⟨w52_⟩⟩
      ·rw [if_neg c22] at H
       have c22b0 := decide_eq_false c22
       clear c22
       simp only [Option.some.injEq, Prod.mk.injEq] at H
       obtain ⟨rfl, rfl⟩ := H
       go_wp2
       go_ret2
       exact ⟨_, w74_, w75_, w52_⟩

def impl_WidthOf.f (k : Nat) (l0_0 : List Int) (a0_1 : Int) : Option (Int × Bool) := (impl_IsShelf.f k l0_0 a0_1).bind fun t292 => (if t292 = true then ((impl_Shelf_left.f k l0_0 a0_1 (l0_0.length : Int)).bind fun t293 => (some (t293, true))) else (some (0, false)))
set_option maxHeartbeats 8000000 in
set_option maxRecDepth 100000 in
theorem impl_WidthOf.calls (k : Nat) (A0_0 : Option Addr) (c0_0 : Nat) (l0_0 : List Int) (a0_1 : Int) (r1 : Int) (r2 : Bool) (w : World) (hr0_0 : Kd.C (Kd.int .i64) w A0_0 l0_0.length l0_0) (hc0_0 : l0_0.length ≤ c0_0) (h : impl_WidthOf.f k l0_0 a0_1 = some (r1, r2)) :
  Calls Tryz.prog 12 #[.agg #[.slice A0_0 l0_0.length c0_0, .int .i64 a0_1]] w fun e w' => e = .returned (.tuple #[.int .i64 r1, .bool r2]) ∧ Below w.heap.size w w' := by
 have hu26 := Tryz.underlying26
 have HR0_0 := Az_ hr0_0
 have HC0_0 := Az_ hc0_0
 clear hr0_0 hc0_0
 have HB := Az_ (Below.refl w.heap.size w)
 have H : ((impl_IsShelf.f k l0_0 a0_1).bind fun t292 => (if t292 = true then ((impl_Shelf_left.f k l0_0 a0_1 (l0_0.length : Int)).bind fun t293 => (some (t293, true))) else (some (0, false)))) = some (r1, r2) := h
 clear h
 replace H := bqz_ H; obtain ⟨t292, A2, H⟩ := H
 replace H : (if t292 = true then ((impl_Shelf_left.f k l0_0 a0_1 (l0_0.length : Int)).bind fun t293 => (some (t293, true))) else (some (0, false))) = some (r1, r2) := H
 by_cases c3 : t292 = true
 ·subst c3
  rw [if_pos rfl] at H
  replace H := bqz_ H; obtain ⟨t293, A4, H⟩ := H
  replace H : (some (t293, true)) = some (r1, r2) := H
  simp only [Option.some.injEq, Prod.mk.injEq] at H
  obtain ⟨rfl, rfl⟩ := H
  go_enter Tryz.func12, Tryz.ntmps12
  go_wp2_with (first | ((with_reducible refine gate_dst (N := 1) rfl ?_); refine box_event ?hg (N := 1) ?hd (cs := #[.slice A0_0 l0_0.length c0_0, .int .i64 a0_1]) (t := 26) ?hr ?_; (case hd => rfl); (case hg => rfl); (case hr => first | (go_simp; done) | (go_simp; rfl)); intro gb291 hg w5 hbox hb; have BK291 := Az_ (hbox); have GW291 := Az_ ((by rw [hg]; exact (below_size (ubz_ HB.out)) : w.heap.size ≤ gb291)); have GE291 := Az_ ((by rw [hg]; exact (below_size (ubz_ HB.out)) : w.heap.size ≤ gb291)); replace HB := Az_ (btz_ (ubz_ HB.out) hb); clear hb hbox hg; have hcz6_0 : w5.cell? ⟨gb291, 0, none⟩ = some (.slice A0_0 l0_0.length c0_0) := (blk_cell BK291.out 0).trans rfl; have hcz6_1 : w5.cell? ⟨gb291, 1, none⟩ = some (.int .i64 a0_1) := (blk_cell BK291.out 1).trans rfl; have hfz6_0 := blk_frozen BK291.out 0; have hfz6_1 := blk_frozen BK291.out 1) | ((with_reducible refine gate_callee (f := 19) rfl ?_); refine goesL_ (some 5) rfl rfl Tryz.func19 (w94_) rfl #[.agg #[.slice A0_0 l0_0.length c0_0, .int .i64 a0_1]] rfl maz_ ?_; (with_reducible refine (impl_IsShelf.calls k _ _ l0_0 a0_1 true _ ?side1 ?side2 A2.out).mono ?_); (case side1 => exact ucz_ ((Kd.C_below HR0_0.out HB.out))); (case side2 => exact HC0_0.out); rintro e w7 ⟨rfl, hb⟩; refine ⟨_, rfl, ?_⟩; have n1_ := Az_ (btz_ (w52_) hb); clear HB; replace BK291 := Az_ (ukbz_ BK291.out hb); have HB := n1_; clear n1_; (try clear hb); have hcz8_0 : w7.cell? ⟨gb291, 0, none⟩ = some (.slice A0_0 l0_0.length c0_0) := (blk_cell BK291.out 0).trans rfl; have hcz8_1 : w7.cell? ⟨gb291, 1, none⟩ = some (.int .i64 a0_1) := (blk_cell BK291.out 1).trans rfl; have hfz8_0 := blk_frozen BK291.out 0; have hfz8_1 := blk_frozen BK291.out 1) | ((with_reducible refine gate_callee (f := 42) rfl ?_); refine goesL_ (some 11) rfl rfl Tryz.func42 (w94_) rfl #[.agg #[.slice A0_0 l0_0.length c0_0, .int .i64 a0_1], .int .i64 (l0_0.length : Int)] rfl maz_ ?_; (with_reducible refine (impl_Shelf_left.calls k _ _ l0_0 a0_1 (l0_0.length : Int) t293 _ ?side1 ?side2 A4.out).mono ?_); (case side1 => exact ucz_ ((Kd.C_below HR0_0.out HB.out))); (case side2 => exact HC0_0.out); rintro e w9 ⟨rfl, hb⟩; refine ⟨_, rfl, ?_⟩; have n1_ := Az_ (btz_ (w52_) hb); clear HB; replace BK291 := Az_ (ukbz_ BK291.out hb); have HB := n1_; clear n1_; (try clear hb)))
  go_ret2
  exact ⟨w74_, w52_⟩
 ·replace c3 := Bool.eq_false_iff.mpr c3
  subst c3
  rw [if_neg nfz_] at H
  simp only [Option.some.injEq, Prod.mk.injEq] at H
  obtain ⟨rfl, rfl⟩ := H
  go_enter Tryz.func12, Tryz.ntmps12
  go_wp2_with (first | ((with_reducible refine gate_dst (N := 1) rfl ?_); refine box_event ?hg (N := 1) ?hd (cs := #[.slice A0_0 l0_0.length c0_0, .int .i64 a0_1]) (t := 26) ?hr ?_; (case hd => rfl); (case hg => rfl); (case hr => first | (go_simp; done) | (go_simp; rfl)); intro gb291 hg w10 hbox hb; have BK291 := Az_ (hbox); have GW291 := Az_ ((by rw [hg]; exact (below_size (ubz_ HB.out)) : w.heap.size ≤ gb291)); have GE291 := Az_ ((by rw [hg]; exact (below_size (ubz_ HB.out)) : w.heap.size ≤ gb291)); replace HB := Az_ (btz_ (ubz_ HB.out) hb); clear hb hbox hg; have hcz11_0 : w10.cell? ⟨gb291, 0, none⟩ = some (.slice A0_0 l0_0.length c0_0) := (blk_cell BK291.out 0).trans rfl; have hcz11_1 : w10.cell? ⟨gb291, 1, none⟩ = some (.int .i64 a0_1) := (blk_cell BK291.out 1).trans rfl; have hfz11_0 := blk_frozen BK291.out 0; have hfz11_1 := blk_frozen BK291.out 1) | ((with_reducible refine gate_callee (f := 19) rfl ?_); refine goesL_ (some 5) rfl rfl Tryz.func19 (w94_) rfl #[.agg #[.slice A0_0 l0_0.length c0_0, .int .i64 a0_1]] rfl maz_ ?_; (with_reducible refine (impl_IsShelf.calls k _ _ l0_0 a0_1 false _ ?side1 ?side2 A2.out).mono ?_); (case side1 => exact ucz_ ((Kd.C_below HR0_0.out HB.out))); (case side2 => exact HC0_0.out); rintro e w12 ⟨rfl, hb⟩; refine ⟨_, rfl, ?_⟩; have n1_ := Az_ (btz_ (w52_) hb); clear HB; replace BK291 := Az_ (ukbz_ BK291.out hb); have HB := n1_; clear n1_; (try clear hb)))
  go_ret2
  exact ⟨w74_, w52_⟩

def spec_WidthOf.f (k : Nat) (l0_0 : List Int) (a0_1 : Int) : Option (Int × Bool) := (spec_shGood.f k l0_0 a0_1).bind fun t295 => (if t295 = true then ((spec_shLeft.f k l0_0 a0_1 (l0_0.length : Int)).bind fun t296 => (some (t296, true))) else (some (0, false)))
set_option maxHeartbeats 8000000 in
set_option maxRecDepth 100000 in
theorem spec_WidthOf.calls (k : Nat) (A0_0 : Option Addr) (c0_0 : Nat) (l0_0 : List Int) (a0_1 : Int) (r1 : Int) (r2 : Bool) (w : World) (hr0_0 : Kd.C (Kd.int .i64) w A0_0 l0_0.length l0_0) (hc0_0 : l0_0.length ≤ c0_0) (h : spec_WidthOf.f k l0_0 a0_1 = some (r1, r2)) :
  Calls Tryz.prog 13 #[.agg #[.slice A0_0 l0_0.length c0_0, .int .i64 a0_1]] w fun e w' => e = .returned (.tuple #[.int .i64 r1, .bool r2]) ∧ Below w.heap.size w w' := by
 have hu26 := Tryz.underlying26
 have HR0_0 := Az_ hr0_0
 have HC0_0 := Az_ hc0_0
 clear hr0_0 hc0_0
 have HB := Az_ (Below.refl w.heap.size w)
 have H : ((spec_shGood.f k l0_0 a0_1).bind fun t295 => (if t295 = true then ((spec_shLeft.f k l0_0 a0_1 (l0_0.length : Int)).bind fun t296 => (some (t296, true))) else (some (0, false)))) = some (r1, r2) := h
 clear h
 replace H := bqz_ H; obtain ⟨t295, A2, H⟩ := H
 replace H : (if t295 = true then ((spec_shLeft.f k l0_0 a0_1 (l0_0.length : Int)).bind fun t296 => (some (t296, true))) else (some (0, false))) = some (r1, r2) := H
 by_cases c3 : t295 = true
 ·subst c3
  rw [if_pos rfl] at H
  replace H := bqz_ H; obtain ⟨t296, A4, H⟩ := H
  replace H : (some (t296, true)) = some (r1, r2) := H
  simp only [Option.some.injEq, Prod.mk.injEq] at H
  obtain ⟨rfl, rfl⟩ := H
  go_enter Tryz.func13, Tryz.ntmps13
  go_wp2_with (first | ((with_reducible refine gate_dst (N := 1) rfl ?_); refine box_event ?hg (N := 1) ?hd (cs := #[.slice A0_0 l0_0.length c0_0, .int .i64 a0_1]) (t := 26) ?hr ?_; (case hd => rfl); (case hg => rfl); (case hr => first | (go_simp; done) | (go_simp; rfl)); intro gb294 hg w5 hbox hb; have BK294 := Az_ (hbox); have GW294 := Az_ ((by rw [hg]; exact (below_size (ubz_ HB.out)) : w.heap.size ≤ gb294)); have GE294 := Az_ ((by rw [hg]; exact (below_size (ubz_ HB.out)) : w.heap.size ≤ gb294)); replace HB := Az_ (btz_ (ubz_ HB.out) hb); clear hb hbox hg; have hcz6_0 : w5.cell? ⟨gb294, 0, none⟩ = some (.slice A0_0 l0_0.length c0_0) := (blk_cell BK294.out 0).trans rfl; have hcz6_1 : w5.cell? ⟨gb294, 1, none⟩ = some (.int .i64 a0_1) := (blk_cell BK294.out 1).trans rfl; have hfz6_0 := blk_frozen BK294.out 0; have hfz6_1 := blk_frozen BK294.out 1) | ((with_reducible refine gate_callee (f := 43) rfl ?_); refine goesL_ (some 5) rfl rfl Tryz.func43 (w94_) rfl #[.agg #[.slice A0_0 l0_0.length c0_0, .int .i64 a0_1]] rfl maz_ ?_; (with_reducible refine (spec_shGood.calls k _ _ l0_0 a0_1 true _ ?side1 ?side2 A2.out).mono ?_); (case side1 => exact ucz_ ((Kd.C_below HR0_0.out HB.out))); (case side2 => exact HC0_0.out); rintro e w7 ⟨rfl, hb⟩; refine ⟨_, rfl, ?_⟩; have n1_ := Az_ (btz_ (w52_) hb); clear HB; replace BK294 := Az_ (ukbz_ BK294.out hb); have HB := n1_; clear n1_; (try clear hb); have hcz8_0 : w7.cell? ⟨gb294, 0, none⟩ = some (.slice A0_0 l0_0.length c0_0) := (blk_cell BK294.out 0).trans rfl; have hcz8_1 : w7.cell? ⟨gb294, 1, none⟩ = some (.int .i64 a0_1) := (blk_cell BK294.out 1).trans rfl; have hfz8_0 := blk_frozen BK294.out 0; have hfz8_1 := blk_frozen BK294.out 1) | ((with_reducible refine gate_callee (f := 44) rfl ?_); refine goesL_ (some 11) rfl rfl Tryz.func44 (w94_) rfl #[.agg #[.slice A0_0 l0_0.length c0_0, .int .i64 a0_1], .int .i64 (l0_0.length : Int)] rfl maz_ ?_; (with_reducible refine (spec_shLeft.calls k _ _ l0_0 a0_1 (l0_0.length : Int) t296 _ ?side1 ?side2 A4.out).mono ?_); (case side1 => exact ucz_ ((Kd.C_below HR0_0.out HB.out))); (case side2 => exact HC0_0.out); rintro e w9 ⟨rfl, hb⟩; refine ⟨_, rfl, ?_⟩; have n1_ := Az_ (btz_ (w52_) hb); clear HB; replace BK294 := Az_ (ukbz_ BK294.out hb); have HB := n1_; clear n1_; (try clear hb)))
  go_ret2
  exact ⟨w74_, w52_⟩
 ·replace c3 := Bool.eq_false_iff.mpr c3
  subst c3
  rw [if_neg nfz_] at H
  simp only [Option.some.injEq, Prod.mk.injEq] at H
  obtain ⟨rfl, rfl⟩ := H
  go_enter Tryz.func13, Tryz.ntmps13
  go_wp2_with (first | ((with_reducible refine gate_dst (N := 1) rfl ?_); refine box_event ?hg (N := 1) ?hd (cs := #[.slice A0_0 l0_0.length c0_0, .int .i64 a0_1]) (t := 26) ?hr ?_; (case hd => rfl); (case hg => rfl); (case hr => first | (go_simp; done) | (go_simp; rfl)); intro gb294 hg w10 hbox hb; have BK294 := Az_ (hbox); have GW294 := Az_ ((by rw [hg]; exact (below_size (ubz_ HB.out)) : w.heap.size ≤ gb294)); have GE294 := Az_ ((by rw [hg]; exact (below_size (ubz_ HB.out)) : w.heap.size ≤ gb294)); replace HB := Az_ (btz_ (ubz_ HB.out) hb); clear hb hbox hg; have hcz11_0 : w10.cell? ⟨gb294, 0, none⟩ = some (.slice A0_0 l0_0.length c0_0) := (blk_cell BK294.out 0).trans rfl; have hcz11_1 : w10.cell? ⟨gb294, 1, none⟩ = some (.int .i64 a0_1) := (blk_cell BK294.out 1).trans rfl; have hfz11_0 := blk_frozen BK294.out 0; have hfz11_1 := blk_frozen BK294.out 1) | ((with_reducible refine gate_callee (f := 43) rfl ?_); refine goesL_ (some 5) rfl rfl Tryz.func43 (w94_) rfl #[.agg #[.slice A0_0 l0_0.length c0_0, .int .i64 a0_1]] rfl maz_ ?_; (with_reducible refine (spec_shGood.calls k _ _ l0_0 a0_1 false _ ?side1 ?side2 A2.out).mono ?_); (case side1 => exact ucz_ ((Kd.C_below HR0_0.out HB.out))); (case side2 => exact HC0_0.out); rintro e w12 ⟨rfl, hb⟩; refine ⟨_, rfl, ?_⟩; have n1_ := Az_ (btz_ (w52_) hb); clear HB; replace BK294 := Az_ (ukbz_ BK294.out hb); have HB := n1_; clear n1_; (try clear hb)))
  go_ret2
  exact ⟨w74_, w52_⟩


mutual
def impl_LongestWorm.j0 : Nat → Bool → List Int → Int → Option (Int × Int × Bool)
 | 0, _, _, _ => none
 | k + 1, x20, x298000, x298001 => if x20 = true then (some (0, 0, false)) else (impl_LongestWorm.l0 k 0 0 (-1) (x298000.length : Int) 0 x298000 x298001)
def impl_LongestWorm.l0 : Nat → Int → Int → Int → Int → Int → List Int → Int → Option (Int × Int × Bool)
 | 0, _, _, _, _, _, _, _ => none
 | k + 1, x5, x6, x7, x23, x24, x298000, x298001 => if x24 < x23 then (impl_LongestWorm.l1 k x5 x6 x7 x24 x23 x24 (x298000.length : Int) 0 x298000 x298001) else (some (x5, x6, true))
def impl_LongestWorm.l1 : Nat → Int → Int → Int → Int → Int → Int → Int → Int → List Int → Int → Option (Int × Int × Bool)
 | 0, _, _, _, _, _, _, _, _, _, _ => none
 | k + 1, x5, x6, x7, x8, x23, x24, x29, x30, x298000, x298001 => if x30 < x29 then ((impl_WormEats.f k x298000 x298001 x8 false x30 true).bind fun bt299 => (if x8 = x30 then (impl_LongestWorm.l1 k x5 x6 x7 x8 x23 x24 x29 (wrap64 (x30 + 1)) x298000 x298001) else (if bt299.1 > x7 then (impl_LongestWorm.l1 k x8 x30 bt299.1 x8 x23 x24 x29 (wrap64 (x30 + 1)) x298000 x298001) else (impl_LongestWorm.l1 k x5 x6 x7 x8 x23 x24 x29 (wrap64 (x30 + 1)) x298000 x298001)))) else (impl_LongestWorm.l0 k x5 x6 x7 x23 (wrap64 (x24 + 1)) x298000 x298001)
end
def impl_LongestWorm.f (k : Nat) (l0_0 : List Int) (a0_1 : Int) : Option (Int × Int × Bool) := (impl_IsShelf.f k l0_0 a0_1).bind fun t298 => (if t298 = true then (impl_LongestWorm.j0 k ((l0_0.length : Int) == 1) l0_0 a0_1) else (impl_LongestWorm.j0 k true l0_0 a0_1))
set_option maxHeartbeats 8000000 in
set_option maxRecDepth 100000 in
theorem impl_LongestWorm.calls (k : Nat) (A0_0 : Option Addr) (c0_0 : Nat) (l0_0 : List Int) (a0_1 : Int) (r1 : Int) (r2 : Int) (r3 : Bool) (w : World) (hr0_0 : Kd.C (Kd.int .i64) w A0_0 l0_0.length l0_0) (hc0_0 : l0_0.length ≤ c0_0) (h : impl_LongestWorm.f k l0_0 a0_1 = some (r1, r2, r3)) :
  Calls Tryz.prog 14 #[.agg #[.slice A0_0 l0_0.length c0_0, .int .i64 a0_1]] w fun e w' => e = .returned (.tuple #[.int .i64 r1, .int .i64 r2, .bool r3]) ∧ Below w.heap.size w w' := by
 have hu26 := Tryz.underlying26
 have HR0_0 := Az_ hr0_0
 have HC0_0 := Az_ hc0_0
 clear hr0_0 hc0_0
 have HB := Az_ (Below.refl w.heap.size w)
 have H : ((impl_IsShelf.f k l0_0 a0_1).bind fun t298 => (if t298 = true then (j0 k ((l0_0.length : Int) == 1) l0_0 a0_1) else (j0 k true l0_0 a0_1))) = some (r1, r2, r3) := h
 clear h
 have HC2 := Az_ H
 clear H
 go_enter Tryz.func14, Tryz.ntmps14
 go_upto_region 1 with (((with_reducible refine gate_dst (N := 1) rfl ?_); (try (refine gate_guard (by rfl) ?_; dsimp only)); refine box_event ?hg (N := 1) ?hd (cs := #[.slice A0_0 l0_0.length c0_0, .int .i64 a0_1]) (t := 26) ?hr ?_; (case hd => rfl); (case hg => rfl); (case hr => first | (go_simp; done) | (go_simp; rfl)); intro gb297 hg w3 hbox hb; have BK297 := Az_ (hbox); have GW297 := Az_ ((by rw [hg]; exact (below_size (ubz_ HB.out)) : w.heap.size ≤ gb297)); have GE297 := Az_ ((by rw [hg]; exact (below_size (ubz_ HB.out)) : w.heap.size ≤ gb297)); replace HB := Az_ (btz_ (ubz_ HB.out) hb); clear hb hbox hg))
 (try simp only [Act.put, List.setIfInBounds_toArray, List.set_cons_zero, List.set_cons_succ])
 go_cut [20] (fun v20 wc => ∃ (kq : Nat) (x20_1 : Bool), v20 = .bool x20_1 ∧ Aside0 (j0 kq x20_1 l0_0 a0_1 = some (r1, r2, r3)) ∧ Aside0 (kq ≤ k) ∧ Aside0 (wc.heap[gb297]? = some (.cells #[(.slice A0_0 l0_0.length c0_0), .int .i64 a0_1] 26 (0, 0))) ∧ Aside0 (Below w.heap.size w wc))
 case first =>
  have H := HC2.out
  clear HC2
  replace H := bqz_ H; obtain ⟨t298, A4, H⟩ := H
  replace H : (if t298 = true then (j0 k ((l0_0.length : Int) == 1) l0_0 a0_1) else (j0 k true l0_0 a0_1)) = some (r1, r2, r3) := H
  by_cases c5 : t298 = true
  ·subst c5
   rw [if_pos rfl] at H
   have H' := Az_ H
   clear H
   have hcz6_0 : w3.cell? ⟨gb297, 0, none⟩ = some (.slice A0_0 l0_0.length c0_0) := (blk_cell BK297.out 0).trans rfl
   have hcz6_1 : w3.cell? ⟨gb297, 1, none⟩ = some (.int .i64 a0_1) := (blk_cell BK297.out 1).trans rfl
   have hfz6_0 := blk_frozen BK297.out 0
   have hfz6_1 := blk_frozen BK297.out 1
   go_wp2_with (((with_reducible refine gate_callee (f := 19) rfl ?_); refine goesL_ (some 13) rfl rfl Tryz.func19 (w94_) rfl #[.agg #[.slice A0_0 l0_0.length c0_0, .int .i64 a0_1]] rfl maz_ ?_; (with_reducible refine (impl_IsShelf.calls k _ _ l0_0 a0_1 true _ ?side1 ?side2 A4.out).mono ?_); (case side1 => exact ucz_ ((Kd.C_below HR0_0.out HB.out))); (case side2 => exact HC0_0.out); rintro e w7 ⟨rfl, hb⟩; refine ⟨_, rfl, ?_⟩; have n1_ := Az_ (btz_ (w52_) hb); clear HB; replace BK297 := Az_ (ukbz_ BK297.out hb); have HB := n1_; clear n1_; (try clear hb); have hcz8_0 : w7.cell? ⟨gb297, 0, none⟩ = some (.slice A0_0 l0_0.length c0_0) := (blk_cell BK297.out 0).trans rfl; have hcz8_1 : w7.cell? ⟨gb297, 1, none⟩ = some (.int .i64 a0_1) := (blk_cell BK297.out 1).trans rfl; have hfz8_0 := blk_frozen BK297.out 0; have hfz8_1 := blk_frozen BK297.out 1))
   go_meet
   case rel => exact ⟨_, (((l0_0.length : Int) == 1)), qaz_, H', ⟨w80_⟩, ⟨w67_⟩, ⟨w52_⟩⟩
  replace c5 := Bool.eq_false_iff.mpr c5
  subst c5
  rw [if_neg nfz_] at H
  have H' := Az_ H
  clear H
  have hcz9_0 : w3.cell? ⟨gb297, 0, none⟩ = some (.slice A0_0 l0_0.length c0_0) := (blk_cell BK297.out 0).trans rfl
  have hcz9_1 : w3.cell? ⟨gb297, 1, none⟩ = some (.int .i64 a0_1) := (blk_cell BK297.out 1).trans rfl
  have hfz9_0 := blk_frozen BK297.out 0
  have hfz9_1 := blk_frozen BK297.out 1
  go_wp2_with (((with_reducible refine gate_callee (f := 19) rfl ?_); refine goesL_ (some 13) rfl rfl Tryz.func19 (w94_) rfl #[.agg #[.slice A0_0 l0_0.length c0_0, .int .i64 a0_1]] rfl maz_ ?_; (with_reducible refine (impl_IsShelf.calls k _ _ l0_0 a0_1 false _ ?side1 ?side2 A4.out).mono ?_); (case side1 => exact ucz_ ((Kd.C_below HR0_0.out HB.out))); (case side2 => exact HC0_0.out); rintro e w10 ⟨rfl, hb⟩; refine ⟨_, rfl, ?_⟩; have n1_ := Az_ (btz_ (w52_) hb); clear HB; replace BK297 := Az_ (ukbz_ BK297.out hb); have HB := n1_; clear n1_; (try clear hb)))
  go_meet
  case rel => exact ⟨_, (true), qaz_, H', ⟨w80_⟩, ⟨w67_⟩, ⟨w52_⟩⟩
 case rest =>
  clear HC2
  obtain ⟨kq, x20_1, rfl, HA, HJ1, BK297, HB⟩ := hcut
  cases kq with
  | zero => exact absurd HA.out (by simp [j0])
  | succ kj1 =>
   have H := HA.out
   clear HA
   simp only [j0] at H
   by_cases c11 : x20_1 = true
   ·subst c11
    rw [if_pos rfl] at H
    simp only [Option.some.injEq, Prod.mk.injEq] at H
    obtain ⟨rfl, rfl, rfl⟩ := H
    go_wp2
    go_ret3
    exact ⟨w74_, w52_⟩
   ·replace c11 := Bool.eq_false_iff.mpr c11
    subst c11
    rw [if_neg nfz_] at H
    have H' := Az_ H
    clear H
    have hcz12_0 : wc.cell? ⟨gb297, 0, none⟩ = some (.slice A0_0 l0_0.length c0_0) := (blk_cell BK297.out 0).trans rfl
    have hcz12_1 : wc.cell? ⟨gb297, 1, none⟩ = some (.int .i64 a0_1) := (blk_cell BK297.out 1).trans rfl
    have hfz12_0 := blk_frozen BK297.out 0
    have hfz12_1 := blk_frozen BK297.out 1
    go_wp2
    go_loopg [5, 6, 7, 24] kj1 (fun kq v5 v6 v7 v24 w' => ∃ (x5_2 : Int) (x6_2 : Int) (x7_2 : Int) (x24_2 : Int), v5 = .int .i64 x5_2 ∧ v6 = .int .i64 x6_2 ∧ v7 = .int .i64 x7_2 ∧ v24 = .int .i64 x24_2 ∧ Aside0 (impl_LongestWorm.l0 kq x5_2 x6_2 x7_2 (l0_0.length : Int) x24_2 l0_0 a0_1 = some (r1, r2, r3)) ∧ Aside0 (kq ≤ kj1) ∧ Aside0 (w'.heap[gb297]? = some (.cells #[(.slice A0_0 l0_0.length c0_0), .int .i64 a0_1] 26 (0, 0))) ∧ Aside0 (Below w.heap.size w w'))
    case atStart => exact ⟨(0), (0), ((-1)), (0), qaz_, qaz_, qaz_, qaz_, H', ⟨Nat.le_refl _⟩, ⟨w67_⟩, ⟨w52_⟩⟩
    case round =>
     clear H'
     clear hcz12_0 hcz12_1 hfz12_0 hfz12_1
     obtain ⟨x5_2, x6_2, x7_2, x24_2, rfl, rfl, rfl, rfl, HA, HK2, BK297, HB⟩ := hrel
     cases gk with
     | zero => exact absurd HA.out (by simp [impl_LongestWorm.l0])
     | succ k2 =>
      have H := HA.out
      clear HA
      simp only [impl_LongestWorm.l0] at H
      by_cases c13 : x24_2 < (l0_0.length : Int)
      ·rw [if_pos c13] at H
       have c13b0 := decide_eq_true c13
       clear c13
       have H' := Az_ H
       clear H
       have hcz14_0 : wr.cell? ⟨gb297, 0, none⟩ = some (.slice A0_0 l0_0.length c0_0) := (blk_cell BK297.out 0).trans rfl
       have hcz14_1 : wr.cell? ⟨gb297, 1, none⟩ = some (.int .i64 a0_1) := (blk_cell BK297.out 1).trans rfl
       have hfz14_0 := blk_frozen BK297.out 0
       have hfz14_1 := blk_frozen BK297.out 1
       go_wp2
       go_loopg [5, 6, 7, 30] k2 (fun kq v5 v6 v7 v30 w' => ∃ (x5_3 : Int) (x6_3 : Int) (x7_3 : Int) (x30_3 : Int), v5 = .int .i64 x5_3 ∧ v6 = .int .i64 x6_3 ∧ v7 = .int .i64 x7_3 ∧ v30 = .int .i64 x30_3 ∧ Aside0 (impl_LongestWorm.l1 kq x5_3 x6_3 x7_3 x24_2 (l0_0.length : Int) x24_2 (l0_0.length : Int) x30_3 l0_0 a0_1 = some (r1, r2, r3)) ∧ Aside0 (kq ≤ k2) ∧ Aside0 (w'.heap[gb297]? = some (.cells #[(.slice A0_0 l0_0.length c0_0), .int .i64 a0_1] 26 (0, 0))) ∧ Aside0 (Below w.heap.size w w'))
       case atStart => exact ⟨(x5_2), (x6_2), (x7_2), (0), qaz_, qaz_, qaz_, qaz_, H', ⟨Nat.le_refl _⟩, ⟨w67_⟩, ⟨w52_⟩⟩
       case round =>
        clear H'
        clear c13b0 hcz14_0 hcz14_1 hfz14_0 hfz14_1
        obtain ⟨x5_3, x6_3, x7_3, x30_3, rfl, rfl, rfl, rfl, HA, HK3, BK297, HB⟩ := hrel
        cases gk with
        | zero => exact absurd HA.out (by simp [impl_LongestWorm.l1])
        | succ k3 =>
         have H := HA.out
         clear HA
         simp only [impl_LongestWorm.l1] at H
         by_cases c15 : x30_3 < (l0_0.length : Int); rotate_left
         ·rw [if_neg c15] at H
          have c15b0 := decide_eq_false c15
          clear c15
          have H' := Az_ H
          clear H
          go_wp2
          go_roundg k3
          case measure => have := HJ1.out; have := HK2.out; have := HK3.out; omega
          case rel => exact ⟨(x5_3), (x6_3), (x7_3), (wrap64 (x24_2 + 1)), qaz_, qaz_, qaz_, qaz_, H', ⟨w78_⟩, ⟨w67_⟩, ⟨w52_⟩⟩
         rw [if_pos c15] at H
         have c15b0 := decide_eq_true c15
         clear c15
         replace H := bqz_ H; obtain ⟨⟨t299, t300⟩, A16, H⟩ := H
         replace H : (if x24_2 = x30_3 then (impl_LongestWorm.l1 k3 x5_3 x6_3 x7_3 x24_2 (l0_0.length : Int) x24_2 (l0_0.length : Int) (wrap64 (x30_3 + 1)) l0_0 a0_1) else (if t299 > x7_3 then (impl_LongestWorm.l1 k3 x24_2 x30_3 t299 x24_2 (l0_0.length : Int) x24_2 (l0_0.length : Int) (wrap64 (x30_3 + 1)) l0_0 a0_1) else (impl_LongestWorm.l1 k3 x5_3 x6_3 x7_3 x24_2 (l0_0.length : Int) x24_2 (l0_0.length : Int) (wrap64 (x30_3 + 1)) l0_0 a0_1))) = some (r1, r2, r3) := H
         by_cases c17 : x24_2 = x30_3
         ·rw [if_pos c17] at H
          have c17b0 : (x24_2 == x30_3) = true := beq_iff_eq.mpr c17
          have c17b1 : (x24_2 != x30_3) = false := bne_eq_false_iff_eq.mpr c17
          clear c17
          have H' := Az_ H
          clear H
          have hcz18_0 : wr.cell? ⟨gb297, 0, none⟩ = some (.slice A0_0 l0_0.length c0_0) := (blk_cell BK297.out 0).trans rfl
          have hcz18_1 : wr.cell? ⟨gb297, 1, none⟩ = some (.int .i64 a0_1) := (blk_cell BK297.out 1).trans rfl
          have hfz18_0 := blk_frozen BK297.out 0
          have hfz18_1 := blk_frozen BK297.out 1
          go_wp2_with (((with_reducible refine gate_callee (f := 6) rfl ?_); refine goesL_ (some 37) rfl rfl Tryz.func6 (w94_) rfl #[.agg #[.slice A0_0 l0_0.length c0_0, .int .i64 a0_1], .int .i64 x24_2, .bool false, .int .i64 x30_3, .bool true] rfl maz_ ?_; (with_reducible refine (impl_WormEats.calls k3 _ _ l0_0 a0_1 x24_2 false x30_3 true t299 t300 _ ?side1 ?side2 A16.out).mono ?_); (case side1 => exact ucz_ ((Kd.C_below HR0_0.out HB.out))); (case side2 => exact HC0_0.out); rintro e w19 ⟨rfl, hb⟩; refine ⟨_, rfl, ?_⟩; have n1_ := Az_ (btz_ (w52_) hb); clear HB; replace BK297 := Az_ (ukbz_ BK297.out hb); have HB := n1_; clear n1_; (try clear hb)))
          go_roundg k3
          case measure => have := HJ1.out; have := HK2.out; have := HK3.out; omega
          case rel => exact ⟨(x5_3), (x6_3), (x7_3), (wrap64 (x30_3 + 1)), qaz_, qaz_, qaz_, qaz_, H', ⟨w78_⟩, ⟨w67_⟩, ⟨w52_⟩⟩
         rw [if_neg c17] at H
         have c17b0 : (x24_2 == x30_3) = false := beq_eq_false_iff_ne.mpr c17
         have c17b1 : (x24_2 != x30_3) = true := bne_iff_ne.mpr c17
         by_cases c20 : t299 > x7_3; rotate_left
         ·rw [if_neg c20] at H
          have c20b0 := decide_eq_false c20
          clear c20
          have H' := Az_ H
          clear H
          have hcz23_0 : wr.cell? ⟨gb297, 0, none⟩ = some (.slice A0_0 l0_0.length c0_0) := (blk_cell BK297.out 0).trans rfl
          have hcz23_1 : wr.cell? ⟨gb297, 1, none⟩ = some (.int .i64 a0_1) := (blk_cell BK297.out 1).trans rfl
          have hfz23_0 := blk_frozen BK297.out 0
          have hfz23_1 := blk_frozen BK297.out 1
          go_wp2_with (((with_reducible refine gate_callee (f := 6) rfl ?_); refine goesL_ (some 37) rfl rfl Tryz.func6 (w94_) rfl #[.agg #[.slice A0_0 l0_0.length c0_0, .int .i64 a0_1], .int .i64 x24_2, .bool false, .int .i64 x30_3, .bool true] rfl maz_ ?_; (with_reducible refine (impl_WormEats.calls k3 _ _ l0_0 a0_1 x24_2 false x30_3 true t299 t300 _ ?side1 ?side2 A16.out).mono ?_); (case side1 => exact ucz_ ((Kd.C_below HR0_0.out HB.out))); (case side2 => exact HC0_0.out); rintro e w24 ⟨rfl, hb⟩; refine ⟨_, rfl, ?_⟩; have n1_ := Az_ (btz_ (w52_) hb); clear HB; replace BK297 := Az_ (ukbz_ BK297.out hb); have HB := n1_; clear n1_; (try clear hb)))
          go_roundg k3
          case measure => have := HJ1.out; have := HK2.out; have := HK3.out; omega
          case rel => exact ⟨(x5_3), (x6_3), (x7_3), (wrap64 (x30_3 + 1)), qaz_, qaz_, qaz_, qaz_, H', ⟨w78_⟩, ⟨w67_⟩, ⟨w52_⟩⟩
         rw [if_pos c20] at H
         have c20b0 := decide_eq_true c20
         clear c20
         have H' := Az_ H
         clear H
         have hcz21_0 : wr.cell? ⟨gb297, 0, none⟩ = some (.slice A0_0 l0_0.length c0_0) := (blk_cell BK297.out 0).trans rfl
         have hcz21_1 : wr.cell? ⟨gb297, 1, none⟩ = some (.int .i64 a0_1) := (blk_cell BK297.out 1).trans rfl
         have hfz21_0 := blk_frozen BK297.out 0
         have hfz21_1 := blk_frozen BK297.out 1
         go_wp2_with (((with_reducible refine gate_callee (f := 6) rfl ?_); refine goesL_ (some 37) rfl rfl Tryz.func6 (w94_) rfl #[.agg #[.slice A0_0 l0_0.length c0_0, .int .i64 a0_1], .int .i64 x24_2, .bool false, .int .i64 x30_3, .bool true] rfl maz_ ?_; (with_reducible refine (impl_WormEats.calls k3 _ _ l0_0 a0_1 x24_2 false x30_3 true t299 t300 _ ?side1 ?side2 A16.out).mono ?_); (case side1 => exact ucz_ ((Kd.C_below HR0_0.out HB.out))); (case side2 => exact HC0_0.out); rintro e w22 ⟨rfl, hb⟩; refine ⟨_, rfl, ?_⟩; have n1_ := Az_ (btz_ (w52_) hb); clear HB; replace BK297 := Az_ (ukbz_ BK297.out hb); have HB := n1_; clear n1_; (try clear hb)))
         go_roundg k3
         case measure => have := HJ1.out; have := HK2.out; have := HK3.out; omega
         case rel => exact ⟨(x24_2), (x30_3), (t299), (wrap64 (x30_3 + 1)), qaz_, qaz_, qaz_, qaz_, H', ⟨w78_⟩, ⟨w67_⟩, ⟨w52_⟩⟩
      ·rw [if_neg c13] at H
       have c13b0 := decide_eq_false c13
       clear c13
       simp only [Option.some.injEq, Prod.mk.injEq] at H
       obtain ⟨rfl, rfl, rfl⟩ := H
       go_wp2
       go_ret3
       exact ⟨w74_, w52_⟩

end Go.Proofs.YtimladcenifppaaGreatDoor.P
end
