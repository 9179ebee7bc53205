/- Lean functions with the answers of the program's Go functions, and for each the proof that the Go code comes to these answers; no condition. -/
import Derived.Test.YtodacdcbeleleaaDoorZbh21
section
namespace Go.Proofs.YtodacdcbeleleaaDoor.P
open Go.RowKit Go.Proofs.YtodacdcbeleleaaDoorW.PrintWords Go.Proofs.YtodacdcbeleleaaDoorW.PrintLast Go.Proofs.YtodacdcbeleleaaDoorW.PrintMore
attribute [local go_sem] max2_int min2_int max_two min_two max_three min_three max_four min_four   -- for this text's walks alone
set_option linter.unusedVariables false
set_option linter.unusedSimpArgs false

def spec_bpCount.l0 : Nat → Int → Int → Int → Option (Int)
 | 0, _, _, _ => none
 | k + 1, x0, x1, x5 => if x0 > 0 then (if (Int.tmod x0 10) = x1 then (spec_bpCount.l0 k (wrap64 (Int.tdiv x0 10)) x1 (wrap64 (x5 + 1))) else (spec_bpCount.l0 k (wrap64 (Int.tdiv x0 10)) x1 x5)) else (some x5)
def spec_bpCount.f (k : Nat) (a0 : Int) (a1 : Int) : Option (Int) := spec_bpCount.l0 k a0 a1 0
theorem spec_bpCount.mono_l : ∀ k, (∀ y0 y1 y2, LeO (spec_bpCount.l0 k y0 y1 y2) (spec_bpCount.l0 (k + 1) y0 y1 y2))
 | 0 => fun _ _ _ r h => by simp [spec_bpCount.l0] at h
 | k + 1 => by
  have ih0 := spec_bpCount.mono_l k
  ·intro y0 y1 y2
   unfold spec_bpCount.l0
   repeat' (with_reducible first | exact ih0 _ _ _ | exact LeO.refl _ | exact LeO.none _ | refine LeO.ite ?_ ?_ | refine LeO.bind ?_ (fun _ => ?_))
theorem spec_bpCount.mono : ∀ a0 a1 k, LeO (spec_bpCount.f k a0 a1) (spec_bpCount.f (k + 1) a0 a1) := by
 intro a0 a1 k
 have ih0 := spec_bpCount.mono_l k
 unfold spec_bpCount.f
 repeat' (with_reducible first | exact ih0 _ _ _ | exact LeO.refl _ | exact LeO.none _ | refine LeO.ite ?_ ?_ | refine LeO.bind ?_ (fun _ => ?_))
set_option maxHeartbeats 8000000 in
set_option maxRecDepth 100000 in
theorem spec_bpCount.calls (k : Nat) (a0 : Int) (a1 : Int) (r : Int) (w : World) (h : spec_bpCount.f k a0 a1 = some r) :
  Calls Tryd.prog 78 #[.int .i64 a0, .int .i64 a1] w fun e w' => e = .returned (.int .i64 r) ∧ Drawn0 w w' := by
 have H : (spec_bpCount.l0 k a0 a1 0) = some r := h
 clear h
 have H' := Az_ H
 clear H
 go_enter Tryd.func78, Tryd.ntmps78
 go_wp2
 go_loopg [0, 5] k (fun kq v0 v5 w' => ∃ (x0_1 : Int) (x5_1 : Int), v0 = .int .i64 x0_1 ∧ v5 = .int .i64 x5_1 ∧ Aside0 (spec_bpCount.l0 kq x0_1 a1 x5_1 = some r) ∧ Aside0 (kq ≤ k) ∧ Drawn0 w w')
 case atStart => exact ⟨(a0), (0), qaz_, qaz_, H', ⟨Nat.le_refl _⟩, w168_⟩
 case round =>
  clear H'
  obtain ⟨x0_1, x5_1, rfl, rfl, HA, HK1, ⟨m1, rfl⟩⟩ := hrel
  cases gk with
  | zero => exact absurd HA.out (by simp [spec_bpCount.l0])
  | succ k1 =>
   have H := HA.out
   clear HA
   simp only [spec_bpCount.l0] at H
   by_cases c3 : x0_1 > 0
   ·rw [if_pos c3] at H
    have c3b0 := decide_eq_true c3
    clear c3
    by_cases c4 : (Int.tmod x0_1 10) = a1; rotate_left
    ·rw [if_neg c4] at H
     have c4b0 : ((Int.tmod x0_1 10) == a1) = false := beq_eq_false_iff_ne.mpr c4
     have c4b1 : ((Int.tmod x0_1 10) != a1) = true := bne_iff_ne.mpr c4
     have H' := Az_ H
     clear H
     go_wp2
     go_roundg k1
     case measure => have := HK1.out; omega
     case rel => exact ⟨(wrap64 (Int.tdiv x0_1 10)), (x5_1), qaz_, qaz_, H', ⟨w177_⟩, w168_⟩
    rw [if_pos c4] at H
    have c4b0 : ((Int.tmod x0_1 10) == a1) = true := beq_iff_eq.mpr c4
    have c4b1 : ((Int.tmod x0_1 10) != a1) = false := bne_eq_false_iff_eq.mpr c4
    clear c4
    have H' := Az_ H
    clear H
    go_wp2
    go_roundg k1
    case measure => have := HK1.out; omega
    case rel => exact ⟨(wrap64 (Int.tdiv x0_1 10)), (wrap64 (x5_1 + 1)), qaz_, qaz_, H', ⟨w177_⟩, w168_⟩
   ·rw [if_neg c3] at H
    have c3b0 := decide_eq_false c3
    clear c3
    obtain rfl := Option.some.inj H
    go_wp2
    go_ret
    exact ⟨w171_, w168_⟩


def spec_pzValue.l0 : Nat → Int → Int → Int → Int → Int → Option (Int)
 | 0, _, _, _, _, _ => none
 | k + 1, x1, x7, x8, x211000, x211001 => if x8 ≤ x211000 then (if (wrap64 (Int.tdiv (wrap64 (x8 + 1)) 2)) = x211001 then (spec_pzValue.l0 k x1 x7 (wrap64 (x8 + 1)) x211000 x211001) else ((spec_bpCount.f k x8 x1).bind fun t215 => (if t215 > 0 then (spec_pzValue.l0 k x1 (wrap64 (x7 + 1)) (wrap64 (x8 + 1)) x211000 x211001) else (spec_pzValue.l0 k x1 x7 (wrap64 (x8 + 1)) x211000 x211001)))) else (some x7)
def spec_pzValue.f (k : Nat) (a0 : Int) (a1 : Int) (a2_0 : Int) (a2_1 : Int) : Option (Int) := if a0 = 0 then ((spec_bpSum.f a2_0).bind fun t211 => (some (wrap64 (t211 - (wrap64 ((wrap64 (4 * a2_1)) - 1)))))) else (if a0 = 1 then ((spec_bpDigits.f k a2_0).bind fun t212 => ((spec_l1Num.f k (wrap64 ((wrap64 (2 * a2_1)) - 1))).bind fun t213 => ((spec_l1Num.f k (wrap64 (2 * a2_1))).bind fun t214 => (some (wrap64 ((wrap64 (t212 - (t213.size : Int))) - (t214.size : Int))))))) else (if a0 = 2 then (spec_pzValue.l0 k a1 0 1 a2_0 a2_1) else (if a0 = 3 then (if a2_1 ≥ a1 then (some 1) else (some 0)) else (if a0 = 4 then (if a1 = 0 then (none) else (if (Int.tmod a2_0 a1) = 0 then (some 1) else (some 0))) else (some (wrap64 ((wrap64 (4 * a2_1)) - 1)))))))
theorem spec_pzValue.mono_l : ∀ k, (∀ y0 y1 y2 y3 y4, LeO (spec_pzValue.l0 k y0 y1 y2 y3 y4) (spec_pzValue.l0 (k + 1) y0 y1 y2 y3 y4))
 | 0 => fun _ _ _ _ _ r h => by simp [spec_pzValue.l0] at h
 | k + 1 => by
  have ih0 := spec_pzValue.mono_l k
  ·intro y0 y1 y2 y3 y4
   unfold spec_pzValue.l0
   repeat' (with_reducible first | exact ih0 _ _ _ _ _ | exact spec_bpCount.mono _ _ _ | exact spec_bpDigits.mono _ _ | exact spec_l1Num.mono _ _ | exact LeO.refl _ | exact LeO.none _ | refine LeO.ite ?_ ?_ | refine LeO.bind ?_ (fun _ => ?_))
theorem spec_pzValue.mono : ∀ a0 a1 a2 a3 k, LeO (spec_pzValue.f k a0 a1 a2 a3) (spec_pzValue.f (k + 1) a0 a1 a2 a3) := by
 intro a0 a1 a2 a3 k
 have ih0 := spec_pzValue.mono_l k
 unfold spec_pzValue.f
 repeat' (with_reducible first | exact ih0 _ _ _ _ _ | exact spec_bpCount.mono _ _ _ | exact spec_bpDigits.mono _ _ | exact spec_l1Num.mono _ _ | exact LeO.refl _ | exact LeO.none _ | refine LeO.ite ?_ ?_ | refine LeO.bind ?_ (fun _ => ?_))
def spec_pzValue.T5 : Bool × List (List Nat × List Nat) := (true, [([], []), ([0], [0]), ([1], [1]), ([], []), ([3], [3]), ([4], [4]), ([5], [5]), ([2, 6], [2, 6]), ([7, 2, 0, 1, 2, 3, 4, 5, 6, 7], [7])])
def spec_pzValue.B5 : List Nat := [0, 1, 3, 0, 8, 24, 56, 127, 255]
theorem spec_pzValue.tab5 : rtab .any (opsOf Tryd.f67 5) = spec_pzValue.T5 := by kernel_rfl
theorem spec_pzValue.bits5 : waitsOk spec_pzValue.T5.2 spec_pzValue.B5 = true := by kernel_rfl
def spec_pzValue.T7 : Bool × List (List Nat × List Nat) := (true, [([], []), ([0], [0]), ([1], [1]), ([], []), ([3], [3]), ([4], [4]), ([5], [5]), ([6, 2], [6]), ([7], [7]), ([2, 8], [2, 8]), ([], []), ([10], [10]), ([11], [11]), ([12, 7], [12]), ([13], [13]), ([9, 14], [9, 14]), ([15, 13, 0, 1, 2, 3, 4, 5, 6, 7, 8, 9, 10, 11, 12, 13, 14, 15], [15])])
def spec_pzValue.B7 : List Nat := [0, 1, 3, 0, 8, 24, 56, 127, 255, 511, 0, 1024, 3072, 7423, 15615, 32767, 65535]
theorem spec_pzValue.tab7 : rtab .any (opsOf Tryd.f67 7) = spec_pzValue.T7 := by kernel_rfl
theorem spec_pzValue.bits7 : waitsOk spec_pzValue.T7.2 spec_pzValue.B7 = true := by kernel_rfl
set_option maxHeartbeats 8000000 in
set_option maxRecDepth 100000 in
theorem spec_pzValue.calls (k : Nat) (a0 : Int) (a1 : Int) (a2_0 : Int) (a2_1 : Int) (r : Int) (w : World) (h : spec_pzValue.f k a0 a1 a2_0 a2_1 = some r) :
  Calls Tryd.prog 67 #[.int .i64 a0, .int .i64 a1, .agg #[.int .i64 a2_0, .int .i64 a2_1]] w fun e w' => e = .returned (.int .i64 r) ∧ Below w.heap.size w w' := by
 have hu25 := Tryd.underlying25
 have HB := Az_ (Below.refl w.heap.size w)
 have H : (if a0 = 0 then ((spec_bpSum.f a2_0).bind fun t211 => (some (wrap64 (t211 - (wrap64 ((wrap64 (4 * a2_1)) - 1)))))) else (if a0 = 1 then ((spec_bpDigits.f k a2_0).bind fun t212 => ((spec_l1Num.f k (wrap64 ((wrap64 (2 * a2_1)) - 1))).bind fun t213 => ((spec_l1Num.f k (wrap64 (2 * a2_1))).bind fun t214 => (some (wrap64 ((wrap64 (t212 - (t213.size : Int))) - (t214.size : Int))))))) else (if a0 = 2 then (spec_pzValue.l0 k a1 0 1 a2_0 a2_1) else (if a0 = 3 then (if a2_1 ≥ a1 then (some 1) else (some 0)) else (if a0 = 4 then (if a1 = 0 then (none) else (if (Int.tmod a2_0 a1) = 0 then (some 1) else (some 0))) else (some (wrap64 ((wrap64 (4 * a2_1)) - 1)))))))) = some r := h
 clear h
 by_cases c4 : a0 = 0
 ·rw [if_pos c4] at H
  have c4b0 : (a0 == 0) = true := beq_iff_eq.mpr c4
  have c4b1 : (a0 != 0) = false := bne_eq_false_iff_eq.mpr c4
  clear c4
  replace H := bqz_ H; obtain ⟨t211, A5, H⟩ := H
  replace H : (some (wrap64 (t211 - (wrap64 ((wrap64 (4 * a2_1)) - 1))))) = some r := H
  obtain rfl := Option.some.inj H
  go_enter Tryd.func67, Tryd.ntmps67
  try go_wp2_with (((with_reducible refine gate_dst (N := 5) rfl ?_); refine bxe_ (N := 5) (cs := #[.int .i64 a2_0, .int .i64 a2_1]) (t := 25) ?_; intro gb210 hg w6 BK210 hb; have GW210 := gez_ hg (ubz_ HB.out); have GE210 := GW210; replace HB := Az_ (btz_ (ubz_ HB.out) hb); clear hb hg))
  replace BK210 := Az_ (kdz_ BK210.out)
  replace HB := Az_ (bdz_ HB.out)
  refine start_ (n := 9) (S := fun w' => w'.cell? ⟨gb210, 0, none⟩ = some (.int .i64 a2_0) ∧ w'.cell? ⟨gb210, 1, none⟩ = some (.int .i64 a2_1)) (ds := []) #[false, false, false, false, false, false, false, false, false] (w204_) rfl rfl ⟨(blk_cell BK210.out 0).trans rfl, (blk_cell BK210.out 1).trans rfl⟩ (fun hHeld => ?_); refine with_tabW spec_pzValue.tab5 spec_pzValue.bits5 (fun HT_ HW_ => ?_)
  generalize w6.drew = w7 at BK210 HB hHeld ⊢
  refine pz_ 0 16 [1,8] ?_
  refine pz_ 3 19 [1,2,1,5] ?_
  refine tz2_ 1 17 [2,1,1,5] ?_
  refine tz2_ 4 20 [2,1,2,4] ?_
  refine pz_ 5 21 [2,1,3,3] ?_
  refine pz_ 6 22 [2,1,4,2] ?_
  refine one_ (i := 2) (N := some 18) (mz_ [7,2]) rfl rfl (one_of HT_.out (w204_)) (by decide) (fun K hK => ?_)
  refine goes_ Tryd.func75 (w204_) rfl #[.int .i64 a2_0] (by rfl) rfl rfl maz_ ?_
  with_reducible refine (spec_bpSum.calls a2_0 t211 _ A5.out).mono ?_
  rintro e w' ⟨rfl, ⟨nd, rfl⟩⟩
  refine ⟨_, rfl, ?_⟩
  refine hK.out _ _ ⟨(blk_cell BK210.out 0).trans rfl, (blk_cell BK210.out 1).trans rfl⟩ (fun hHeld => ?_)
  clear hK K
  refine nz_ 18 ?_
  refine pz_ 7 23 [8,1] ?_
  refine pz_ 8 7 [9] ?_
  refine done_ (done_of HT_.out (w204_)) ?_
  try go_wp2
  go_ret
  exact ⟨w166_, w129_⟩
 ·rw [if_neg c4] at H
  have c4b0 : (a0 == 0) = false := beq_eq_false_iff_ne.mpr c4
  have c4b1 : (a0 != 0) = true := bne_iff_ne.mpr c4
  by_cases c8 : a0 = 1
  ·rw [if_pos c8] at H
   have c8b0 : (a0 == 1) = true := beq_iff_eq.mpr c8
   have c8b1 : (a0 != 1) = false := bne_eq_false_iff_eq.mpr c8
   clear c8
   replace H := bqz_ H; obtain ⟨t212, A9, H⟩ := H
   replace H := bqz_ H; obtain ⟨t213, A10, H⟩ := H
   replace H := bqz_ H; obtain ⟨t214, A11, H⟩ := H
   replace H : (some (wrap64 ((wrap64 (t212 - (t213.size : Int))) - (t214.size : Int)))) = some r := H
   obtain rfl := Option.some.inj H
   go_enter Tryd.func67, Tryd.ntmps67
   try go_wp2_with (((with_reducible refine gate_dst (N := 5) rfl ?_); refine bxe_ (N := 5) (cs := #[.int .i64 a2_0, .int .i64 a2_1]) (t := 25) ?_; intro gb210 hg w12 BK210 hb; have GW210 := gez_ hg (ubz_ HB.out); have GE210 := GW210; replace HB := Az_ (btz_ (ubz_ HB.out) hb); clear hb hg))
   replace BK210 := Az_ (kdz_ BK210.out)
   replace HB := Az_ (bdz_ HB.out)
   refine start_ (n := 17) (S := fun w' => w'.cell? ⟨gb210, 0, none⟩ = some (.int .i64 a2_0) ∧ w'.cell? ⟨gb210, 1, none⟩ = some (.int .i64 a2_1)) (ds := []) #[false, false, false, false, false, false, false, false, false, false, false, false, false, false, false, false, false] (w204_) rfl rfl ⟨(blk_cell BK210.out 0).trans rfl, (blk_cell BK210.out 1).trans rfl⟩ (fun hHeld => ?_); refine with_tabW spec_pzValue.tab7 spec_pzValue.bits7 (fun HT_ HW_ => ?_)
   generalize w12.drew = w13 at BK210 HB hHeld ⊢
   refine pz_ 0 26 [1,16] ?_
   refine pz_ 3 29 [1,2,1,13] ?_
   refine pz_ 10 36 [1,2,1,6,1,6] ?_
   refine tz2_ 1 27 [2,1,1,6,1,6] ?_
   refine tz2_ 4 30 [2,1,2,5,1,6] ?_
   refine pz_ 5 31 [2,1,3,4,1,6] ?_
   refine pz_ 6 32 [2,1,4,3,1,6] ?_
   refine tz2_ 11 37 [2,1,4,3,2,5] ?_
   refine pz_ 12 38 [2,1,4,3,3,4] ?_
   refine one_ (i := 2) (N := some 28) (mz_ [7,3,3,4]) rfl rfl (one_of HT_.out (w204_)) (by decide) (fun K hK => ?_)
   refine goes_ Tryd.func76 (w204_) rfl #[.int .i64 a2_0] (by rfl) rfl rfl maz_ ?_
   with_reducible refine (spec_bpDigits.calls k a2_0 t212 _ A9.out).mono ?_
   rintro e w14 ⟨rfl, hb⟩
   refine ⟨_, rfl, ?_⟩
   have n1_ := Az_ (btz_ (w129_) hb)
   clear HB
   replace BK210 := Az_ (ukbz_ BK210.out hb)
   have HB := n1_
   clear n1_
   clear hb
   refine hK.out _ _ ⟨(blk_cell BK210.out 0).trans rfl, (blk_cell BK210.out 1).trans rfl⟩ (fun hHeld => ?_)
   clear hK K
   refine nz_ 28 ?_
   refine one_ (i := 7) (N := some 33) (mz_ [8,2,3,4]) rfl rfl (one_of HT_.out (w204_)) (by decide) (fun K hK => ?_)
   refine goes_ Tryd.func77 (w204_) rfl #[.int .i64 (wrap64 ((wrap64 (2 * a2_1)) - 1))] (by rfl) rfl rfl maz_ ?_
   with_reducible refine (spec_l1Num.calls k (wrap64 ((wrap64 (2 * a2_1)) - 1)) t213 _ A10.out).mono ?_
   rintro e w15 ⟨rfl, hb⟩
   refine ⟨_, rfl, ?_⟩
   have n1_ := Az_ (btz_ (w129_) hb)
   clear HB
   replace BK210 := Az_ (ukbz_ BK210.out hb)
   have HB := n1_
   clear n1_
   clear hb
   refine hK.out _ _ ⟨(blk_cell BK210.out 0).trans rfl, (blk_cell BK210.out 1).trans rfl⟩ (fun hHeld => ?_)
   clear hK K
   refine nz_ 33 ?_
   refine pz_ 8 34 [9,1,3,4] ?_
   refine pz_ 9 35 [13,4] ?_
   refine one_ (i := 13) (N := some 39) (mz_ [14,3]) rfl rfl (one_of HT_.out (w204_)) (by decide) (fun K hK => ?_)
   refine goes_ Tryd.func77 (w204_) rfl #[.int .i64 (wrap64 (2 * a2_1))] (by rfl) rfl rfl maz_ ?_
   with_reducible refine (spec_l1Num.calls k (wrap64 (2 * a2_1)) t214 _ A11.out).mono ?_
   rintro e w16 ⟨rfl, hb⟩
   refine ⟨_, rfl, ?_⟩
   have n1_ := Az_ (btz_ (w129_) hb)
   clear HB
   replace BK210 := Az_ (ukbz_ BK210.out hb)
   have HB := n1_
   clear n1_
   clear hb
   refine hK.out _ _ ⟨(blk_cell BK210.out 0).trans rfl, (blk_cell BK210.out 1).trans rfl⟩ (fun hHeld => ?_)
   clear hK K
   refine nz_ 39 ?_
   refine pz_ 14 40 [15,2] ?_
   refine pz_ 15 41 [16,1] ?_
   refine pz_ 16 7 [17] ?_
   refine done_ (done_of HT_.out (w204_)) ?_
   try go_wp2
   go_ret
   exact ⟨w166_, w129_⟩
  ·rw [if_neg c8] at H
   have c8b0 : (a0 == 1) = false := beq_eq_false_iff_ne.mpr c8
   have c8b1 : (a0 != 1) = true := bne_iff_ne.mpr c8
   by_cases c17 : a0 = 2
   ·rw [if_pos c17] at H
    have c17b0 : (a0 == 2) = true := beq_iff_eq.mpr c17
    have c17b1 : (a0 != 2) = false := bne_eq_false_iff_eq.mpr c17
    clear c17
    have H' := Az_ H
    clear H
    go_enter Tryd.func67, Tryd.ntmps67
    go_wp2_with (((with_reducible refine gate_dst (N := 5) rfl ?_); refine bxe_ (N := 5) (cs := #[.int .i64 a2_0, .int .i64 a2_1]) (t := 25) ?_; intro gb210 hg w18 BK210 hb; have GW210 := gez_ hg (ubz_ HB.out); have GE210 := GW210; replace HB := Az_ (btz_ (ubz_ HB.out) hb); clear hb hg))
    go_loopg [7, 8] k (fun kq v7 v8 w' => ∃ (x7_1 : Int) (x8_1 : Int), v7 = .int .i64 x7_1 ∧ v8 = .int .i64 x8_1 ∧ Aside0 (spec_pzValue.l0 kq a1 x7_1 x8_1 a2_0 a2_1 = some r) ∧ Aside0 (kq ≤ k) ∧ Aside0 (w'.heap[gb210]? = some (.cells #[.int .i64 a2_0, .int .i64 a2_1] 25 (0, 0))) ∧ Aside0 (Below w.heap.size w w'))
    case atStart => exact ⟨(0), (1), qaz_, qaz_, H', ⟨Nat.le_refl _⟩, ⟨w148_⟩, ⟨w129_⟩⟩
    case round =>
     clear H'
     clear c4 c4b0 c4b1 c8 c8b0 c8b1 c17b0 c17b1
     obtain ⟨x7_1, x8_1, rfl, rfl, HA, HK1, BK210, HB⟩ := hrel
     cases gk with
     | zero => exact absurd HA.out (by simp [spec_pzValue.l0])
     | succ k1 =>
      have H := HA.out
      clear HA
      simp only [spec_pzValue.l0] at H
      by_cases c19 : x8_1 ≤ a2_0; rotate_left
      ·rw [if_neg c19] at H
       have c19b0 := decide_eq_false c19
       clear c19
       obtain rfl := Option.some.inj H
       have hcz26_0 := cz_ (x := .int .i64 a2_0) BK210 0
       have hcz26_1 := cz_ (x := .int .i64 a2_1) BK210 1
       have hfz26_0 := blk_frozen BK210.out 0
       have hfz26_1 := blk_frozen BK210.out 1
       go_wp2
       go_ret
       exact ⟨w166_, w129_⟩
      rw [if_pos c19] at H
      have c19b0 := decide_eq_true c19
      clear c19
      by_cases c20 : (wrap64 (Int.tdiv (wrap64 (x8_1 + 1)) 2)) = a2_1
      ·rw [if_pos c20] at H
       have c20b0 : ((wrap64 (Int.tdiv (wrap64 (x8_1 + 1)) 2)) == a2_1) = true := beq_iff_eq.mpr c20
       have c20b1 : ((wrap64 (Int.tdiv (wrap64 (x8_1 + 1)) 2)) != a2_1) = false := bne_eq_false_iff_eq.mpr c20
       clear c20
       have H' := Az_ H
       clear H
       have hcz21_0 := cz_ (x := .int .i64 a2_0) BK210 0
       have hcz21_1 := cz_ (x := .int .i64 a2_1) BK210 1
       have hfz21_0 := blk_frozen BK210.out 0
       have hfz21_1 := blk_frozen BK210.out 1
       go_wp2
       go_roundg k1
       case measure => have := HK1.out; omega
       case rel => exact ⟨(x7_1), (wrap64 (x8_1 + 1)), qaz_, qaz_, H', ⟨w177_⟩, ⟨w148_⟩, ⟨w129_⟩⟩
      rw [if_neg c20] at H
      have c20b0 : ((wrap64 (Int.tdiv (wrap64 (x8_1 + 1)) 2)) == a2_1) = false := beq_eq_false_iff_ne.mpr c20
      have c20b1 : ((wrap64 (Int.tdiv (wrap64 (x8_1 + 1)) 2)) != a2_1) = true := bne_iff_ne.mpr c20
      replace H := bqz_ H; obtain ⟨t215, A22, H⟩ := H
      replace H : (if t215 > 0 then (spec_pzValue.l0 k1 a1 (wrap64 (x7_1 + 1)) (wrap64 (x8_1 + 1)) a2_0 a2_1) else (spec_pzValue.l0 k1 a1 x7_1 (wrap64 (x8_1 + 1)) a2_0 a2_1)) = some r := H
      by_cases c23 : t215 > 0; rotate_left
      ·rw [if_neg c23] at H
       have c23b0 := decide_eq_false c23
       clear c23
       have H' := Az_ H
       clear H
       have hcz25_0 := cz_ (x := .int .i64 a2_0) BK210 0
       have hcz25_1 := cz_ (x := .int .i64 a2_1) BK210 1
       have hfz25_0 := blk_frozen BK210.out 0
       have hfz25_1 := blk_frozen BK210.out 1
       go_wp2_with ((go_at_call 78; (with_reducible refine (spec_bpCount.calls k1 x8_1 a1 t215 _ A22.out).mono ?_); rintro e w' ⟨rfl, ⟨nd, rfl⟩⟩))
       go_roundg k1
       case measure => have := HK1.out; omega
       case rel => exact ⟨(x7_1), (wrap64 (x8_1 + 1)), qaz_, qaz_, H', ⟨w177_⟩, ⟨w148_⟩, ⟨w129_⟩⟩
      rw [if_pos c23] at H
      have c23b0 := decide_eq_true c23
      clear c23
      have H' := Az_ H
      clear H
      have hcz24_0 := cz_ (x := .int .i64 a2_0) BK210 0
      have hcz24_1 := cz_ (x := .int .i64 a2_1) BK210 1
      have hfz24_0 := blk_frozen BK210.out 0
      have hfz24_1 := blk_frozen BK210.out 1
      go_wp2_with ((go_at_call 78; (with_reducible refine (spec_bpCount.calls k1 x8_1 a1 t215 _ A22.out).mono ?_); rintro e w' ⟨rfl, ⟨nd, rfl⟩⟩))
      go_roundg k1
      case measure => have := HK1.out; omega
      case rel => exact ⟨(wrap64 (x7_1 + 1)), (wrap64 (x8_1 + 1)), qaz_, qaz_, H', ⟨w177_⟩, ⟨w148_⟩, ⟨w129_⟩⟩
   ·rw [if_neg c17] at H
    have c17b0 : (a0 == 2) = false := beq_eq_false_iff_ne.mpr c17
    have c17b1 : (a0 != 2) = true := bne_iff_ne.mpr c17
    by_cases c27 : a0 = 3
    ·rw [if_pos c27] at H
     have c27b0 : (a0 == 3) = true := beq_iff_eq.mpr c27
     have c27b1 : (a0 != 3) = false := bne_eq_false_iff_eq.mpr c27
     clear c27
     by_cases c28 : a2_1 ≥ a1; rotate_left
     ·rw [if_neg c28] at H
      have c28b0 := decide_eq_false c28
      clear c28
      obtain rfl := Option.some.inj H
      go_enter Tryd.func67, Tryd.ntmps67
      go_wp2_with (((with_reducible refine gate_dst (N := 5) rfl ?_); refine bxe_ (N := 5) (cs := #[.int .i64 a2_0, .int .i64 a2_1]) (t := 25) ?_; intro gb210 hg w31 BK210 hb; have GW210 := gez_ hg (ubz_ HB.out); have GE210 := GW210; replace HB := Az_ (btz_ (ubz_ HB.out) hb); clear hb hg; have hcz32_0 := cz_ (x := .int .i64 a2_0) BK210 0; have hcz32_1 := cz_ (x := .int .i64 a2_1) BK210 1; have hfz32_0 := blk_frozen BK210.out 0; have hfz32_1 := blk_frozen BK210.out 1))
      go_ret
      exact ⟨w166_, w129_⟩
     rw [if_pos c28] at H
     have c28b0 := decide_eq_true c28
     clear c28
     obtain rfl := Option.some.inj H
     go_enter Tryd.func67, Tryd.ntmps67
     go_wp2_with (((with_reducible refine gate_dst (N := 5) rfl ?_); refine bxe_ (N := 5) (cs := #[.int .i64 a2_0, .int .i64 a2_1]) (t := 25) ?_; intro gb210 hg w29 BK210 hb; have GW210 := gez_ hg (ubz_ HB.out); have GE210 := GW210; replace HB := Az_ (btz_ (ubz_ HB.out) hb); clear hb hg; have hcz30_0 := cz_ (x := .int .i64 a2_0) BK210 0; have hcz30_1 := cz_ (x := .int .i64 a2_1) BK210 1; have hfz30_0 := blk_frozen BK210.out 0; have hfz30_1 := blk_frozen BK210.out 1))
     go_ret
     exact ⟨w166_, w129_⟩
    ·rw [if_neg c27] at H
     have c27b0 : (a0 == 3) = false := beq_eq_false_iff_ne.mpr c27
     have c27b1 : (a0 != 3) = true := bne_iff_ne.mpr c27
     by_cases c33 : a0 = 4
     ·rw [if_pos c33] at H
      have c33b0 : (a0 == 4) = true := beq_iff_eq.mpr c33
      have c33b1 : (a0 != 4) = false := bne_eq_false_iff_eq.mpr c33
      clear c33
      by_cases c34 : a1 = 0
      ·rw [if_pos c34] at H
       exact absurd H (by simp)
      rw [if_neg c34] at H
      have c34b0 : (a1 == 0) = false := beq_eq_false_iff_ne.mpr c34
      have c34b1 : (a1 != 0) = true := bne_iff_ne.mpr c34
      by_cases c35 : (Int.tmod a2_0 a1) = 0; rotate_left
      ·rw [if_neg c35] at H
       have c35b0 : ((Int.tmod a2_0 a1) == 0) = false := beq_eq_false_iff_ne.mpr c35
       have c35b1 : ((Int.tmod a2_0 a1) != 0) = true := bne_iff_ne.mpr c35
       obtain rfl := Option.some.inj H
       go_enter Tryd.func67, Tryd.ntmps67
       go_wp2_with (((with_reducible refine gate_dst (N := 5) rfl ?_); refine bxe_ (N := 5) (cs := #[.int .i64 a2_0, .int .i64 a2_1]) (t := 25) ?_; intro gb210 hg w38 BK210 hb; have GW210 := gez_ hg (ubz_ HB.out); have GE210 := GW210; replace HB := Az_ (btz_ (ubz_ HB.out) hb); clear hb hg; have hcz39_0 := cz_ (x := .int .i64 a2_0) BK210 0; have hcz39_1 := cz_ (x := .int .i64 a2_1) BK210 1; have hfz39_0 := blk_frozen BK210.out 0; have hfz39_1 := blk_frozen BK210.out 1))
       go_ret
       exact ⟨w166_, w129_⟩
      rw [if_pos c35] at H
      have c35b0 : ((Int.tmod a2_0 a1) == 0) = true := beq_iff_eq.mpr c35
      have c35b1 : ((Int.tmod a2_0 a1) != 0) = false := bne_eq_false_iff_eq.mpr c35
      clear c35
      obtain rfl := Option.some.inj H
      go_enter Tryd.func67, Tryd.ntmps67
      go_wp2_with (((with_reducible refine gate_dst (N := 5) rfl ?_); refine bxe_ (N := 5) (cs := #[.int .i64 a2_0, .int .i64 a2_1]) (t := 25) ?_; intro gb210 hg w36 BK210 hb; have GW210 := gez_ hg (ubz_ HB.out); have GE210 := GW210; replace HB := Az_ (btz_ (ubz_ HB.out) hb); clear hb hg; have hcz37_0 := cz_ (x := .int .i64 a2_0) BK210 0; have hcz37_1 := cz_ (x := .int .i64 a2_1) BK210 1; have hfz37_0 := blk_frozen BK210.out 0; have hfz37_1 := blk_frozen BK210.out 1))
      go_ret
      exact ⟨w166_, w129_⟩
     ·rw [if_neg c33] at H
      have c33b0 : (a0 == 4) = false := beq_eq_false_iff_ne.mpr c33
      have c33b1 : (a0 != 4) = true := bne_iff_ne.mpr c33
      obtain rfl := Option.some.inj H
      go_enter Tryd.func67, Tryd.ntmps67
      go_wp2_with (((with_reducible refine gate_dst (N := 5) rfl ?_); refine bxe_ (N := 5) (cs := #[.int .i64 a2_0, .int .i64 a2_1]) (t := 25) ?_; intro gb210 hg w40 BK210 hb; have GW210 := gez_ hg (ubz_ HB.out); have GE210 := GW210; replace HB := Az_ (btz_ (ubz_ HB.out) hb); clear hb hg; have hcz41_0 := cz_ (x := .int .i64 a2_0) BK210 0; have hcz41_1 := cz_ (x := .int .i64 a2_1) BK210 1; have hfz41_0 := blk_frozen BK210.out 0; have hfz41_1 := blk_frozen BK210.out 1))
      go_ret
      exact ⟨w166_, w129_⟩


def spec_pzOf.f (k : Nat) (a0 : Int) (a1 : Int) (a2_0 : Int) (a2_1 : Int) : Option (Int × Int × Int) := if a0 = 2 then ((spec_pzValue.f k a0 (Int.tmod a1 10) a2_0 a2_1).bind fun t218 => (some (a0, Int.tmod a1 10, t218))) else (if a0 = 3 then ((spec_pzValue.f k a0 (wrap64 ((Int.tmod a1 20) + 1)) a2_0 a2_1).bind fun t219 => (some (a0, wrap64 ((Int.tmod a1 20) + 1), t219))) else (if a0 = 4 then ((spec_pzValue.f k a0 (wrap64 ((Int.tmod a1 8) + 2)) a2_0 a2_1).bind fun t220 => (some (a0, wrap64 ((Int.tmod a1 8) + 2), t220))) else ((spec_pzValue.f k a0 0 a2_0 a2_1).bind fun t221 => (some (a0, 0, t221)))))
set_option maxHeartbeats 8000000 in
set_option maxRecDepth 100000 in
theorem spec_pzOf.calls (k : Nat) (a0 : Int) (a1 : Int) (a2_0 : Int) (a2_1 : Int) (r1 : Int) (r2 : Int) (r3 : Int) (w : World) (h : spec_pzOf.f k a0 a1 a2_0 a2_1 = some (r1, r2, r3)) :
  Calls Tryd.prog 45 #[.int .i64 a0, .int .i64 a1, .agg #[.int .i64 a2_0, .int .i64 a2_1]] w fun e w' => e = .returned (.agg #[.int .i64 r1, .int .i64 r2, .int .i64 r3]) ∧ Below w.heap.size w w' := by
 have hu25 := Tryd.underlying25
 have hu40 := Tryd.underlying40
 have HB := Az_ (Below.refl w.heap.size w)
 have H : (if a0 = 2 then ((spec_pzValue.f k a0 (Int.tmod a1 10) a2_0 a2_1).bind fun t218 => (some (a0, Int.tmod a1 10, t218))) else (if a0 = 3 then ((spec_pzValue.f k a0 (wrap64 ((Int.tmod a1 20) + 1)) a2_0 a2_1).bind fun t219 => (some (a0, wrap64 ((Int.tmod a1 20) + 1), t219))) else (if a0 = 4 then ((spec_pzValue.f k a0 (wrap64 ((Int.tmod a1 8) + 2)) a2_0 a2_1).bind fun t220 => (some (a0, wrap64 ((Int.tmod a1 8) + 2), t220))) else ((spec_pzValue.f k a0 0 a2_0 a2_1).bind fun t221 => (some (a0, 0, t221)))))) = some (r1, r2, r3) := h
 clear h
 by_cases c4 : a0 = 2
 ·rw [if_pos c4] at H
  have c4b0 : (a0 == 2) = true := beq_iff_eq.mpr c4
  have c4b1 : (a0 != 2) = false := bne_eq_false_iff_eq.mpr c4
  clear c4
  replace H := bqz_ H; obtain ⟨t218, A5, H⟩ := H
  replace H : (some (a0, Int.tmod a1 10, t218)) = some (r1, r2, r3) := H
  simp only [Option.some.injEq, Prod.mk.injEq] at H
  obtain ⟨rfl, rfl, rfl⟩ := H
  go_enter Tryd.func45, Tryd.ntmps45
  go_wp2_with (first | ((with_reducible refine gate_dst (N := 5) rfl ?_); refine bxe_ (N := 5) (cs := #[.int .i64 a2_0, .int .i64 a2_1]) (t := 25) ?_; intro gb216 hg w6 BK216 hb; have GW216 := gez_ hg (ubz_ HB.out); have GE216 := GW216; replace HB := Az_ (btz_ (ubz_ HB.out) hb); clear hb hg) | ((with_reducible refine gate_dst (N := 6) rfl ?_); refine bxe_ (N := 6) (cs := #[.int .i64 0, .int .i64 0, .int .i64 0]) (t := 40) ?_; intro gb217 hg w7 BK217 hb; obtain ⟨NB216_217, NB217_216⟩ := nez_ BK216 hg; have GW217 : Aside0 (w.heap.size ≤ gb217) := gez_ hg (w129_); have GE217 := GW217; replace HB := Az_ (btz_ (w129_) hb); replace BK216 := Az_ (ukbz_ BK216.out hb); clear hb hg; have hnb8 := NB216_217.out; have hnc8 := NB217_216.out; have hcz9_0 := cz_ (x := .int .i64 a2_0) BK216 0; have hcz9_1 := cz_ (x := .int .i64 a2_1) BK216 1; have hfz9_0 := blk_frozen BK216.out 0; have hfz9_1 := blk_frozen BK216.out 1) | ((with_reducible refine gate_callee (f := 67) rfl ?_); refine goesL_ (some 28) rfl rfl Tryd.func67 (w204_) rfl #[.int .i64 a0, .int .i64 (Int.tmod a1 10), .agg #[.int .i64 a2_0, .int .i64 a2_1]] rfl maz_ ?_; (with_reducible refine (spec_pzValue.calls k a0 (Int.tmod a1 10) a2_0 a2_1 t218 _ A5.out).mono ?_); rintro e w10 ⟨rfl, hb⟩; refine ⟨_, rfl, ?_⟩; have n2_ := Az_ (btz_ (w129_) hb); clear HB; replace BK216 := Az_ (ukbz_ BK216.out hb); replace BK217 := Az_ (ukbz_ BK217.out hb); have HB := n2_; clear n2_; (try clear hb); have hcz11_0 := cz_ (x := .int .i64 0) BK217 0; have hcz11_1 := cz_ (x := .int .i64 0) BK217 1; have hcz11_2 := cz_ (x := .int .i64 0) BK217 2; have hfz11_0 := blk_frozen BK217.out 0; have hfz11_1 := blk_frozen BK217.out 1; have hfz11_2 := blk_frozen BK217.out 2))
  refine bodyPost_ret (results_cell_row rfl _ _ gb217 40 #[.int .i64 a0, .int .i64 (Int.tmod a1 10), .int .i64 t218] (0, 0) _ rfl (by (with_reducible repeat (first | refine knz_ ?_ _ | refine kdz_ ?_ | refine kaz_ ?_ _)); refine blk_put (cs := #[.int .i64 a0, .int .i64 (Int.tmod a1 10), .int .i64 0]) ?_ 2 _ rfl; (with_reducible repeat (first | refine knz_ ?_ _ | refine kdz_ ?_ | refine kaz_ ?_ _)); refine blk_put (cs := #[.int .i64 a0, .int .i64 0, .int .i64 0]) ?_ 1 _ rfl; (with_reducible repeat (first | refine knz_ ?_ _ | refine kdz_ ?_ | refine kaz_ ?_ _)); refine blk_put (cs := #[.int .i64 0, .int .i64 0, .int .i64 0]) ?_ 0 _ rfl; (with_reducible repeat (first | refine knz_ ?_ _ | refine kdz_ ?_ | refine kaz_ ?_ _)); exact BK217.out) Tryd.underlying40 rfl (w204_)) rfl ?_
  exact ⟨w166_, w129_⟩
 ·rw [if_neg c4] at H
  have c4b0 : (a0 == 2) = false := beq_eq_false_iff_ne.mpr c4
  have c4b1 : (a0 != 2) = true := bne_iff_ne.mpr c4
  by_cases c12 : a0 = 3
  ·rw [if_pos c12] at H
   have c12b0 : (a0 == 3) = true := beq_iff_eq.mpr c12
   have c12b1 : (a0 != 3) = false := bne_eq_false_iff_eq.mpr c12
   clear c12
   replace H := bqz_ H; obtain ⟨t219, A13, H⟩ := H
   replace H : (some (a0, wrap64 ((Int.tmod a1 20) + 1), t219)) = some (r1, r2, r3) := H
   simp only [Option.some.injEq, Prod.mk.injEq] at H
   obtain ⟨rfl, rfl, rfl⟩ := H
   go_enter Tryd.func45, Tryd.ntmps45
   go_wp2_with (first | ((with_reducible refine gate_dst (N := 5) rfl ?_); refine bxe_ (N := 5) (cs := #[.int .i64 a2_0, .int .i64 a2_1]) (t := 25) ?_; intro gb216 hg w14 BK216 hb; have GW216 := gez_ hg (ubz_ HB.out); have GE216 := GW216; replace HB := Az_ (btz_ (ubz_ HB.out) hb); clear hb hg) | ((with_reducible refine gate_dst (N := 6) rfl ?_); refine bxe_ (N := 6) (cs := #[.int .i64 0, .int .i64 0, .int .i64 0]) (t := 40) ?_; intro gb217 hg w15 BK217 hb; obtain ⟨NB216_217, NB217_216⟩ := nez_ BK216 hg; have GW217 : Aside0 (w.heap.size ≤ gb217) := gez_ hg (w129_); have GE217 := GW217; replace HB := Az_ (btz_ (w129_) hb); replace BK216 := Az_ (ukbz_ BK216.out hb); clear hb hg; have hnb16 := NB216_217.out; have hnc16 := NB217_216.out; have hcz17_0 := cz_ (x := .int .i64 a2_0) BK216 0; have hcz17_1 := cz_ (x := .int .i64 a2_1) BK216 1; have hfz17_0 := blk_frozen BK216.out 0; have hfz17_1 := blk_frozen BK216.out 1) | ((with_reducible refine gate_callee (f := 67) rfl ?_); refine goesL_ (some 28) rfl rfl Tryd.func67 (w204_) rfl #[.int .i64 a0, .int .i64 (wrap64 ((Int.tmod a1 20) + 1)), .agg #[.int .i64 a2_0, .int .i64 a2_1]] rfl maz_ ?_; (with_reducible refine (spec_pzValue.calls k a0 (wrap64 ((Int.tmod a1 20) + 1)) a2_0 a2_1 t219 _ A13.out).mono ?_); rintro e w18 ⟨rfl, hb⟩; refine ⟨_, rfl, ?_⟩; have n2_ := Az_ (btz_ (w129_) hb); clear HB; replace BK216 := Az_ (ukbz_ BK216.out hb); replace BK217 := Az_ (ukbz_ BK217.out hb); have HB := n2_; clear n2_; (try clear hb); have hcz19_0 := cz_ (x := .int .i64 0) BK217 0; have hcz19_1 := cz_ (x := .int .i64 0) BK217 1; have hcz19_2 := cz_ (x := .int .i64 0) BK217 2; have hfz19_0 := blk_frozen BK217.out 0; have hfz19_1 := blk_frozen BK217.out 1; have hfz19_2 := blk_frozen BK217.out 2))
   refine bodyPost_ret (results_cell_row rfl _ _ gb217 40 #[.int .i64 a0, .int .i64 (wrap64 ((Int.tmod a1 20) + 1)), .int .i64 t219] (0, 0) _ rfl (by (with_reducible repeat (first | refine knz_ ?_ _ | refine kdz_ ?_ | refine kaz_ ?_ _)); refine blk_put (cs := #[.int .i64 a0, .int .i64 (wrap64 ((Int.tmod a1 20) + 1)), .int .i64 0]) ?_ 2 _ rfl; (with_reducible repeat (first | refine knz_ ?_ _ | refine kdz_ ?_ | refine kaz_ ?_ _)); refine blk_put (cs := #[.int .i64 a0, .int .i64 0, .int .i64 0]) ?_ 1 _ rfl; (with_reducible repeat (first | refine knz_ ?_ _ | refine kdz_ ?_ | refine kaz_ ?_ _)); refine blk_put (cs := #[.int .i64 0, .int .i64 0, .int .i64 0]) ?_ 0 _ rfl; (with_reducible repeat (first | refine knz_ ?_ _ | refine kdz_ ?_ | refine kaz_ ?_ _)); exact BK217.out) Tryd.underlying40 rfl (w204_)) rfl ?_
   exact ⟨w166_, w129_⟩
  ·rw [if_neg c12] at H
   have c12b0 : (a0 == 3) = false := beq_eq_false_iff_ne.mpr c12
   have c12b1 : (a0 != 3) = true := bne_iff_ne.mpr c12
   by_cases c20 : a0 = 4
   ·rw [if_pos c20] at H
    have c20b0 : (a0 == 4) = true := beq_iff_eq.mpr c20
    have c20b1 : (a0 != 4) = false := bne_eq_false_iff_eq.mpr c20
    clear c20
    replace H := bqz_ H; obtain ⟨t220, A21, H⟩ := H
    replace H : (some (a0, wrap64 ((Int.tmod a1 8) + 2), t220)) = some (r1, r2, r3) := H
    simp only [Option.some.injEq, Prod.mk.injEq] at H
    obtain ⟨rfl, rfl, rfl⟩ := H
    go_enter Tryd.func45, Tryd.ntmps45
    go_wp2_with (first | ((with_reducible refine gate_dst (N := 5) rfl ?_); refine bxe_ (N := 5) (cs := #[.int .i64 a2_0, .int .i64 a2_1]) (t := 25) ?_; intro gb216 hg w22 BK216 hb; have GW216 := gez_ hg (ubz_ HB.out); have GE216 := GW216; replace HB := Az_ (btz_ (ubz_ HB.out) hb); clear hb hg) | ((with_reducible refine gate_dst (N := 6) rfl ?_); refine bxe_ (N := 6) (cs := #[.int .i64 0, .int .i64 0, .int .i64 0]) (t := 40) ?_; intro gb217 hg w23 BK217 hb; obtain ⟨NB216_217, NB217_216⟩ := nez_ BK216 hg; have GW217 : Aside0 (w.heap.size ≤ gb217) := gez_ hg (w129_); have GE217 := GW217; replace HB := Az_ (btz_ (w129_) hb); replace BK216 := Az_ (ukbz_ BK216.out hb); clear hb hg; have hnb24 := NB216_217.out; have hnc24 := NB217_216.out; have hcz25_0 := cz_ (x := .int .i64 a2_0) BK216 0; have hcz25_1 := cz_ (x := .int .i64 a2_1) BK216 1; have hfz25_0 := blk_frozen BK216.out 0; have hfz25_1 := blk_frozen BK216.out 1) | ((with_reducible refine gate_callee (f := 67) rfl ?_); refine goesL_ (some 28) rfl rfl Tryd.func67 (w204_) rfl #[.int .i64 a0, .int .i64 (wrap64 ((Int.tmod a1 8) + 2)), .agg #[.int .i64 a2_0, .int .i64 a2_1]] rfl maz_ ?_; (with_reducible refine (spec_pzValue.calls k a0 (wrap64 ((Int.tmod a1 8) + 2)) a2_0 a2_1 t220 _ A21.out).mono ?_); rintro e w26 ⟨rfl, hb⟩; refine ⟨_, rfl, ?_⟩; have n2_ := Az_ (btz_ (w129_) hb); clear HB; replace BK216 := Az_ (ukbz_ BK216.out hb); replace BK217 := Az_ (ukbz_ BK217.out hb); have HB := n2_; clear n2_; (try clear hb); have hcz27_0 := cz_ (x := .int .i64 0) BK217 0; have hcz27_1 := cz_ (x := .int .i64 0) BK217 1; have hcz27_2 := cz_ (x := .int .i64 0) BK217 2; have hfz27_0 := blk_frozen BK217.out 0; have hfz27_1 := blk_frozen BK217.out 1; have hfz27_2 := blk_frozen BK217.out 2))
    refine bodyPost_ret (results_cell_row rfl _ _ gb217 40 #[.int .i64 a0, .int .i64 (wrap64 ((Int.tmod a1 8) + 2)), .int .i64 t220] (0, 0) _ rfl (by (with_reducible repeat (first | refine knz_ ?_ _ | refine kdz_ ?_ | refine kaz_ ?_ _)); refine blk_put (cs := #[.int .i64 a0, .int .i64 (wrap64 ((Int.tmod a1 8) + 2)), .int .i64 0]) ?_ 2 _ rfl; (with_reducible repeat (first | refine knz_ ?_ _ | refine kdz_ ?_ | refine kaz_ ?_ _)); refine blk_put (cs := #[.int .i64 a0, .int .i64 0, .int .i64 0]) ?_ 1 _ rfl; (with_reducible repeat (first | refine knz_ ?_ _ | refine kdz_ ?_ | refine kaz_ ?_ _)); refine blk_put (cs := #[.int .i64 0, .int .i64 0, .int .i64 0]) ?_ 0 _ rfl; (with_reducible repeat (first | refine knz_ ?_ _ | refine kdz_ ?_ | refine kaz_ ?_ _)); exact BK217.out) Tryd.underlying40 rfl (w204_)) rfl ?_
    exact ⟨w166_, w129_⟩
   ·rw [if_neg c20] at H
    have c20b0 : (a0 == 4) = false := beq_eq_false_iff_ne.mpr c20
    have c20b1 : (a0 != 4) = true := bne_iff_ne.mpr c20
    replace H := bqz_ H; obtain ⟨t221, A28, H⟩ := H
    replace H : (some (a0, 0, t221)) = some (r1, r2, r3) := H
    simp only [Option.some.injEq, Prod.mk.injEq] at H
    obtain ⟨rfl, rfl, rfl⟩ := H
    go_enter Tryd.func45, Tryd.ntmps45
    go_wp2_with (first | ((with_reducible refine gate_dst (N := 5) rfl ?_); refine bxe_ (N := 5) (cs := #[.int .i64 a2_0, .int .i64 a2_1]) (t := 25) ?_; intro gb216 hg w29 BK216 hb; have GW216 := gez_ hg (ubz_ HB.out); have GE216 := GW216; replace HB := Az_ (btz_ (ubz_ HB.out) hb); clear hb hg) | ((with_reducible refine gate_dst (N := 6) rfl ?_); refine bxe_ (N := 6) (cs := #[.int .i64 0, .int .i64 0, .int .i64 0]) (t := 40) ?_; intro gb217 hg w30 BK217 hb; obtain ⟨NB216_217, NB217_216⟩ := nez_ BK216 hg; have GW217 : Aside0 (w.heap.size ≤ gb217) := gez_ hg (w129_); have GE217 := GW217; replace HB := Az_ (btz_ (w129_) hb); replace BK216 := Az_ (ukbz_ BK216.out hb); clear hb hg; have hnb31 := NB216_217.out; have hnc31 := NB217_216.out; have hcz32_0 := cz_ (x := .int .i64 a2_0) BK216 0; have hcz32_1 := cz_ (x := .int .i64 a2_1) BK216 1; have hfz32_0 := blk_frozen BK216.out 0; have hfz32_1 := blk_frozen BK216.out 1) | ((with_reducible refine gate_callee (f := 67) rfl ?_); refine goesL_ (some 28) rfl rfl Tryd.func67 (w204_) rfl #[.int .i64 a0, .int .i64 0, .agg #[.int .i64 a2_0, .int .i64 a2_1]] rfl maz_ ?_; (with_reducible refine (spec_pzValue.calls k a0 0 a2_0 a2_1 t221 _ A28.out).mono ?_); rintro e w33 ⟨rfl, hb⟩; refine ⟨_, rfl, ?_⟩; have n2_ := Az_ (btz_ (w129_) hb); clear HB; replace BK216 := Az_ (ukbz_ BK216.out hb); replace BK217 := Az_ (ukbz_ BK217.out hb); have HB := n2_; clear n2_; (try clear hb); have hcz34_0 := cz_ (x := .int .i64 0) BK217 0; have hcz34_1 := cz_ (x := .int .i64 0) BK217 1; have hcz34_2 := cz_ (x := .int .i64 0) BK217 2; have hfz34_0 := blk_frozen BK217.out 0; have hfz34_1 := blk_frozen BK217.out 1; have hfz34_2 := blk_frozen BK217.out 2))
    refine bodyPost_ret (results_cell_row rfl _ _ gb217 40 #[.int .i64 a0, .int .i64 0, .int .i64 t221] (0, 0) _ rfl (by (with_reducible repeat (first | refine knz_ ?_ _ | refine kdz_ ?_ | refine kaz_ ?_ _)); refine blk_put (cs := #[.int .i64 a0, .int .i64 0, .int .i64 0]) ?_ 2 _ rfl; (with_reducible repeat (first | refine knz_ ?_ _ | refine kdz_ ?_ | refine kaz_ ?_ _)); refine blk_put (cs := #[.int .i64 a0, .int .i64 0, .int .i64 0]) ?_ 1 _ rfl; (with_reducible repeat (first | refine knz_ ?_ _ | refine kdz_ ?_ | refine kaz_ ?_ _)); refine blk_put (cs := #[.int .i64 0, .int .i64 0, .int .i64 0]) ?_ 0 _ rfl; (with_reducible repeat (first | refine knz_ ?_ _ | refine kdz_ ?_ | refine kaz_ ?_ _)); exact BK217.out) Tryd.underlying40 rfl (w204_)) rfl ?_
    exact ⟨w166_, w129_⟩


mutual
def spec_MakePuzzle.j0 : Nat → Int → Int → Bool → Int → Int → Option ((List (S40)) × Bool)
 | 0, _, _, _, _, _ => none
 | k + 1, x1, x2, x23, x223000, x223001 => if x23 = true then (some (([] : List (S40)), false)) else (spec_MakePuzzle.l0 k x1 x2 x223000 x223001 ([] : List (S40)))
def spec_MakePuzzle.l0 : Nat → Int → Int → Int → Int → List (S40) → Option ((List (S40)) × Bool)
 | 0, _, _, _, _, _ => none
 | k + 1, x1, x9, x223000, x223001, x228000 => if x1 > 0 then ((spec_pzNext.f x9).bind fun t228 => ((spec_pzNext.f t228).bind fun t229 => ((spec_pzOf.f k (Int.tmod t228 6) t229 x223000 x223001).bind fun bt230 => (if x228000.length < 5864062014805 then (spec_MakePuzzle.l0 k (wrap64 (x1 - 1)) t229 x223000 x223001 (x228000 ++ [(⟨bt230.1, bt230.2.1, bt230.2.2⟩ : S40)])) else (none))))) else (some (x228000, true))
end
def spec_MakePuzzle.f (k : Nat) (a0_0 : Int) (a0_1 : Int) (a1 : Int) (a2 : Int) : Option ((List (S40)) × Bool) := (spec_pzBook.f a0_0 a0_1).bind fun t224 => (if t224 = true then ((spec_l1In.f a1 0 6).bind fun t225 => (if t225 = true then ((spec_l1In.f a2 0 9999).bind fun t226 => (spec_MakePuzzle.j0 k a1 a2 (!t226) a0_0 a0_1)) else (spec_MakePuzzle.j0 k a1 a2 true a0_0 a0_1))) else (spec_MakePuzzle.j0 k a1 a2 true a0_0 a0_1))
def spec_MakePuzzle.T10 : Bool × List (List Nat × List Nat) := (true, [([], []), ([0], [0]), ([], []), ([], []), ([], []), ([2, 3, 4], [2, 3, 4]), ([5], [5]), ([1, 6, 5], [1, 6]), ([0, 1, 2, 3, 4, 5, 6, 7], []), ([8, 7, 7, 0, 1, 2, 3, 4, 5, 6, 7], [7, 8])])
def spec_MakePuzzle.B10 : List Nat := [0, 1, 0, 0, 0, 28, 60, 127, 255, 511]
theorem spec_MakePuzzle.tab10 : rtab .any (opsOf Tryd.f7 10) = spec_MakePuzzle.T10 := by kernel_rfl
theorem spec_MakePuzzle.bits10 : waitsOk spec_MakePuzzle.T10.2 spec_MakePuzzle.B10 = true := by kernel_rfl
set_option maxHeartbeats 8000000 in
set_option maxRecDepth 100000 in
theorem spec_MakePuzzle.calls (k : Nat) (a0_0 : Int) (a0_1 : Int) (a1 : Int) (a2 : Int) (r1 : List (S40)) (r2 : Bool) (w : World) (h : spec_MakePuzzle.f k a0_0 a0_1 a1 a2 = some (r1, r2)) :
  Calls Tryd.prog 7 #[.agg #[.int .i64 a0_0, .int .i64 a0_1], .int .i64 a1, .int .i64 a2] w fun e w' => ∃ v0_ : Value, e = .returned (.tuple #[.agg #[v0_], .bool r2]) ∧ Kd.R k40 40 w' w.heap.size (fun _ => True) v0_ r1 ∧ Below w.heap.size w w' := by
 have hu25 := Tryd.underlying25
 have hu30 := Tryd.underlying30
 have HB := Az_ (Below.refl w.heap.size w)
 have H : ((spec_pzBook.f a0_0 a0_1).bind fun t224 => (if t224 = true then ((spec_l1In.f a1 0 6).bind fun t225 => (if t225 = true then ((spec_l1In.f a2 0 9999).bind fun t226 => (j0 k a1 a2 (!t226) a0_0 a0_1)) else (j0 k a1 a2 true a0_0 a0_1))) else (j0 k a1 a2 true a0_0 a0_1))) = some (r1, r2) := h
 clear h
 have HC4 := Az_ H
 clear H
 go_enter Tryd.func7, Tryd.ntmps7
 go_upto_region 1 with (first | ((with_reducible refine gate_dst (N := 3) rfl ?_); refine bxe_ (N := 3) (cs := #[.int .i64 a0_0, .int .i64 a0_1]) (t := 25) ?_; intro gb222 hg w5 BK222 hb; have GW222 := gez_ hg (ubz_ HB.out); have GE222 := GW222; replace HB := Az_ (btz_ (ubz_ HB.out) hb); clear hb hg) | ((with_reducible refine gate_dst (N := 6) rfl ?_); refine bxe_ (N := 6) (cs := #[.slice none 0 0]) (t := 30) ?_; intro gb223 hg w6 BK223 hb; obtain ⟨NB222_223, NB223_222⟩ := nez_ BK222 hg; have GW223 : Aside0 (w.heap.size ≤ gb223) := gez_ hg (w129_); have GE223 := GW223; replace HB := Az_ (btz_ (w129_) hb); replace BK222 := Az_ (ukbz_ BK222.out hb); clear hb hg))
 (try simp only [Act.put, List.setIfInBounds_toArray, List.set_cons_zero, List.set_cons_succ])
 go_cut [23] (fun v23 wc => ∃ (kq : Nat) (x23_3 : Bool), v23 = .bool x23_3 ∧ Aside0 (j0 kq a1 a2 x23_3 a0_0 a0_1 = some (r1, r2)) ∧ Aside0 (kq ≤ k) ∧ Aside0 (wc.heap[gb222]? = some (.cells #[.int .i64 a0_0, .int .i64 a0_1] 25 (0, 0))) ∧ Aside0 (wc.heap[gb223]? = some (.cells #[(.slice none 0 0)] 30 (0, 0))) ∧ Aside0 (Below w.heap.size w wc))
 case first =>
  have H := HC4.out
  clear HC4
  replace H := bqz_ H; obtain ⟨t224, A7, H⟩ := H
  replace H : (if t224 = true then ((spec_l1In.f a1 0 6).bind fun t225 => (if t225 = true then ((spec_l1In.f a2 0 9999).bind fun t226 => (j0 k a1 a2 (!t226) a0_0 a0_1)) else (j0 k a1 a2 true a0_0 a0_1))) else (j0 k a1 a2 true a0_0 a0_1)) = some (r1, r2) := H
  by_cases c8 : t224 = true; rotate_left
  ·replace c8 := Bool.eq_false_iff.mpr c8
   subst c8
   rw [if_neg nfz_] at H
   have H' := Az_ H
   clear H
   have hnb18 := NB222_223.out
   have hnc18 := NB223_222.out
   have hcz19_0 := cz_ (x := .int .i64 a0_0) BK222 0
   have hcz19_1 := cz_ (x := .int .i64 a0_1) BK222 1
   have hfz19_0 := blk_frozen BK222.out 0
   have hfz19_1 := blk_frozen BK222.out 1
   go_wp2_with (((with_reducible refine gate_callee (f := 42) rfl ?_); refine goesL_ (some 12) rfl rfl Tryd.func42 (w204_) rfl #[.agg #[.int .i64 a0_0, .int .i64 a0_1]] rfl maz_ ?_; (with_reducible refine (spec_pzBook.calls a0_0 a0_1 false _ A7.out).mono ?_); rintro e w20 ⟨rfl, hb⟩; refine ⟨_, rfl, ?_⟩; have n2_ := Az_ (btz_ (w129_) hb); clear HB; replace BK222 := Az_ (ukbz_ BK222.out hb); replace BK223 := Az_ (ukbz_ BK223.out hb); have HB := n2_; clear n2_; (try clear hb)))
   go_meet
   case rel => exact ⟨_, (true), qaz_, H', ⟨w173_⟩, ⟨w149_⟩, ⟨w150_⟩, ⟨w129_⟩⟩
  subst c8
  rw [if_pos rfl] at H
  replace H := bqz_ H; obtain ⟨t225, A9, H⟩ := H
  replace H : (if t225 = true then ((spec_l1In.f a2 0 9999).bind fun t226 => (j0 k a1 a2 (!t226) a0_0 a0_1)) else (j0 k a1 a2 true a0_0 a0_1)) = some (r1, r2) := H
  by_cases c10 : t225 = true; rotate_left
  ·replace c10 := Bool.eq_false_iff.mpr c10
   subst c10
   rw [if_neg nfz_] at H
   have H' := Az_ H
   clear H
   have hnb15 := NB222_223.out
   have hnc15 := NB223_222.out
   have hcz16_0 := cz_ (x := .int .i64 a0_0) BK222 0
   have hcz16_1 := cz_ (x := .int .i64 a0_1) BK222 1
   have hfz16_0 := blk_frozen BK222.out 0
   have hfz16_1 := blk_frozen BK222.out 1
   go_wp2_with (first | ((with_reducible refine gate_callee (f := 42) rfl ?_); refine goesL_ (some 12) rfl rfl Tryd.func42 (w204_) rfl #[.agg #[.int .i64 a0_0, .int .i64 a0_1]] rfl maz_ ?_; (with_reducible refine (spec_pzBook.calls a0_0 a0_1 true _ A7.out).mono ?_); rintro e w17 ⟨rfl, hb⟩; refine ⟨_, rfl, ?_⟩; have n2_ := Az_ (btz_ (w129_) hb); clear HB; replace BK222 := Az_ (ukbz_ BK222.out hb); replace BK223 := Az_ (ukbz_ BK223.out hb); have HB := n2_; clear n2_; (try clear hb)) | (go_at_call 43; (with_reducible refine (spec_l1In.calls a1 0 6 false _ A9.out).mono ?_); rintro e w' ⟨rfl, ⟨nd, rfl⟩⟩))
   go_meet
   case rel => exact ⟨_, (true), qaz_, H', ⟨w173_⟩, ⟨w149_⟩, ⟨w150_⟩, ⟨w129_⟩⟩
  subst c10
  rw [if_pos rfl] at H
  replace H := bqz_ H; obtain ⟨t226, A11, H⟩ := H
  replace H : (j0 k a1 a2 (!t226) a0_0 a0_1) = some (r1, r2) := H
  have H' := Az_ H
  clear H
  have hnb12 := NB222_223.out
  have hnc12 := NB223_222.out
  have hcz13_0 := cz_ (x := .int .i64 a0_0) BK222 0
  have hcz13_1 := cz_ (x := .int .i64 a0_1) BK222 1
  have hfz13_0 := blk_frozen BK222.out 0
  have hfz13_1 := blk_frozen BK222.out 1
  go_wp2_with (first | ((with_reducible refine gate_callee (f := 42) rfl ?_); refine goesL_ (some 12) rfl rfl Tryd.func42 (w204_) rfl #[.agg #[.int .i64 a0_0, .int .i64 a0_1]] rfl maz_ ?_; (with_reducible refine (spec_pzBook.calls a0_0 a0_1 true _ A7.out).mono ?_); rintro e w14 ⟨rfl, hb⟩; refine ⟨_, rfl, ?_⟩; have n2_ := Az_ (btz_ (w129_) hb); clear HB; replace BK222 := Az_ (ukbz_ BK222.out hb); replace BK223 := Az_ (ukbz_ BK223.out hb); have HB := n2_; clear n2_; (try clear hb)) | (go_at_call 43; (with_reducible refine (spec_l1In.calls a1 0 6 true _ A9.out).mono ?_); rintro e w' ⟨rfl, ⟨nd, rfl⟩⟩) | (go_at_call 43; (with_reducible refine (spec_l1In.calls a2 0 9999 t226 _ A11.out).mono ?_); rintro e w' ⟨rfl, ⟨nd, rfl⟩⟩))
  go_meet
  case rel => exact ⟨_, (!t226), qaz_, H', ⟨w173_⟩, ⟨w149_⟩, ⟨w150_⟩, ⟨w129_⟩⟩
 case rest =>
  clear HC4
  obtain ⟨kq, x23_3, rfl, HA, HJ3, BK222, BK223, HB⟩ := hcut
  cases kq with
  | zero => exact absurd HA.out (by simp [j0])
  | succ kj3 =>
   have H := HA.out
   clear HA
   simp only [j0] at H
   by_cases c21 : x23_3 = true
   ·subst c21
    rw [if_pos rfl] at H
    simp only [Option.some.injEq, Prod.mk.injEq] at H
    obtain ⟨rfl, rfl⟩ := H
    have hnb22 := NB223_222.out
    have hnc22 := NB222_223.out
    have hcz23_0 := cz_ (x := .slice none 0 0) BK223 0
    have hfz23_0 := blk_frozen BK223.out 0
    go_wp2
    refine bodyPost_ret (results_ct rfl _ _ gb223 30 #[.slice none 0 0] (0, 0) _ rfl (w41_) Tryd.underlying30 rfl (w204_)) rfl ?_
    exact ⟨_, w166_, w130_, w129_⟩
   ·replace c21 := Bool.eq_false_iff.mpr c21
    subst c21
    rw [if_neg nfz_] at H
    have H' := Az_ H
    clear H
    go_wp2_with (((with_reducible refine gate_dst (N := 8) rfl ?_); refine bxe_ (N := 8) (cs := #[.slice none 0 0]) (t := 30) ?_; intro gb227 hg w24 BK227 hb; obtain ⟨NB222_227, NB227_222⟩ := nez_ BK222 hg; obtain ⟨NB223_227, NB227_223⟩ := nez_ BK223 hg; have GW227 : Aside0 (w.heap.size ≤ gb227) := gez_ hg (w129_); have GE227 := GW227; replace HB := Az_ (btz_ (w129_) hb); replace BK222 := Az_ (ukbz_ BK222.out hb); replace BK223 := Az_ (ukbz_ BK223.out hb); clear hb hg; have hnb25 := NB227_222.out; have hnc25 := NB222_227.out; have hnb26 := NB227_223.out; have hnc26 := NB223_227.out; have hcz27_0 := cz_ (x := .slice none 0 0) BK227 0; have hfz27_0 := blk_frozen BK227.out 0))
    go_loopg [1, 9] kj3 (fun kq v1 v9 w' => ∃ (x1_2 : Int) (x9_2 : Int) (x228000_2 : List (S40)) (u228000 : Value), v1 = .int .i64 x1_2 ∧ v9 = .int .i64 x9_2 ∧ Aside0 (spec_MakePuzzle.l0 kq x1_2 x9_2 a0_0 a0_1 x228000_2 = some (r1, r2)) ∧ Aside0 (kq ≤ kj3) ∧ Aside0 (Kd.R k40 40 w' w.heap.size (fun _ => True) u228000 x228000_2) ∧ Aside0 (w'.heap[gb222]? = some (.cells #[.int .i64 a0_0, .int .i64 a0_1] 25 (0, 0))) ∧ Aside0 (w'.heap[gb223]? = some (.cells #[(.slice none 0 0)] 30 (0, 0))) ∧ Aside0 (w'.heap[gb227]? = some (.cells #[u228000] 30 (0, 0))) ∧ Aside0 (Below w.heap.size w w'))
    case atStart => exact ⟨(a1), (a2), (([] : List (S40))), (.slice none 0 0), qaz_, qaz_, H', ⟨Nat.le_refl _⟩, ⟨w130_⟩, ⟨w81_⟩, ⟨w82_⟩, ⟨by (with_reducible repeat (first | refine knz_ ?_ _ | refine kdz_ ?_ | refine kaz_ ?_ _)); refine blk_put (cs := #[.slice none 0 0]) ?_ 0 _ rfl; (with_reducible repeat (first | refine knz_ ?_ _ | refine kdz_ ?_ | refine kaz_ ?_ _)); exact BK227.out⟩, ⟨w129_⟩⟩
    case round =>
     clear H'
     clear hcz27_0 hfz27_0
     obtain ⟨x1_2, x9_2, x228000_2, u228000, rfl, rfl, HA, HK2, HO_228000, BK222, BK223, BK227, HB⟩ := hrel
     cases gk with
     | zero => exact absurd HA.out (by simp [spec_MakePuzzle.l0])
     | succ k2 =>
      have H := HA.out
      clear HA
      simp only [spec_MakePuzzle.l0] at H
      by_cases c28 : x1_2 > 0
      ·rw [if_pos c28] at H
       have c28b0 := decide_eq_true c28
       clear c28
       replace H := bqz_ H; obtain ⟨t228, A29, H⟩ := H
       replace H := bqz_ H; obtain ⟨t229, A30, H⟩ := H
       replace H := bqz_ H; obtain ⟨⟨t230, t231, t232⟩, A31, H⟩ := H
       replace H : (if x228000_2.length < 5864062014805 then (spec_MakePuzzle.l0 k2 (wrap64 (x1_2 - 1)) t229 a0_0 a0_1 (x228000_2 ++ [(⟨t230, t231, t232⟩ : S40)])) else (none)) = some (r1, r2) := H
       by_cases c32 : x228000_2.length < 5864062014805; rotate_left
       ·rw [if_neg c32] at H
        exact absurd H (by simp)
       rw [if_pos c32] at H
       have LMc32 := Az_ c32
       clear c32
       obtain ⟨y233, hy233⟩ : ∃ y_ : List (S40), y_ = (x228000_2 ++ [(⟨t230, t231, t232⟩ : S40)]) := ⟨_, rfl⟩
       replace H : (spec_MakePuzzle.l0 k2 (wrap64 (x1_2 - 1)) t229 a0_0 a0_1 y233) = some (r1, r2) := by first | (rw [hy233]; with_reducible exact H) | (have H2_ := (Option.bind_some _ _).symm.trans H; rw [hy233]; with_reducible exact H2_) | (have H2_ := (Option.bind_some _ _).symm.trans H; with_reducible exact H2_) | with_reducible exact H | (rw [hy233]; exact H) | exact H
       have Ny233 := Az_ hy233
       clear hy233
       have H' := Az_ H
       clear H
       try go_wp2_with (first | ((with_reducible refine gate_callee (f := 44) rfl ?_); refine goesL_ (some 32) rfl rfl Tryd.func44 (w204_) rfl #[.int .i64 x9_2] rfl maz_ ?_; (with_reducible refine (spec_pzNext.calls x9_2 t228 _ A29.out).mono ?_); rintro e w' ⟨rfl, ⟨nd, rfl⟩⟩; refine ⟨_, rfl, ?_⟩; (try (rw [drewN_self wr]; generalize hq_ : World.drewN wr _ = wr; have n0_ : Aside0 (Kd.R k40 40 wr w.heap.size (fun _ => True) u228000 x228000_2) := ⟨by rw [← hq_]; exact (by exact urz_ HO_228000.out)⟩; have n1_ : Aside0 (wr.heap[gb222]? = some (.cells #[.int .i64 a0_0, .int .i64 a0_1] 25 (0, 0))) := ⟨by rw [← hq_]; exact (by exact ukz_ BK222.out)⟩; have n2_ : Aside0 (wr.heap[gb223]? = some (.cells #[.slice none 0 0] 30 (0, 0))) := ⟨by rw [← hq_]; exact (by exact ukz_ BK223.out)⟩; have n3_ : Aside0 (wr.heap[gb227]? = some (.cells #[u228000] 30 (0, 0))) := ⟨by rw [← hq_]; exact (by exact ukz_ BK227.out)⟩; have n4_ : Aside0 (Below w.heap.size w wr) := ⟨w124_⟩; clear HO_228000 BK222 BK223 BK227 HB hq_; have HO_228000 := n0_; have BK222 := n1_; have BK223 := n2_; have BK227 := n3_; have HB := n4_; clear n0_ n1_ n2_ n3_ n4_))) | ((with_reducible refine gate_callee (f := 44) rfl ?_); refine goesL_ (some 36) rfl rfl Tryd.func44 (w204_) rfl #[.int .i64 t228] rfl maz_ ?_; (with_reducible refine (spec_pzNext.calls t228 t229 _ A30.out).mono ?_); rintro e w' ⟨rfl, ⟨nd, rfl⟩⟩; refine ⟨_, rfl, ?_⟩; (try (rw [drewN_self wr]; generalize hq_ : World.drewN wr _ = wr; have n0_ : Aside0 (Kd.R k40 40 wr w.heap.size (fun _ => True) u228000 x228000_2) := ⟨by rw [← hq_]; exact (by exact urz_ HO_228000.out)⟩; have n1_ : Aside0 (wr.heap[gb222]? = some (.cells #[.int .i64 a0_0, .int .i64 a0_1] 25 (0, 0))) := ⟨by rw [← hq_]; exact (by exact ukz_ BK222.out)⟩; have n2_ : Aside0 (wr.heap[gb223]? = some (.cells #[.slice none 0 0] 30 (0, 0))) := ⟨by rw [← hq_]; exact (by exact ukz_ BK223.out)⟩; have n3_ : Aside0 (wr.heap[gb227]? = some (.cells #[u228000] 30 (0, 0))) := ⟨by rw [← hq_]; exact (by exact ukz_ BK227.out)⟩; have n4_ : Aside0 (Below w.heap.size w wr) := ⟨w124_⟩; clear HO_228000 BK222 BK223 BK227 HB hq_; have HO_228000 := n0_; have BK222 := n1_; have BK223 := n2_; have BK227 := n3_; have HB := n4_; clear n0_ n1_ n2_ n3_ n4_))))
       replace HO_228000 := Az_ (rdz_ HO_228000.out)
       replace BK222 := Az_ (kdz_ BK222.out)
       replace BK223 := Az_ (kdz_ BK223.out)
       replace BK227 := Az_ (kdz_ BK227.out)
       replace HB := Az_ (bdz_ HB.out)
       refine start_ (n := 10) (S := fun w' => w'.cell? ⟨gb227, 0, none⟩ = some (u228000) ∧ w'.cell? ⟨gb222, 0, none⟩ = some (.int .i64 a0_0) ∧ w'.cell? ⟨gb222, 1, none⟩ = some (.int .i64 a0_1)) (ds := [9]) #[false, false, false, false, false, false, false, false, false, false] (w204_) rfl rfl ⟨(blk_cell BK227.out 0).trans rfl, (blk_cell BK222.out 0).trans rfl, (blk_cell BK222.out 1).trans rfl⟩ (fun hHeld => ?_); refine with_tabW spec_MakePuzzle.tab10 spec_MakePuzzle.bits10 (fun HT_ HW_ => ?_)
       generalize wr.drew = w33 at HO_228000 BK222 BK223 BK227 HB hHeld ⊢
       refine pz_ 0 37 [1,9] ?_
       refine pz_ 2 39 [1,1,1,7] ?_
       refine pz_ 3 40 [1,1,2,6] ?_
       refine take_ (i := 1) (N := some 38) (v := ?_) (a' := ?_) (mz_ [4,6]) rfl rfl (take_ofW HT_.out HW_.out (w204_)) (fun _ _ _ h => h) (Or.inl ⟨by rfl, ?_⟩) hHeld ?_ ?_
       rotate_left
       ·rintro w' ⟨s0, s1, s2⟩
        go_simp
        with_reducible rfl
       rotate_left
       ·simp only [Act.put, usz_, utz_, uvz_, i64_w, i32_w]
        rfl
       refine take_ (i := 4) (N := some 41) (v := ?_) (a' := ?_) (mz_ [5,5]) rfl rfl (take_ofW HT_.out HW_.out (w204_)) (fun _ _ _ h => h) (Or.inl ⟨by rfl, ?_⟩) hHeld ?_ ?_
       rotate_left
       ·rintro w' ⟨s0, s1, s2⟩
        go_simp
        with_reducible rfl
       rotate_left
       ·simp only [Act.put, usz_, utz_, uvz_, i64_w, i32_w]
        rfl
       refine one_ (i := 5) (N := some 42) (mz_ [6,4]) rfl rfl (one_of HT_.out (w204_)) (by decide) (fun K hK => ?_)
       refine goes_ Tryd.func45 (w204_) rfl #[.int .i64 (Int.tmod t228 6), .int .i64 t229, .agg #[.int .i64 a0_0, .int .i64 a0_1]] (by rfl) rfl rfl maz_ ?_
       with_reducible refine (spec_pzOf.calls k2 (Int.tmod t228 6) t229 a0_0 a0_1 t230 t231 t232 _ A31.out).mono ?_
       rintro e w34 ⟨rfl, hb⟩
       refine ⟨_, rfl, ?_⟩
       have n0_ := Az_ (Kd.R_below (by exact urz_ HO_228000.out) hb)
       have n4_ := Az_ (btz_ (w129_) hb)
       clear HO_228000 HB
       have HO_228000 := n0_
       replace BK222 := Az_ (ukbz_ BK222.out hb)
       replace BK223 := Az_ (ukbz_ BK223.out hb)
       replace BK227 := Az_ (ukbz_ BK227.out hb)
       have HB := n4_
       clear n0_ n4_
       clear hb
       refine hK.out _ _ ⟨(blk_cell BK227.out 0).trans rfl, (blk_cell BK222.out 0).trans rfl, (blk_cell BK222.out 1).trans rfl⟩ (fun hHeld => ?_)
       clear hK K
       refine nz_ 42 ?_
       refine one_ (i := 6) (N := some 43) (mz_ [7,3]) rfl rfl (one_of HT_.out (w204_)) (by decide) (fun K hK => ?_)
       refine value_ (w1 := ?_) (v := ?_) (by rfl) rfl ?_ ?_
       rotate_left 2
       ·go_simp
        constructor
        ·rfl
        ·rfl
       refine hK.out _ _ ⟨(blk_cell (kaz_ BK227.out _) 0).trans rfl, (blk_cell (kaz_ BK222.out _) 0).trans rfl, (blk_cell (kaz_ BK222.out _) 1).trans rfl⟩ (fun hHeld => ?_)
       clear hK K
       refine nz_ 43 ?_
       refine one_ (i := 7) (N := some 44) (mz_ [8,2]) rfl rfl (one_of HT_.out (w204_)) (by decide) (fun K hK => ?_)
       refine Kd.R_append_step k40 (w0 := w) w.heap.size (by rfl) (.tmp 38) (.tmp 43) 28 40 (.agg #[(.int .i64 0), (.int .i64 0), (.int .i64 0)]) 24 rfl Tryd.underlying28 info40 rfl (by decide) (by omega) u228000 x228000_2 (⟨t230, t231, t232⟩ : S40) [.int .i64 t230, .int .i64 t231, .int .i64 t232] (fun _ => True) (fun _ => False) rfl rfl ?aP (fun _ hk => hk.elim) ?aF ?aO ?aB ?aS ?aL ?_
       (case aP => exact k40_mkM _ _ _ (⟨t230, t231, t232⟩ : S40))
       (case aB => exact (w129_))
       (case aF => exact (fun _ _ => trivial))
       (case aO => exact (by exact urz_ HO_228000.out))
       (case aS => exact (below_size (w129_)))
       (case aL => have := LMc32.out; omega)
       intro v234 w35 ho hb hg hat
       rw [← Ny233.out] at ho
       replace BK222 := Az_ (blk_grown (g := gb222) (o := .cells #[.int .i64 a0_0, .int .i64 a0_1] 25 (0, 0)) (by exact ukz_ BK222.out) hg (Kd.R_ne HO_228000.out BK222.out (by decide)))
       replace BK223 := Az_ (blk_grown (g := gb223) (o := .cells #[.slice none 0 0] 30 (0, 0)) (by exact ukz_ BK223.out) hg (Kd.R_ne HO_228000.out BK223.out (by decide)))
       replace BK227 := Az_ (blk_grown (g := gb227) (o := .cells #[u228000] 30 (0, 0)) (by exact ukz_ BK227.out) hg (Kd.R_ne HO_228000.out BK227.out (by decide)))
       replace HB := Az_ (hb)
       have HO235 := Az_ (ho)
       clear HO_228000
       obtain ⟨Ao36, co36, eo36⟩ := Kd.R_slice HO235.out
       (first | subst eo36 | (injection eo36 with f1_ f2_ f3_; have f4_ := f1_.symm; have f5_ := f3_.symm; clear f1_ f2_ f3_; subst f4_; subst f5_))
       refine hK.out _ _ ⟨(blk_cell BK227.out 0).trans rfl, (blk_cell BK222.out 0).trans rfl, (blk_cell BK222.out 1).trans rfl⟩ (fun hHeld => ?_)
       clear hK K
       refine nz_ 44 ?_
       refine pz_ 8 45 [9,1] ?_
       refine last_ (i := 9) (N := none) (mz_ [10]) rfl rfl (one_of HT_.out (w204_)) (by decide) (fun K hK => ?_)
       have hs37 : w35.cell? ⟨gb227, 0, none⟩ = some (u228000) := (blk_cell BK227.out 0).trans rfl
       have hfs37 := blk_frozen BK227.out 0
       have hns37_0 := NB222_227.out
       have hns37_1 := NB223_227.out
       have hms37_0 := NB227_222.out
       have hms37_1 := NB227_223.out
       refine skip_ (w1 := ?_) (by rfl) rfl ?_ ?_
       rotate_left
       ·go_simp
        rfl
       refine hK.out _ _ ?_
       clear hK K
       refine done_ (done_of HT_.out (w204_)) ?_
       try go_wp2
       go_roundg k2
       case measure => have := HJ3.out; have := HK2.out; omega
       case rel => exact ⟨(wrap64 (x1_2 - 1)), (t229), (y233), (.slice Ao36 y233.length co36), qaz_, qaz_, H', ⟨w172_⟩, ⟨by (with_reducible repeat (first | apply raz_ | apply rnz_ | apply rdz_)); exact Kd.R_mono (Kd.R_far (p := ⟨gb227, 0, none⟩) (Kd.R_types HO235.out BK227.out (by decide)) (fun _ hk => hk.2) (.slice Ao36 y233.length co36)) (fun _ hk => trivial)⟩, ⟨w81_⟩, ⟨w82_⟩, ⟨by (with_reducible repeat (first | refine knz_ ?_ _ | refine kdz_ ?_ | refine kaz_ ?_ _)); refine blk_put (cs := #[u228000]) ?_ 0 _ rfl; (with_reducible repeat (first | refine knz_ ?_ _ | refine kdz_ ?_ | refine kaz_ ?_ _)); exact BK227.out⟩, ⟨w129_⟩⟩
      ·rw [if_neg c28] at H
       have c28b0 := decide_eq_false c28
       clear c28
       simp only [Option.some.injEq, Prod.mk.injEq] at H
       obtain ⟨rfl, rfl⟩ := H
       have hnb38 := NB227_222.out
       have hnc38 := NB222_227.out
       have hnb39 := NB227_223.out
       have hnc39 := NB223_227.out
       have hcz40_0 := cz_ (x := u228000) BK227 0
       have hfz40_0 := blk_frozen BK227.out 0
       obtain ⟨Ao41, co41, eo41⟩ := Kd.R_slice HO_228000.out
       subst eo41
       have hnb42 := NB223_222.out
       have hnc42 := NB222_223.out
       have hcz43_0 := cz_ (x := .slice none 0 0) BK223 0
       have hfz43_0 := blk_frozen BK223.out 0
       go_wp2
       refine bodyPost_ret (results_ct rfl _ _ gb223 30 #[.slice Ao41 x228000_2.length co41] (0, 0) _ rfl (w41_) Tryd.underlying30 rfl (w204_)) rfl ?_
       exact ⟨_, w166_, by (with_reducible repeat (first | apply raz_ | apply rnz_ | apply rdz_)); exact Kd.R_mono (Kd.R_far (p := ⟨gb223, 0, none⟩) (Kd.R_types HO_228000.out BK223.out (by decide)) (fun _ hk => hk.2) (.slice Ao41 x228000_2.length co41)) (fun _ hk => trivial), w129_⟩


attribute [local go_sem high] eqA40
def laws_xPuzzle.l0 : Nat → Int → Int → List (S40) → List (S40) → Option (Bool)
 | 0, _, _, _, _ => none
 | k + 1, x15, x16, x237000, x238000 => if x16 < x15 then (if 0 ≤ x16 then (if x16 < (x237000.length : Int) then (if x16 < (x238000.length : Int) then (if (!(((rd_T40 x237000 x16).f0) == ((rd_T40 x238000 x16).f0)) || (!(((rd_T40 x237000 x16).f1) == ((rd_T40 x238000 x16).f1)) || (!(((rd_T40 x237000 x16).f2) == ((rd_T40 x238000 x16).f2))))) = true then (some false) else (laws_xPuzzle.l0 k x15 (wrap64 (x16 + 1)) x237000 x238000)) else (none)) else (none)) else (none)) else (some true)
def laws_xPuzzle.f (k : Nat) (l0_0 : List (S40)) (l1_0 : List (S40)) : Option (Bool) := if (l0_0.length : Int) = (l1_0.length : Int) then (laws_xPuzzle.l0 k (l0_0.length : Int) 0 l0_0 l1_0) else (some false)
set_option maxHeartbeats 8000000 in
set_option maxRecDepth 100000 in
theorem laws_xPuzzle.calls (k : Nat) (A0_0 : Option Addr) (c0_0 : Nat) (l0_0 : List (S40)) (A1_0 : Option Addr) (c1_0 : Nat) (l1_0 : List (S40)) (r : Bool) (w : World) (hr0_0 : Kd.C k40 w A0_0 l0_0.length l0_0) (hc0_0 : l0_0.length ≤ c0_0) (hr1_0 : Kd.C k40 w A1_0 l1_0.length l1_0) (hc1_0 : l1_0.length ≤ c1_0) (h : laws_xPuzzle.f k l0_0 l1_0 = some r) :
  Calls Tryd.prog 8 #[.agg #[.slice A0_0 l0_0.length c0_0], .agg #[.slice A1_0 l1_0.length c1_0]] w fun e w' => e = .returned (.bool r) ∧ Below w.heap.size w w' := by
 have hu30 := Tryd.underlying30
 have hu40 := Tryd.underlying40
 have HR0_0 := Az_ hr0_0
 have HC0_0 := Az_ hc0_0
 clear hr0_0 hc0_0
 have HR1_0 := Az_ hr1_0
 have HC1_0 := Az_ hc1_0
 clear hr1_0 hc1_0
 have HB := Az_ (Below.refl w.heap.size w)
 have H : (if (l0_0.length : Int) = (l1_0.length : Int) then (laws_xPuzzle.l0 k (l0_0.length : Int) 0 l0_0 l1_0) else (some false)) = some r := h
 clear h
 by_cases c3 : (l0_0.length : Int) = (l1_0.length : Int)
 ·rw [if_pos c3] at H
  have c3b0 : ((l0_0.length : Int) == (l1_0.length : Int)) = true := beq_iff_eq.mpr c3
  have c3b1 : ((l0_0.length : Int) != (l1_0.length : Int)) = false := bne_eq_false_iff_eq.mpr c3
  have c3b2 : (l0_0.length == l1_0.length) = true := by first | simpa using c3 | (simp at c3 ⊢; omega)
  clear c3
  have H' := Az_ H
  clear H
  go_enter Tryd.func8, Tryd.ntmps8
  go_wp2_with (first | ((with_reducible refine gate_dst (N := 2) rfl ?_); refine bxe_ (N := 2) (cs := #[.slice A0_0 l0_0.length c0_0]) (t := 30) ?_; intro gb236 hg w4 BK236 hb; have GW236 := gez_ hg (ubz_ HB.out); have GE236 := GW236; replace HB := Az_ (btz_ (ubz_ HB.out) hb); clear hb hg) | ((with_reducible refine gate_dst (N := 3) rfl ?_); refine bxe_ (N := 3) (cs := #[.slice A1_0 l1_0.length c1_0]) (t := 30) ?_; intro gb237 hg w5 BK237 hb; obtain ⟨NB236_237, NB237_236⟩ := nez_ BK236 hg; have GW237 : Aside0 (w.heap.size ≤ gb237) := gez_ hg (w129_); have GE237 := GW237; replace HB := Az_ (btz_ (w129_) hb); replace BK236 := Az_ (ukbz_ BK236.out hb); clear hb hg; have hnb6 := NB236_237.out; have hnc6 := NB237_236.out; have hcz7_0 := cz_ (x := .slice A0_0 l0_0.length c0_0) BK236 0; have hfz7_0 := blk_frozen BK236.out 0; have hcz8_0 := cz_ (x := .slice A1_0 l1_0.length c1_0) BK237 0; have hfz8_0 := blk_frozen BK237.out 0))
  go_loopg [16] k (fun kq v16 w' => ∃ (x16_1 : Int), v16 = .int .i64 x16_1 ∧ Aside0 (laws_xPuzzle.l0 kq (l0_0.length : Int) x16_1 l0_0 l1_0 = some r) ∧ Aside0 (kq ≤ k) ∧ Aside0 (w'.heap[gb236]? = some (.cells #[(.slice A0_0 l0_0.length c0_0)] 30 (0, 0))) ∧ Aside0 (w'.heap[gb237]? = some (.cells #[(.slice A1_0 l1_0.length c1_0)] 30 (0, 0))) ∧ Aside0 (Below w.heap.size w w'))
  case atStart => exact ⟨(0), qaz_, H', ⟨Nat.le_refl _⟩, ⟨by (with_reducible repeat (first | refine knz_ ?_ _ | refine kdz_ ?_ | refine kaz_ ?_ _)); exact BK236.out⟩, ⟨by (with_reducible repeat (first | refine knz_ ?_ _ | refine kdz_ ?_ | refine kaz_ ?_ _)); exact BK237.out⟩, ⟨w129_⟩⟩
  case round =>
   clear H'
   clear c3b0 c3b1 c3b2 hcz7_0 hcz8_0 hfz7_0 hfz8_0
   obtain ⟨x16_1, rfl, HA, HK1, BK236, BK237, HB⟩ := hrel
   cases gk with
   | zero => exact absurd HA.out (by simp [laws_xPuzzle.l0])
   | succ k1 =>
    have H := HA.out
    clear HA
    simp only [laws_xPuzzle.l0] at H
    by_cases c9 : x16_1 < (l0_0.length : Int); rotate_left
    ·rw [if_neg c9] at H
     have c9b0 := decide_eq_false c9
     clear c9
     obtain rfl := Option.some.inj H
     go_wp2
     go_ret
     exact ⟨w166_, w129_⟩
    rw [if_pos c9] at H
    have c9b0 := decide_eq_true c9
    clear c9
    by_cases c10 : 0 ≤ x16_1; rotate_left
    ·rw [if_neg c10] at H
     exact absurd H (by simp)
    rw [if_pos c10] at H
    have c10b0 := decide_eq_true c10
    clear c10
    by_cases c11 : x16_1 < (l0_0.length : Int); rotate_left
    ·rw [if_neg c11] at H
     exact absurd H (by simp)
    rw [if_pos c11] at H
    have c11b0 := decide_eq_true c11
    clear c11
    by_cases c12 : x16_1 < (l1_0.length : Int); rotate_left
    ·rw [if_neg c12] at H
     exact absurd H (by simp)
    rw [if_pos c12] at H
    have c12b0 := decide_eq_true c12
    clear c12
    by_cases c13 : (!(((rd_T40 l0_0 x16_1).f0) == ((rd_T40 l1_0 x16_1).f0)) || (!(((rd_T40 l0_0 x16_1).f1) == ((rd_T40 l1_0 x16_1).f1)) || (!(((rd_T40 l0_0 x16_1).f2) == ((rd_T40 l1_0 x16_1).f2))))) = true
    ·rw [if_pos c13] at H
     have c13b0 : (!(((rd_T40 l0_0 x16_1).f0) == ((rd_T40 l1_0 x16_1).f0)) || (!(((rd_T40 l0_0 x16_1).f1) == ((rd_T40 l1_0 x16_1).f1)) || (!(((rd_T40 l0_0 x16_1).f2) == ((rd_T40 l1_0 x16_1).f2))))) = true := c13
     clear c13
     obtain rfl := Option.some.inj H
     have hnb14 := NB236_237.out
     have hnc14 := NB237_236.out
     have hcz15_0 := cz_ (x := .slice A0_0 l0_0.length c0_0) BK236 0
     have hfz15_0 := blk_frozen BK236.out 0
     have p238 : 0 ≤ (x16_1 : Int) := od_
     have q238 : x16_1 < (l0_0.length : Int) := od_
     obtain ⟨ad238, e238, hx238_0, hx238_1, hx238_2⟩ := at_T40 HR0_0.out x16_1 p238 q238
     cases e238
     replace hx238_0 := hbz_ HB.out hx238_0
     replace hx238_1 := hbz_ HB.out hx238_1
     replace hx238_2 := hbz_ HB.out hx238_2
     replace p238 := eq_true p238
     replace q238 := eq_true q238
     have hcz16_0 := cz_ (x := .slice A1_0 l1_0.length c1_0) BK237 0
     have hfz16_0 := blk_frozen BK237.out 0
     have p239 : 0 ≤ (x16_1 : Int) := od_
     have q239 : x16_1 < (l1_0.length : Int) := od_
     obtain ⟨ad239, e239, hx239_0, hx239_1, hx239_2⟩ := at_T40 HR1_0.out x16_1 p239 q239
     cases e239
     replace hx239_0 := hbz_ HB.out hx239_0
     replace hx239_1 := hbz_ HB.out hx239_1
     replace hx239_2 := hbz_ HB.out hx239_2
     replace p239 := eq_true p239
     replace q239 := eq_true q239
     go_wp2
     repeat (go_quiet (fail); try go_wp2)
     go_ret
     exact ⟨w166_, w129_⟩
    rw [if_neg c13] at H
    have c13b0 : (!(((rd_T40 l0_0 x16_1).f0) == ((rd_T40 l1_0 x16_1).f0)) || (!(((rd_T40 l0_0 x16_1).f1) == ((rd_T40 l1_0 x16_1).f1)) || (!(((rd_T40 l0_0 x16_1).f2) == ((rd_T40 l1_0 x16_1).f2))))) = false := by simpa using c13
    clear c13
    have H' := Az_ H
    clear H
    have hnb17 := NB236_237.out
    have hnc17 := NB237_236.out
    have hcz18_0 := cz_ (x := .slice A0_0 l0_0.length c0_0) BK236 0
    have hfz18_0 := blk_frozen BK236.out 0
    have p238 : 0 ≤ (x16_1 : Int) := od_
    have q238 : x16_1 < (l0_0.length : Int) := od_
    obtain ⟨ad238, e238, hx238_0, hx238_1, hx238_2⟩ := at_T40 HR0_0.out x16_1 p238 q238
    cases e238
    replace hx238_0 := hbz_ HB.out hx238_0
    replace hx238_1 := hbz_ HB.out hx238_1
    replace hx238_2 := hbz_ HB.out hx238_2
    replace p238 := eq_true p238
    replace q238 := eq_true q238
    have hcz19_0 := cz_ (x := .slice A1_0 l1_0.length c1_0) BK237 0
    have hfz19_0 := blk_frozen BK237.out 0
    have p239 : 0 ≤ (x16_1 : Int) := od_
    have q239 : x16_1 < (l1_0.length : Int) := od_
    obtain ⟨ad239, e239, hx239_0, hx239_1, hx239_2⟩ := at_T40 HR1_0.out x16_1 p239 q239
    cases e239
    replace hx239_0 := hbz_ HB.out hx239_0
    replace hx239_1 := hbz_ HB.out hx239_1
    replace hx239_2 := hbz_ HB.out hx239_2
    replace p239 := eq_true p239
    replace q239 := eq_true q239
    go_wp2
    repeat (go_quiet (fail); try go_wp2)
    go_roundg k1
    case measure => have := HK1.out; omega
    case rel => exact ⟨(wrap64 (x16_1 + 1)), qaz_, H', ⟨w177_⟩, ⟨by (with_reducible repeat (first | refine knz_ ?_ _ | refine kdz_ ?_ | refine kaz_ ?_ _)); exact BK236.out⟩, ⟨by (with_reducible repeat (first | refine knz_ ?_ _ | refine kdz_ ?_ | refine kaz_ ?_ _)); exact BK237.out⟩, ⟨w129_⟩⟩
 ·rw [if_neg c3] at H
  have c3b0 : ((l0_0.length : Int) == (l1_0.length : Int)) = false := beq_eq_false_iff_ne.mpr c3
  have c3b1 : ((l0_0.length : Int) != (l1_0.length : Int)) = true := bne_iff_ne.mpr c3
  have c3b2 : (l0_0.length == l1_0.length) = false := by first | simpa using c3 | (simp at c3 ⊢; omega)
  obtain rfl := Option.some.inj H
  go_enter Tryd.func8, Tryd.ntmps8
  go_wp2_with (first | ((with_reducible refine gate_dst (N := 2) rfl ?_); refine bxe_ (N := 2) (cs := #[.slice A0_0 l0_0.length c0_0]) (t := 30) ?_; intro gb236 hg w20 BK236 hb; have GW236 := gez_ hg (ubz_ HB.out); have GE236 := GW236; replace HB := Az_ (btz_ (ubz_ HB.out) hb); clear hb hg) | ((with_reducible refine gate_dst (N := 3) rfl ?_); refine bxe_ (N := 3) (cs := #[.slice A1_0 l1_0.length c1_0]) (t := 30) ?_; intro gb237 hg w21 BK237 hb; obtain ⟨NB236_237, NB237_236⟩ := nez_ BK236 hg; have GW237 : Aside0 (w.heap.size ≤ gb237) := gez_ hg (w129_); have GE237 := GW237; replace HB := Az_ (btz_ (w129_) hb); replace BK236 := Az_ (ukbz_ BK236.out hb); clear hb hg; have hnb22 := NB236_237.out; have hnc22 := NB237_236.out; have hcz23_0 := cz_ (x := .slice A0_0 l0_0.length c0_0) BK236 0; have hfz23_0 := blk_frozen BK236.out 0; have hcz24_0 := cz_ (x := .slice A1_0 l1_0.length c1_0) BK237 0; have hfz24_0 := blk_frozen BK237.out 0))
  go_ret
  exact ⟨w166_, w129_⟩

def spec_IsHidden.f (a0_0 : Int) (a0_1 : Int) : Option (Bool) := (spec_pzBook.f a0_0 a0_1).bind fun t241 => (some t241)
set_option maxHeartbeats 8000000 in
set_option maxRecDepth 100000 in
theorem spec_IsHidden.calls (a0_0 : Int) (a0_1 : Int) (r : Bool) (w : World) (h : spec_IsHidden.f a0_0 a0_1 = some r) :
  Calls Tryd.prog 10 #[.agg #[.int .i64 a0_0, .int .i64 a0_1]] w fun e w' => e = .returned (.bool r) ∧ Below w.heap.size w w' := by
 have hu25 := Tryd.underlying25
 have HB := Az_ (Below.refl w.heap.size w)
 have H : ((spec_pzBook.f a0_0 a0_1).bind fun t241 => (some t241)) = some r := h
 clear h
 replace H := bqz_ H; obtain ⟨t241, A2, H⟩ := H
 replace H : (some t241) = some r := H
 obtain rfl := Option.some.inj H
 go_enter Tryd.func10, Tryd.ntmps10
 go_wp2_with (first | ((with_reducible refine gate_dst (N := 1) rfl ?_); refine bxe_ (N := 1) (cs := #[.int .i64 a0_0, .int .i64 a0_1]) (t := 25) ?_; intro gb240 hg w3 BK240 hb; have GW240 := gez_ hg (ubz_ HB.out); have GE240 := GW240; replace HB := Az_ (btz_ (ubz_ HB.out) hb); clear hb hg; have hcz4_0 := cz_ (x := .int .i64 a0_0) BK240 0; have hcz4_1 := cz_ (x := .int .i64 a0_1) BK240 1; have hfz4_0 := blk_frozen BK240.out 0; have hfz4_1 := blk_frozen BK240.out 1) | ((with_reducible refine gate_callee (f := 42) rfl ?_); refine goesL_ (some 4) rfl rfl Tryd.func42 (w204_) rfl #[.agg #[.int .i64 a0_0, .int .i64 a0_1]] rfl maz_ ?_; (with_reducible refine (spec_pzBook.calls a0_0 a0_1 t241 _ A2.out).mono ?_); rintro e w5 ⟨rfl, hb⟩; refine ⟨_, rfl, ?_⟩; have n1_ := Az_ (btz_ (w129_) hb); clear HB; replace BK240 := Az_ (ukbz_ BK240.out hb); have HB := n1_; clear n1_; (try clear hb)))
 go_ret
 exact ⟨w166_, w129_⟩

def impl_isBook.f (a0 : Int) : Option (Bool) := (impl_within.f a0 1 2000).bind fun t242 => (some t242)
set_option maxHeartbeats 8000000 in
set_option maxRecDepth 100000 in
theorem impl_isBook.calls (a0 : Int) (r : Bool) (w : World) (h : impl_isBook.f a0 = some r) :
  Calls Tryd.prog 46 #[.int .i64 a0] w fun e w' => e = .returned (.bool r) ∧ Drawn0 w w' := by
 have H : ((impl_within.f a0 1 2000).bind fun t242 => (some t242)) = some r := h
 clear h
 replace H := bqz_ H; obtain ⟨t242, A2, H⟩ := H
 replace H : (some t242) = some r := H
 obtain rfl := Option.some.inj H
 go_enter Tryd.func46, Tryd.ntmps46
 go_wp2_with (((with_reducible refine gate_callee (f := 39) rfl ?_); refine goesL_ (some 4) rfl rfl Tryd.func39 (w204_) rfl #[.int .i64 a0, .int .i64 1, .int .i64 2000] rfl maz_ ?_; (with_reducible refine (impl_within.calls a0 1 2000 t242 _ A2.out).mono ?_); rintro e w' ⟨rfl, ⟨nd, rfl⟩⟩; refine ⟨_, rfl, ?_⟩))
 go_ret
 exact ⟨w171_, w168_⟩

def impl_sumOf.f (a0 : Int) : Option (Int) := some (wrap64 (Int.tdiv (wrap64 (a0 * (wrap64 (a0 + 1)))) 2))
set_option maxHeartbeats 8000000 in
set_option maxRecDepth 100000 in
theorem impl_sumOf.calls (a0 : Int) (r : Int) (w : World) (h : impl_sumOf.f a0 = some r) :
  Calls Tryd.prog 47 #[.int .i64 a0] w fun e w' => e = .returned (.int .i64 r) ∧ Drawn0 w w' := by
 have H : (some (wrap64 (Int.tdiv (wrap64 (a0 * (wrap64 (a0 + 1)))) 2))) = some r := h
 clear h
 obtain rfl := Option.some.inj H
 go_enter Tryd.func47, Tryd.ntmps47
 go_wp2
 go_ret
 exact ⟨w171_, w168_⟩

def impl_SumOfPages.f (a0 : Int) : Option (Int × Bool) := (impl_isBook.f a0).bind fun t243 => (if t243 = true then ((impl_sumOf.f a0).bind fun t244 => (some (t244, true))) else (some (0, false)))
set_option maxHeartbeats 8000000 in
set_option maxRecDepth 100000 in
theorem impl_SumOfPages.calls (a0 : Int) (r1 : Int) (r2 : Bool) (w : World) (h : impl_SumOfPages.f a0 = some (r1, r2)) :
  Calls Tryd.prog 11 #[.int .i64 a0] w fun e w' => e = .returned (.tuple #[.int .i64 r1, .bool r2]) ∧ Drawn0 w w' := by
 have H : ((impl_isBook.f a0).bind fun t243 => (if t243 = true then ((impl_sumOf.f a0).bind fun t244 => (some (t244, true))) else (some (0, false)))) = some (r1, r2) := h
 clear h
 replace H := bqz_ H; obtain ⟨t243, A2, H⟩ := H
 replace H : (if t243 = true then ((impl_sumOf.f a0).bind fun t244 => (some (t244, true))) else (some (0, false))) = some (r1, r2) := H
 by_cases c3 : t243 = true
 ·subst c3
  rw [if_pos rfl] at H
  replace H := bqz_ H; obtain ⟨t244, A4, H⟩ := H
  replace H : (some (t244, true)) = some (r1, r2) := H
  simp only [Option.some.injEq, Prod.mk.injEq] at H
  obtain ⟨rfl, rfl⟩ := H
  go_enter Tryd.func11, Tryd.ntmps11
  go_wp2_with (first | ((with_reducible refine gate_callee (f := 46) rfl ?_); refine goesL_ (some 5) rfl rfl Tryd.func46 (w204_) rfl #[.int .i64 a0] rfl maz_ ?_; (with_reducible refine (impl_isBook.calls a0 true _ A2.out).mono ?_); rintro e w' ⟨rfl, ⟨nd, rfl⟩⟩; refine ⟨_, rfl, ?_⟩) | ((with_reducible refine gate_callee (f := 47) rfl ?_); refine goesL_ (some 8) rfl rfl Tryd.func47 (w204_) rfl #[.int .i64 a0] rfl maz_ ?_; (with_reducible refine (impl_sumOf.calls a0 t244 _ A4.out).mono ?_); rintro e w' ⟨rfl, ⟨nd, rfl⟩⟩; refine ⟨_, rfl, ?_⟩))
  go_ret2
  exact ⟨w171_, w168_⟩
 ·replace c3 := Bool.eq_false_iff.mpr c3
  subst c3
  rw [if_neg nfz_] at H
  simp only [Option.some.injEq, Prod.mk.injEq] at H
  obtain ⟨rfl, rfl⟩ := H
  go_enter Tryd.func11, Tryd.ntmps11
  go_wp2_with (((with_reducible refine gate_callee (f := 46) rfl ?_); refine goesL_ (some 5) rfl rfl Tryd.func46 (w204_) rfl #[.int .i64 a0] rfl maz_ ?_; (with_reducible refine (impl_isBook.calls a0 false _ A2.out).mono ?_); rintro e w' ⟨rfl, ⟨nd, rfl⟩⟩; refine ⟨_, rfl, ?_⟩))
  go_ret2
  exact ⟨w171_, w168_⟩

def impl_isLeaf.f (a0 : Int) : Option (Bool) := (impl_within.f a0 1 1000).bind fun t245 => (some t245)
set_option maxHeartbeats 8000000 in
set_option maxRecDepth 100000 in
theorem impl_isLeaf.calls (a0 : Int) (r : Bool) (w : World) (h : impl_isLeaf.f a0 = some r) :
  Calls Tryd.prog 48 #[.int .i64 a0] w fun e w' => e = .returned (.bool r) ∧ Drawn0 w w' := by
 have H : ((impl_within.f a0 1 1000).bind fun t245 => (some t245)) = some r := h
 clear h
 replace H := bqz_ H; obtain ⟨t245, A2, H⟩ := H
 replace H : (some t245) = some r := H
 obtain rfl := Option.some.inj H
 go_enter Tryd.func48, Tryd.ntmps48
 go_wp2_with (((with_reducible refine gate_callee (f := 39) rfl ?_); refine goesL_ (some 4) rfl rfl Tryd.func39 (w204_) rfl #[.int .i64 a0, .int .i64 1, .int .i64 1000] rfl maz_ ?_; (with_reducible refine (impl_within.calls a0 1 1000 t245 _ A2.out).mono ?_); rintro e w' ⟨rfl, ⟨nd, rfl⟩⟩; refine ⟨_, rfl, ?_⟩))
 go_ret
 exact ⟨w171_, w168_⟩

def impl_SumOfLeaf.f (a0 : Int) : Option (Int × Bool) := (impl_isLeaf.f a0).bind fun t246 => (if t246 = true then (some (wrap64 ((wrap64 (4 * a0)) - 1), true)) else (some (0, false)))
set_option maxHeartbeats 8000000 in
set_option maxRecDepth 100000 in
theorem impl_SumOfLeaf.calls (a0 : Int) (r1 : Int) (r2 : Bool) (w : World) (h : impl_SumOfLeaf.f a0 = some (r1, r2)) :
  Calls Tryd.prog 12 #[.int .i64 a0] w fun e w' => e = .returned (.tuple #[.int .i64 r1, .bool r2]) ∧ Drawn0 w w' := by
 have H : ((impl_isLeaf.f a0).bind fun t246 => (if t246 = true then (some (wrap64 ((wrap64 (4 * a0)) - 1), true)) else (some (0, false)))) = some (r1, r2) := h
 clear h
 replace H := bqz_ H; obtain ⟨t246, A2, H⟩ := H
 replace H : (if t246 = true then (some (wrap64 ((wrap64 (4 * a0)) - 1), true)) else (some (0, false))) = some (r1, r2) := H
 by_cases c3 : t246 = true
 ·subst c3
  rw [if_pos rfl] at H
  simp only [Option.some.injEq, Prod.mk.injEq] at H
  obtain ⟨rfl, rfl⟩ := H
  go_enter Tryd.func12, Tryd.ntmps12
  go_wp2_with (((with_reducible refine gate_callee (f := 48) rfl ?_); refine goesL_ (some 5) rfl rfl Tryd.func48 (w204_) rfl #[.int .i64 a0] rfl maz_ ?_; (with_reducible refine (impl_isLeaf.calls a0 true _ A2.out).mono ?_); rintro e w' ⟨rfl, ⟨nd, rfl⟩⟩; refine ⟨_, rfl, ?_⟩))
  go_ret2
  exact ⟨w171_, w168_⟩
 ·replace c3 := Bool.eq_false_iff.mpr c3
  subst c3
  rw [if_neg nfz_] at H
  simp only [Option.some.injEq, Prod.mk.injEq] at H
  obtain ⟨rfl, rfl⟩ := H
  go_enter Tryd.func12, Tryd.ntmps12
  go_wp2_with (((with_reducible refine gate_callee (f := 48) rfl ?_); refine goesL_ (some 5) rfl rfl Tryd.func48 (w204_) rfl #[.int .i64 a0] rfl maz_ ?_; (with_reducible refine (impl_isLeaf.calls a0 false _ A2.out).mono ?_); rintro e w' ⟨rfl, ⟨nd, rfl⟩⟩; refine ⟨_, rfl, ?_⟩))
  go_ret2
  exact ⟨w171_, w168_⟩


def impl_IsClue.j0 : Nat → Int → Bool → Int → Int → Int → Option (Bool)
 | 0, _, _, _, _, _ => none
 | k + 1, x8, x9, x248000, x248001, x248002 => if x9 = true then (some (x248001 == 0)) else (if x8 = 2 then ((impl_within.f x248001 0 9).bind fun t249 => (some t249)) else (if x8 = 3 then ((impl_within.f x248001 1 40).bind fun t250 => (if t250 = true then (some (decide (x248002 ≤ 1))) else (some false))) else (if x8 = 4 then ((impl_within.f x248001 2 9).bind fun t251 => (if t251 = true then (some (decide (x248002 ≤ 1))) else (some false))) else (some false))))
def impl_IsClue.f (k : Nat) (a0_0 : Int) (a0_1 : Int) (a0_2 : Int) : Option (Bool) := (impl_within.f a0_2 0 1000).bind fun t248 => (if t248 = true then (if a0_0 = 0 then (impl_IsClue.j0 k a0_0 (a0_0 == 0) a0_0 a0_1 a0_2) else (if a0_0 = 1 then (impl_IsClue.j0 k a0_0 (a0_0 == 1) a0_0 a0_1 a0_2) else (impl_IsClue.j0 k a0_0 (a0_0 == 5) a0_0 a0_1 a0_2))) else (some false))
theorem impl_IsClue.mono_l : ∀ k, (∀ y0 y1 y2 y3 y4, LeO (impl_IsClue.j0 k y0 y1 y2 y3 y4) (impl_IsClue.j0 (k + 1) y0 y1 y2 y3 y4))
 | 0 => fun _ _ _ _ _ r h => by simp [impl_IsClue.j0] at h
 | k + 1 => by
  have ih0 := impl_IsClue.mono_l k
  ·intro y0 y1 y2 y3 y4
   unfold impl_IsClue.j0
   repeat' (with_reducible first | exact ih0 _ _ _ _ _ | exact LeO.refl _ | exact LeO.none _ | refine LeO.ite ?_ ?_ | refine LeO.bind ?_ (fun _ => ?_))
theorem impl_IsClue.mono : ∀ a0 a1 a2 k, LeO (impl_IsClue.f k a0 a1 a2) (impl_IsClue.f (k + 1) a0 a1 a2) := by
 intro a0 a1 a2 k
 have ih0 := impl_IsClue.mono_l k
 unfold impl_IsClue.f
 repeat' (with_reducible first | exact ih0 _ _ _ _ _ | exact LeO.refl _ | exact LeO.none _ | refine LeO.ite ?_ ?_ | refine LeO.bind ?_ (fun _ => ?_))
set_option maxHeartbeats 8000000 in
set_option maxRecDepth 100000 in
theorem impl_IsClue.calls (k : Nat) (a0_0 : Int) (a0_1 : Int) (a0_2 : Int) (r : Bool) (w : World) (h : impl_IsClue.f k a0_0 a0_1 a0_2 = some r) :
  Calls Tryd.prog 33 #[.agg #[.int .i64 a0_0, .int .i64 a0_1, .int .i64 a0_2]] w fun e w' => e = .returned (.bool r) ∧ Below w.heap.size w w' := by
 have hu40 := Tryd.underlying40
 have HB := Az_ (Below.refl w.heap.size w)
 have H : ((impl_within.f a0_2 0 1000).bind fun t248 => (if t248 = true then (if a0_0 = 0 then (j0 k a0_0 (a0_0 == 0) a0_0 a0_1 a0_2) else (if a0_0 = 1 then (j0 k a0_0 (a0_0 == 1) a0_0 a0_1 a0_2) else (j0 k a0_0 (a0_0 == 5) a0_0 a0_1 a0_2))) else (some false))) = some r := h
 clear h
 replace H := bqz_ H; obtain ⟨t248, A2, H⟩ := H
 replace H : (if t248 = true then (if a0_0 = 0 then (j0 k a0_0 (a0_0 == 0) a0_0 a0_1 a0_2) else (if a0_0 = 1 then (j0 k a0_0 (a0_0 == 1) a0_0 a0_1 a0_2) else (j0 k a0_0 (a0_0 == 5) a0_0 a0_1 a0_2))) else (some false)) = some r := H
 by_cases c3 : t248 = true
 ·subst c3
  rw [if_pos rfl] at H
  have HC4 := Az_ H
  clear H
  go_enter Tryd.func33, Tryd.ntmps33
  go_upto_if 9 with (first | ((with_reducible refine gate_dst (N := 1) rfl ?_); refine bxe_ (N := 1) (cs := #[.int .i64 a0_0, .int .i64 a0_1, .int .i64 a0_2]) (t := 40) ?_; intro gb247 hg w5 BK247 hb; have GW247 := gez_ hg (ubz_ HB.out); have GE247 := GW247; replace HB := Az_ (btz_ (ubz_ HB.out) hb); clear hb hg; have hcz6_0 := cz_ (x := .int .i64 a0_0) BK247 0; have hcz6_1 := cz_ (x := .int .i64 a0_1) BK247 1; have hcz6_2 := cz_ (x := .int .i64 a0_2) BK247 2; have hfz6_0 := blk_frozen BK247.out 0; have hfz6_1 := blk_frozen BK247.out 1; have hfz6_2 := blk_frozen BK247.out 2) | ((with_reducible refine gate_callee (f := 39) rfl ?_); refine goesL_ (some 5) rfl rfl Tryd.func39 (w204_) rfl #[.int .i64 a0_2, .int .i64 0, .int .i64 1000] rfl maz_ ?_; (with_reducible refine (impl_within.calls a0_2 0 1000 true _ A2.out).mono ?_); rintro e w' ⟨rfl, ⟨nd, rfl⟩⟩; refine ⟨_, rfl, ?_⟩))
  (try simp only [Act.put, List.setIfInBounds_toArray, List.set_cons_zero, List.set_cons_succ])
  go_cut [9] (fun v9 wc => ∃ (kq : Nat) (x9_3 : Bool), v9 = .bool x9_3 ∧ Aside0 (j0 kq a0_0 x9_3 a0_0 a0_1 a0_2 = some r) ∧ Aside0 (kq ≤ k) ∧ Aside0 (wc.heap[gb247]? = some (.cells #[.int .i64 a0_0, .int .i64 a0_1, .int .i64 a0_2] 40 (0, 0))) ∧ Aside0 (Below w.heap.size w wc))
  case first =>
   have H := HC4.out
   clear HC4
   by_cases c7 : a0_0 = 0
   ·rw [if_pos c7] at H
    have c7b0 : (a0_0 == 0) = true := beq_iff_eq.mpr c7
    have c7b1 : (a0_0 != 0) = false := bne_eq_false_iff_eq.mpr c7
    clear c7
    (first | rw [c7b0] | (simp only [i64_w, i32_w]; rw [c7b0]) | skip)
    have H' := Az_ H
    clear H
    go_wp2
    go_meet
    case rel => exact ⟨_, ((a0_0 == 0)), qaz_, H', ⟨w173_⟩, ⟨w151_⟩, ⟨w129_⟩⟩
   rw [if_neg c7] at H
   have c7b0 : (a0_0 == 0) = false := beq_eq_false_iff_ne.mpr c7
   have c7b1 : (a0_0 != 0) = true := bne_iff_ne.mpr c7
   (first | rw [c7b0] | (simp only [i64_w, i32_w]; rw [c7b0]) | skip)
   by_cases c8 : a0_0 = 1; rotate_left
   ·rw [if_neg c8] at H
    have c8b0 : (a0_0 == 1) = false := beq_eq_false_iff_ne.mpr c8
    have c8b1 : (a0_0 != 1) = true := bne_iff_ne.mpr c8
    have H' := Az_ H
    clear H
    go_wp2
    go_meet
    case rel => exact ⟨_, ((a0_0 == 5)), qaz_, H', ⟨w173_⟩, ⟨w151_⟩, ⟨w129_⟩⟩
   rw [if_pos c8] at H
   have c8b0 : (a0_0 == 1) = true := beq_iff_eq.mpr c8
   have c8b1 : (a0_0 != 1) = false := bne_eq_false_iff_eq.mpr c8
   clear c8
   have H' := Az_ H
   clear H
   go_wp2
   go_meet
   case rel => exact ⟨_, ((a0_0 == 1)), qaz_, H', ⟨w173_⟩, ⟨w151_⟩, ⟨w129_⟩⟩
  case rest =>
   clear HC4
   clear hcz6_0 hcz6_1 hcz6_2 hfz6_0 hfz6_1 hfz6_2
   obtain ⟨kq, x9_3, rfl, HA, HJ3, BK247, HB⟩ := hcut
   cases kq with
   | zero => exact absurd HA.out (by simp [j0])
   | succ kj3 =>
    have H := HA.out
    clear HA
    simp only [j0] at H
    by_cases c9 : x9_3 = true
    ·subst c9
     rw [if_pos rfl] at H
     obtain rfl := Option.some.inj H
     have hcz10_0 := cz_ (x := .int .i64 a0_0) BK247 0
     have hcz10_1 := cz_ (x := .int .i64 a0_1) BK247 1
     have hcz10_2 := cz_ (x := .int .i64 a0_2) BK247 2
     have hfz10_0 := blk_frozen BK247.out 0
     have hfz10_1 := blk_frozen BK247.out 1
     have hfz10_2 := blk_frozen BK247.out 2
     go_wp2
     go_ret
     exact ⟨w166_, w129_⟩
    replace c9 := Bool.eq_false_iff.mpr c9
    subst c9
    rw [if_neg nfz_] at H
    by_cases c11 : a0_0 = 2
    ·rw [if_pos c11] at H
     have c11b0 : (a0_0 == 2) = true := beq_iff_eq.mpr c11
     have c11b1 : (a0_0 != 2) = false := bne_eq_false_iff_eq.mpr c11
     clear c11
     replace H := bqz_ H; obtain ⟨t249, A12, H⟩ := H
     replace H : (some t249) = some r := H
     obtain rfl := Option.some.inj H
     have hcz13_0 := cz_ (x := .int .i64 a0_0) BK247 0
     have hcz13_1 := cz_ (x := .int .i64 a0_1) BK247 1
     have hcz13_2 := cz_ (x := .int .i64 a0_2) BK247 2
     have hfz13_0 := blk_frozen BK247.out 0
     have hfz13_1 := blk_frozen BK247.out 1
     have hfz13_2 := blk_frozen BK247.out 2
     go_wp2_with (((with_reducible refine gate_callee (f := 39) rfl ?_); refine goesL_ (some 20) rfl rfl Tryd.func39 (w204_) rfl #[.int .i64 a0_1, .int .i64 0, .int .i64 9] rfl maz_ ?_; (with_reducible refine (impl_within.calls a0_1 0 9 t249 _ A12.out).mono ?_); rintro e w' ⟨rfl, ⟨nd, rfl⟩⟩; refine ⟨_, rfl, ?_⟩))
     go_ret
     exact ⟨w166_, w129_⟩
    rw [if_neg c11] at H
    have c11b0 : (a0_0 == 2) = false := beq_eq_false_iff_ne.mpr c11
    have c11b1 : (a0_0 != 2) = true := bne_iff_ne.mpr c11
    by_cases c14 : a0_0 = 3
    ·rw [if_pos c14] at H
     have c14b0 : (a0_0 == 3) = true := beq_iff_eq.mpr c14
     have c14b1 : (a0_0 != 3) = false := bne_eq_false_iff_eq.mpr c14
     clear c14
     replace H := bqz_ H; obtain ⟨t250, A15, H⟩ := H
     replace H : (if t250 = true then (some (decide (a0_2 ≤ 1))) else (some false)) = some r := H
     by_cases c16 : t250 = true
     ·subst c16
      rw [if_pos rfl] at H
      obtain rfl := Option.some.inj H
      have hcz17_0 := cz_ (x := .int .i64 a0_0) BK247 0
      have hcz17_1 := cz_ (x := .int .i64 a0_1) BK247 1
      have hcz17_2 := cz_ (x := .int .i64 a0_2) BK247 2
      have hfz17_0 := blk_frozen BK247.out 0
      have hfz17_1 := blk_frozen BK247.out 1
      have hfz17_2 := blk_frozen BK247.out 2
      go_wp2_with (((with_reducible refine gate_callee (f := 39) rfl ?_); refine goesL_ (some 25) rfl rfl Tryd.func39 (w204_) rfl #[.int .i64 a0_1, .int .i64 1, .int .i64 40] rfl maz_ ?_; (with_reducible refine (impl_within.calls a0_1 1 40 true _ A15.out).mono ?_); rintro e w' ⟨rfl, ⟨nd, rfl⟩⟩; refine ⟨_, rfl, ?_⟩))
      go_ret
      exact ⟨w166_, w129_⟩
     replace c16 := Bool.eq_false_iff.mpr c16
     subst c16
     rw [if_neg nfz_] at H
     obtain rfl := Option.some.inj H
     have hcz18_0 := cz_ (x := .int .i64 a0_0) BK247 0
     have hcz18_1 := cz_ (x := .int .i64 a0_1) BK247 1
     have hcz18_2 := cz_ (x := .int .i64 a0_2) BK247 2
     have hfz18_0 := blk_frozen BK247.out 0
     have hfz18_1 := blk_frozen BK247.out 1
     have hfz18_2 := blk_frozen BK247.out 2
     go_wp2_with (((with_reducible refine gate_callee (f := 39) rfl ?_); refine goesL_ (some 25) rfl rfl Tryd.func39 (w204_) rfl #[.int .i64 a0_1, .int .i64 1, .int .i64 40] rfl maz_ ?_; (with_reducible refine (impl_within.calls a0_1 1 40 false _ A15.out).mono ?_); rintro e w' ⟨rfl, ⟨nd, rfl⟩⟩; refine ⟨_, rfl, ?_⟩))
     go_ret
     exact ⟨w166_, w129_⟩
    rw [if_neg c14] at H
    have c14b0 : (a0_0 == 3) = false := beq_eq_false_iff_ne.mpr c14
    have c14b1 : (a0_0 != 3) = true := bne_iff_ne.mpr c14
    by_cases c19 : a0_0 = 4; rotate_left
    ·rw [if_neg c19] at H
     have c19b0 : (a0_0 == 4) = false := beq_eq_false_iff_ne.mpr c19
     have c19b1 : (a0_0 != 4) = true := bne_iff_ne.mpr c19
     obtain rfl := Option.some.inj H
     go_wp2
     go_ret
     exact ⟨w166_, w129_⟩
    rw [if_pos c19] at H
    have c19b0 : (a0_0 == 4) = true := beq_iff_eq.mpr c19
    have c19b1 : (a0_0 != 4) = false := bne_eq_false_iff_eq.mpr c19
    clear c19
    replace H := bqz_ H; obtain ⟨t251, A20, H⟩ := H
    replace H : (if t251 = true then (some (decide (a0_2 ≤ 1))) else (some false)) = some r := H
    by_cases c21 : t251 = true
    ·subst c21
     rw [if_pos rfl] at H
     obtain rfl := Option.some.inj H
     have hcz22_0 := cz_ (x := .int .i64 a0_0) BK247 0
     have hcz22_1 := cz_ (x := .int .i64 a0_1) BK247 1
     have hcz22_2 := cz_ (x := .int .i64 a0_2) BK247 2
     have hfz22_0 := blk_frozen BK247.out 0
     have hfz22_1 := blk_frozen BK247.out 1
     have hfz22_2 := blk_frozen BK247.out 2
     go_wp2_with (((with_reducible refine gate_callee (f := 39) rfl ?_); refine goesL_ (some 35) rfl rfl Tryd.func39 (w204_) rfl #[.int .i64 a0_1, .int .i64 2, .int .i64 9] rfl maz_ ?_; (with_reducible refine (impl_within.calls a0_1 2 9 true _ A20.out).mono ?_); rintro e w' ⟨rfl, ⟨nd, rfl⟩⟩; refine ⟨_, rfl, ?_⟩))
     go_ret
     exact ⟨w166_, w129_⟩
    replace c21 := Bool.eq_false_iff.mpr c21
    subst c21
    rw [if_neg nfz_] at H
    obtain rfl := Option.some.inj H
    have hcz23_0 := cz_ (x := .int .i64 a0_0) BK247 0
    have hcz23_1 := cz_ (x := .int .i64 a0_1) BK247 1
    have hcz23_2 := cz_ (x := .int .i64 a0_2) BK247 2
    have hfz23_0 := blk_frozen BK247.out 0
    have hfz23_1 := blk_frozen BK247.out 1
    have hfz23_2 := blk_frozen BK247.out 2
    go_wp2_with (((with_reducible refine gate_callee (f := 39) rfl ?_); refine goesL_ (some 35) rfl rfl Tryd.func39 (w204_) rfl #[.int .i64 a0_1, .int .i64 2, .int .i64 9] rfl maz_ ?_; (with_reducible refine (impl_within.calls a0_1 2 9 false _ A20.out).mono ?_); rintro e w' ⟨rfl, ⟨nd, rfl⟩⟩; refine ⟨_, rfl, ?_⟩))
    go_ret
    exact ⟨w166_, w129_⟩
 ·replace c3 := Bool.eq_false_iff.mpr c3
  subst c3
  rw [if_neg nfz_] at H
  obtain rfl := Option.some.inj H
  go_enter Tryd.func33, Tryd.ntmps33
  go_wp2_with (first | ((with_reducible refine gate_dst (N := 1) rfl ?_); refine bxe_ (N := 1) (cs := #[.int .i64 a0_0, .int .i64 a0_1, .int .i64 a0_2]) (t := 40) ?_; intro gb247 hg w24 BK247 hb; have GW247 := gez_ hg (ubz_ HB.out); have GE247 := GW247; replace HB := Az_ (btz_ (ubz_ HB.out) hb); clear hb hg; have hcz25_0 := cz_ (x := .int .i64 a0_0) BK247 0; have hcz25_1 := cz_ (x := .int .i64 a0_1) BK247 1; have hcz25_2 := cz_ (x := .int .i64 a0_2) BK247 2; have hfz25_0 := blk_frozen BK247.out 0; have hfz25_1 := blk_frozen BK247.out 1; have hfz25_2 := blk_frozen BK247.out 2) | ((with_reducible refine gate_callee (f := 39) rfl ?_); refine goesL_ (some 5) rfl rfl Tryd.func39 (w204_) rfl #[.int .i64 a0_2, .int .i64 0, .int .i64 1000] rfl maz_ ?_; (with_reducible refine (impl_within.calls a0_2 0 1000 false _ A2.out).mono ?_); rintro e w' ⟨rfl, ⟨nd, rfl⟩⟩; refine ⟨_, rfl, ?_⟩))
  go_ret
  exact ⟨w166_, w129_⟩

def impl_Hidden_fits.f (k : Nat) (a0_0 : Int) (a0_1 : Int) (a1_0 : Int) (a1_1 : Int) (a1_2 : Int) : Option (Bool) := (impl_Hidden_tells.f k a0_0 a0_1 a1_0 a1_1).bind fun t254 => (some (t254 == a1_2))
theorem impl_Hidden_fits.mono : ∀ a0 a1 a2 a3 a4 k, LeO (impl_Hidden_fits.f k a0 a1 a2 a3 a4) (impl_Hidden_fits.f (k + 1) a0 a1 a2 a3 a4) := by
 intro a0 a1 a2 a3 a4 k
 unfold impl_Hidden_fits.f
 repeat' (with_reducible first | exact impl_Hidden_tells.mono _ _ _ _ _ | exact LeO.refl _ | exact LeO.none _ | refine LeO.ite ?_ ?_ | refine LeO.bind ?_ (fun _ => ?_))
def impl_Hidden_fits.T1 : Bool × List (List Nat × List Nat) := (true, [([], []), ([], []), ([1], [1]), ([], []), ([3], [3]), ([0, 2, 4], [0, 2, 4]), ([], []), ([6], [6]), ([5, 7], [5, 7]), ([8, 5, 0, 1, 2, 3, 4, 5, 6, 7, 8], [8])])
def impl_Hidden_fits.B1 : List Nat := [0, 0, 2, 0, 8, 31, 0, 64, 255, 511]
theorem impl_Hidden_fits.tab1 : rtab .any (opsOf Tryd.f49 1) = impl_Hidden_fits.T1 := by kernel_rfl
theorem impl_Hidden_fits.bits1 : waitsOk impl_Hidden_fits.T1.2 impl_Hidden_fits.B1 = true := by kernel_rfl
set_option maxHeartbeats 8000000 in
set_option maxRecDepth 100000 in
theorem impl_Hidden_fits.calls (k : Nat) (a0_0 : Int) (a0_1 : Int) (a1_0 : Int) (a1_1 : Int) (a1_2 : Int) (r : Bool) (w : World) (h : impl_Hidden_fits.f k a0_0 a0_1 a1_0 a1_1 a1_2 = some r) :
  Calls Tryd.prog 49 #[.agg #[.int .i64 a0_0, .int .i64 a0_1], .agg #[.int .i64 a1_0, .int .i64 a1_1, .int .i64 a1_2]] w fun e w' => e = .returned (.bool r) ∧ Below w.heap.size w w' := by
 have hu25 := Tryd.underlying25
 have hu40 := Tryd.underlying40
 have HB := Az_ (Below.refl w.heap.size w)
 have H : ((impl_Hidden_tells.f k a0_0 a0_1 a1_0 a1_1).bind fun t254 => (some (t254 == a1_2))) = some r := h
 clear h
 replace H := bqz_ H; obtain ⟨t254, A3, H⟩ := H
 replace H : (some (t254 == a1_2)) = some r := H
 obtain rfl := Option.some.inj H
 go_enter Tryd.func49, Tryd.ntmps49
 try go_wp2_with (first | ((with_reducible refine gate_dst (N := 2) rfl ?_); refine bxe_ (N := 2) (cs := #[.int .i64 a0_0, .int .i64 a0_1]) (t := 25) ?_; intro gb252 hg w4 BK252 hb; have GW252 := gez_ hg (ubz_ HB.out); have GE252 := GW252; replace HB := Az_ (btz_ (ubz_ HB.out) hb); clear hb hg) | ((with_reducible refine gate_dst (N := 3) rfl ?_); refine bxe_ (N := 3) (cs := #[.int .i64 a1_0, .int .i64 a1_1, .int .i64 a1_2]) (t := 40) ?_; intro gb253 hg w5 BK253 hb; obtain ⟨NB252_253, NB253_252⟩ := nez_ BK252 hg; have GW253 : Aside0 (w.heap.size ≤ gb253) := gez_ hg (w129_); have GE253 := GW253; replace HB := Az_ (btz_ (w129_) hb); replace BK252 := Az_ (ukbz_ BK252.out hb); clear hb hg))
 replace BK252 := Az_ (kdz_ BK252.out)
 replace BK253 := Az_ (kdz_ BK253.out)
 replace HB := Az_ (bdz_ HB.out)
 refine start_ (n := 10) (S := fun w' => w'.cell? ⟨gb252, 0, none⟩ = some (.int .i64 a0_0) ∧ w'.cell? ⟨gb252, 1, none⟩ = some (.int .i64 a0_1) ∧ w'.cell? ⟨gb253, 0, none⟩ = some (.int .i64 a1_0) ∧ w'.cell? ⟨gb253, 1, none⟩ = some (.int .i64 a1_1) ∧ w'.cell? ⟨gb253, 2, none⟩ = some (.int .i64 a1_2)) (ds := []) #[false, false, false, false, false, false, false, false, false, false] (w204_) rfl rfl ⟨(blk_cell BK252.out 0).trans rfl, (blk_cell BK252.out 1).trans rfl, (blk_cell BK253.out 0).trans rfl, (blk_cell BK253.out 1).trans rfl, (blk_cell BK253.out 2).trans rfl⟩ (fun hHeld => ?_); refine with_tabW impl_Hidden_fits.tab1 impl_Hidden_fits.bits1 (fun HT_ HW_ => ?_)
 generalize w5.drew = w6 at BK252 BK253 HB hHeld ⊢
 refine pz_ 1 6 [0,1,1,8] ?_
 refine pz_ 3 8 [0,1,1,1,1,6] ?_
 refine pz_ 6 11 [0,1,1,1,1,2,1,3] ?_
 refine take_ (i := 0) (N := some 5) (v := ?_) (a' := ?_) (mz_ [2,1,1,2,1,3]) rfl rfl (take_ofW HT_.out HW_.out (w204_)) (fun _ _ _ h => h) (Or.inl ⟨by rfl, ?_⟩) hHeld ?_ ?_
 rotate_left
 ·rintro w' ⟨s0, s1, s2, s3, s4⟩
  go_simp
  with_reducible rfl
 rotate_left
 ·simp only [Act.put, usz_, utz_, uvz_, i64_w, i32_w]
  rfl
 refine take_ (i := 2) (N := some 7) (v := ?_) (a' := ?_) (mz_ [4,2,1,3]) rfl rfl (take_ofW HT_.out HW_.out (w204_)) (fun _ _ _ h => h) (Or.inl ⟨by rfl, ?_⟩) hHeld ?_ ?_
 rotate_left
 ·rintro w' ⟨s0, s1, s2, s3, s4⟩
  go_simp
  with_reducible rfl
 rotate_left
 ·simp only [Act.put, usz_, utz_, uvz_, i64_w, i32_w]
  rfl
 refine take_ (i := 4) (N := some 9) (v := ?_) (a' := ?_) (mz_ [5,1,1,3]) rfl rfl (take_ofW HT_.out HW_.out (w204_)) (fun _ _ _ h => h) (Or.inl ⟨by rfl, ?_⟩) hHeld ?_ ?_
 rotate_left
 ·rintro w' ⟨s0, s1, s2, s3, s4⟩
  go_simp
  with_reducible rfl
 rotate_left
 ·simp only [Act.put, usz_, utz_, uvz_, i64_w, i32_w]
  rfl
 refine take_ (i := 7) (N := some 12) (v := ?_) (a' := ?_) (mz_ [5,1,2,2]) rfl rfl (take_ofW HT_.out HW_.out (w204_)) (fun _ _ _ h => h) (Or.inl ⟨by rfl, ?_⟩) hHeld ?_ ?_
 rotate_left
 ·rintro w' ⟨s0, s1, s2, s3, s4⟩
  go_simp
  with_reducible rfl
 rotate_left
 ·simp only [Act.put, usz_, utz_, uvz_, i64_w, i32_w]
  rfl
 refine one_ (i := 5) (N := some 10) (mz_ [8,2]) rfl rfl (one_of HT_.out (w204_)) (by decide) (fun K hK => ?_)
 refine goes_ Tryd.func41 (w204_) rfl #[.agg #[.int .i64 a0_0, .int .i64 a0_1], .int .i64 a1_0, .int .i64 a1_1] (by rfl) rfl rfl maz_ ?_
 with_reducible refine (impl_Hidden_tells.calls k a0_0 a0_1 a1_0 a1_1 t254 _ A3.out).mono ?_
 rintro e w7 ⟨rfl, hb⟩
 refine ⟨_, rfl, ?_⟩
 have n2_ := Az_ (btz_ (w129_) hb)
 clear HB
 replace BK252 := Az_ (ukbz_ BK252.out hb)
 replace BK253 := Az_ (ukbz_ BK253.out hb)
 have HB := n2_
 clear n2_
 clear hb
 refine hK.out _ _ ⟨(blk_cell BK252.out 0).trans rfl, (blk_cell BK252.out 1).trans rfl, (blk_cell BK253.out 0).trans rfl, (blk_cell BK253.out 1).trans rfl, (blk_cell BK253.out 2).trans rfl⟩ (fun hHeld => ?_)
 clear hK K
 refine nz_ 10 ?_
 refine pz_ 8 13 [9,1] ?_
 refine pz_ 9 4 [10] ?_
 refine done_ (done_of HT_.out (w204_)) ?_
 try go_wp2
 go_ret
 exact ⟨w166_, w129_⟩


def impl_DoesFit.f (k : Nat) (a0_0 : Int) (a0_1 : Int) (a0_2 : Int) (a1_0 : Int) (a1_1 : Int) : Option (Bool × Bool) := (impl_IsClue.f k a0_0 a0_1 a0_2).bind fun t257 => (if t257 = true then ((impl_IsHidden.f a1_0 a1_1).bind fun t258 => (if t258 = true then ((impl_Hidden_fits.f k a1_0 a1_1 a0_0 a0_1 a0_2).bind fun t259 => (some (t259, true))) else (some (false, false)))) else (some (false, false)))
theorem impl_DoesFit.mono : ∀ a0 a1 a2 a3 a4 k, LeO (impl_DoesFit.f k a0 a1 a2 a3 a4) (impl_DoesFit.f (k + 1) a0 a1 a2 a3 a4) := by
 intro a0 a1 a2 a3 a4 k
 unfold impl_DoesFit.f
 repeat' (with_reducible first | exact impl_Hidden_fits.mono _ _ _ _ _ _ | exact impl_IsClue.mono _ _ _ _ | exact LeO.refl _ | exact LeO.none _ | refine LeO.ite ?_ ?_ | refine LeO.bind ?_ (fun _ => ?_))
set_option maxHeartbeats 8000000 in
set_option maxRecDepth 100000 in
theorem impl_DoesFit.calls (k : Nat) (a0_0 : Int) (a0_1 : Int) (a0_2 : Int) (a1_0 : Int) (a1_1 : Int) (r1 : Bool) (r2 : Bool) (w : World) (h : impl_DoesFit.f k a0_0 a0_1 a0_2 a1_0 a1_1 = some (r1, r2)) :
  Calls Tryd.prog 13 #[.agg #[.int .i64 a0_0, .int .i64 a0_1, .int .i64 a0_2], .agg #[.int .i64 a1_0, .int .i64 a1_1]] w fun e w' => e = .returned (.tuple #[.bool r1, .bool r2]) ∧ Below w.heap.size w w' := by
 have hu40 := Tryd.underlying40
 have hu25 := Tryd.underlying25
 have HB := Az_ (Below.refl w.heap.size w)
 have H : ((impl_IsClue.f k a0_0 a0_1 a0_2).bind fun t257 => (if t257 = true then ((impl_IsHidden.f a1_0 a1_1).bind fun t258 => (if t258 = true then ((impl_Hidden_fits.f k a1_0 a1_1 a0_0 a0_1 a0_2).bind fun t259 => (some (t259, true))) else (some (false, false)))) else (some (false, false)))) = some (r1, r2) := h
 clear h
 replace H := bqz_ H; obtain ⟨t257, A3, H⟩ := H
 replace H : (if t257 = true then ((impl_IsHidden.f a1_0 a1_1).bind fun t258 => (if t258 = true then ((impl_Hidden_fits.f k a1_0 a1_1 a0_0 a0_1 a0_2).bind fun t259 => (some (t259, true))) else (some (false, false)))) else (some (false, false))) = some (r1, r2) := H
 by_cases c4 : t257 = true
 ·subst c4
  rw [if_pos rfl] at H
  replace H := bqz_ H; obtain ⟨t258, A5, H⟩ := H
  replace H : (if t258 = true then ((impl_Hidden_fits.f k a1_0 a1_1 a0_0 a0_1 a0_2).bind fun t259 => (some (t259, true))) else (some (false, false))) = some (r1, r2) := H
  by_cases c6 : t258 = true; rotate_left
  ·replace c6 := Bool.eq_false_iff.mpr c6
   subst c6
   rw [if_neg nfz_] at H
   simp only [Option.some.injEq, Prod.mk.injEq] at H
   obtain ⟨rfl, rfl⟩ := H
   go_enter Tryd.func13, Tryd.ntmps13
   go_wp2_with (first | ((with_reducible refine gate_dst (N := 2) rfl ?_); refine bxe_ (N := 2) (cs := #[.int .i64 a0_0, .int .i64 a0_1, .int .i64 a0_2]) (t := 40) ?_; intro gb255 hg w18 BK255 hb; have GW255 := gez_ hg (ubz_ HB.out); have GE255 := GW255; replace HB := Az_ (btz_ (ubz_ HB.out) hb); clear hb hg) | ((with_reducible refine gate_dst (N := 3) rfl ?_); refine bxe_ (N := 3) (cs := #[.int .i64 a1_0, .int .i64 a1_1]) (t := 25) ?_; intro gb256 hg w19 BK256 hb; obtain ⟨NB255_256, NB256_255⟩ := nez_ BK255 hg; have GW256 : Aside0 (w.heap.size ≤ gb256) := gez_ hg (w129_); have GE256 := GW256; replace HB := Az_ (btz_ (w129_) hb); replace BK255 := Az_ (ukbz_ BK255.out hb); clear hb hg; have hnb20 := NB255_256.out; have hnc20 := NB256_255.out; have hcz21_0 := cz_ (x := .int .i64 a0_0) BK255 0; have hcz21_1 := cz_ (x := .int .i64 a0_1) BK255 1; have hcz21_2 := cz_ (x := .int .i64 a0_2) BK255 2; have hfz21_0 := blk_frozen BK255.out 0; have hfz21_1 := blk_frozen BK255.out 1; have hfz21_2 := blk_frozen BK255.out 2) | ((with_reducible refine gate_callee (f := 33) rfl ?_); refine goesL_ (some 7) rfl rfl Tryd.func33 (w204_) rfl #[.agg #[.int .i64 a0_0, .int .i64 a0_1, .int .i64 a0_2]] rfl maz_ ?_; (with_reducible refine (impl_IsClue.calls k a0_0 a0_1 a0_2 true _ A3.out).mono ?_); rintro e w22 ⟨rfl, hb⟩; refine ⟨_, rfl, ?_⟩; have n2_ := Az_ (btz_ (w129_) hb); clear HB; replace BK255 := Az_ (ukbz_ BK255.out hb); replace BK256 := Az_ (ukbz_ BK256.out hb); have HB := n2_; clear n2_; (try clear hb); have hcz23_0 := cz_ (x := .int .i64 a1_0) BK256 0; have hcz23_1 := cz_ (x := .int .i64 a1_1) BK256 1; have hfz23_0 := blk_frozen BK256.out 0; have hfz23_1 := blk_frozen BK256.out 1) | (go_at_call 9; (with_reducible refine (impl_IsHidden.calls a1_0 a1_1 false _ A5.out).mono ?_); rintro e w24 ⟨rfl, hb⟩; have n2_ := Az_ (btz_ (w129_) hb); clear HB; replace BK255 := Az_ (ukbz_ BK255.out hb); replace BK256 := Az_ (ukbz_ BK256.out hb); have HB := n2_; clear n2_; (try clear hb)))
   go_ret2
   exact ⟨w166_, w129_⟩
  subst c6
  rw [if_pos rfl] at H
  replace H := bqz_ H; obtain ⟨t259, A7, H⟩ := H
  replace H : (some (t259, true)) = some (r1, r2) := H
  simp only [Option.some.injEq, Prod.mk.injEq] at H
  obtain ⟨rfl, rfl⟩ := H
  go_enter Tryd.func13, Tryd.ntmps13
  go_wp2_with (first | ((with_reducible refine gate_dst (N := 2) rfl ?_); refine bxe_ (N := 2) (cs := #[.int .i64 a0_0, .int .i64 a0_1, .int .i64 a0_2]) (t := 40) ?_; intro gb255 hg w8 BK255 hb; have GW255 := gez_ hg (ubz_ HB.out); have GE255 := GW255; replace HB := Az_ (btz_ (ubz_ HB.out) hb); clear hb hg) | ((with_reducible refine gate_dst (N := 3) rfl ?_); refine bxe_ (N := 3) (cs := #[.int .i64 a1_0, .int .i64 a1_1]) (t := 25) ?_; intro gb256 hg w9 BK256 hb; obtain ⟨NB255_256, NB256_255⟩ := nez_ BK255 hg; have GW256 : Aside0 (w.heap.size ≤ gb256) := gez_ hg (w129_); have GE256 := GW256; replace HB := Az_ (btz_ (w129_) hb); replace BK255 := Az_ (ukbz_ BK255.out hb); clear hb hg; have hnb10 := NB255_256.out; have hnc10 := NB256_255.out; have hcz11_0 := cz_ (x := .int .i64 a0_0) BK255 0; have hcz11_1 := cz_ (x := .int .i64 a0_1) BK255 1; have hcz11_2 := cz_ (x := .int .i64 a0_2) BK255 2; have hfz11_0 := blk_frozen BK255.out 0; have hfz11_1 := blk_frozen BK255.out 1; have hfz11_2 := blk_frozen BK255.out 2) | ((with_reducible refine gate_callee (f := 33) rfl ?_); refine goesL_ (some 7) rfl rfl Tryd.func33 (w204_) rfl #[.agg #[.int .i64 a0_0, .int .i64 a0_1, .int .i64 a0_2]] rfl maz_ ?_; (with_reducible refine (impl_IsClue.calls k a0_0 a0_1 a0_2 true _ A3.out).mono ?_); rintro e w12 ⟨rfl, hb⟩; refine ⟨_, rfl, ?_⟩; have n2_ := Az_ (btz_ (w129_) hb); clear HB; replace BK255 := Az_ (ukbz_ BK255.out hb); replace BK256 := Az_ (ukbz_ BK256.out hb); have HB := n2_; clear n2_; (try clear hb); have hcz13_0 := cz_ (x := .int .i64 a1_0) BK256 0; have hcz13_1 := cz_ (x := .int .i64 a1_1) BK256 1; have hfz13_0 := blk_frozen BK256.out 0; have hfz13_1 := blk_frozen BK256.out 1) | (go_at_call 9; (with_reducible refine (impl_IsHidden.calls a1_0 a1_1 true _ A5.out).mono ?_); rintro e w14 ⟨rfl, hb⟩; have n2_ := Az_ (btz_ (w129_) hb); clear HB; replace BK255 := Az_ (ukbz_ BK255.out hb); replace BK256 := Az_ (ukbz_ BK256.out hb); have HB := n2_; clear n2_; (try clear hb); have hcz15_0 := cz_ (x := .int .i64 a1_0) BK256 0; have hcz15_1 := cz_ (x := .int .i64 a1_1) BK256 1; have hfz15_0 := blk_frozen BK256.out 0; have hfz15_1 := blk_frozen BK256.out 1; have hcz16_0 := cz_ (x := .int .i64 a0_0) BK255 0; have hcz16_1 := cz_ (x := .int .i64 a0_1) BK255 1; have hcz16_2 := cz_ (x := .int .i64 a0_2) BK255 2; have hfz16_0 := blk_frozen BK255.out 0; have hfz16_1 := blk_frozen BK255.out 1; have hfz16_2 := blk_frozen BK255.out 2) | ((with_reducible refine gate_callee (f := 49) rfl ?_); refine goesL_ (some 16) rfl rfl Tryd.func49 (w204_) rfl #[.agg #[.int .i64 a1_0, .int .i64 a1_1], .agg #[.int .i64 a0_0, .int .i64 a0_1, .int .i64 a0_2]] rfl maz_ ?_; (with_reducible refine (impl_Hidden_fits.calls k a1_0 a1_1 a0_0 a0_1 a0_2 t259 _ A7.out).mono ?_); rintro e w17 ⟨rfl, hb⟩; refine ⟨_, rfl, ?_⟩; have n2_ := Az_ (btz_ (w129_) hb); clear HB; replace BK255 := Az_ (ukbz_ BK255.out hb); replace BK256 := Az_ (ukbz_ BK256.out hb); have HB := n2_; clear n2_; (try clear hb)))
  go_ret2
  exact ⟨w166_, w129_⟩
 ·replace c4 := Bool.eq_false_iff.mpr c4
  subst c4
  rw [if_neg nfz_] at H
  simp only [Option.some.injEq, Prod.mk.injEq] at H
  obtain ⟨rfl, rfl⟩ := H
  go_enter Tryd.func13, Tryd.ntmps13
  go_wp2_with (first | ((with_reducible refine gate_dst (N := 2) rfl ?_); refine bxe_ (N := 2) (cs := #[.int .i64 a0_0, .int .i64 a0_1, .int .i64 a0_2]) (t := 40) ?_; intro gb255 hg w25 BK255 hb; have GW255 := gez_ hg (ubz_ HB.out); have GE255 := GW255; replace HB := Az_ (btz_ (ubz_ HB.out) hb); clear hb hg) | ((with_reducible refine gate_dst (N := 3) rfl ?_); refine bxe_ (N := 3) (cs := #[.int .i64 a1_0, .int .i64 a1_1]) (t := 25) ?_; intro gb256 hg w26 BK256 hb; obtain ⟨NB255_256, NB256_255⟩ := nez_ BK255 hg; have GW256 : Aside0 (w.heap.size ≤ gb256) := gez_ hg (w129_); have GE256 := GW256; replace HB := Az_ (btz_ (w129_) hb); replace BK255 := Az_ (ukbz_ BK255.out hb); clear hb hg; have hnb27 := NB255_256.out; have hnc27 := NB256_255.out; have hcz28_0 := cz_ (x := .int .i64 a0_0) BK255 0; have hcz28_1 := cz_ (x := .int .i64 a0_1) BK255 1; have hcz28_2 := cz_ (x := .int .i64 a0_2) BK255 2; have hfz28_0 := blk_frozen BK255.out 0; have hfz28_1 := blk_frozen BK255.out 1; have hfz28_2 := blk_frozen BK255.out 2) | ((with_reducible refine gate_callee (f := 33) rfl ?_); refine goesL_ (some 7) rfl rfl Tryd.func33 (w204_) rfl #[.agg #[.int .i64 a0_0, .int .i64 a0_1, .int .i64 a0_2]] rfl maz_ ?_; (with_reducible refine (impl_IsClue.calls k a0_0 a0_1 a0_2 false _ A3.out).mono ?_); rintro e w29 ⟨rfl, hb⟩; refine ⟨_, rfl, ?_⟩; have n2_ := Az_ (btz_ (w129_) hb); clear HB; replace BK255 := Az_ (ukbz_ BK255.out hb); replace BK256 := Az_ (ukbz_ BK256.out hb); have HB := n2_; clear n2_; (try clear hb)))
  go_ret2
  exact ⟨w166_, w129_⟩

def impl_tornLeaf.f (a0 : Int) (a1 : Int) : Option (Int) := (impl_sumOf.f a0).bind fun t260 => (if (wrap64 (t260 - a1)) > 0 then (if (wrap64 ((wrap64 (4 * (wrap64 (Int.tdiv (wrap64 ((wrap64 (t260 - a1)) + 1)) 4)))) - 1)) = (wrap64 (t260 - a1)) then (if (wrap64 (2 * (wrap64 (Int.tdiv (wrap64 ((wrap64 (t260 - a1)) + 1)) 4)))) ≤ a0 then (some (wrap64 (Int.tdiv (wrap64 ((wrap64 (t260 - a1)) + 1)) 4))) else (some 0)) else (some 0)) else (some 0))
set_option maxHeartbeats 8000000 in
set_option maxRecDepth 100000 in
theorem impl_tornLeaf.calls (a0 : Int) (a1 : Int) (r : Int) (w : World) (h : impl_tornLeaf.f a0 a1 = some r) :
  Calls Tryd.prog 50 #[.int .i64 a0, .int .i64 a1] w fun e w' => e = .returned (.int .i64 r) ∧ Drawn0 w w' := by
 have H : ((impl_sumOf.f a0).bind fun t260 => (if (wrap64 (t260 - a1)) > 0 then (if (wrap64 ((wrap64 (4 * (wrap64 (Int.tdiv (wrap64 ((wrap64 (t260 - a1)) + 1)) 4)))) - 1)) = (wrap64 (t260 - a1)) then (if (wrap64 (2 * (wrap64 (Int.tdiv (wrap64 ((wrap64 (t260 - a1)) + 1)) 4)))) ≤ a0 then (some (wrap64 (Int.tdiv (wrap64 ((wrap64 (t260 - a1)) + 1)) 4))) else (some 0)) else (some 0)) else (some 0))) = some r := h
 clear h
 replace H := bqz_ H; obtain ⟨t260, A3, H⟩ := H
 replace H : (if (wrap64 (t260 - a1)) > 0 then (if (wrap64 ((wrap64 (4 * (wrap64 (Int.tdiv (wrap64 ((wrap64 (t260 - a1)) + 1)) 4)))) - 1)) = (wrap64 (t260 - a1)) then (if (wrap64 (2 * (wrap64 (Int.tdiv (wrap64 ((wrap64 (t260 - a1)) + 1)) 4)))) ≤ a0 then (some (wrap64 (Int.tdiv (wrap64 ((wrap64 (t260 - a1)) + 1)) 4))) else (some 0)) else (some 0)) else (some 0)) = some r := H
 by_cases c4 : (wrap64 (t260 - a1)) > 0
 ·rw [if_pos c4] at H
  have c4b0 := decide_eq_true c4
  clear c4
  by_cases c5 : (wrap64 ((wrap64 (4 * (wrap64 (Int.tdiv (wrap64 ((wrap64 (t260 - a1)) + 1)) 4)))) - 1)) = (wrap64 (t260 - a1)); rotate_left
  ·rw [if_neg c5] at H
   have c5b0 : ((wrap64 ((wrap64 (4 * (wrap64 (Int.tdiv (wrap64 ((wrap64 (t260 - a1)) + 1)) 4)))) - 1)) == (wrap64 (t260 - a1))) = false := beq_eq_false_iff_ne.mpr c5
   have c5b1 : ((wrap64 ((wrap64 (4 * (wrap64 (Int.tdiv (wrap64 ((wrap64 (t260 - a1)) + 1)) 4)))) - 1)) != (wrap64 (t260 - a1))) = true := bne_iff_ne.mpr c5
   obtain rfl := Option.some.inj H
   go_enter Tryd.func50, Tryd.ntmps50
   go_wp2_with (((with_reducible refine gate_callee (f := 47) rfl ?_); refine goesL_ (some 8) rfl rfl Tryd.func47 (w204_) rfl #[.int .i64 a0] rfl maz_ ?_; (with_reducible refine (impl_sumOf.calls a0 t260 _ A3.out).mono ?_); rintro e w' ⟨rfl, ⟨nd, rfl⟩⟩; refine ⟨_, rfl, ?_⟩))
   go_ret
   exact ⟨w171_, w168_⟩
  rw [if_pos c5] at H
  have c5b0 : ((wrap64 ((wrap64 (4 * (wrap64 (Int.tdiv (wrap64 ((wrap64 (t260 - a1)) + 1)) 4)))) - 1)) == (wrap64 (t260 - a1))) = true := beq_iff_eq.mpr c5
  have c5b1 : ((wrap64 ((wrap64 (4 * (wrap64 (Int.tdiv (wrap64 ((wrap64 (t260 - a1)) + 1)) 4)))) - 1)) != (wrap64 (t260 - a1))) = false := bne_eq_false_iff_eq.mpr c5
  clear c5
  by_cases c6 : (wrap64 (2 * (wrap64 (Int.tdiv (wrap64 ((wrap64 (t260 - a1)) + 1)) 4)))) ≤ a0; rotate_left
  ·rw [if_neg c6] at H
   have c6b0 := decide_eq_false c6
   clear c6
   obtain rfl := Option.some.inj H
   go_enter Tryd.func50, Tryd.ntmps50
   go_wp2_with (((with_reducible refine gate_callee (f := 47) rfl ?_); refine goesL_ (some 8) rfl rfl Tryd.func47 (w204_) rfl #[.int .i64 a0] rfl maz_ ?_; (with_reducible refine (impl_sumOf.calls a0 t260 _ A3.out).mono ?_); rintro e w' ⟨rfl, ⟨nd, rfl⟩⟩; refine ⟨_, rfl, ?_⟩))
   go_ret
   exact ⟨w171_, w168_⟩
  rw [if_pos c6] at H
  have c6b0 := decide_eq_true c6
  clear c6
  obtain rfl := Option.some.inj H
  go_enter Tryd.func50, Tryd.ntmps50
  go_wp2_with (((with_reducible refine gate_callee (f := 47) rfl ?_); refine goesL_ (some 8) rfl rfl Tryd.func47 (w204_) rfl #[.int .i64 a0] rfl maz_ ?_; (with_reducible refine (impl_sumOf.calls a0 t260 _ A3.out).mono ?_); rintro e w' ⟨rfl, ⟨nd, rfl⟩⟩; refine ⟨_, rfl, ?_⟩))
  go_ret
  exact ⟨w171_, w168_⟩
 ·rw [if_neg c4] at H
  have c4b0 := decide_eq_false c4
  clear c4
  obtain rfl := Option.some.inj H
  go_enter Tryd.func50, Tryd.ntmps50
  go_wp2_with (((with_reducible refine gate_callee (f := 47) rfl ?_); refine goesL_ (some 8) rfl rfl Tryd.func47 (w204_) rfl #[.int .i64 a0] rfl maz_ ?_; (with_reducible refine (impl_sumOf.calls a0 t260 _ A3.out).mono ?_); rintro e w' ⟨rfl, ⟨nd, rfl⟩⟩; refine ⟨_, rfl, ?_⟩))
  go_ret
  exact ⟨w171_, w168_⟩

def impl_TornLeaf.f (a0 : Int) (a1 : Int) : Option (Int × Bool) := (impl_isBook.f a0).bind fun t261 => (if t261 = true then (if a1 < 0 then (some (0, false)) else ((impl_tornLeaf.f a0 a1).bind fun t262 => (some (t262, decide (t262 > 0))))) else (some (0, false)))
set_option maxHeartbeats 8000000 in
set_option maxRecDepth 100000 in
theorem impl_TornLeaf.calls (a0 : Int) (a1 : Int) (r1 : Int) (r2 : Bool) (w : World) (h : impl_TornLeaf.f a0 a1 = some (r1, r2)) :
  Calls Tryd.prog 14 #[.int .i64 a0, .int .i64 a1] w fun e w' => e = .returned (.tuple #[.int .i64 r1, .bool r2]) ∧ Drawn0 w w' := by
 have H : ((impl_isBook.f a0).bind fun t261 => (if t261 = true then (if a1 < 0 then (some (0, false)) else ((impl_tornLeaf.f a0 a1).bind fun t262 => (some (t262, decide (t262 > 0))))) else (some (0, false)))) = some (r1, r2) := h
 clear h
 replace H := bqz_ H; obtain ⟨t261, A3, H⟩ := H
 replace H : (if t261 = true then (if a1 < 0 then (some (0, false)) else ((impl_tornLeaf.f a0 a1).bind fun t262 => (some (t262, decide (t262 > 0))))) else (some (0, false))) = some (r1, r2) := H
 by_cases c4 : t261 = true
 ·subst c4
  rw [if_pos rfl] at H
  by_cases c5 : a1 < 0
  ·rw [if_pos c5] at H
   have c5b0 := decide_eq_true c5
   clear c5
   simp only [Option.some.injEq, Prod.mk.injEq] at H
   obtain ⟨rfl, rfl⟩ := H
   go_enter Tryd.func14, Tryd.ntmps14
   go_wp2_with (((with_reducible refine gate_callee (f := 46) rfl ?_); refine goesL_ (some 8) rfl rfl Tryd.func46 (w204_) rfl #[.int .i64 a0] rfl maz_ ?_; (with_reducible refine (impl_isBook.calls a0 true _ A3.out).mono ?_); rintro e w' ⟨rfl, ⟨nd, rfl⟩⟩; refine ⟨_, rfl, ?_⟩))
   go_ret2
   exact ⟨w171_, w168_⟩
  rw [if_neg c5] at H
  have c5b0 := decide_eq_false c5
  clear c5
  replace H := bqz_ H; obtain ⟨t262, A6, H⟩ := H
  replace H : (some (t262, decide (t262 > 0))) = some (r1, r2) := H
  simp only [Option.some.injEq, Prod.mk.injEq] at H
  obtain ⟨rfl, rfl⟩ := H
  go_enter Tryd.func14, Tryd.ntmps14
  go_wp2_with (first | ((with_reducible refine gate_callee (f := 46) rfl ?_); refine goesL_ (some 8) rfl rfl Tryd.func46 (w204_) rfl #[.int .i64 a0] rfl maz_ ?_; (with_reducible refine (impl_isBook.calls a0 true _ A3.out).mono ?_); rintro e w' ⟨rfl, ⟨nd, rfl⟩⟩; refine ⟨_, rfl, ?_⟩) | ((with_reducible refine gate_callee (f := 50) rfl ?_); refine goesL_ (some 16) rfl rfl Tryd.func50 (w204_) rfl #[.int .i64 a0, .int .i64 a1] rfl maz_ ?_; (with_reducible refine (impl_tornLeaf.calls a0 a1 t262 _ A6.out).mono ?_); rintro e w' ⟨rfl, ⟨nd, rfl⟩⟩; refine ⟨_, rfl, ?_⟩))
  go_ret2
  exact ⟨w171_, w168_⟩
 ·replace c4 := Bool.eq_false_iff.mpr c4
  subst c4
  rw [if_neg nfz_] at H
  simp only [Option.some.injEq, Prod.mk.injEq] at H
  obtain ⟨rfl, rfl⟩ := H
  go_enter Tryd.func14, Tryd.ntmps14
  go_wp2_with (((with_reducible refine gate_callee (f := 46) rfl ?_); refine goesL_ (some 8) rfl rfl Tryd.func46 (w204_) rfl #[.int .i64 a0] rfl maz_ ?_; (with_reducible refine (impl_isBook.calls a0 false _ A3.out).mono ?_); rintro e w' ⟨rfl, ⟨nd, rfl⟩⟩; refine ⟨_, rfl, ?_⟩))
  go_ret2
  exact ⟨w171_, w168_⟩

def impl_IsPuzzle_1.f (k : Nat) (a0_0 : Int) (a0_1 : Int) (a0_2 : Int) : Option (Bool) := (impl_IsClue.f k a0_0 a0_1 a0_2).bind fun t264 => (some (!t264))
set_option maxHeartbeats 8000000 in
set_option maxRecDepth 100000 in
theorem impl_IsPuzzle_1.calls (k : Nat) (a0_0 : Int) (a0_1 : Int) (a0_2 : Int) (r : Bool) (w : World) (h : impl_IsPuzzle_1.f k a0_0 a0_1 a0_2 = some r) :
  Calls Tryd.prog 52 #[.agg #[.int .i64 a0_0, .int .i64 a0_1, .int .i64 a0_2]] w fun e w' => e = .returned (.bool r) ∧ Below w.heap.size w w' := by
 have hu40 := Tryd.underlying40
 have HB := Az_ (Below.refl w.heap.size w)
 have H : ((impl_IsClue.f k a0_0 a0_1 a0_2).bind fun t264 => (some (!t264))) = some r := h
 clear h
 replace H := bqz_ H; obtain ⟨t264, A2, H⟩ := H
 replace H : (some (!t264)) = some r := H
 obtain rfl := Option.some.inj H
 go_enter Tryd.func52, Tryd.ntmps52
 go_wp2_with (first | ((with_reducible refine gate_dst (N := 1) rfl ?_); refine bxe_ (N := 1) (cs := #[.int .i64 a0_0, .int .i64 a0_1, .int .i64 a0_2]) (t := 40) ?_; intro gb263 hg w3 BK263 hb; have GW263 := gez_ hg (ubz_ HB.out); have GE263 := GW263; replace HB := Az_ (btz_ (ubz_ HB.out) hb); clear hb hg; have hcz4_0 := cz_ (x := .int .i64 a0_0) BK263 0; have hcz4_1 := cz_ (x := .int .i64 a0_1) BK263 1; have hcz4_2 := cz_ (x := .int .i64 a0_2) BK263 2; have hfz4_0 := blk_frozen BK263.out 0; have hfz4_1 := blk_frozen BK263.out 1; have hfz4_2 := blk_frozen BK263.out 2) | ((with_reducible refine gate_callee (f := 33) rfl ?_); refine goesL_ (some 4) rfl rfl Tryd.func33 (w204_) rfl #[.agg #[.int .i64 a0_0, .int .i64 a0_1, .int .i64 a0_2]] rfl maz_ ?_; (with_reducible refine (impl_IsClue.calls k a0_0 a0_1 a0_2 t264 _ A2.out).mono ?_); rintro e w5 ⟨rfl, hb⟩; refine ⟨_, rfl, ?_⟩; have n1_ := Az_ (btz_ (w129_) hb); clear HB; replace BK263 := Az_ (ukbz_ BK263.out hb); have HB := n1_; clear n1_; (try clear hb)))
 go_ret
 exact ⟨w166_, w129_⟩


def spec_l1Cur_clue.j0 : Nat → List Int → Int → Int → Int → Int → Int → Option (Int × Int × Int × Int × Int)
 | 0, _, _, _, _, _, _ => none
 | k + 1, x1000, x1001, x1002, x279000, x279001, x279002 => (spec_l1Cur_one.f x1000 x1001 x1002 14).bind fun bt300 => (if bt300.1 = true then ((spec_l1Cur_pick.f x1000 bt300.2.1 bt300.2.2 3).bind fun bt303 => (some (x279000, wrap64 (bt303.1 - 1), x279002, bt303.2.1, bt303.2.2))) else (some (x279000, x279001, x279002, bt300.2.1, bt300.2.2)))
def spec_l1Cur_clue.f (k : Nat) (s0_0 : List Int) (s0_1 : Int) (s0_2 : Int) : Option (Int × Int × Int × Int × Int) := (spec_l1Cur_pick.f s0_0 s0_1 s0_2 6).bind fun bt266 => ((spec_l1Cur_pick.f s0_0 bt266.2.1 bt266.2.2 9).bind fun bt269 => ((spec_l1Cur_pick.f s0_0 bt269.2.1 bt269.2.2 250).bind fun bt272 => ((spec_l1Cur_pick.f s0_0 bt272.2.1 bt272.2.2 9).bind fun bt275 => (if (wrap64 (bt266.1 + (wrap64 (Int.tdiv bt269.1 8)))) = 2 then ((spec_l1Cur_pick.f s0_0 bt275.2.1 bt275.2.2 11).bind fun bt279 => ((spec_l1Cur_pick.f s0_0 bt279.2.1 bt279.2.2 16).bind fun bt282 => (spec_l1Cur_clue.j0 k s0_0 bt282.2.1 bt282.2.2 (wrap64 (bt266.1 + (wrap64 (Int.tdiv bt269.1 8)))) bt279.1 bt282.1))) else (if (wrap64 (bt266.1 + (wrap64 (Int.tdiv bt269.1 8)))) = 3 then ((spec_l1Cur_pick.f s0_0 bt275.2.1 bt275.2.2 22).bind fun bt285 => ((spec_l1Cur_pick.f s0_0 bt285.2.1 bt285.2.2 3).bind fun bt288 => (spec_l1Cur_clue.j0 k s0_0 bt288.2.1 bt288.2.2 (wrap64 (bt266.1 + (wrap64 (Int.tdiv bt269.1 8)))) bt285.1 bt288.1))) else (if (wrap64 (bt266.1 + (wrap64 (Int.tdiv bt269.1 8)))) = 4 then ((spec_l1Cur_pick.f s0_0 bt275.2.1 bt275.2.2 10).bind fun bt291 => ((spec_l1Cur_pick.f s0_0 bt291.2.1 bt291.2.2 3).bind fun bt294 => (spec_l1Cur_clue.j0 k s0_0 bt294.2.1 bt294.2.2 (wrap64 (bt266.1 + (wrap64 (Int.tdiv bt269.1 8)))) (wrap64 (1 + bt291.1)) bt294.1))) else (if (wrap64 (bt266.1 + (wrap64 (Int.tdiv bt269.1 8)))) = 5 then ((spec_l1Cur_pick.f s0_0 bt275.2.1 bt275.2.2 21).bind fun bt297 => (spec_l1Cur_clue.j0 k s0_0 bt297.2.1 bt297.2.2 (wrap64 (bt266.1 + (wrap64 (Int.tdiv bt269.1 8)))) 0 (wrap64 ((wrap64 (4 * bt297.1)) - 1)))) else (spec_l1Cur_clue.j0 k s0_0 bt275.2.1 bt275.2.2 (wrap64 (bt266.1 + (wrap64 (Int.tdiv bt269.1 8)))) 0 (wrap64 (bt272.1 - (wrap64 (Int.tdiv bt275.1 8))))))))))))
set_option maxHeartbeats 8000000 in
set_option maxRecDepth 100000 in
theorem spec_l1Cur_clue.calls (k : Nat) (g : Nat) (s0_0 : List Int) (s0_1 : Int) (s0_2 : Int) (r1 : Int) (r2 : Int) (r3 : Int) (r4 : Int) (r5 : Int) (w0 w : World) (hI : IsS67 w0 w g s0_0 s0_1 s0_2) (hB : Below w0.heap.size w0 w) (h : spec_l1Cur_clue.f k s0_0 s0_1 s0_2 = some (r1, r2, r3, r4, r5)) :
  Calls Tryd.prog 60 #[.pointer (some ⟨g, 0, none⟩)] w fun e w' => e = .returned (.agg #[.int .i64 r1, .int .i64 r2, .int .i64 r3]) ∧ IsS67 w0 w' g s0_0 r4 r5 ∧ Below w0.heap.size w0 w' ∧ KeepBut w w' g none := by
 have hu40 := Tryd.underlying40
 have HI0 := Az_ hI
 have HK := Az_ (KeepBut.refl w g none)
 have HL := Az_ hB.size
 clear hI
 have HW0 := Az_ hB.size
 have HB := Az_ hB
 clear hB
 have H : ((spec_l1Cur_pick.f s0_0 s0_1 s0_2 6).bind fun bt266 => ((spec_l1Cur_pick.f s0_0 bt266.2.1 bt266.2.2 9).bind fun bt269 => ((spec_l1Cur_pick.f s0_0 bt269.2.1 bt269.2.2 250).bind fun bt272 => ((spec_l1Cur_pick.f s0_0 bt272.2.1 bt272.2.2 9).bind fun bt275 => (if (wrap64 (bt266.1 + (wrap64 (Int.tdiv bt269.1 8)))) = 2 then ((spec_l1Cur_pick.f s0_0 bt275.2.1 bt275.2.2 11).bind fun bt279 => ((spec_l1Cur_pick.f s0_0 bt279.2.1 bt279.2.2 16).bind fun bt282 => (j0 k s0_0 bt282.2.1 bt282.2.2 (wrap64 (bt266.1 + (wrap64 (Int.tdiv bt269.1 8)))) bt279.1 bt282.1))) else (if (wrap64 (bt266.1 + (wrap64 (Int.tdiv bt269.1 8)))) = 3 then ((spec_l1Cur_pick.f s0_0 bt275.2.1 bt275.2.2 22).bind fun bt285 => ((spec_l1Cur_pick.f s0_0 bt285.2.1 bt285.2.2 3).bind fun bt288 => (j0 k s0_0 bt288.2.1 bt288.2.2 (wrap64 (bt266.1 + (wrap64 (Int.tdiv bt269.1 8)))) bt285.1 bt288.1))) else (if (wrap64 (bt266.1 + (wrap64 (Int.tdiv bt269.1 8)))) = 4 then ((spec_l1Cur_pick.f s0_0 bt275.2.1 bt275.2.2 10).bind fun bt291 => ((spec_l1Cur_pick.f s0_0 bt291.2.1 bt291.2.2 3).bind fun bt294 => (j0 k s0_0 bt294.2.1 bt294.2.2 (wrap64 (bt266.1 + (wrap64 (Int.tdiv bt269.1 8)))) (wrap64 (1 + bt291.1)) bt294.1))) else (if (wrap64 (bt266.1 + (wrap64 (Int.tdiv bt269.1 8)))) = 5 then ((spec_l1Cur_pick.f s0_0 bt275.2.1 bt275.2.2 21).bind fun bt297 => (j0 k s0_0 bt297.2.1 bt297.2.2 (wrap64 (bt266.1 + (wrap64 (Int.tdiv bt269.1 8)))) 0 (wrap64 ((wrap64 (4 * bt297.1)) - 1)))) else (j0 k s0_0 bt275.2.1 bt275.2.2 (wrap64 (bt266.1 + (wrap64 (Int.tdiv bt269.1 8)))) 0 (wrap64 (bt272.1 - (wrap64 (Int.tdiv bt275.1 8))))))))))))) = some (r1, r2, r3, r4, r5) := h
 clear h
 replace H := bqz_ H; obtain ⟨⟨t266, t267, t268⟩, A2, H⟩ := H
 replace H := bqz_ H; obtain ⟨⟨t269, t270, t271⟩, A3, H⟩ := H
 replace H := bqz_ H; obtain ⟨⟨t272, t273, t274⟩, A4, H⟩ := H
 replace H := bqz_ H; obtain ⟨⟨t275, t276, t277⟩, A5, H⟩ := H
 replace H : (if (wrap64 (t266 + (wrap64 (Int.tdiv t269 8)))) = 2 then ((spec_l1Cur_pick.f s0_0 t276 t277 11).bind fun bt279 => ((spec_l1Cur_pick.f s0_0 bt279.2.1 bt279.2.2 16).bind fun bt282 => (j0 k s0_0 bt282.2.1 bt282.2.2 (wrap64 (t266 + (wrap64 (Int.tdiv t269 8)))) bt279.1 bt282.1))) else (if (wrap64 (t266 + (wrap64 (Int.tdiv t269 8)))) = 3 then ((spec_l1Cur_pick.f s0_0 t276 t277 22).bind fun bt285 => ((spec_l1Cur_pick.f s0_0 bt285.2.1 bt285.2.2 3).bind fun bt288 => (j0 k s0_0 bt288.2.1 bt288.2.2 (wrap64 (t266 + (wrap64 (Int.tdiv t269 8)))) bt285.1 bt288.1))) else (if (wrap64 (t266 + (wrap64 (Int.tdiv t269 8)))) = 4 then ((spec_l1Cur_pick.f s0_0 t276 t277 10).bind fun bt291 => ((spec_l1Cur_pick.f s0_0 bt291.2.1 bt291.2.2 3).bind fun bt294 => (j0 k s0_0 bt294.2.1 bt294.2.2 (wrap64 (t266 + (wrap64 (Int.tdiv t269 8)))) (wrap64 (1 + bt291.1)) bt294.1))) else (if (wrap64 (t266 + (wrap64 (Int.tdiv t269 8)))) = 5 then ((spec_l1Cur_pick.f s0_0 t276 t277 21).bind fun bt297 => (j0 k s0_0 bt297.2.1 bt297.2.2 (wrap64 (t266 + (wrap64 (Int.tdiv t269 8)))) 0 (wrap64 ((wrap64 (4 * bt297.1)) - 1)))) else (j0 k s0_0 t276 t277 (wrap64 (t266 + (wrap64 (Int.tdiv t269 8)))) 0 (wrap64 (t272 - (wrap64 (Int.tdiv t275 8))))))))) = some (r1, r2, r3, r4, r5) := H
 have HC6 := Az_ H
 clear H
 go_enter Tryd.func60, Tryd.ntmps60
 go_upto_block 0 with (first | ((with_reducible refine gate_dst (N := 2) rfl ?_); refine bxe_ (N := 2) (cs := #[.int .i64 0, .int .i64 0, .int .i64 0]) (t := 40) ?_; intro gb265 hg w7 BK265 hb; have GW265 := Az_ ((by rw [hg]; exact (keep_size (w := w) (g := g) (row := none) (w126_)) : w.heap.size ≤ gb265)); have GE265 := Az_ ((Nat.le_trans HW0.out (by rw [hg]; exact (keep_size (w := w) (g := g) (row := none) (w126_)) : w.heap.size ≤ gb265) : w0.heap.size ≤ gb265)); have NB0_265 := Az_ ((by rw [hg]; exact Nat.ne_of_lt (IsS67.lt (show IsS67 w0 _ g s0_0 s0_1 s0_2 from w121_)) : g ≠ gb265)); have NB265_0 := Az_ ((by rw [hg]; exact Nat.ne_of_gt (IsS67.lt (show IsS67 w0 _ g s0_0 s0_1 s0_2 from w121_)) : gb265 ≠ g)); replace HB := Az_ (btz_ (w128_) hb); replace HK := Az_ (KeepBut.trans (w126_) (KeepBut.of_below hb g none) (.inl rfl)); replace HI0 := Az_ (IsS67.below (w121_) hb); clear hb hg) | ((with_reducible refine gate_callee (f := 38) rfl ?_); refine goesL_ (some 5) rfl rfl Tryd.func38 (w204_) rfl #[.pointer (some ⟨g, 0, none⟩), .int .i64 6] rfl maz_ ?_; (with_reducible refine (spec_l1Cur_pick.calls g s0_0 s0_1 s0_2 6 t266 t267 t268 w0 _ ?side1 ?side2 A2.out).mono ?_); (case side1 => repeat (first | (with_reducible first | exact HI0.out | apply IsS67.alloc | apply IsS67.drewN | apply IsS67.drew | apply IsS67.set_1 | apply IsS67.set_2 | refine IsS67.far ?_ NB0_265.out _) | exact HI0.out)); (case side2 => repeat (first | (with_reducible first | exact HB.out | apply baz_ | apply bnz_ | apply bdz_ | refine bsz_ ?_ (IsS67.ge HI0.out) | refine bsz_ ?_ GE265.out) | exact HB.out)); rintro e w8 ⟨rfl, hi, hb, hk⟩; refine ⟨_, rfl, ?_⟩; replace BK265 := Az_ (KeepBut.blk hk (g' := gb265) (o := .cells #[.int .i64 0, .int .i64 0, .int .i64 0] 40 (0, 0)) (by exact ukz_ BK265.out) NB265_0.out (by simp)); replace HK := Az_ (KeepBut.trans (w110_) hk (.inl rfl)); replace HB := Az_ (hb); replace HI0 := Az_ (hi); (try clear hb); (try clear hk); (try clear hi)) | ((with_reducible refine gate_callee (f := 38) rfl ?_); refine goesL_ (some 7) rfl rfl Tryd.func38 (w204_) rfl #[.pointer (some ⟨g, 0, none⟩), .int .i64 9] rfl maz_ ?_; (with_reducible refine (spec_l1Cur_pick.calls g s0_0 t267 t268 9 t269 t270 t271 w0 _ ?side1 ?side2 A3.out).mono ?_); (case side1 => repeat (first | (with_reducible first | exact HI0.out | apply IsS67.alloc | apply IsS67.drewN | apply IsS67.drew | apply IsS67.set_1 | apply IsS67.set_2 | refine IsS67.far ?_ NB0_265.out _) | exact HI0.out)); (case side2 => repeat (first | (with_reducible first | exact HB.out | apply baz_ | apply bnz_ | apply bdz_ | refine bsz_ ?_ (IsS67.ge HI0.out) | refine bsz_ ?_ GE265.out) | exact HB.out)); rintro e w9 ⟨rfl, hi, hb, hk⟩; refine ⟨_, rfl, ?_⟩; replace BK265 := Az_ (KeepBut.blk hk (g' := gb265) (o := .cells #[.int .i64 0, .int .i64 0, .int .i64 0] 40 (0, 0)) (by exact ukz_ BK265.out) NB265_0.out (by simp)); replace HK := Az_ (KeepBut.trans (w110_) hk (.inl rfl)); replace HB := Az_ (hb); replace HI0 := Az_ (hi); (try clear hb); (try clear hk); (try clear hi)) | ((with_reducible refine gate_callee (f := 38) rfl ?_); refine goesL_ (some 11) rfl rfl Tryd.func38 (w204_) rfl #[.pointer (some ⟨g, 0, none⟩), .int .i64 250] rfl maz_ ?_; (with_reducible refine (spec_l1Cur_pick.calls g s0_0 t270 t271 250 t272 t273 t274 w0 _ ?side1 ?side2 A4.out).mono ?_); (case side1 => repeat (first | (with_reducible first | exact HI0.out | apply IsS67.alloc | apply IsS67.drewN | apply IsS67.drew | apply IsS67.set_1 | apply IsS67.set_2 | refine IsS67.far ?_ NB0_265.out _) | exact HI0.out)); (case side2 => repeat (first | (with_reducible first | exact HB.out | apply baz_ | apply bnz_ | apply bdz_ | refine bsz_ ?_ (IsS67.ge HI0.out) | refine bsz_ ?_ GE265.out) | exact HB.out)); rintro e w10 ⟨rfl, hi, hb, hk⟩; refine ⟨_, rfl, ?_⟩; replace BK265 := Az_ (KeepBut.blk hk (g' := gb265) (o := .cells #[.int .i64 0, .int .i64 0, .int .i64 0] 40 (0, 0)) (by exact ukz_ BK265.out) NB265_0.out (by simp)); replace HK := Az_ (KeepBut.trans (w110_) hk (.inl rfl)); replace HB := Az_ (hb); replace HI0 := Az_ (hi); (try clear hb); (try clear hk); (try clear hi)) | ((with_reducible refine gate_callee (f := 38) rfl ?_); refine goesL_ (some 13) rfl rfl Tryd.func38 (w204_) rfl #[.pointer (some ⟨g, 0, none⟩), .int .i64 9] rfl maz_ ?_; (with_reducible refine (spec_l1Cur_pick.calls g s0_0 t273 t274 9 t275 t276 t277 w0 _ ?side1 ?side2 A5.out).mono ?_); (case side1 => repeat (first | (with_reducible first | exact HI0.out | apply IsS67.alloc | apply IsS67.drewN | apply IsS67.drew | apply IsS67.set_1 | apply IsS67.set_2 | refine IsS67.far ?_ NB0_265.out _) | exact HI0.out)); (case side2 => repeat (first | (with_reducible first | exact HB.out | apply baz_ | apply bnz_ | apply bdz_ | refine bsz_ ?_ (IsS67.ge HI0.out) | refine bsz_ ?_ GE265.out) | exact HB.out)); rintro e w11 ⟨rfl, hi, hb, hk⟩; refine ⟨_, rfl, ?_⟩; replace BK265 := Az_ (KeepBut.blk hk (g' := gb265) (o := .cells #[.int .i64 0, .int .i64 0, .int .i64 0] 40 (0, 0)) (by exact ukz_ BK265.out) NB265_0.out (by simp)); replace HK := Az_ (KeepBut.trans (w110_) hk (.inl rfl)); replace HB := Az_ (hb); replace HI0 := Az_ (hi); (try clear hb); (try clear hk); (try clear hi)) | ((with_reducible refine gate_dst (N := 3) rfl ?_); refine bxe_ (N := 3) (cs := #[.int .i64 0, .int .i64 0, .int .i64 0]) (t := 40) ?_; intro gb278 hg w12 BK278 hb; obtain ⟨NB265_278, NB278_265⟩ := nez_ BK265 hg; replace HB := Az_ (btz_ (by repeat (first | (with_reducible first | exact HB.out | apply baz_ | apply bnz_ | apply bdz_ | refine bsz_ ?_ (IsS67.ge HI0.out) | refine bsz_ ?_ GE265.out) | exact HB.out)) hb); have GW278 := Az_ ((by rw [hg]; exact (keep_size (w := w) (g := g) (row := none) (w110_)) : w.heap.size ≤ gb278)); have GE278 := Az_ ((Nat.le_trans HW0.out (by rw [hg]; exact (keep_size (w := w) (g := g) (row := none) (w110_)) : w.heap.size ≤ gb278) : w0.heap.size ≤ gb278)); replace HK := Az_ (KeepBut.trans (w110_) (KeepBut.of_below hb g none) (.inl rfl)); have NB0_278 := Az_ ((by rw [hg]; exact Nat.ne_of_lt (IsS67.lt (show IsS67 w0 _ g s0_0 t276 t277 from w101_)) : g ≠ gb278)); have NB278_0 := Az_ ((by rw [hg]; exact Nat.ne_of_gt (IsS67.lt (show IsS67 w0 _ g s0_0 t276 t277 from w101_)) : gb278 ≠ g)); replace HI0 := Az_ (IsS67.below (w101_) hb); replace BK265 := Az_ (ukbz_ BK265.out hb); clear hb hg; have hnb13 := NB278_265.out; have hnc13 := NB265_278.out; have hnb14 := NB278_0.out; have hnc14 := NB0_278.out; have hcz15_0 := cz_ (x := .int .i64 0) BK278 0; have hcz15_1 := cz_ (x := .int .i64 0) BK278 1; have hcz15_2 := cz_ (x := .int .i64 0) BK278 2; have hfz15_0 := blk_frozen BK278.out 0; have hfz15_1 := blk_frozen BK278.out 1; have hfz15_2 := blk_frozen BK278.out 2))
 (try simp only [Act.put, List.setIfInBounds_toArray, List.set_cons_zero, List.set_cons_succ])
 go_cut [] (fun wc => ∃ (kq : Nat) (x1001_5 : Int) (x1002_5 : Int) (x279001_5 : Int) (x279002_5 : Int), Aside0 (j0 kq s0_0 x1001_5 x1002_5 (wrap64 (t266 + (wrap64 (Int.tdiv t269 8)))) x279001_5 x279002_5 = some (r1, r2, r3, r4, r5)) ∧ Aside0 (kq ≤ k) ∧ Aside0 (wc.heap[gb265]? = some (.cells #[.int .i64 0, .int .i64 0, .int .i64 0] 40 (0, 0))) ∧ Aside0 (wc.heap[gb278]? = some (.cells #[.int .i64 (wrap64 (t266 + (wrap64 (Int.tdiv t269 8)))), .int .i64 x279001_5, .int .i64 x279002_5] 40 (0, 0))) ∧ Aside0 (IsS67 w0 wc g s0_0 x1001_5 x1002_5) ∧ Aside0 (KeepBut w wc g none) ∧ Aside0 (Below w0.heap.size w0 wc))
 case first =>
  have H := HC6.out
  clear HC6
  by_cases c16 : (wrap64 (t266 + (wrap64 (Int.tdiv t269 8)))) = 2
  ·rw [if_pos c16] at H
   have c16b0 : ((wrap64 (t266 + (wrap64 (Int.tdiv t269 8)))) == 2) = true := beq_iff_eq.mpr c16
   have c16b1 : ((wrap64 (t266 + (wrap64 (Int.tdiv t269 8)))) != 2) = false := bne_eq_false_iff_eq.mpr c16
   clear c16
   (first | rw [c16b0] | (simp only [i64_w, i32_w]; rw [c16b0]) | skip)
   replace H := bqz_ H; obtain ⟨⟨t279, t280, t281⟩, A17, H⟩ := H
   replace H := bqz_ H; obtain ⟨⟨t282, t283, t284⟩, A18, H⟩ := H
   replace H : (j0 k s0_0 t283 t284 (wrap64 (t266 + (wrap64 (Int.tdiv t269 8)))) t279 t282) = some (r1, r2, r3, r4, r5) := H
   have H' := Az_ H
   clear H
   go_wp2_with (first | ((with_reducible refine gate_callee (f := 38) rfl ?_); refine goesL_ (some 22) rfl rfl Tryd.func38 (w204_) rfl #[.pointer (some ⟨g, 0, none⟩), .int .i64 11] rfl maz_ ?_; (with_reducible refine (spec_l1Cur_pick.calls g s0_0 t276 t277 11 t279 t280 t281 w0 _ ?side1 ?side2 A17.out).mono ?_); (case side1 => repeat (first | (with_reducible first | exact HI0.out | apply IsS67.alloc | apply IsS67.drewN | apply IsS67.drew | apply IsS67.set_1 | apply IsS67.set_2 | refine IsS67.far ?_ NB0_265.out _ | refine IsS67.far ?_ NB0_278.out _) | exact HI0.out)); (case side2 => repeat (first | (with_reducible first | exact HB.out | apply baz_ | apply bnz_ | apply bdz_ | refine bsz_ ?_ (IsS67.ge HI0.out) | refine bsz_ ?_ GE265.out | refine bsz_ ?_ GE278.out) | exact HB.out)); rintro e w19 ⟨rfl, hi, hb, hk⟩; refine ⟨_, rfl, ?_⟩; replace BK265 := Az_ (KeepBut.blk hk (g' := gb265) (o := .cells #[.int .i64 0, .int .i64 0, .int .i64 0] 40 (0, 0)) (w8_) NB265_0.out (by simp)); replace BK278 := Az_ (KeepBut.blk hk (g' := gb278) (o := .cells #[.int .i64 (wrap64 (t266 + (wrap64 (Int.tdiv t269 8)))), .int .i64 0, .int .i64 (wrap64 (t272 - (wrap64 (Int.tdiv t275 8))))] 40 (0, 0)) (w5_) NB278_0.out (by simp)); replace HK := Az_ (KeepBut.trans (w95_) hk (.inl rfl)); replace HB := Az_ (hb); replace HI0 := Az_ (hi); (try clear hb); (try clear hk); (try clear hi); have hnb20 := NB278_265.out; have hnc20 := NB265_278.out; have hnb21 := NB278_0.out; have hnc21 := NB0_278.out; have hcz22_0 : w19.cell? ⟨gb278, 0, none⟩ = some (.int .i64 (wrap64 (t266 + (wrap64 (Int.tdiv t269 8))))) := (blk_cell BK278.out 0).trans rfl; have hcz22_1 := cz_ (x := .int .i64 0) BK278 1; have hcz22_2 : w19.cell? ⟨gb278, 2, none⟩ = some (.int .i64 (wrap64 (t272 - (wrap64 (Int.tdiv t275 8))))) := (blk_cell BK278.out 2).trans rfl; have hfz22_0 := blk_frozen BK278.out 0; have hfz22_1 := blk_frozen BK278.out 1; have hfz22_2 := blk_frozen BK278.out 2) | ((with_reducible refine gate_callee (f := 38) rfl ?_); refine goesL_ (some 25) rfl rfl Tryd.func38 (w204_) rfl #[.pointer (some ⟨g, 0, none⟩), .int .i64 16] rfl maz_ ?_; (with_reducible refine (spec_l1Cur_pick.calls g s0_0 t280 t281 16 t282 t283 t284 w0 _ ?side1 ?side2 A18.out).mono ?_); (case side1 => repeat (first | (with_reducible first | exact HI0.out | apply IsS67.alloc | apply IsS67.drewN | apply IsS67.drew | apply IsS67.set_1 | apply IsS67.set_2 | refine IsS67.far ?_ NB0_265.out _ | refine IsS67.far ?_ NB0_278.out _) | exact HI0.out)); (case side2 => repeat (first | (with_reducible first | exact HB.out | apply baz_ | apply bnz_ | apply bdz_ | refine bsz_ ?_ (IsS67.ge HI0.out) | refine bsz_ ?_ GE265.out | refine bsz_ ?_ GE278.out) | exact HB.out)); rintro e w23 ⟨rfl, hi, hb, hk⟩; refine ⟨_, rfl, ?_⟩; replace BK265 := Az_ (KeepBut.blk hk (g' := gb265) (o := .cells #[.int .i64 0, .int .i64 0, .int .i64 0] 40 (0, 0)) (w83_) NB265_0.out (by simp)); replace BK278 := Az_ (KeepBut.blk hk (g' := gb278) (o := .cells #[.int .i64 (wrap64 (t266 + (wrap64 (Int.tdiv t269 8)))), .int .i64 t279, .int .i64 (wrap64 (t272 - (wrap64 (Int.tdiv t275 8))))] 40 (0, 0)) (w19_) NB278_0.out (by simp)); replace HK := Az_ (KeepBut.trans (w95_) hk (.inl rfl)); replace HB := Az_ (hb); replace HI0 := Az_ (hi); (try clear hb); (try clear hk); (try clear hi); have hcz24_0 : w23.cell? ⟨gb278, 0, none⟩ = some (.int .i64 (wrap64 (t266 + (wrap64 (Int.tdiv t269 8))))) := (blk_cell BK278.out 0).trans rfl; have hcz24_1 := cz_ (x := .int .i64 t279) BK278 1; have hcz24_2 : w23.cell? ⟨gb278, 2, none⟩ = some (.int .i64 (wrap64 (t272 - (wrap64 (Int.tdiv t275 8))))) := (blk_cell BK278.out 2).trans rfl; have hfz24_0 := blk_frozen BK278.out 0; have hfz24_1 := blk_frozen BK278.out 1; have hfz24_2 := blk_frozen BK278.out 2))
   go_meet
   case rel => exact ⟨_, (t283), (t284), (t279), (t282), H', ⟨w173_⟩, ⟨w83_⟩, ⟨by (with_reducible repeat (first | refine knz_ ?_ _ | refine kdz_ ?_ | refine kaz_ ?_ _)); refine blk_put (cs := #[.int .i64 (wrap64 (t266 + (wrap64 (Int.tdiv t269 8)))), .int .i64 t279, .int .i64 (wrap64 (t272 - (wrap64 (Int.tdiv t275 8))))]) ?_ 2 _ rfl; (with_reducible repeat (first | refine knz_ ?_ _ | refine kdz_ ?_ | refine kaz_ ?_ _)); exact BK278.out⟩, ⟨w70_⟩, ⟨w95_⟩, ⟨w107_⟩⟩
  rw [if_neg c16] at H
  have c16b0 : ((wrap64 (t266 + (wrap64 (Int.tdiv t269 8)))) == 2) = false := beq_eq_false_iff_ne.mpr c16
  have c16b1 : ((wrap64 (t266 + (wrap64 (Int.tdiv t269 8)))) != 2) = true := bne_iff_ne.mpr c16
  (first | rw [c16b0] | (simp only [i64_w, i32_w]; rw [c16b0]) | skip)
  by_cases c25 : (wrap64 (t266 + (wrap64 (Int.tdiv t269 8)))) = 3
  ·rw [if_pos c25] at H
   have c25b0 : ((wrap64 (t266 + (wrap64 (Int.tdiv t269 8)))) == 3) = true := beq_iff_eq.mpr c25
   have c25b1 : ((wrap64 (t266 + (wrap64 (Int.tdiv t269 8)))) != 3) = false := bne_eq_false_iff_eq.mpr c25
   clear c25
   replace H := bqz_ H; obtain ⟨⟨t285, t286, t287⟩, A26, H⟩ := H
   replace H := bqz_ H; obtain ⟨⟨t288, t289, t290⟩, A27, H⟩ := H
   replace H : (j0 k s0_0 t289 t290 (wrap64 (t266 + (wrap64 (Int.tdiv t269 8)))) t285 t288) = some (r1, r2, r3, r4, r5) := H
   have H' := Az_ H
   clear H
   go_wp2_with (first | ((with_reducible refine gate_callee (f := 38) rfl ?_); refine goesL_ (some 30) rfl rfl Tryd.func38 (w204_) rfl #[.pointer (some ⟨g, 0, none⟩), .int .i64 22] rfl maz_ ?_; (with_reducible refine (spec_l1Cur_pick.calls g s0_0 t276 t277 22 t285 t286 t287 w0 _ ?side1 ?side2 A26.out).mono ?_); (case side1 => repeat (first | (with_reducible first | exact HI0.out | apply IsS67.alloc | apply IsS67.drewN | apply IsS67.drew | apply IsS67.set_1 | apply IsS67.set_2 | refine IsS67.far ?_ NB0_265.out _ | refine IsS67.far ?_ NB0_278.out _) | exact HI0.out)); (case side2 => repeat (first | (with_reducible first | exact HB.out | apply baz_ | apply bnz_ | apply bdz_ | refine bsz_ ?_ (IsS67.ge HI0.out) | refine bsz_ ?_ GE265.out | refine bsz_ ?_ GE278.out) | exact HB.out)); rintro e w28 ⟨rfl, hi, hb, hk⟩; refine ⟨_, rfl, ?_⟩; replace BK265 := Az_ (KeepBut.blk hk (g' := gb265) (o := .cells #[.int .i64 0, .int .i64 0, .int .i64 0] 40 (0, 0)) (w8_) NB265_0.out (by simp)); replace BK278 := Az_ (KeepBut.blk hk (g' := gb278) (o := .cells #[.int .i64 (wrap64 (t266 + (wrap64 (Int.tdiv t269 8)))), .int .i64 0, .int .i64 (wrap64 (t272 - (wrap64 (Int.tdiv t275 8))))] 40 (0, 0)) (w5_) NB278_0.out (by simp)); replace HK := Az_ (KeepBut.trans (w95_) hk (.inl rfl)); replace HB := Az_ (hb); replace HI0 := Az_ (hi); (try clear hb); (try clear hk); (try clear hi); have hnb29 := NB278_265.out; have hnc29 := NB265_278.out; have hnb30 := NB278_0.out; have hnc30 := NB0_278.out; have hcz31_0 : w28.cell? ⟨gb278, 0, none⟩ = some (.int .i64 (wrap64 (t266 + (wrap64 (Int.tdiv t269 8))))) := (blk_cell BK278.out 0).trans rfl; have hcz31_1 := cz_ (x := .int .i64 0) BK278 1; have hcz31_2 : w28.cell? ⟨gb278, 2, none⟩ = some (.int .i64 (wrap64 (t272 - (wrap64 (Int.tdiv t275 8))))) := (blk_cell BK278.out 2).trans rfl; have hfz31_0 := blk_frozen BK278.out 0; have hfz31_1 := blk_frozen BK278.out 1; have hfz31_2 := blk_frozen BK278.out 2) | ((with_reducible refine gate_callee (f := 38) rfl ?_); refine goesL_ (some 33) rfl rfl Tryd.func38 (w204_) rfl #[.pointer (some ⟨g, 0, none⟩), .int .i64 3] rfl maz_ ?_; (with_reducible refine (spec_l1Cur_pick.calls g s0_0 t286 t287 3 t288 t289 t290 w0 _ ?side1 ?side2 A27.out).mono ?_); (case side1 => repeat (first | (with_reducible first | exact HI0.out | apply IsS67.alloc | apply IsS67.drewN | apply IsS67.drew | apply IsS67.set_1 | apply IsS67.set_2 | refine IsS67.far ?_ NB0_265.out _ | refine IsS67.far ?_ NB0_278.out _) | exact HI0.out)); (case side2 => repeat (first | (with_reducible first | exact HB.out | apply baz_ | apply bnz_ | apply bdz_ | refine bsz_ ?_ (IsS67.ge HI0.out) | refine bsz_ ?_ GE265.out | refine bsz_ ?_ GE278.out) | exact HB.out)); rintro e w32 ⟨rfl, hi, hb, hk⟩; refine ⟨_, rfl, ?_⟩; replace BK265 := Az_ (KeepBut.blk hk (g' := gb265) (o := .cells #[.int .i64 0, .int .i64 0, .int .i64 0] 40 (0, 0)) (w83_) NB265_0.out (by simp)); replace BK278 := Az_ (KeepBut.blk hk (g' := gb278) (o := .cells #[.int .i64 (wrap64 (t266 + (wrap64 (Int.tdiv t269 8)))), .int .i64 t285, .int .i64 (wrap64 (t272 - (wrap64 (Int.tdiv t275 8))))] 40 (0, 0)) (w19_) NB278_0.out (by simp)); replace HK := Az_ (KeepBut.trans (w95_) hk (.inl rfl)); replace HB := Az_ (hb); replace HI0 := Az_ (hi); (try clear hb); (try clear hk); (try clear hi); have hcz33_0 : w32.cell? ⟨gb278, 0, none⟩ = some (.int .i64 (wrap64 (t266 + (wrap64 (Int.tdiv t269 8))))) := (blk_cell BK278.out 0).trans rfl; have hcz33_1 := cz_ (x := .int .i64 t285) BK278 1; have hcz33_2 : w32.cell? ⟨gb278, 2, none⟩ = some (.int .i64 (wrap64 (t272 - (wrap64 (Int.tdiv t275 8))))) := (blk_cell BK278.out 2).trans rfl; have hfz33_0 := blk_frozen BK278.out 0; have hfz33_1 := blk_frozen BK278.out 1; have hfz33_2 := blk_frozen BK278.out 2))
   go_meet
   case rel => exact ⟨_, (t289), (t290), (t285), (t288), H', ⟨w173_⟩, ⟨w83_⟩, ⟨by (with_reducible repeat (first | refine knz_ ?_ _ | refine kdz_ ?_ | refine kaz_ ?_ _)); refine blk_put (cs := #[.int .i64 (wrap64 (t266 + (wrap64 (Int.tdiv t269 8)))), .int .i64 t285, .int .i64 (wrap64 (t272 - (wrap64 (Int.tdiv t275 8))))]) ?_ 2 _ rfl; (with_reducible repeat (first | refine knz_ ?_ _ | refine kdz_ ?_ | refine kaz_ ?_ _)); exact BK278.out⟩, ⟨w70_⟩, ⟨w95_⟩, ⟨w107_⟩⟩
  rw [if_neg c25] at H
  have c25b0 : ((wrap64 (t266 + (wrap64 (Int.tdiv t269 8)))) == 3) = false := beq_eq_false_iff_ne.mpr c25
  have c25b1 : ((wrap64 (t266 + (wrap64 (Int.tdiv t269 8)))) != 3) = true := bne_iff_ne.mpr c25
  by_cases c34 : (wrap64 (t266 + (wrap64 (Int.tdiv t269 8)))) = 4
  ·rw [if_pos c34] at H
   have c34b0 : ((wrap64 (t266 + (wrap64 (Int.tdiv t269 8)))) == 4) = true := beq_iff_eq.mpr c34
   have c34b1 : ((wrap64 (t266 + (wrap64 (Int.tdiv t269 8)))) != 4) = false := bne_eq_false_iff_eq.mpr c34
   clear c34
   replace H := bqz_ H; obtain ⟨⟨t291, t292, t293⟩, A35, H⟩ := H
   replace H := bqz_ H; obtain ⟨⟨t294, t295, t296⟩, A36, H⟩ := H
   replace H : (j0 k s0_0 t295 t296 (wrap64 (t266 + (wrap64 (Int.tdiv t269 8)))) (wrap64 (1 + t291)) t294) = some (r1, r2, r3, r4, r5) := H
   have H' := Az_ H
   clear H
   go_wp2_with (first | ((with_reducible refine gate_callee (f := 38) rfl ?_); refine goesL_ (some 38) rfl rfl Tryd.func38 (w204_) rfl #[.pointer (some ⟨g, 0, none⟩), .int .i64 10] rfl maz_ ?_; (with_reducible refine (spec_l1Cur_pick.calls g s0_0 t276 t277 10 t291 t292 t293 w0 _ ?side1 ?side2 A35.out).mono ?_); (case side1 => repeat (first | (with_reducible first | exact HI0.out | apply IsS67.alloc | apply IsS67.drewN | apply IsS67.drew | apply IsS67.set_1 | apply IsS67.set_2 | refine IsS67.far ?_ NB0_265.out _ | refine IsS67.far ?_ NB0_278.out _) | exact HI0.out)); (case side2 => repeat (first | (with_reducible first | exact HB.out | apply baz_ | apply bnz_ | apply bdz_ | refine bsz_ ?_ (IsS67.ge HI0.out) | refine bsz_ ?_ GE265.out | refine bsz_ ?_ GE278.out) | exact HB.out)); rintro e w37 ⟨rfl, hi, hb, hk⟩; refine ⟨_, rfl, ?_⟩; replace BK265 := Az_ (KeepBut.blk hk (g' := gb265) (o := .cells #[.int .i64 0, .int .i64 0, .int .i64 0] 40 (0, 0)) (w8_) NB265_0.out (by simp)); replace BK278 := Az_ (KeepBut.blk hk (g' := gb278) (o := .cells #[.int .i64 (wrap64 (t266 + (wrap64 (Int.tdiv t269 8)))), .int .i64 0, .int .i64 (wrap64 (t272 - (wrap64 (Int.tdiv t275 8))))] 40 (0, 0)) (w5_) NB278_0.out (by simp)); replace HK := Az_ (KeepBut.trans (w95_) hk (.inl rfl)); replace HB := Az_ (hb); replace HI0 := Az_ (hi); (try clear hb); (try clear hk); (try clear hi); have hnb38 := NB278_265.out; have hnc38 := NB265_278.out; have hnb39 := NB278_0.out; have hnc39 := NB0_278.out; have hcz40_0 : w37.cell? ⟨gb278, 0, none⟩ = some (.int .i64 (wrap64 (t266 + (wrap64 (Int.tdiv t269 8))))) := (blk_cell BK278.out 0).trans rfl; have hcz40_1 := cz_ (x := .int .i64 0) BK278 1; have hcz40_2 : w37.cell? ⟨gb278, 2, none⟩ = some (.int .i64 (wrap64 (t272 - (wrap64 (Int.tdiv t275 8))))) := (blk_cell BK278.out 2).trans rfl; have hfz40_0 := blk_frozen BK278.out 0; have hfz40_1 := blk_frozen BK278.out 1; have hfz40_2 := blk_frozen BK278.out 2) | ((with_reducible refine gate_callee (f := 38) rfl ?_); refine goesL_ (some 42) rfl rfl Tryd.func38 (w204_) rfl #[.pointer (some ⟨g, 0, none⟩), .int .i64 3] rfl maz_ ?_; (with_reducible refine (spec_l1Cur_pick.calls g s0_0 t292 t293 3 t294 t295 t296 w0 _ ?side1 ?side2 A36.out).mono ?_); (case side1 => repeat (first | (with_reducible first | exact HI0.out | apply IsS67.alloc | apply IsS67.drewN | apply IsS67.drew | apply IsS67.set_1 | apply IsS67.set_2 | refine IsS67.far ?_ NB0_265.out _ | refine IsS67.far ?_ NB0_278.out _) | exact HI0.out)); (case side2 => repeat (first | (with_reducible first | exact HB.out | apply baz_ | apply bnz_ | apply bdz_ | refine bsz_ ?_ (IsS67.ge HI0.out) | refine bsz_ ?_ GE265.out | refine bsz_ ?_ GE278.out) | exact HB.out)); rintro e w41 ⟨rfl, hi, hb, hk⟩; refine ⟨_, rfl, ?_⟩; replace BK265 := Az_ (KeepBut.blk hk (g' := gb265) (o := .cells #[.int .i64 0, .int .i64 0, .int .i64 0] 40 (0, 0)) (w83_) NB265_0.out (by simp)); replace BK278 := Az_ (KeepBut.blk hk (g' := gb278) (o := .cells #[.int .i64 (wrap64 (t266 + (wrap64 (Int.tdiv t269 8)))), .int .i64 (wrap64 (1 + t291)), .int .i64 (wrap64 (t272 - (wrap64 (Int.tdiv t275 8))))] 40 (0, 0)) (w19_) NB278_0.out (by simp)); replace HK := Az_ (KeepBut.trans (w95_) hk (.inl rfl)); replace HB := Az_ (hb); replace HI0 := Az_ (hi); (try clear hb); (try clear hk); (try clear hi); have hcz42_0 : w41.cell? ⟨gb278, 0, none⟩ = some (.int .i64 (wrap64 (t266 + (wrap64 (Int.tdiv t269 8))))) := (blk_cell BK278.out 0).trans rfl; have hcz42_1 := cz_ (x := .int .i64 (wrap64 (1 + t291))) BK278 1; have hcz42_2 : w41.cell? ⟨gb278, 2, none⟩ = some (.int .i64 (wrap64 (t272 - (wrap64 (Int.tdiv t275 8))))) := (blk_cell BK278.out 2).trans rfl; have hfz42_0 := blk_frozen BK278.out 0; have hfz42_1 := blk_frozen BK278.out 1; have hfz42_2 := blk_frozen BK278.out 2))
   go_meet
   case rel => exact ⟨_, (t295), (t296), (wrap64 (1 + t291)), (t294), H', ⟨w173_⟩, ⟨w83_⟩, ⟨by (with_reducible repeat (first | refine knz_ ?_ _ | refine kdz_ ?_ | refine kaz_ ?_ _)); refine blk_put (cs := #[.int .i64 (wrap64 (t266 + (wrap64 (Int.tdiv t269 8)))), .int .i64 (wrap64 (1 + t291)), .int .i64 (wrap64 (t272 - (wrap64 (Int.tdiv t275 8))))]) ?_ 2 _ rfl; (with_reducible repeat (first | refine knz_ ?_ _ | refine kdz_ ?_ | refine kaz_ ?_ _)); exact BK278.out⟩, ⟨w70_⟩, ⟨w95_⟩, ⟨w107_⟩⟩
  rw [if_neg c34] at H
  have c34b0 : ((wrap64 (t266 + (wrap64 (Int.tdiv t269 8)))) == 4) = false := beq_eq_false_iff_ne.mpr c34
  have c34b1 : ((wrap64 (t266 + (wrap64 (Int.tdiv t269 8)))) != 4) = true := bne_iff_ne.mpr c34
  by_cases c43 : (wrap64 (t266 + (wrap64 (Int.tdiv t269 8)))) = 5; rotate_left
  ·rw [if_neg c43] at H
   have c43b0 : ((wrap64 (t266 + (wrap64 (Int.tdiv t269 8)))) == 5) = false := beq_eq_false_iff_ne.mpr c43
   have c43b1 : ((wrap64 (t266 + (wrap64 (Int.tdiv t269 8)))) != 5) = true := bne_iff_ne.mpr c43
   have H' := Az_ H
   clear H
   go_wp2
   go_meet
   case rel => exact ⟨_, (t276), (t277), (0), (wrap64 (t272 - (wrap64 (Int.tdiv t275 8)))), H', ⟨w173_⟩, ⟨w8_⟩, ⟨w5_⟩, ⟨w70_⟩, ⟨w95_⟩, ⟨w107_⟩⟩
  rw [if_pos c43] at H
  have c43b0 : ((wrap64 (t266 + (wrap64 (Int.tdiv t269 8)))) == 5) = true := beq_iff_eq.mpr c43
  have c43b1 : ((wrap64 (t266 + (wrap64 (Int.tdiv t269 8)))) != 5) = false := bne_eq_false_iff_eq.mpr c43
  clear c43
  replace H := bqz_ H; obtain ⟨⟨t297, t298, t299⟩, A44, H⟩ := H
  replace H : (j0 k s0_0 t298 t299 (wrap64 (t266 + (wrap64 (Int.tdiv t269 8)))) 0 (wrap64 ((wrap64 (4 * t297)) - 1))) = some (r1, r2, r3, r4, r5) := H
  have H' := Az_ H
  clear H
  go_wp2_with (((with_reducible refine gate_callee (f := 38) rfl ?_); refine goesL_ (some 47) rfl rfl Tryd.func38 (w204_) rfl #[.pointer (some ⟨g, 0, none⟩), .int .i64 21] rfl maz_ ?_; (with_reducible refine (spec_l1Cur_pick.calls g s0_0 t276 t277 21 t297 t298 t299 w0 _ ?side1 ?side2 A44.out).mono ?_); (case side1 => repeat (first | (with_reducible first | exact HI0.out | apply IsS67.alloc | apply IsS67.drewN | apply IsS67.drew | apply IsS67.set_1 | apply IsS67.set_2 | refine IsS67.far ?_ NB0_265.out _ | refine IsS67.far ?_ NB0_278.out _) | exact HI0.out)); (case side2 => repeat (first | (with_reducible first | exact HB.out | apply baz_ | apply bnz_ | apply bdz_ | refine bsz_ ?_ (IsS67.ge HI0.out) | refine bsz_ ?_ GE265.out | refine bsz_ ?_ GE278.out) | exact HB.out)); rintro e w45 ⟨rfl, hi, hb, hk⟩; refine ⟨_, rfl, ?_⟩; replace BK265 := Az_ (KeepBut.blk hk (g' := gb265) (o := .cells #[.int .i64 0, .int .i64 0, .int .i64 0] 40 (0, 0)) (w8_) NB265_0.out (by simp)); replace BK278 := Az_ (KeepBut.blk hk (g' := gb278) (o := .cells #[.int .i64 (wrap64 (t266 + (wrap64 (Int.tdiv t269 8)))), .int .i64 0, .int .i64 (wrap64 (t272 - (wrap64 (Int.tdiv t275 8))))] 40 (0, 0)) (w5_) NB278_0.out (by simp)); replace HK := Az_ (KeepBut.trans (w95_) hk (.inl rfl)); replace HB := Az_ (hb); replace HI0 := Az_ (hi); (try clear hb); (try clear hk); (try clear hi); have hnb46 := NB278_265.out; have hnc46 := NB265_278.out; have hnb47 := NB278_0.out; have hnc47 := NB0_278.out; have hcz48_0 : w45.cell? ⟨gb278, 0, none⟩ = some (.int .i64 (wrap64 (t266 + (wrap64 (Int.tdiv t269 8))))) := (blk_cell BK278.out 0).trans rfl; have hcz48_1 := cz_ (x := .int .i64 0) BK278 1; have hcz48_2 : w45.cell? ⟨gb278, 2, none⟩ = some (.int .i64 (wrap64 (t272 - (wrap64 (Int.tdiv t275 8))))) := (blk_cell BK278.out 2).trans rfl; have hfz48_0 := blk_frozen BK278.out 0; have hfz48_1 := blk_frozen BK278.out 1; have hfz48_2 := blk_frozen BK278.out 2))
  go_meet
  case rel => exact ⟨_, (t298), (t299), (0), (wrap64 ((wrap64 (4 * t297)) - 1)), H', ⟨w173_⟩, ⟨w83_⟩, ⟨by (with_reducible repeat (first | refine knz_ ?_ _ | refine kdz_ ?_ | refine kaz_ ?_ _)); refine blk_put (cs := #[.int .i64 (wrap64 (t266 + (wrap64 (Int.tdiv t269 8)))), .int .i64 0, .int .i64 (wrap64 (t272 - (wrap64 (Int.tdiv t275 8))))]) ?_ 2 _ rfl; (with_reducible repeat (first | refine knz_ ?_ _ | refine kdz_ ?_ | refine kaz_ ?_ _)); exact BK278.out⟩, ⟨w70_⟩, ⟨w95_⟩, ⟨w107_⟩⟩
 case rest =>
  clear HC6
  clear hcz15_0 hcz15_1 hcz15_2 hfz15_0 hfz15_1 hfz15_2
  obtain ⟨kq, x1001_5, x1002_5, x279001_5, x279002_5, HA, HJ5, BK265, BK278, HI0, HK, HB⟩ := hcut
  cases kq with
  | zero => exact absurd HA.out (by simp [j0])
  | succ kj5 =>
   have H := HA.out
   clear HA
   simp only [j0] at H
   replace H := bqz_ H; obtain ⟨⟨t300, t301, t302⟩, A49, H⟩ := H
   replace H : (if t300 = true then ((spec_l1Cur_pick.f s0_0 t301 t302 3).bind fun bt303 => (some ((wrap64 (t266 + (wrap64 (Int.tdiv t269 8)))), wrap64 (bt303.1 - 1), x279002_5, bt303.2.1, bt303.2.2))) else (some ((wrap64 (t266 + (wrap64 (Int.tdiv t269 8)))), x279001_5, x279002_5, t301, t302))) = some (r1, r2, r3, r4, r5) := H
   by_cases c50 : t300 = true
   ·subst c50
    rw [if_pos rfl] at H
    replace H := bqz_ H; obtain ⟨⟨t303, t304, t305⟩, A51, H⟩ := H
    replace H : (some ((wrap64 (t266 + (wrap64 (Int.tdiv t269 8)))), wrap64 (t303 - 1), x279002_5, t304, t305)) = some (r1, r2, r3, r4, r5) := H
    simp only [Option.some.injEq, Prod.mk.injEq] at H
    obtain ⟨rfl, rfl, rfl, rfl, rfl⟩ := H
    go_wp2_with (first | ((with_reducible refine gate_callee (f := 35) rfl ?_); refine goesL_ (some 52) rfl rfl Tryd.func35 (w204_) rfl #[.pointer (some ⟨g, 0, none⟩), .int .i64 14] rfl maz_ ?_; (with_reducible refine (spec_l1Cur_one.calls g s0_0 x1001_5 x1002_5 14 true t301 t302 w0 _ ?side1 ?side2 A49.out).mono ?_); (case side1 => repeat (first | (with_reducible first | exact HI0.out | apply IsS67.alloc | apply IsS67.drewN | apply IsS67.drew | apply IsS67.set_1 | apply IsS67.set_2 | refine IsS67.far ?_ NB0_265.out _ | refine IsS67.far ?_ NB0_278.out _) | exact HI0.out)); (case side2 => repeat (first | (with_reducible first | exact HB.out | apply baz_ | apply bnz_ | apply bdz_ | refine bsz_ ?_ (IsS67.ge HI0.out) | refine bsz_ ?_ GE265.out | refine bsz_ ?_ GE278.out) | exact HB.out)); rintro e w52 ⟨rfl, hi, hb, hk⟩; refine ⟨_, rfl, ?_⟩; replace BK265 := Az_ (KeepBut.blk hk (g' := gb265) (o := .cells #[.int .i64 0, .int .i64 0, .int .i64 0] 40 (0, 0)) (by exact ukz_ BK265.out) NB265_0.out (by simp)); replace BK278 := Az_ (KeepBut.blk hk (g' := gb278) (o := .cells #[.int .i64 (wrap64 (t266 + (wrap64 (Int.tdiv t269 8)))), .int .i64 x279001_5, .int .i64 x279002_5] 40 (0, 0)) (by exact ukz_ BK278.out) NB278_0.out (by simp)); replace HK := Az_ (KeepBut.trans (w95_) hk (.inl rfl)); replace HB := Az_ (hb); replace HI0 := Az_ (hi); (try clear hb); (try clear hk); (try clear hi)) | ((with_reducible refine gate_callee (f := 38) rfl ?_); refine goesL_ (some 54) rfl rfl Tryd.func38 (w204_) rfl #[.pointer (some ⟨g, 0, none⟩), .int .i64 3] rfl maz_ ?_; (with_reducible refine (spec_l1Cur_pick.calls g s0_0 t301 t302 3 t303 t304 t305 w0 _ ?side1 ?side2 A51.out).mono ?_); (case side1 => repeat (first | (with_reducible first | exact HI0.out | apply IsS67.alloc | apply IsS67.drewN | apply IsS67.drew | apply IsS67.set_1 | apply IsS67.set_2 | refine IsS67.far ?_ NB0_265.out _ | refine IsS67.far ?_ NB0_278.out _) | exact HI0.out)); (case side2 => repeat (first | (with_reducible first | exact HB.out | apply baz_ | apply bnz_ | apply bdz_ | refine bsz_ ?_ (IsS67.ge HI0.out) | refine bsz_ ?_ GE265.out | refine bsz_ ?_ GE278.out) | exact HB.out)); rintro e w53 ⟨rfl, hi, hb, hk⟩; refine ⟨_, rfl, ?_⟩; replace BK265 := Az_ (KeepBut.blk hk (g' := gb265) (o := .cells #[.int .i64 0, .int .i64 0, .int .i64 0] 40 (0, 0)) (by exact ukz_ BK265.out) NB265_0.out (by simp)); replace BK278 := Az_ (KeepBut.blk hk (g' := gb278) (o := .cells #[.int .i64 (wrap64 (t266 + (wrap64 (Int.tdiv t269 8)))), .int .i64 x279001_5, .int .i64 x279002_5] 40 (0, 0)) (by exact ukz_ BK278.out) NB278_0.out (by simp)); replace HK := Az_ (KeepBut.trans (w95_) hk (.inl rfl)); replace HB := Az_ (hb); replace HI0 := Az_ (hi); (try clear hb); (try clear hk); (try clear hi); have hnb54 := NB278_265.out; have hnc54 := NB265_278.out; have hnb55 := NB278_0.out; have hnc55 := NB0_278.out; have hcz56_0 : w53.cell? ⟨gb278, 0, none⟩ = some (.int .i64 (wrap64 (t266 + (wrap64 (Int.tdiv t269 8))))) := (blk_cell BK278.out 0).trans rfl; have hcz56_1 := cz_ (x := .int .i64 x279001_5) BK278 1; have hcz56_2 := cz_ (x := .int .i64 x279002_5) BK278 2; have hfz56_0 := blk_frozen BK278.out 0; have hfz56_1 := blk_frozen BK278.out 1; have hfz56_2 := blk_frozen BK278.out 2; have hnb57 := NB265_0.out; have hnc57 := NB0_265.out; have hcz58_0 := cz_ (x := .int .i64 0) BK265 0; have hcz58_1 := cz_ (x := .int .i64 0) BK265 1; have hcz58_2 := cz_ (x := .int .i64 0) BK265 2; have hfz58_0 := blk_frozen BK265.out 0; have hfz58_1 := blk_frozen BK265.out 1; have hfz58_2 := blk_frozen BK265.out 2))
    refine bodyPost_ret (results_cell_row rfl _ _ gb265 40 #[.int .i64 (wrap64 (t266 + (wrap64 (Int.tdiv t269 8)))), .int .i64 (wrap64 (t303 - 1)), .int .i64 x279002_5] (0, 0) _ rfl (by (with_reducible repeat (first | refine knz_ ?_ _ | refine kdz_ ?_ | refine kaz_ ?_ _)); refine blk_put (cs := #[.int .i64 (wrap64 (t266 + (wrap64 (Int.tdiv t269 8)))), .int .i64 (wrap64 (t303 - 1)), .int .i64 0]) ?_ 2 _ rfl; (with_reducible repeat (first | refine knz_ ?_ _ | refine kdz_ ?_ | refine kaz_ ?_ _)); refine blk_put (cs := #[.int .i64 (wrap64 (t266 + (wrap64 (Int.tdiv t269 8)))), .int .i64 0, .int .i64 0]) ?_ 1 _ rfl; (with_reducible repeat (first | refine knz_ ?_ _ | refine kdz_ ?_ | refine kaz_ ?_ _)); refine blk_put (cs := #[.int .i64 0, .int .i64 0, .int .i64 0]) ?_ 0 _ rfl; (with_reducible repeat (first | refine knz_ ?_ _ | refine kdz_ ?_ | refine kaz_ ?_ _)); refine blk_far ?_ NB265_278.out _; (with_reducible repeat (first | refine knz_ ?_ _ | refine kdz_ ?_ | refine kaz_ ?_ _)); exact BK265.out) Tryd.underlying40 rfl (w204_)) rfl ?_
    exact ⟨w166_, w70_, w107_, w95_⟩
   ·replace c50 := Bool.eq_false_iff.mpr c50
    subst c50
    rw [if_neg nfz_] at H
    simp only [Option.some.injEq, Prod.mk.injEq] at H
    obtain ⟨rfl, rfl, rfl, rfl, rfl⟩ := H
    go_wp2_with (((with_reducible refine gate_callee (f := 35) rfl ?_); refine goesL_ (some 52) rfl rfl Tryd.func35 (w204_) rfl #[.pointer (some ⟨g, 0, none⟩), .int .i64 14] rfl maz_ ?_; (with_reducible refine (spec_l1Cur_one.calls g s0_0 x1001_5 x1002_5 14 false t301 t302 w0 _ ?side1 ?side2 A49.out).mono ?_); (case side1 => repeat (first | (with_reducible first | exact HI0.out | apply IsS67.alloc | apply IsS67.drewN | apply IsS67.drew | apply IsS67.set_1 | apply IsS67.set_2 | refine IsS67.far ?_ NB0_265.out _ | refine IsS67.far ?_ NB0_278.out _) | exact HI0.out)); (case side2 => repeat (first | (with_reducible first | exact HB.out | apply baz_ | apply bnz_ | apply bdz_ | refine bsz_ ?_ (IsS67.ge HI0.out) | refine bsz_ ?_ GE265.out | refine bsz_ ?_ GE278.out) | exact HB.out)); rintro e w59 ⟨rfl, hi, hb, hk⟩; refine ⟨_, rfl, ?_⟩; replace BK265 := Az_ (KeepBut.blk hk (g' := gb265) (o := .cells #[.int .i64 0, .int .i64 0, .int .i64 0] 40 (0, 0)) (by exact ukz_ BK265.out) NB265_0.out (by simp)); replace BK278 := Az_ (KeepBut.blk hk (g' := gb278) (o := .cells #[.int .i64 (wrap64 (t266 + (wrap64 (Int.tdiv t269 8)))), .int .i64 x279001_5, .int .i64 x279002_5] 40 (0, 0)) (by exact ukz_ BK278.out) NB278_0.out (by simp)); replace HK := Az_ (KeepBut.trans (w95_) hk (.inl rfl)); replace HB := Az_ (hb); replace HI0 := Az_ (hi); (try clear hb); (try clear hk); (try clear hi); have hnb60 := NB278_265.out; have hnc60 := NB265_278.out; have hnb61 := NB278_0.out; have hnc61 := NB0_278.out; have hcz62_0 : w59.cell? ⟨gb278, 0, none⟩ = some (.int .i64 (wrap64 (t266 + (wrap64 (Int.tdiv t269 8))))) := (blk_cell BK278.out 0).trans rfl; have hcz62_1 := cz_ (x := .int .i64 x279001_5) BK278 1; have hcz62_2 := cz_ (x := .int .i64 x279002_5) BK278 2; have hfz62_0 := blk_frozen BK278.out 0; have hfz62_1 := blk_frozen BK278.out 1; have hfz62_2 := blk_frozen BK278.out 2; have hnb63 := NB265_0.out; have hnc63 := NB0_265.out; have hcz64_0 := cz_ (x := .int .i64 0) BK265 0; have hcz64_1 := cz_ (x := .int .i64 0) BK265 1; have hcz64_2 := cz_ (x := .int .i64 0) BK265 2; have hfz64_0 := blk_frozen BK265.out 0; have hfz64_1 := blk_frozen BK265.out 1; have hfz64_2 := blk_frozen BK265.out 2))
    refine bodyPost_ret (results_cell_row rfl _ _ gb265 40 #[.int .i64 (wrap64 (t266 + (wrap64 (Int.tdiv t269 8)))), .int .i64 x279001_5, .int .i64 x279002_5] (0, 0) _ rfl (by (with_reducible repeat (first | refine knz_ ?_ _ | refine kdz_ ?_ | refine kaz_ ?_ _)); refine blk_put (cs := #[.int .i64 (wrap64 (t266 + (wrap64 (Int.tdiv t269 8)))), .int .i64 x279001_5, .int .i64 0]) ?_ 2 _ rfl; (with_reducible repeat (first | refine knz_ ?_ _ | refine kdz_ ?_ | refine kaz_ ?_ _)); refine blk_put (cs := #[.int .i64 (wrap64 (t266 + (wrap64 (Int.tdiv t269 8)))), .int .i64 0, .int .i64 0]) ?_ 1 _ rfl; (with_reducible repeat (first | refine knz_ ?_ _ | refine kdz_ ?_ | refine kaz_ ?_ _)); refine blk_put (cs := #[.int .i64 0, .int .i64 0, .int .i64 0]) ?_ 0 _ rfl; (with_reducible repeat (first | refine knz_ ?_ _ | refine kdz_ ?_ | refine kaz_ ?_ _)); exact BK265.out) Tryd.underlying40 rfl (w204_)) rfl ?_
    exact ⟨w166_, w70_, w107_, w95_⟩

def spec_l1Cur_surePuzzle.f (k : Nat) (s0_0 : List Int) (s0_1 : Int) (s0_2 : Int) (a1 : Int) : Option ((List (S40)) × Int × Int) := (spec_l1Cur_hidden.f s0_0 s0_1 s0_2).bind fun bt307 => ((spec_l1Cur_pick.f s0_0 bt307.2.2.1 bt307.2.2.2 (wrap64 (a1 + 1))).bind fun bt311 => ((spec_l1Cur_pick.f s0_0 bt311.2.1 bt311.2.2 10000).bind fun bt314 => ((spec_MakePuzzle.f k bt307.1 bt307.2.1 bt311.1 bt314.1).bind fun bt317 => (some (bt317.1, bt314.2.1, bt314.2.2)))))
set_option maxHeartbeats 8000000 in
set_option maxRecDepth 100000 in
theorem spec_l1Cur_surePuzzle.calls (k : Nat) (g : Nat) (s0_0 : List Int) (s0_1 : Int) (s0_2 : Int) (a1 : Int) (r1 : List (S40)) (r2 : Int) (r3 : Int) (w0 w : World) (hI : IsS67 w0 w g s0_0 s0_1 s0_2) (hB : Below w0.heap.size w0 w) (h : spec_l1Cur_surePuzzle.f k s0_0 s0_1 s0_2 a1 = some (r1, r2, r3)) :
  Calls Tryd.prog 69 #[.pointer (some ⟨g, 0, none⟩), .int .i64 a1] w fun e w' => ∃ v0_ : Value, e = .returned (.agg #[v0_]) ∧ Kd.R k40 40 w' w.heap.size (fun _ => True) v0_ r1 ∧ IsS67 w0 w' g s0_0 r2 r3 ∧ Below w0.heap.size w0 w' ∧ KeepBut w w' g none := by
 have hu30 := Tryd.underlying30
 have HI0 := Az_ hI
 have HK := Az_ (KeepBut.refl w g none)
 have HL := Az_ hB.size
 clear hI
 have HW0 := Az_ hB.size
 have HB := Az_ hB
 clear hB
 have H : ((spec_l1Cur_hidden.f s0_0 s0_1 s0_2).bind fun bt307 => ((spec_l1Cur_pick.f s0_0 bt307.2.2.1 bt307.2.2.2 (wrap64 (a1 + 1))).bind fun bt311 => ((spec_l1Cur_pick.f s0_0 bt311.2.1 bt311.2.2 10000).bind fun bt314 => ((spec_MakePuzzle.f k bt307.1 bt307.2.1 bt311.1 bt314.1).bind fun bt317 => (some (bt317.1, bt314.2.1, bt314.2.2)))))) = some (r1, r2, r3) := h
 clear h
 replace H := bqz_ H; obtain ⟨⟨t307, t308, t309, t310⟩, A3, H⟩ := H
 replace H := bqz_ H; obtain ⟨⟨t311, t312, t313⟩, A4, H⟩ := H
 replace H := bqz_ H; obtain ⟨⟨t314, t315, t316⟩, A5, H⟩ := H
 replace H := bqz_ H; obtain ⟨⟨t317, t320⟩, A6, H⟩ := H
 replace H : (some (t317, t315, t316)) = some (r1, r2, r3) := H
 simp only [Option.some.injEq, Prod.mk.injEq] at H
 obtain ⟨rfl, rfl, rfl⟩ := H
 go_enter Tryd.func69, Tryd.ntmps69
 go_wp2_with (first | ((with_reducible refine gate_dst (N := 4) rfl ?_); refine bxe_ (N := 4) (cs := #[.slice none 0 0]) (t := 30) ?_; intro gb306 hg w7 BK306 hb; have GW306 := Az_ ((by rw [hg]; exact (keep_size (w := w) (g := g) (row := none) (w126_)) : w.heap.size ≤ gb306)); have GE306 := Az_ ((Nat.le_trans HW0.out (by rw [hg]; exact (keep_size (w := w) (g := g) (row := none) (w126_)) : w.heap.size ≤ gb306) : w0.heap.size ≤ gb306)); have NB0_306 := Az_ ((by rw [hg]; exact Nat.ne_of_lt (IsS67.lt (show IsS67 w0 _ g s0_0 s0_1 s0_2 from w121_)) : g ≠ gb306)); have NB306_0 := Az_ ((by rw [hg]; exact Nat.ne_of_gt (IsS67.lt (show IsS67 w0 _ g s0_0 s0_1 s0_2 from w121_)) : gb306 ≠ g)); replace HB := Az_ (btz_ (w128_) hb); replace HK := Az_ (KeepBut.trans (w126_) (KeepBut.of_below hb g none) (.inl rfl)); replace HI0 := Az_ (IsS67.below (w121_) hb); clear hb hg) | ((with_reducible refine gate_callee (f := 37) rfl ?_); refine goesL_ (some 9) rfl rfl Tryd.func37 (w204_) rfl #[.pointer (some ⟨g, 0, none⟩)] rfl maz_ ?_; (with_reducible refine (spec_l1Cur_hidden.calls g s0_0 s0_1 s0_2 t307 t308 t309 t310 w0 _ ?side1 ?side2 A3.out).mono ?_); (case side1 => repeat (first | (with_reducible first | exact HI0.out | apply IsS67.alloc | apply IsS67.drewN | apply IsS67.drew | apply IsS67.set_1 | apply IsS67.set_2 | refine IsS67.far ?_ NB0_306.out _) | exact HI0.out)); (case side2 => repeat (first | (with_reducible first | exact HB.out | apply baz_ | apply bnz_ | apply bdz_ | refine bsz_ ?_ (IsS67.ge HI0.out) | refine bsz_ ?_ GE306.out) | exact HB.out)); rintro e w8 ⟨rfl, hi, hb, hk⟩; refine ⟨_, rfl, ?_⟩; replace BK306 := Az_ (KeepBut.blk hk (g' := gb306) (o := .cells #[.slice none 0 0] 30 (0, 0)) (by exact ukz_ BK306.out) NB306_0.out (by simp)); replace HK := Az_ (KeepBut.trans (w111_) hk (.inl rfl)); replace HB := Az_ (hb); replace HI0 := Az_ (hi); (try clear hb); (try clear hk); (try clear hi)) | ((with_reducible refine gate_callee (f := 38) rfl ?_); refine goesL_ (some 13) rfl rfl Tryd.func38 (w204_) rfl #[.pointer (some ⟨g, 0, none⟩), .int .i64 (wrap64 (a1 + 1))] rfl maz_ ?_; (with_reducible refine (spec_l1Cur_pick.calls g s0_0 t309 t310 (wrap64 (a1 + 1)) t311 t312 t313 w0 _ ?side1 ?side2 A4.out).mono ?_); (case side1 => repeat (first | (with_reducible first | exact HI0.out | apply IsS67.alloc | apply IsS67.drewN | apply IsS67.drew | apply IsS67.set_1 | apply IsS67.set_2 | refine IsS67.far ?_ NB0_306.out _) | exact HI0.out)); (case side2 => repeat (first | (with_reducible first | exact HB.out | apply baz_ | apply bnz_ | apply bdz_ | refine bsz_ ?_ (IsS67.ge HI0.out) | refine bsz_ ?_ GE306.out) | exact HB.out)); rintro e w9 ⟨rfl, hi, hb, hk⟩; refine ⟨_, rfl, ?_⟩; replace BK306 := Az_ (KeepBut.blk hk (g' := gb306) (o := .cells #[.slice none 0 0] 30 (0, 0)) (by exact ukz_ BK306.out) NB306_0.out (by simp)); replace HK := Az_ (KeepBut.trans (w111_) hk (.inl rfl)); replace HB := Az_ (hb); replace HI0 := Az_ (hi); (try clear hb); (try clear hk); (try clear hi)) | ((with_reducible refine gate_callee (f := 38) rfl ?_); refine goesL_ (some 15) rfl rfl Tryd.func38 (w204_) rfl #[.pointer (some ⟨g, 0, none⟩), .int .i64 10000] rfl maz_ ?_; (with_reducible refine (spec_l1Cur_pick.calls g s0_0 t312 t313 10000 t314 t315 t316 w0 _ ?side1 ?side2 A5.out).mono ?_); (case side1 => repeat (first | (with_reducible first | exact HI0.out | apply IsS67.alloc | apply IsS67.drewN | apply IsS67.drew | apply IsS67.set_1 | apply IsS67.set_2 | refine IsS67.far ?_ NB0_306.out _) | exact HI0.out)); (case side2 => repeat (first | (with_reducible first | exact HB.out | apply baz_ | apply bnz_ | apply bdz_ | refine bsz_ ?_ (IsS67.ge HI0.out) | refine bsz_ ?_ GE306.out) | exact HB.out)); rintro e w10 ⟨rfl, hi, hb, hk⟩; refine ⟨_, rfl, ?_⟩; replace BK306 := Az_ (KeepBut.blk hk (g' := gb306) (o := .cells #[.slice none 0 0] 30 (0, 0)) (by exact ukz_ BK306.out) NB306_0.out (by simp)); replace HK := Az_ (KeepBut.trans (w111_) hk (.inl rfl)); replace HB := Az_ (hb); replace HI0 := Az_ (hi); (try clear hb); (try clear hk); (try clear hi)) | ((with_reducible refine gate_callee (f := 7) rfl ?_); refine goesL_ (some 16) rfl rfl Tryd.func7 (w204_) rfl #[.agg #[.int .i64 t307, .int .i64 t308], .int .i64 t311, .int .i64 t314] rfl maz_ ?_; (with_reducible refine (spec_MakePuzzle.calls k t307 t308 t311 t314 t317 t320 _ A6.out).mono ?_); rintro e w11 ⟨v318, rfl, ho0, hb⟩; refine ⟨_, rfl, ?_⟩; have n0_ := Az_ (Kd.R_lower ho0 (keep_size (w := w) (g := g) (row := none) (w111_))); have n1_ := Az_ (IsS67.below (w102_) hb); have n3_ := Az_ (KeepBut.trans (w111_) (KeepBut.of_below hb g none) (.inl rfl)); have n4_ := Az_ (btz_ (w120_) hb); clear HI0; clear HK; clear HB; have HO319 := n0_; have HI0 := n1_; replace BK306 := Az_ (ukbz_ BK306.out hb); have HK := n3_; have HB := n4_; clear n0_ n1_ n3_ n4_; (try clear hb); (try clear hk); (try clear hi); (try clear ho0)) | ((with_reducible refine gate_dst (N := 5) rfl ?_); refine bxe_ (N := 5) (cs := #[.slice none 0 0]) (t := 30) ?_; intro gb321 hg w12 BK321 hb; obtain ⟨NB306_321, NB321_306⟩ := nez_ BK306 hg; replace HO319 := Az_ (Kd.R_below (by exact urz_ HO319.out) hb); replace HB := Az_ (btz_ (w120_) hb); have GW321 := Az_ ((by rw [hg]; exact (keep_size (w := w) (g := g) (row := none) (w111_)) : w.heap.size ≤ gb321)); have GE321 := Az_ ((Nat.le_trans HW0.out (by rw [hg]; exact (keep_size (w := w) (g := g) (row := none) (w111_)) : w.heap.size ≤ gb321) : w0.heap.size ≤ gb321)); replace HK := Az_ (KeepBut.trans (w111_) (KeepBut.of_below hb g none) (.inl rfl)); have NB0_321 := Az_ ((by rw [hg]; exact Nat.ne_of_lt (IsS67.lt (show IsS67 w0 _ g s0_0 t315 t316 from w102_)) : g ≠ gb321)); have NB321_0 := Az_ ((by rw [hg]; exact Nat.ne_of_gt (IsS67.lt (show IsS67 w0 _ g s0_0 t315 t316 from w102_)) : gb321 ≠ g)); replace HI0 := Az_ (IsS67.below (w102_) hb); replace BK306 := Az_ (ukbz_ BK306.out hb); clear hb hg; obtain ⟨Ao13, co13, eo13⟩ := Kd.R_slice HO319.out; subst eo13; have hnb14 := NB321_306.out; have hnc14 := NB306_321.out; have hnb15 := NB321_0.out; have hnc15 := NB0_321.out; have hcz16_0 := cz_ (x := .slice none 0 0) BK321 0; have hfz16_0 := blk_frozen BK321.out 0; have hnb17 := NB306_0.out; have hnc17 := NB0_306.out; have hcz18_0 := cz_ (x := .slice none 0 0) BK306 0; have hfz18_0 := blk_frozen BK306.out 0))
 refine bodyPost_ret (results_cell_row rfl _ _ gb306 30 #[.slice Ao13 t317.length co13] (0, 0) _ rfl (by (with_reducible repeat (first | refine knz_ ?_ _ | refine kdz_ ?_ | refine kaz_ ?_ _)); refine blk_put (cs := #[.slice none 0 0]) ?_ 0 _ rfl; (with_reducible repeat (first | refine knz_ ?_ _ | refine kdz_ ?_ | refine kaz_ ?_ _)); refine blk_far ?_ NB306_321.out _; (with_reducible repeat (first | refine knz_ ?_ _ | refine kdz_ ?_ | refine kaz_ ?_ _)); exact BK306.out) Tryd.underlying30 rfl (w204_)) rfl ?_
 exact ⟨_, w166_, by (with_reducible repeat (first | apply raz_ | apply rnz_ | apply rdz_)); exact Kd.R_mono (Kd.R_far (p := ⟨gb306, 0, none⟩) (Kd.R_far (p := ⟨gb321, 0, none⟩) (Kd.R_types (Kd.R_types HO319.out BK321.out (by decide)) BK306.out (by decide)) (fun _ hk => hk.1.2) (.slice Ao13 t317.length co13)) (fun _ hk => hk.2) (.slice Ao13 t317.length co13)) (fun _ hk => trivial), by repeat (first | (with_reducible first | exact HI0.out | apply IsS67.alloc | apply IsS67.drewN | apply IsS67.drew | apply IsS67.set_1 | apply IsS67.set_2 | refine IsS67.far ?_ NB0_306.out _ | refine IsS67.far ?_ NB0_321.out _) | exact HI0.out), by repeat (first | (with_reducible first | exact HB.out | apply baz_ | apply bnz_ | apply bdz_ | refine bsz_ ?_ (IsS67.ge HI0.out) | refine bsz_ ?_ GE306.out | refine bsz_ ?_ GE321.out) | exact HB.out), by repeat (first | (with_reducible first | exact HK.out | apply KeepBut.set_ | apply keep_drewN | apply keep_drew | apply keep_alloc | refine keep_far ?_ GW306.out _ | refine keep_far ?_ GW321.out _) | exact HK.out)⟩

end Go.Proofs.YtodacdcbeleleaaDoor.P
end
