/- Lean functions with the answers of the program's Go functions, and for each the proof that the Go code comes to these answers; no condition. -/
import Derived.Test.YtppbpefehpbejaaDoorZim21
section
namespace Go.Proofs.YtppbpefehpbejaaDoor.P
open Go.RowKit Go.Proofs.YtppbpefehpbejaaDoorW.PrintWords Go.Proofs.YtppbpefehpbejaaDoorW.PrintLast Go.Proofs.YtppbpefehpbejaaDoorW.PrintMore
attribute [local go_sem] max2_int min2_int max_two min_two max_three min_three max_four min_four   -- for this text's walks alone
set_option linter.unusedVariables false
set_option linter.unusedSimpArgs false

def spec_ixGood.l0 : Nat → List (S100) → List (S100) → Int → Int → Option (Bool)
 | 0, _, _, _, _ => none
 | k + 1, x0, x8, x9, x10 => if x10 < x9 then (if 0 ≤ x10 then (if x10 < (x8.length : Int) then ((spec_ixRange.f ((rd_T100 x8 x10).f0) ((rd_T100 x8 x10).f1)).bind fun t204 => (if t204 = true then (if x10 > 0 then (if 0 ≤ (wrap64 (x10 - 1)) then (if (wrap64 (x10 - 1)) < (x0.length : Int) then (if ((rd_T100 x8 x10).f0) < (wrap64 (((rd_T100 x0 (wrap64 (x10 - 1))).f1) + 2)) then (some false) else (spec_ixGood.l0 k x0 x8 x9 (wrap64 (x10 + 1)))) else (none)) else (none)) else (spec_ixGood.l0 k x0 x8 x9 (wrap64 (x10 + 1)))) else (some false))) else (none)) else (none)) else (some true)
def spec_ixGood.f (k : Nat) (l0 : List (S100)) : Option (Bool) := if (l0.length : Int) > 20 then (some false) else (spec_ixGood.l0 k l0 l0 (l0.length : Int) 0)
def spec_ixGood.T6 : Bool × List (List Nat × List Nat) := (true, [([], []), ([0], [0]), ([1], [1]), ([2, 1], [2]), ([3], [3]), ([4, 3], [3, 4]), ([5, 3, 3], [3, 5]), ([6], [6]), ([7, 6], [6, 7]), ([6], [6]), ([6], [6]), ([10, 6], [6, 10]), ([9, 11, 6], [6, 9, 11]), ([12, 6], [6, 12]), ([13, 6], [6, 13]), ([14, 6], [6, 14]), ([8, 15, 6], [6, 8, 15]), ([6, 16, 3], [3, 6, 16]), ([3, 17], [3, 17])])
def spec_ixGood.B6 : List Nat := [0, 1, 3, 7, 15, 31, 63, 127, 255, 127, 127, 1151, 3711, 7807, 15999, 32383, 65535, 131071, 262143]
theorem spec_ixGood.tab6 : rtab .any (opsOf Tryd.f161 6) = spec_ixGood.T6 := by kernel_rfl
theorem spec_ixGood.bits6 : waitsOk spec_ixGood.T6.2 spec_ixGood.B6 = true := by kernel_rfl
set_option maxHeartbeats 8000000 in
set_option maxRecDepth 100000 in
theorem spec_ixGood.calls (k : Nat) (A0 : Option Addr) (c0 : Nat) (l0 : List (S100)) (r : Bool) (w : World) (hr0 : Kd.C k100 w A0 l0.length l0) (hc0 : l0.length ≤ c0) (h : spec_ixGood.f k l0 = some r) :
  Calls Tryd.prog 161 #[.slice A0 l0.length c0] w fun e w' => e = .returned (.bool r) ∧ Below w.heap.size w w' := by
 have hu100 := Tryd.underlying100
 have HR0 := Az_ hr0
 have HC0 := Az_ hc0
 clear hr0 hc0
 have HB := Az_ (Below.refl w.heap.size w)
 have H : (if (l0.length : Int) > 20 then (some false) else (spec_ixGood.l0 k l0 l0 (l0.length : Int) 0)) = some r := h
 clear h
 by_cases c2 : (l0.length : Int) > 20
 ·rw [if_pos c2] at H
  have c2b0 := decide_eq_true c2
  have c2b1 : decide (20 < l0.length) = true := decide_eq_true (by omega)
  clear c2
  obtain rfl := Option.some.inj H
  go_enter Tryd.func161, Tryd.ntmps161
  go_wp2
  go_ret
  exact ⟨w116_, w160_⟩
 ·rw [if_neg c2] at H
  have c2b0 := decide_eq_false c2
  have c2b1 : decide (20 < l0.length) = false := decide_eq_false (by omega)
  clear c2
  have H' := Az_ H
  clear H
  go_enter Tryd.func161, Tryd.ntmps161
  go_wp2
  go_loopg [10] k (fun kq v10 w' => ∃ (x10_1 : Int), v10 = .int .i64 x10_1 ∧ Aside0 (spec_ixGood.l0 kq l0 l0 (l0.length : Int) x10_1 = some r) ∧ Aside0 (kq ≤ k) ∧ Aside0 (Below w.heap.size w w'))
  case atStart => exact ⟨(0), qaz_, H', ⟨Nat.le_refl _⟩, ⟨w160_⟩⟩
  case round =>
   clear H'
   clear c2b0 c2b1
   obtain ⟨x10_1, rfl, HA, HK1, HB⟩ := hrel
   cases gk with
   | zero => exact absurd HA.out (by simp [spec_ixGood.l0])
   | succ k1 =>
    have H := HA.out
    clear HA
    simp only [spec_ixGood.l0] at H
    by_cases c3 : x10_1 < (l0.length : Int)
    ·rw [if_pos c3] at H
     have c3b0 := decide_eq_true c3
     clear c3
     by_cases c4 : 0 ≤ x10_1; rotate_left
     ·rw [if_neg c4] at H
      exact absurd H (by simp)
     rw [if_pos c4] at H
     have c4b0 := decide_eq_true c4
     clear c4
     by_cases c5 : x10_1 < (l0.length : Int); rotate_left
     ·rw [if_neg c5] at H
      exact absurd H (by simp)
     rw [if_pos c5] at H
     have c5b0 := decide_eq_true c5
     clear c5
     replace H := bqz_ H; obtain ⟨t204, A6, H⟩ := H
     replace H : (if t204 = true then (if x10_1 > 0 then (if 0 ≤ (wrap64 (x10_1 - 1)) then (if (wrap64 (x10_1 - 1)) < (l0.length : Int) then (if ((rd_T100 l0 x10_1).f0) < (wrap64 (((rd_T100 l0 (wrap64 (x10_1 - 1))).f1) + 2)) then (some false) else (spec_ixGood.l0 k1 l0 l0 (l0.length : Int) (wrap64 (x10_1 + 1)))) else (none)) else (none)) else (spec_ixGood.l0 k1 l0 l0 (l0.length : Int) (wrap64 (x10_1 + 1)))) else (some false)) = some r := H
     by_cases c7 : t204 = true; rotate_left
     ·replace c7 := Bool.eq_false_iff.mpr c7
      subst c7
      rw [if_neg nfz_] at H
      obtain rfl := Option.some.inj H
      have p202 : 0 ≤ (x10_1 : Int) := od_
      have q202 : x10_1 < (l0.length : Int) := od_
      obtain ⟨ad202, e202, hx202_0, hx202_1⟩ := at_T100 HR0.out x10_1 p202 q202
      cases e202
      replace hx202_0 := hbz_ HB.out hx202_0
      replace hx202_1 := hbz_ HB.out hx202_1
      replace p202 := eq_true p202
      replace q202 := eq_true q202
      try go_wp2_with (((with_reducible refine gate_dst (N := 4) rfl ?_); refine box_event ?hg (N := 4) ?hd (cs := #[.int .i64 0, .int .i64 0]) (t := 100) ?hr ?_; (case hd => rfl); (case hg => rfl); (case hr => first | (go_simp; done) | (go_simp; rfl)); intro gb203 hg w28 hbox hb; have BK203 := Az_ (hbox); have GW203 := Az_ ((by rw [hg]; exact (below_size (ubz_ HB.out)) : w.heap.size ≤ gb203)); have GE203 := Az_ ((by rw [hg]; exact (below_size (ubz_ HB.out)) : w.heap.size ≤ gb203)); replace HB := Az_ (btz_ (ubz_ HB.out) hb); clear hb hbox hg; have hcz29_0 : w28.cell? ⟨gb203, 0, none⟩ = some (.int .i64 0) := (blk_cell BK203.out 0).trans rfl; have hcz29_1 : w28.cell? ⟨gb203, 1, none⟩ = some (.int .i64 0) := (blk_cell BK203.out 1).trans rfl; have hfz29_0 := blk_frozen BK203.out 0; have hfz29_1 := blk_frozen BK203.out 1))
      have n0_ : Aside0 (((w28.setCell ⟨gb203, 0, none⟩ (.int .i64 ((rd_T100 l0 x10_1).f0))).setCell ⟨gb203, 1, none⟩ (.int .i64 ((rd_T100 l0 x10_1).f1))).heap[gb203]? = some (.cells #[.int .i64 ((rd_T100 l0 x10_1).f0), .int .i64 ((rd_T100 l0 x10_1).f1)] 100 (0, 0))) := ⟨w14_⟩
      have n1_ : Aside0 (Below w.heap.size w ((w28.setCell ⟨gb203, 0, none⟩ (.int .i64 ((rd_T100 l0 x10_1).f0))).setCell ⟨gb203, 1, none⟩ (.int .i64 ((rd_T100 l0 x10_1).f1)))) := ⟨w79_⟩
      clear BK203
      clear HB
      generalize ((w28.setCell ⟨gb203, 0, none⟩ (.int .i64 ((rd_T100 l0 x10_1).f0))).setCell ⟨gb203, 1, none⟩ (.int .i64 ((rd_T100 l0 x10_1).f1))) = w30 at n0_ n1_ ⊢
      have BK203 := n0_
      have HB := n1_
      clear n0_ n1_
      have n0_ := Az_ (kdz_ BK203.out)
      have n1_ := Az_ (bdz_ HB.out)
      clear BK203 HB
      have BK203 := n0_
      have HB := n1_
      clear n0_ n1_
      refine start_ (n := 19) (S := fun w' => w'.cell? ⟨gb203, 0, none⟩ = some (.int .i64 ((rd_T100 l0 x10_1).f0)) ∧ w'.cell? ⟨gb203, 1, none⟩ = some (.int .i64 ((rd_T100 l0 x10_1).f1))) (ds := []) #[false, false, false, false, false, false, false, false, false, false, false, false, false, false, false, false, false, false, false] (w162_) rfl rfl ⟨(blk_cell BK203.out 0).trans rfl, (blk_cell BK203.out 1).trans rfl⟩ (fun hHeld => ?_); refine with_tabW spec_ixGood.tab6 spec_ixGood.bits6 (fun HT_ HW_ => ?_)
      generalize w30.drew = w31 at BK203 HB hHeld ⊢
      refine tz2_ 0 15 [1,18] ?_
      refine one_ (i := 1) (N := some 16) (mz_ [2,17]) rfl rfl (one_of HT_.out (w162_)) (by decide) (fun K hK => ?_)
      refine goes_ Tryd.func164 (w162_) rfl #[.agg #[.int .i64 ((rd_T100 l0 x10_1).f0), .int .i64 ((rd_T100 l0 x10_1).f1)]] (by rfl) rfl rfl maz_ ?_
      with_reducible refine (spec_ixRange.calls ((rd_T100 l0 x10_1).f0) ((rd_T100 l0 x10_1).f1) false _ A6.out).mono ?_
      rintro e w32 ⟨rfl, hb⟩
      refine ⟨_, rfl, ?_⟩
      have n1_ := Az_ (btz_ (w79_) hb)
      clear HB
      replace BK203 := Az_ (ukbz_ BK203.out hb)
      have HB := n1_
      clear n1_
      clear hb
      refine hK.out _ _ ⟨(blk_cell BK203.out 0).trans rfl, (blk_cell BK203.out 1).trans rfl⟩ (fun hHeld => ?_)
      clear hK K
      refine nz_ 16 ?_
      refine pz_ 2 17 [3,16] ?_
      refine pz_ 3 18 [4,15] ?_
      refine qz_ 4 19 [5,14] ?_
      refine qz_ 5 20 [6,13] ?_
      refine qz_ 6 21 [7,12] ?_
      refine qz_ 7 22 [8,11] ?_
      refine qz_ 8 23 [9,10] ?_
      refine qz_ 9 24 [10,9] ?_
      refine qz_ 10 25 [11,8] ?_
      refine qz_ 11 26 [12,7] ?_
      refine qz_ 12 27 [13,6] ?_
      refine qz_ 13 28 [14,5] ?_
      refine qz_ 14 29 [15,4] ?_
      refine qz_ 15 30 [16,3] ?_
      refine qz_ 16 31 [17,2] ?_
      refine qz_ 17 32 [18,1] ?_
      refine pz_ 18 33 [19] ?_
      refine done_ (done_of HT_.out (w162_)) ?_
      try go_wp2
      go_ret
      exact ⟨w116_, w79_⟩
     subst c7
     rw [if_pos rfl] at H
     by_cases c8 : x10_1 > 0; rotate_left
     ·rw [if_neg c8] at H
      have c8b0 := decide_eq_false c8
      clear c8
      have H' := Az_ H
      clear H
      have p202 : 0 ≤ (x10_1 : Int) := od_
      have q202 : x10_1 < (l0.length : Int) := od_
      obtain ⟨ad202, e202, hx202_0, hx202_1⟩ := at_T100 HR0.out x10_1 p202 q202
      cases e202
      replace hx202_0 := hbz_ HB.out hx202_0
      replace hx202_1 := hbz_ HB.out hx202_1
      replace p202 := eq_true p202
      replace q202 := eq_true q202
      try go_wp2_with (((with_reducible refine gate_dst (N := 4) rfl ?_); refine box_event ?hg (N := 4) ?hd (cs := #[.int .i64 0, .int .i64 0]) (t := 100) ?hr ?_; (case hd => rfl); (case hg => rfl); (case hr => first | (go_simp; done) | (go_simp; rfl)); intro gb203 hg w23 hbox hb; have BK203 := Az_ (hbox); have GW203 := Az_ ((by rw [hg]; exact (below_size (ubz_ HB.out)) : w.heap.size ≤ gb203)); have GE203 := Az_ ((by rw [hg]; exact (below_size (ubz_ HB.out)) : w.heap.size ≤ gb203)); replace HB := Az_ (btz_ (ubz_ HB.out) hb); clear hb hbox hg; have hcz24_0 : w23.cell? ⟨gb203, 0, none⟩ = some (.int .i64 0) := (blk_cell BK203.out 0).trans rfl; have hcz24_1 : w23.cell? ⟨gb203, 1, none⟩ = some (.int .i64 0) := (blk_cell BK203.out 1).trans rfl; have hfz24_0 := blk_frozen BK203.out 0; have hfz24_1 := blk_frozen BK203.out 1))
      have n0_ : Aside0 (((w23.setCell ⟨gb203, 0, none⟩ (.int .i64 ((rd_T100 l0 x10_1).f0))).setCell ⟨gb203, 1, none⟩ (.int .i64 ((rd_T100 l0 x10_1).f1))).heap[gb203]? = some (.cells #[.int .i64 ((rd_T100 l0 x10_1).f0), .int .i64 ((rd_T100 l0 x10_1).f1)] 100 (0, 0))) := ⟨w14_⟩
      have n1_ : Aside0 (Below w.heap.size w ((w23.setCell ⟨gb203, 0, none⟩ (.int .i64 ((rd_T100 l0 x10_1).f0))).setCell ⟨gb203, 1, none⟩ (.int .i64 ((rd_T100 l0 x10_1).f1)))) := ⟨w79_⟩
      clear BK203
      clear HB
      generalize ((w23.setCell ⟨gb203, 0, none⟩ (.int .i64 ((rd_T100 l0 x10_1).f0))).setCell ⟨gb203, 1, none⟩ (.int .i64 ((rd_T100 l0 x10_1).f1))) = w25 at n0_ n1_ ⊢
      have BK203 := n0_
      have HB := n1_
      clear n0_ n1_
      have n0_ := Az_ (kdz_ BK203.out)
      have n1_ := Az_ (bdz_ HB.out)
      clear BK203 HB
      have BK203 := n0_
      have HB := n1_
      clear n0_ n1_
      refine start_ (n := 19) (S := fun w' => w'.cell? ⟨gb203, 0, none⟩ = some (.int .i64 ((rd_T100 l0 x10_1).f0)) ∧ w'.cell? ⟨gb203, 1, none⟩ = some (.int .i64 ((rd_T100 l0 x10_1).f1))) (ds := []) #[false, false, false, false, false, false, false, false, false, false, false, false, false, false, false, false, false, false, false] (w162_) rfl rfl ⟨(blk_cell BK203.out 0).trans rfl, (blk_cell BK203.out 1).trans rfl⟩ (fun hHeld => ?_); refine with_tabW spec_ixGood.tab6 spec_ixGood.bits6 (fun HT_ HW_ => ?_)
      generalize w25.drew = w26 at BK203 HB hHeld ⊢
      refine tz2_ 0 15 [1,18] ?_
      refine one_ (i := 1) (N := some 16) (mz_ [2,17]) rfl rfl (one_of HT_.out (w162_)) (by decide) (fun K hK => ?_)
      refine goes_ Tryd.func164 (w162_) rfl #[.agg #[.int .i64 ((rd_T100 l0 x10_1).f0), .int .i64 ((rd_T100 l0 x10_1).f1)]] (by rfl) rfl rfl maz_ ?_
      with_reducible refine (spec_ixRange.calls ((rd_T100 l0 x10_1).f0) ((rd_T100 l0 x10_1).f1) true _ A6.out).mono ?_
      rintro e w27 ⟨rfl, hb⟩
      refine ⟨_, rfl, ?_⟩
      have n1_ := Az_ (btz_ (w79_) hb)
      clear HB
      replace BK203 := Az_ (ukbz_ BK203.out hb)
      have HB := n1_
      clear n1_
      clear hb
      refine hK.out _ _ ⟨(blk_cell BK203.out 0).trans rfl, (blk_cell BK203.out 1).trans rfl⟩ (fun hHeld => ?_)
      clear hK K
      refine nz_ 16 ?_
      refine pz_ 2 17 [3,16] ?_
      refine pz_ 3 18 [4,15] ?_
      refine pz_ 4 19 [5,14] ?_
      refine pz_ 5 20 [6,13] ?_
      refine pz_ 6 21 [7,12] ?_
      refine qz_ 7 22 [8,11] ?_
      refine qz_ 8 23 [9,10] ?_
      refine qz_ 9 24 [10,9] ?_
      refine qz_ 10 25 [11,8] ?_
      refine qz_ 11 26 [12,7] ?_
      refine qz_ 12 27 [13,6] ?_
      refine qz_ 13 28 [14,5] ?_
      refine qz_ 14 29 [15,4] ?_
      refine qz_ 15 30 [16,3] ?_
      refine qz_ 16 31 [17,2] ?_
      refine pz_ 17 32 [18,1] ?_
      refine pz_ 18 33 [19] ?_
      refine done_ (done_of HT_.out (w162_)) ?_
      try go_wp2
      go_roundg k1
      case measure => have := HK1.out; omega
      case rel => exact ⟨(wrap64 (x10_1 + 1)), qaz_, H', ⟨w144_⟩, ⟨w79_⟩⟩
     rw [if_pos c8] at H
     have c8b0 := decide_eq_true c8
     clear c8
     obtain ⟨ji9, hji9⟩ : ∃ j_ : Int, (wrap64 (x10_1 - 1)) = j_ := ⟨_, rfl⟩
     replace H : (if 0 ≤ (ji9) then (if (ji9) < (l0.length : Int) then (if ((rd_T100 l0 x10_1).f0) < (wrap64 (((rd_T100 l0 (ji9)).f1) + 2)) then (some false) else (spec_ixGood.l0 k1 l0 l0 (l0.length : Int) (wrap64 (x10_1 + 1)))) else (none)) else (none)) = some r := by first | (rw [hji9] at H; exact H) | (simp only [hji9] at H ⊢; exact H)
     (try rw [hji9] at A6)
     have hji9w : (IntKind.i64.wrap (x10_1 - 1)) = ji9 := (i64_w _).trans hji9
     by_cases c10 : 0 ≤ (ji9); rotate_left
     ·rw [if_neg c10] at H
      exact absurd H (by simp)
     rw [if_pos c10] at H
     have c10b0 := decide_eq_true c10
     clear c10
     by_cases c11 : (ji9) < (l0.length : Int); rotate_left
     ·rw [if_neg c11] at H
      exact absurd H (by simp)
     rw [if_pos c11] at H
     have c11b0 := decide_eq_true c11
     clear c11
     by_cases c12 : ((rd_T100 l0 x10_1).f0) < (wrap64 (((rd_T100 l0 (ji9)).f1) + 2))
     ·rw [if_pos c12] at H
      have c12b0 := decide_eq_true c12
      clear c12
      obtain rfl := Option.some.inj H
      have p202 : 0 ≤ (x10_1 : Int) := od_
      have q202 : x10_1 < (l0.length : Int) := od_
      obtain ⟨ad202, e202, hx202_0, hx202_1⟩ := at_T100 HR0.out x10_1 p202 q202
      cases e202
      replace hx202_0 := hbz_ HB.out hx202_0
      replace hx202_1 := hbz_ HB.out hx202_1
      replace p202 := eq_true p202
      replace q202 := eq_true q202
      try go_wp2_with (((with_reducible refine gate_dst (N := 4) rfl ?_); refine box_event ?hg (N := 4) ?hd (cs := #[.int .i64 0, .int .i64 0]) (t := 100) ?hr ?_; (case hd => rfl); (case hg => rfl); (case hr => first | (go_simp; done) | (go_simp; rfl)); intro gb203 hg w13 hbox hb; have BK203 := Az_ (hbox); have GW203 := Az_ ((by rw [hg]; exact (below_size (ubz_ HB.out)) : w.heap.size ≤ gb203)); have GE203 := Az_ ((by rw [hg]; exact (below_size (ubz_ HB.out)) : w.heap.size ≤ gb203)); replace HB := Az_ (btz_ (ubz_ HB.out) hb); clear hb hbox hg; have hcz14_0 : w13.cell? ⟨gb203, 0, none⟩ = some (.int .i64 0) := (blk_cell BK203.out 0).trans rfl; have hcz14_1 : w13.cell? ⟨gb203, 1, none⟩ = some (.int .i64 0) := (blk_cell BK203.out 1).trans rfl; have hfz14_0 := blk_frozen BK203.out 0; have hfz14_1 := blk_frozen BK203.out 1))
      have n0_ : Aside0 (((w13.setCell ⟨gb203, 0, none⟩ (.int .i64 ((rd_T100 l0 x10_1).f0))).setCell ⟨gb203, 1, none⟩ (.int .i64 ((rd_T100 l0 x10_1).f1))).heap[gb203]? = some (.cells #[.int .i64 ((rd_T100 l0 x10_1).f0), .int .i64 ((rd_T100 l0 x10_1).f1)] 100 (0, 0))) := ⟨w14_⟩
      have n1_ : Aside0 (Below w.heap.size w ((w13.setCell ⟨gb203, 0, none⟩ (.int .i64 ((rd_T100 l0 x10_1).f0))).setCell ⟨gb203, 1, none⟩ (.int .i64 ((rd_T100 l0 x10_1).f1)))) := ⟨w79_⟩
      clear BK203
      clear HB
      generalize ((w13.setCell ⟨gb203, 0, none⟩ (.int .i64 ((rd_T100 l0 x10_1).f0))).setCell ⟨gb203, 1, none⟩ (.int .i64 ((rd_T100 l0 x10_1).f1))) = w15 at n0_ n1_ ⊢
      have BK203 := n0_
      have HB := n1_
      clear n0_ n1_
      have n0_ := Az_ (kdz_ BK203.out)
      have n1_ := Az_ (bdz_ HB.out)
      clear BK203 HB
      have BK203 := n0_
      have HB := n1_
      clear n0_ n1_
      have p205 : 0 ≤ ((ji9) : Int) := od_
      have q205 : (ji9) < (l0.length : Int) := od_
      obtain ⟨ad205, e205, hx205_0, hx205_1⟩ := at_T100 HR0.out (ji9) p205 q205
      have hw205_1 := hx205_1
      have hw205_0 := hx205_0
      obtain rfl : ad202 = ad205 := (by injection e205)
      replace hx205_0 := hbz_ HB.out hx205_0
      replace hx205_1 := hbz_ HB.out hx205_1
      replace p205 := eq_true p205
      replace q205 := eq_true q205
      refine start_ (n := 19) (S := fun w' => w'.cell? ⟨gb203, 0, none⟩ = some (.int .i64 ((rd_T100 l0 x10_1).f0)) ∧ w'.cell? ⟨gb203, 1, none⟩ = some (.int .i64 ((rd_T100 l0 x10_1).f1)) ∧ w'.cell? (ad202.add (((ji9)).toNat * 2)) = some (.int .i64 ((rd_T100 l0 (ji9)).f0)) ∧ w'.cell? ⟨(ad202.add (((ji9)).toNat * 2)).block, (ad202.add (((ji9)).toNat * 2)).off + 1, none⟩ = some (.int .i64 ((rd_T100 l0 (ji9)).f1))) (ds := []) #[false, false, false, false, false, false, false, false, false, false, false, false, false, false, false, false, false, false, false] (w162_) rfl rfl ⟨(blk_cell BK203.out 0).trans rfl, (blk_cell BK203.out 1).trans rfl, (hbz_ HB.out hw205_0), (hbz_ HB.out hw205_1)⟩ (fun hHeld => ?_); refine with_tabW spec_ixGood.tab6 spec_ixGood.bits6 (fun HT_ HW_ => ?_)
      generalize w15.drew = w16 at BK203 HB hx205_0 hx205_1 hHeld ⊢
      refine tz4_ 0 15 [1,18] ?_
      refine one_ (i := 1) (N := some 16) (mz_ [2,17]) rfl rfl (one_of HT_.out (w162_)) (by decide) (fun K hK => ?_)
      refine goes_ Tryd.func164 (w162_) rfl #[.agg #[.int .i64 ((rd_T100 l0 x10_1).f0), .int .i64 ((rd_T100 l0 x10_1).f1)]] (by rfl) rfl rfl maz_ ?_
      with_reducible refine (spec_ixRange.calls ((rd_T100 l0 x10_1).f0) ((rd_T100 l0 x10_1).f1) true _ A6.out).mono ?_
      rintro e w17 ⟨rfl, hb⟩
      refine ⟨_, rfl, ?_⟩
      have n1_ := Az_ (btz_ (w79_) hb)
      clear HB
      replace BK203 := Az_ (ukbz_ BK203.out hb)
      have HB := n1_
      clear n1_
      clear hb
      refine hK.out _ _ ⟨(blk_cell BK203.out 0).trans rfl, (blk_cell BK203.out 1).trans rfl, (hbz_ HB.out hw205_0), (hbz_ HB.out hw205_1)⟩ (fun hHeld => ?_)
      clear hK K
      refine nz_ 16 ?_
      refine pz_ 2 17 [3,16] ?_
      refine pz_ 3 18 [4,15] ?_
      refine pz_ 4 19 [5,14] ?_
      refine pz_ 5 20 [6,13] ?_
      refine pz_ 6 21 [7,12] ?_
      refine pz_ 7 22 [8,11] ?_
      refine pz_ 9 24 [8,1,1,9] ?_
      refine pz_ 10 25 [8,1,2,8] ?_
      refine pz_ 11 26 [8,1,3,7] ?_
      refine pz_ 12 27 [8,1,4,6] ?_
      refine pz_ 13 28 [8,1,5,5] ?_
      refine tz4_ 8 23 [14,5] ?_
      refine tz4_ 14 29 [15,4] ?_
      refine pz_ 15 30 [16,3] ?_
      refine pz_ 16 31 [17,2] ?_
      refine pz_ 17 32 [18,1] ?_
      refine pz_ 18 33 [19] ?_
      refine done_ (done_of HT_.out (w162_)) ?_
      try go_wp2
      go_ret
      exact ⟨by first | rfl | (simp [errW_none, errW_some] <;> rfl) | (simp only [← hji9]; first | rfl | (simp [errW_none, errW_some] <;> rfl)) | (simp [*, errW_none, errW_some] <;> rfl), w79_⟩
     rw [if_neg c12] at H
     have c12b0 := decide_eq_false c12
     clear c12
     have H' := Az_ H
     clear H
     have p202 : 0 ≤ (x10_1 : Int) := od_
     have q202 : x10_1 < (l0.length : Int) := od_
     obtain ⟨ad202, e202, hx202_0, hx202_1⟩ := at_T100 HR0.out x10_1 p202 q202
     cases e202
     replace hx202_0 := hbz_ HB.out hx202_0
     replace hx202_1 := hbz_ HB.out hx202_1
     replace p202 := eq_true p202
     replace q202 := eq_true q202
     try go_wp2_with (((with_reducible refine gate_dst (N := 4) rfl ?_); refine box_event ?hg (N := 4) ?hd (cs := #[.int .i64 0, .int .i64 0]) (t := 100) ?hr ?_; (case hd => rfl); (case hg => rfl); (case hr => first | (go_simp; done) | (go_simp; rfl)); intro gb203 hg w18 hbox hb; have BK203 := Az_ (hbox); have GW203 := Az_ ((by rw [hg]; exact (below_size (ubz_ HB.out)) : w.heap.size ≤ gb203)); have GE203 := Az_ ((by rw [hg]; exact (below_size (ubz_ HB.out)) : w.heap.size ≤ gb203)); replace HB := Az_ (btz_ (ubz_ HB.out) hb); clear hb hbox hg; have hcz19_0 : w18.cell? ⟨gb203, 0, none⟩ = some (.int .i64 0) := (blk_cell BK203.out 0).trans rfl; have hcz19_1 : w18.cell? ⟨gb203, 1, none⟩ = some (.int .i64 0) := (blk_cell BK203.out 1).trans rfl; have hfz19_0 := blk_frozen BK203.out 0; have hfz19_1 := blk_frozen BK203.out 1))
     have n0_ : Aside0 (((w18.setCell ⟨gb203, 0, none⟩ (.int .i64 ((rd_T100 l0 x10_1).f0))).setCell ⟨gb203, 1, none⟩ (.int .i64 ((rd_T100 l0 x10_1).f1))).heap[gb203]? = some (.cells #[.int .i64 ((rd_T100 l0 x10_1).f0), .int .i64 ((rd_T100 l0 x10_1).f1)] 100 (0, 0))) := ⟨w14_⟩
     have n1_ : Aside0 (Below w.heap.size w ((w18.setCell ⟨gb203, 0, none⟩ (.int .i64 ((rd_T100 l0 x10_1).f0))).setCell ⟨gb203, 1, none⟩ (.int .i64 ((rd_T100 l0 x10_1).f1)))) := ⟨w79_⟩
     clear BK203
     clear HB
     generalize ((w18.setCell ⟨gb203, 0, none⟩ (.int .i64 ((rd_T100 l0 x10_1).f0))).setCell ⟨gb203, 1, none⟩ (.int .i64 ((rd_T100 l0 x10_1).f1))) = w20 at n0_ n1_ ⊢
     have BK203 := n0_
     have HB := n1_
     clear n0_ n1_
     have n0_ := Az_ (kdz_ BK203.out)
     have n1_ := Az_ (bdz_ HB.out)
     clear BK203 HB
     have BK203 := n0_
     have HB := n1_
     clear n0_ n1_
     have p205 : 0 ≤ ((ji9) : Int) := od_
     have q205 : (ji9) < (l0.length : Int) := od_
     obtain ⟨ad205, e205, hx205_0, hx205_1⟩ := at_T100 HR0.out (ji9) p205 q205
     have hw205_1 := hx205_1
     have hw205_0 := hx205_0
     obtain rfl : ad202 = ad205 := (by injection e205)
     replace hx205_0 := hbz_ HB.out hx205_0
     replace hx205_1 := hbz_ HB.out hx205_1
     replace p205 := eq_true p205
     replace q205 := eq_true q205
     refine start_ (n := 19) (S := fun w' => w'.cell? ⟨gb203, 0, none⟩ = some (.int .i64 ((rd_T100 l0 x10_1).f0)) ∧ w'.cell? ⟨gb203, 1, none⟩ = some (.int .i64 ((rd_T100 l0 x10_1).f1)) ∧ w'.cell? (ad202.add (((ji9)).toNat * 2)) = some (.int .i64 ((rd_T100 l0 (ji9)).f0)) ∧ w'.cell? ⟨(ad202.add (((ji9)).toNat * 2)).block, (ad202.add (((ji9)).toNat * 2)).off + 1, none⟩ = some (.int .i64 ((rd_T100 l0 (ji9)).f1))) (ds := []) #[false, false, false, false, false, false, false, false, false, false, false, false, false, false, false, false, false, false, false] (w162_) rfl rfl ⟨(blk_cell BK203.out 0).trans rfl, (blk_cell BK203.out 1).trans rfl, (hbz_ HB.out hw205_0), (hbz_ HB.out hw205_1)⟩ (fun hHeld => ?_); refine with_tabW spec_ixGood.tab6 spec_ixGood.bits6 (fun HT_ HW_ => ?_)
     generalize w20.drew = w21 at BK203 HB hx205_0 hx205_1 hHeld ⊢
     refine tz4_ 0 15 [1,18] ?_
     refine one_ (i := 1) (N := some 16) (mz_ [2,17]) rfl rfl (one_of HT_.out (w162_)) (by decide) (fun K hK => ?_)
     refine goes_ Tryd.func164 (w162_) rfl #[.agg #[.int .i64 ((rd_T100 l0 x10_1).f0), .int .i64 ((rd_T100 l0 x10_1).f1)]] (by rfl) rfl rfl maz_ ?_
     with_reducible refine (spec_ixRange.calls ((rd_T100 l0 x10_1).f0) ((rd_T100 l0 x10_1).f1) true _ A6.out).mono ?_
     rintro e w22 ⟨rfl, hb⟩
     refine ⟨_, rfl, ?_⟩
     have n1_ := Az_ (btz_ (w79_) hb)
     clear HB
     replace BK203 := Az_ (ukbz_ BK203.out hb)
     have HB := n1_
     clear n1_
     clear hb
     refine hK.out _ _ ⟨(blk_cell BK203.out 0).trans rfl, (blk_cell BK203.out 1).trans rfl, (hbz_ HB.out hw205_0), (hbz_ HB.out hw205_1)⟩ (fun hHeld => ?_)
     clear hK K
     refine nz_ 16 ?_
     refine pz_ 2 17 [3,16] ?_
     refine pz_ 3 18 [4,15] ?_
     refine pz_ 4 19 [5,14] ?_
     refine pz_ 5 20 [6,13] ?_
     refine pz_ 6 21 [7,12] ?_
     refine pz_ 7 22 [8,11] ?_
     refine pz_ 9 24 [8,1,1,9] ?_
     refine pz_ 10 25 [8,1,2,8] ?_
     refine pz_ 11 26 [8,1,3,7] ?_
     refine pz_ 12 27 [8,1,4,6] ?_
     refine pz_ 13 28 [8,1,5,5] ?_
     refine tz4_ 8 23 [14,5] ?_
     refine tz4_ 14 29 [15,4] ?_
     refine pz_ 15 30 [16,3] ?_
     refine pz_ 16 31 [17,2] ?_
     refine pz_ 17 32 [18,1] ?_
     refine pz_ 18 33 [19] ?_
     refine done_ (done_of HT_.out (w162_)) ?_
     try go_wp2
     go_roundg k1
     case measure => have := HK1.out; omega
     case rel => exact ⟨(wrap64 (x10_1 + 1)), qaz_, H', ⟨w144_⟩, ⟨w79_⟩⟩
    ·rw [if_neg c3] at H
     have c3b0 := decide_eq_false c3
     clear c3
     obtain rfl := Option.some.inj H
     go_wp2
     go_ret
     exact ⟨w116_, w160_⟩


def spec_ixPage.f (k : Nat) (l0 : List (S100)) (a1 : Int) : Option (Bool) := (spec_ixGood.f k l0).bind fun t206 => (if t206 = true then ((spec_l1In.f a1 1 2000).bind fun t207 => (some t207)) else (some false))
set_option maxHeartbeats 8000000 in
set_option maxRecDepth 100000 in
theorem spec_ixPage.calls (k : Nat) (A0 : Option Addr) (c0 : Nat) (l0 : List (S100)) (a1 : Int) (r : Bool) (w : World) (hr0 : Kd.C k100 w A0 l0.length l0) (hc0 : l0.length ≤ c0) (h : spec_ixPage.f k l0 a1 = some r) :
  Calls Tryd.prog 157 #[.slice A0 l0.length c0, .int .i64 a1] w fun e w' => e = .returned (.bool r) ∧ Below w.heap.size w w' := by
 have HR0 := Az_ hr0
 have HC0 := Az_ hc0
 clear hr0 hc0
 have HB := Az_ (Below.refl w.heap.size w)
 have H : ((spec_ixGood.f k l0).bind fun t206 => (if t206 = true then ((spec_l1In.f a1 1 2000).bind fun t207 => (some t207)) else (some false))) = some r := h
 clear h
 replace H := bqz_ H; obtain ⟨t206, A3, H⟩ := H
 replace H : (if t206 = true then ((spec_l1In.f a1 1 2000).bind fun t207 => (some t207)) else (some false)) = some r := H
 by_cases c4 : t206 = true
 ·subst c4
  rw [if_pos rfl] at H
  replace H := bqz_ H; obtain ⟨t207, A5, H⟩ := H
  replace H : (some t207) = some r := H
  obtain rfl := Option.some.inj H
  go_enter Tryd.func157, Tryd.ntmps157
  go_wp2_with (first | ((with_reducible refine gate_callee (f := 161) rfl ?_); refine goesL_ (some 6) rfl rfl Tryd.func161 (w162_) rfl #[.slice A0 l0.length c0] rfl maz_ ?_; (with_reducible refine (spec_ixGood.calls k _ _ l0 true _ ?side1 ?side2 A3.out).mono ?_); (case side1 => exact ucz_ (HR0.out)); (case side2 => exact HC0.out); rintro e w6 ⟨rfl, hb⟩; refine ⟨_, rfl, ?_⟩; replace HB := Az_ (btz_ (ubz_ HB.out) hb); (try clear hb)) | (go_at_call 101; (with_reducible refine (spec_l1In.calls a1 1 2000 t207 _ A5.out).mono ?_); rintro e w' ⟨rfl, ⟨nd, rfl⟩⟩))
  go_ret
  exact ⟨w116_, w160_⟩
 ·replace c4 := Bool.eq_false_iff.mpr c4
  subst c4
  rw [if_neg nfz_] at H
  obtain rfl := Option.some.inj H
  go_enter Tryd.func157, Tryd.ntmps157
  go_wp2_with (((with_reducible refine gate_callee (f := 161) rfl ?_); refine goesL_ (some 6) rfl rfl Tryd.func161 (w162_) rfl #[.slice A0 l0.length c0] rfl maz_ ?_; (with_reducible refine (spec_ixGood.calls k _ _ l0 false _ ?side1 ?side2 A3.out).mono ?_); (case side1 => exact ucz_ (HR0.out)); (case side2 => exact HC0.out); rintro e w7 ⟨rfl, hb⟩; refine ⟨_, rfl, ?_⟩; replace HB := Az_ (btz_ (ubz_ HB.out) hb); (try clear hb)))
  go_ret
  exact ⟨w116_, w160_⟩

mutual
def spec_ixMarks.l0 : Nat → List Bool → List (S100) → Int → Int → Option (List Bool)
 | 0, _, _, _, _ => none
 | k + 1, x3, x8, x9, x10 => if x10 < x9 then (if 0 ≤ x10 then (if x10 < (x8.length : Int) then (spec_ixMarks.l1 k x3 ((rd_T100 x8 x10).f0) x8 x9 x10 ((rd_T100 x8 x10).f0) ((rd_T100 x8 x10).f1)) else (none)) else (none)) else (some x3)
def spec_ixMarks.l1 : Nat → List Bool → Int → List (S100) → Int → Int → Int → Int → Option (List Bool)
 | 0, _, _, _, _, _, _, _ => none
 | k + 1, x3, x6, x8, x9, x10, x213000, x213001 => if x6 ≤ x213001 then (if 0 ≤ x6 then (if x6 < (x3.length : Int) then (spec_ixMarks.l1 k (x3.set (x6 : Int).toNat true) (wrap64 (x6 + 1)) x8 x9 x10 x213000 x213001) else (none)) else (none)) else (spec_ixMarks.l0 k x3 x8 x9 (wrap64 (x10 + 1)))
end
def spec_ixMarks.f (k : Nat) (l0 : List (S100)) : Option (List Bool) := if 2002 ≤ 281474976710656 then (spec_ixMarks.l0 k (List.replicate 2002 false) l0 (l0.length : Int) 0) else (none)
set_option maxHeartbeats 8000000 in
set_option maxRecDepth 100000 in
theorem spec_ixMarks.calls (k : Nat) (A0 : Option Addr) (c0 : Nat) (l0 : List (S100)) (r : List Bool) (w : World) (hr0 : Kd.C k100 w A0 l0.length l0) (hc0 : l0.length ≤ c0) (h : spec_ixMarks.f k l0 = some r) :
  Calls Tryd.prog 158 #[.slice A0 l0.length c0] w fun e w' => ∃ v0_ : Value, e = .returned (v0_) ∧ Kd.R Kd.bool 4 w' w.heap.size (fun _ => True) v0_ r ∧ Below w.heap.size w w' := by
 have hu100 := Tryd.underlying100
 have HR0 := Az_ hr0
 have HC0 := Az_ hc0
 clear hr0 hc0
 have HB := Az_ (Below.refl w.heap.size w)
 have H : (if 2002 ≤ 281474976710656 then (spec_ixMarks.l0 k (List.replicate 2002 false) l0 (l0.length : Int) 0) else (none)) = some r := h
 clear h
 by_cases c2 : 2002 ≤ 281474976710656
 ·rw [if_pos c2] at H
  have c2b0 := eq_true c2
  have c2b1 := decide_eq_true c2
  clear c2
  obtain ⟨y208, hy208⟩ : ∃ y_ : List Bool, y_ = (List.replicate 2002 false) := ⟨_, rfl⟩
  replace H : (spec_ixMarks.l0 k y208 l0 (l0.length : Int) 0) = some r := by first | (rw [hy208]; with_reducible exact H) | (have H2_ := (Option.bind_some _ _).symm.trans H; rw [hy208]; with_reducible exact H2_) | (have H2_ := (Option.bind_some _ _).symm.trans H; with_reducible exact H2_) | with_reducible exact H | (rw [hy208]; exact H) | exact H
  have Ny208 := Az_ hy208
  clear hy208
  have H' := Az_ H
  clear H
  go_enter Tryd.func158, Tryd.ntmps158
  go_wp2_with (((with_reducible refine gate_dst (N := 7) rfl ?_); refine Kd.R_make Kd.bool _ 4 rfl (N := 7) rfl 156 _ _ rfl 2002 rfl rfl Tryd.underlying156 (.bool false) 1 info4 rfl (by decide) (by omega) false (ok := fun _ => True) (okp := fun _ => True) rfl (fun _ hk => hk) trivial (by omega) (by omega) (Below.refl _ _) (Nat.le_refl _) ?_; intro v209 w3 ho4 hb hg_ hnew_; clear hg_ hnew_; (first | rw [← Ny208.out] at ho4 | (simp only [Int.reduceToNat] at ho4; rw [← Ny208.out] at ho4)); have HO210 := Az_ (Kd.R_lower ho4 (below_size (ubz_ HB.out))); replace HB := Az_ (btz_ (ubz_ HB.out) hb); clear hb ho4))
  go_loopg [10] k (fun kq v10 w' => ∃ (x3_1 : List Bool) (x10_1 : Int), v10 = .int .i64 x10_1 ∧ Aside0 (spec_ixMarks.l0 kq x3_1 l0 (l0.length : Int) x10_1 = some r) ∧ Aside0 (kq ≤ k) ∧ Aside0 (Kd.R Kd.bool 4 w' w.heap.size (fun _ => True) v209 x3_1) ∧ Aside0 (Below w.heap.size w w'))
  case atStart => exact ⟨(y208), (0), qaz_, H', ⟨Nat.le_refl _⟩, ⟨by (with_reducible repeat (first | apply raz_ | apply rnz_ | apply rdz_)); exact HO210.out⟩, ⟨w160_⟩⟩
  case round =>
   clear H'
   clear c2b0 c2b1
   obtain ⟨x3_1, x10_1, rfl, HA, HK1, HO_3, HB⟩ := hrel
   cases gk with
   | zero => exact absurd HA.out (by simp [spec_ixMarks.l0])
   | succ k1 =>
    have H := HA.out
    clear HA
    simp only [spec_ixMarks.l0] at H
    by_cases c5 : x10_1 < (l0.length : Int); rotate_left
    ·rw [if_neg c5] at H
     have c5b0 := decide_eq_false c5
     clear c5
     obtain rfl := Option.some.inj H
     go_wp2
     go_ret
     exact ⟨_, w116_, w124_, w160_⟩
    rw [if_pos c5] at H
    have c5b0 := decide_eq_true c5
    clear c5
    by_cases c6 : 0 ≤ x10_1; rotate_left
    ·rw [if_neg c6] at H
     exact absurd H (by simp)
    rw [if_pos c6] at H
    have c6b0 := decide_eq_true c6
    clear c6
    by_cases c7 : x10_1 < (l0.length : Int); rotate_left
    ·rw [if_neg c7] at H
     exact absurd H (by simp)
    rw [if_pos c7] at H
    have c7b0 := decide_eq_true c7
    clear c7
    have H' := Az_ H
    clear H
    have p211 : 0 ≤ (x10_1 : Int) := od_
    have q211 : x10_1 < (l0.length : Int) := od_
    obtain ⟨ad211, e211, hx211_0, hx211_1⟩ := at_T100 HR0.out x10_1 p211 q211
    cases e211
    replace hx211_0 := hbz_ HB.out hx211_0
    replace hx211_1 := hbz_ HB.out hx211_1
    replace p211 := eq_true p211
    replace q211 := eq_true q211
    go_wp2_with (((with_reducible refine gate_dst (N := 5) rfl ?_); refine box_event ?hg (N := 5) ?hd (cs := #[.int .i64 0, .int .i64 0]) (t := 100) ?hr ?_; (case hd => rfl); (case hg => rfl); (case hr => first | (go_simp; done) | (go_simp; rfl)); intro gb212 hg w8 hbox hb; replace HO_3 := Az_ (Kd.R_below (by exact urz_ HO_3.out) hb); have BK212 := Az_ (hbox); have GW212 := Az_ ((by rw [hg]; exact (below_size (ubz_ HB.out)) : w.heap.size ≤ gb212)); have GE212 := Az_ ((by rw [hg]; exact (below_size (ubz_ HB.out)) : w.heap.size ≤ gb212)); replace HB := Az_ (btz_ (ubz_ HB.out) hb); clear hb hbox hg; have hcz9_0 : w8.cell? ⟨gb212, 0, none⟩ = some (.int .i64 0) := (blk_cell BK212.out 0).trans rfl; have hcz9_1 : w8.cell? ⟨gb212, 1, none⟩ = some (.int .i64 0) := (blk_cell BK212.out 1).trans rfl; have hfz9_0 := blk_frozen BK212.out 0; have hfz9_1 := blk_frozen BK212.out 1))
    go_loopg [6] k1 (fun kq v6 w' => ∃ (x3_2 : List Bool) (x6_2 : Int), v6 = .int .i64 x6_2 ∧ Aside0 (spec_ixMarks.l1 kq x3_2 x6_2 l0 (l0.length : Int) x10_1 ((rd_T100 l0 x10_1).f0) ((rd_T100 l0 x10_1).f1) = some r) ∧ Aside0 (kq ≤ k1) ∧ Aside0 (Kd.R Kd.bool 4 w' w.heap.size (fun _ => True) v209 x3_2) ∧ Aside0 (w'.heap[gb212]? = some (.cells #[.int .i64 ((rd_T100 l0 x10_1).f0), .int .i64 ((rd_T100 l0 x10_1).f1)] 100 (0, 0))) ∧ Aside0 (Below w.heap.size w w'))
    case atStart => exact ⟨(x3_1), ((rd_T100 l0 x10_1).f0), qaz_, H', ⟨Nat.le_refl _⟩, ⟨by (with_reducible repeat (first | apply raz_ | apply rnz_ | apply rdz_)); exact Kd.R_mono (Kd.R_far (p := ⟨gb212, 1, none⟩) (Kd.R_far (p := ⟨gb212, 0, none⟩) (Kd.R_types HO_3.out BK212.out (by decide)) (fun _ hk => hk.2) (.int .i64 ((rd_T100 l0 x10_1).f0))) (fun _ hk => hk.2) (.int .i64 ((rd_T100 l0 x10_1).f1))) (fun _ hk => trivial)⟩, ⟨by (with_reducible repeat (first | refine knz_ ?_ _ | refine kdz_ ?_ | refine kaz_ ?_ _)); refine blk_put (cs := #[.int .i64 ((rd_T100 l0 x10_1).f0), .int .i64 0]) ?_ 1 _ rfl; (with_reducible repeat (first | refine knz_ ?_ _ | refine kdz_ ?_ | refine kaz_ ?_ _)); refine blk_put (cs := #[.int .i64 0, .int .i64 0]) ?_ 0 _ rfl; (with_reducible repeat (first | refine knz_ ?_ _ | refine kdz_ ?_ | refine kaz_ ?_ _)); exact BK212.out⟩, ⟨w79_⟩⟩
    case round =>
     clear H'
     clear c5b0 c6b0 c7b0 hcz9_0 hcz9_1 hfz9_0 hfz9_1 hx211_0 hx211_1 p211 q211
     obtain ⟨x3_2, x6_2, rfl, HA, HK2, HO_3, BK212, HB⟩ := hrel
     cases gk with
     | zero => exact absurd HA.out (by simp [spec_ixMarks.l1])
     | succ k2 =>
      have H := HA.out
      clear HA
      simp only [spec_ixMarks.l1] at H
      by_cases c10 : x6_2 ≤ ((rd_T100 l0 x10_1).f1); rotate_left
      ·rw [if_neg c10] at H
       have c10b0 := decide_eq_false c10
       clear c10
       have H' := Az_ H
       clear H
       have hcz17_0 : wr.cell? ⟨gb212, 0, none⟩ = some (.int .i64 ((rd_T100 l0 x10_1).f0)) := (blk_cell BK212.out 0).trans rfl
       have hcz17_1 : wr.cell? ⟨gb212, 1, none⟩ = some (.int .i64 ((rd_T100 l0 x10_1).f1)) := (blk_cell BK212.out 1).trans rfl
       have hfz17_0 := blk_frozen BK212.out 0
       have hfz17_1 := blk_frozen BK212.out 1
       go_wp2
       go_roundg k2
       case measure => have := HK1.out; have := HK2.out; omega
       case rel => exact ⟨(x3_2), (wrap64 (x10_1 + 1)), qaz_, H', ⟨w137_⟩, ⟨w124_⟩, ⟨w79_⟩⟩
      rw [if_pos c10] at H
      have c10b0 := decide_eq_true c10
      clear c10
      by_cases c11 : 0 ≤ x6_2; rotate_left
      ·rw [if_neg c11] at H
       exact absurd H (by simp)
      rw [if_pos c11] at H
      have c11b0 := decide_eq_true c11
      clear c11
      by_cases c12 : x6_2 < (x3_2.length : Int); rotate_left
      ·rw [if_neg c12] at H
       exact absurd H (by simp)
      rw [if_pos c12] at H
      have c12b0 := decide_eq_true c12
      clear c12
      obtain ⟨y213, hy213⟩ : ∃ y_ : List Bool, y_ = (x3_2.set (x6_2 : Int).toNat true) := ⟨_, rfl⟩
      replace H : (spec_ixMarks.l1 k2 y213 (wrap64 (x6_2 + 1)) l0 (l0.length : Int) x10_1 ((rd_T100 l0 x10_1).f0) ((rd_T100 l0 x10_1).f1)) = some r := by first | (rw [hy213]; with_reducible exact H) | (have H2_ := (Option.bind_some _ _).symm.trans H; rw [hy213]; with_reducible exact H2_) | (have H2_ := (Option.bind_some _ _).symm.trans H; with_reducible exact H2_) | with_reducible exact H | (rw [hy213]; exact H) | exact H
      have Ny213 := Az_ hy213
      clear hy213
      have H' := Az_ H
      clear H
      have hcz14_0 : wr.cell? ⟨gb212, 0, none⟩ = some (.int .i64 ((rd_T100 l0 x10_1).f0)) := (blk_cell BK212.out 0).trans rfl
      have hcz14_1 : wr.cell? ⟨gb212, 1, none⟩ = some (.int .i64 ((rd_T100 l0 x10_1).f1)) := (blk_cell BK212.out 1).trans rfl
      have hfz14_0 := blk_frozen BK212.out 0
      have hfz14_1 := blk_frozen BK212.out 1
      have p13 : 0 ≤ (x6_2 : Int) := od_
      have q13 : (x6_2 : Int) < ((x3_2.length : Int) : Int) := od_
      obtain ⟨go13, co13, eo13, gb13, gl13, cl13, HG13⟩ := Kd.R_form HO_3.out (by omega)
      (first | cases eo13 | (injection eo13 with ea_ en_ ec_; (first | subst ea_ | (injection ea_ with ea_; subst ea_)); subst ec_; clear en_))
      have GB13 := Az_ gb13
      have GG13 := Az_ HG13
      clear gb13 gl13 HG13
      obtain ⟨hx13_0, hf13_0⟩ := Kd.R_celln false HO_3.out (x6_2 : Int) p13 q13
      replace p13 := eq_true p13
      replace q13 := eq_true q13
      have HP15 := Kd.R_putg HO_3.out (x6_2 : Int) true
      go_wp2_with (((with_reducible refine gate_store (t := 4) (p := 24) rfl ?_); refine store_event (t := 4) (p := 24) (v := ?vo_w16) (w1 := (wr.setCell ⟨go13, (x6_2 : Int).toNat, none⟩ (.bool true))) ?hg ?ho ?hn ?hr ?_; (case ho => rfl); (case hg => rfl); (case hn => rfl); (case hr => first | (go_simp; done) | (go_simp; rfl)); intro w16 hw; have hg : wr.grownBy w16 (some go13) := (by rw [hw]; exact HP15.2); have hp_ : Kd.R Kd.bool 4 w16 w.heap.size (fun _ => True) (.slice (some ⟨go13, 0, none⟩) x3_2.length co13) y213 := (by rw [hw, Ny213.out]; exact HP15.1); clear HP15; replace BK212 := Az_ (blk_grown (g := gb212) (o := .cells #[.int .i64 ((rd_T100 l0 x10_1).f0), .int .i64 ((rd_T100 l0 x10_1).f1)] 100 (0, 0)) (by exact ukz_ BK212.out) hg (Kd.R_ne HO_3.out BK212.out (by decide))); replace HO_3 := Az_ (hp_); replace HB := Az_ ((by rw [hw]; exact bsz_ (HB.out) GB13.out : Below w.heap.size w w16)); clear hg hw hp_))
      go_roundg k2
      case measure => have := HK1.out; have := HK2.out; omega
      case rel => exact ⟨(y213), (wrap64 (x6_2 + 1)), qaz_, H', ⟨w137_⟩, ⟨w124_⟩, ⟨by (with_reducible repeat (first | refine knz_ ?_ _ | refine kdz_ ?_ | refine kaz_ ?_ _)); exact BK212.out⟩, ⟨w79_⟩⟩
 ·rw [if_neg c2] at H
  exact absurd H (by simp)


def spec_ixOf.l0 : Nat → List Bool → List (S100) → List Bool → Int → Int → Option ((List (S100)) × Bool)
 | 0, _, _, _, _, _ => none
 | k + 1, x0, x4, x7, x8, x9 => if x9 < x8 then (if 0 ≤ x9 then (if x9 < (x7.length : Int) then (if rdOf false x7 x9 = true then (if x9 > 0 then (if 0 ≤ (wrap64 (x9 - 1)) then (if (wrap64 (x9 - 1)) < (x0.length : Int) then (if rdOf false x0 (wrap64 (x9 - 1)) = true then (if 0 ≤ (wrap64 ((x4.length : Int) - 1)) then (if (wrap64 ((x4.length : Int) - 1)) < (x4.length : Int) then (spec_ixOf.l0 k x0 (x4.set ((wrap64 ((x4.length : Int) - 1)) : Int).toNat (⟨(rd_T100 x4 (wrap64 ((x4.length : Int) - 1))).f0, x9⟩ : S100)) x7 x8 (wrap64 (x9 + 1))) else (none)) else (none)) else (if x4.length < 8796093022208 then (spec_ixOf.l0 k x0 (x4 ++ [(⟨x9, x9⟩ : S100)]) x7 x8 (wrap64 (x9 + 1))) else (none))) else (none)) else (none)) else (if x4.length < 8796093022208 then (spec_ixOf.l0 k x0 (x4 ++ [(⟨x9, x9⟩ : S100)]) x7 x8 (wrap64 (x9 + 1))) else (none))) else (spec_ixOf.l0 k x0 x4 x7 x8 (wrap64 (x9 + 1)))) else (none)) else (none)) else (if (x4.length : Int) > 20 then (some (([] : List (S100)), false)) else (some (x4, true)))
def spec_ixOf.f (k : Nat) (l0 : List Bool) : Option ((List (S100)) × Bool) := spec_ixOf.l0 k l0 ([] : List (S100)) l0 (l0.length : Int) 0
set_option maxHeartbeats 8000000 in
set_option maxRecDepth 100000 in
theorem spec_ixOf.calls (k : Nat) (A0 : Option Addr) (c0 : Nat) (l0 : List Bool) (r1 : List (S100)) (r2 : Bool) (w : World) (hr0 : Kd.C Kd.bool w A0 l0.length l0) (hc0 : l0.length ≤ c0) (h : spec_ixOf.f k l0 = some (r1, r2)) :
  Calls Tryd.prog 159 #[.slice A0 l0.length c0] w fun e w' => ∃ v0_ : Value, e = .returned (.tuple #[v0_, .bool r2]) ∧ Kd.R k100 100 w' w.heap.size (fun _ => True) v0_ r1 ∧ Below w.heap.size w w' := by
 have hu100 := Tryd.underlying100
 have HR0 := Az_ hr0
 have HC0 := Az_ hc0
 clear hr0 hc0
 have HB := Az_ (Below.refl w.heap.size w)
 have H : (spec_ixOf.l0 k l0 ([] : List (S100)) l0 (l0.length : Int) 0) = some (r1, r2) := h
 clear h
 have H' := Az_ H
 clear H
 go_enter Tryd.func159, Tryd.ntmps159
 go_wp2
 go_loopg [4, 9] k (fun kq v4 v9 w' => ∃ (x4_1 : List (S100)) (x9_1 : Int), v9 = .int .i64 x9_1 ∧ Aside0 (spec_ixOf.l0 kq l0 x4_1 l0 (l0.length : Int) x9_1 = some (r1, r2)) ∧ Aside0 (kq ≤ k) ∧ Aside0 (Kd.R k100 100 w' w.heap.size (fun _ => True) v4 x4_1) ∧ Aside0 (Below w.heap.size w w'))
 case atStart => exact ⟨(([] : List (S100))), (0), qaz_, H', ⟨Nat.le_refl _⟩, ⟨w80_⟩, ⟨w160_⟩⟩
 case round =>
  clear H'
  obtain ⟨x4_1, x9_1, rfl, HA, HK1, HO_4, HB⟩ := hrel
  cases gk with
  | zero => exact absurd HA.out (by simp [spec_ixOf.l0])
  | succ k1 =>
   have H := HA.out
   clear HA
   simp only [spec_ixOf.l0] at H
   by_cases c2 : x9_1 < (l0.length : Int)
   ·rw [if_pos c2] at H
    have c2b0 := decide_eq_true c2
    clear c2
    by_cases c3 : 0 ≤ x9_1; rotate_left
    ·rw [if_neg c3] at H
     exact absurd H (by simp)
    rw [if_pos c3] at H
    have c3b0 := decide_eq_true c3
    clear c3
    by_cases c4 : x9_1 < (l0.length : Int); rotate_left
    ·rw [if_neg c4] at H
     exact absurd H (by simp)
    rw [if_pos c4] at H
    have c4b0 := decide_eq_true c4
    clear c4
    obtain ⟨bq5, hbq5⟩ : ∃ b_ : Bool, b_ = (rdOf false l0 x9_1) := ⟨_, rfl⟩
    replace H : (if bq5 = true then (if x9_1 > 0 then (if 0 ≤ (wrap64 (x9_1 - 1)) then (if (wrap64 (x9_1 - 1)) < (l0.length : Int) then (if rdOf false l0 (wrap64 (x9_1 - 1)) = true then (if 0 ≤ (wrap64 ((x4_1.length : Int) - 1)) then (if (wrap64 ((x4_1.length : Int) - 1)) < (x4_1.length : Int) then (spec_ixOf.l0 k1 l0 (x4_1.set ((wrap64 ((x4_1.length : Int) - 1)) : Int).toNat (⟨(rd_T100 x4_1 (wrap64 ((x4_1.length : Int) - 1))).f0, x9_1⟩ : S100)) l0 (l0.length : Int) (wrap64 (x9_1 + 1))) else (none)) else (none)) else (if x4_1.length < 8796093022208 then (spec_ixOf.l0 k1 l0 (x4_1 ++ [(⟨x9_1, x9_1⟩ : S100)]) l0 (l0.length : Int) (wrap64 (x9_1 + 1))) else (none))) else (none)) else (none)) else (if x4_1.length < 8796093022208 then (spec_ixOf.l0 k1 l0 (x4_1 ++ [(⟨x9_1, x9_1⟩ : S100)]) l0 (l0.length : Int) (wrap64 (x9_1 + 1))) else (none))) else (spec_ixOf.l0 k1 l0 x4_1 l0 (l0.length : Int) (wrap64 (x9_1 + 1)))) = some (r1, r2) := by rw [← hbq5] at H; exact H
    have Nbq5 := Az_ hbq5
    clear hbq5
    by_cases c6 : bq5 = true; rotate_left
    ·replace c6 := Bool.eq_false_iff.mpr c6
     subst c6
     rw [if_neg nfz_] at H
     have H' := Az_ H
     clear H
     have p214 : 0 ≤ (x9_1 : Int) := od_
     have q214 : x9_1 < (l0.length : Int) := od_
     obtain ⟨ad214, e214, hx214_0⟩ := Kd.at_bool HR0.out x9_1 p214 q214
     (try rw [← Nbq5.out] at hx214_0)
     cases e214
     replace hx214_0 := hbz_ HB.out hx214_0
     replace p214 := eq_true p214
     replace q214 := eq_true q214
     go_wp2
     go_roundg k1
     case measure => have := HK1.out; omega
     case rel => exact ⟨(x4_1), (wrap64 (x9_1 + 1)), qaz_, H', ⟨w144_⟩, ⟨w125_⟩, ⟨w160_⟩⟩
    subst c6
    rw [if_pos rfl] at H
    by_cases c7 : x9_1 > 0; rotate_left
    ·rw [if_neg c7] at H
     have c7b0 := decide_eq_false c7
     clear c7
     by_cases c22 : x4_1.length < 8796093022208; rotate_left
     ·rw [if_neg c22] at H
      exact absurd H (by simp)
     rw [if_pos c22] at H
     have LMc22 := Az_ c22
     clear c22
     obtain ⟨y220, hy220⟩ : ∃ y_ : List (S100), y_ = (x4_1 ++ [(⟨x9_1, x9_1⟩ : S100)]) := ⟨_, rfl⟩
     replace H : (spec_ixOf.l0 k1 l0 y220 l0 (l0.length : Int) (wrap64 (x9_1 + 1))) = some (r1, r2) := by first | (rw [hy220]; with_reducible exact H) | (have H2_ := (Option.bind_some _ _).symm.trans H; rw [hy220]; with_reducible exact H2_) | (have H2_ := (Option.bind_some _ _).symm.trans H; with_reducible exact H2_) | with_reducible exact H | (rw [hy220]; exact H) | exact H
     have Ny220 := Az_ hy220
     clear hy220
     have H' := Az_ H
     clear H
     have p214 : 0 ≤ (x9_1 : Int) := od_
     have q214 : x9_1 < (l0.length : Int) := od_
     obtain ⟨ad214, e214, hx214_0⟩ := Kd.at_bool HR0.out x9_1 p214 q214
     (try rw [← Nbq5.out] at hx214_0)
     cases e214
     replace hx214_0 := hbz_ HB.out hx214_0
     replace p214 := eq_true p214
     replace q214 := eq_true q214
     go_wp2_with (((with_reducible refine gate_builtin (b := .append) (xs := #[.tmp 14, .tmp 18]) rfl ?_); at_builtin; refine Kd.R_append k100 (w0 := w) w.heap.size rfl (.tmp 14) (.tmp 18) 86 100 (.agg #[(.int .i64 0), (.int .i64 0)]) 16 rfl Tryd.underlying86 info100 rfl (by decide) (by omega) u4 x4_1 (⟨x9_1, x9_1⟩ : S100) [.int .i64 x9_1, .int .i64 x9_1] (fun _ => True) (fun _ => False) rfl rfl ?aP (fun _ hk => hk.elim) ?aF ?aO ?aB ?aS ?aL ?_; (case aP => exact k100_mkM _ _ _ (⟨x9_1, x9_1⟩ : S100)); (case aB => exact (ubz_ HB.out)); (case aF => exact (fun _ _ => trivial)); (case aO => exact (w157_)); (case aS => exact (below_size (ubz_ HB.out))); (case aL => have := LMc22.out; omega); intro v221 w23 ho hb hg hat; rw [← Ny220.out] at ho; replace HB := Az_ (hb); have HO222 := Az_ (ho); clear HO_4; clear ho hb hg hat))
     go_roundg k1
     case measure => have := HK1.out; omega
     case rel => exact ⟨(y220), (wrap64 (x9_1 + 1)), qaz_, H', ⟨w144_⟩, ⟨by (with_reducible repeat (first | apply raz_ | apply rnz_ | apply rdz_)); exact HO222.out⟩, ⟨w160_⟩⟩
    rw [if_pos c7] at H
    have c7b0 := decide_eq_true c7
    clear c7
    obtain ⟨ji8, hji8⟩ : ∃ j_ : Int, (wrap64 (x9_1 - 1)) = j_ := ⟨_, rfl⟩
    replace H : (if 0 ≤ (ji8) then (if (ji8) < (l0.length : Int) then (if rdOf false l0 (ji8) = true then (if 0 ≤ (wrap64 ((x4_1.length : Int) - 1)) then (if (wrap64 ((x4_1.length : Int) - 1)) < (x4_1.length : Int) then (spec_ixOf.l0 k1 l0 (x4_1.set ((wrap64 ((x4_1.length : Int) - 1)) : Int).toNat (⟨(rd_T100 x4_1 (wrap64 ((x4_1.length : Int) - 1))).f0, x9_1⟩ : S100)) l0 (l0.length : Int) (wrap64 (x9_1 + 1))) else (none)) else (none)) else (if x4_1.length < 8796093022208 then (spec_ixOf.l0 k1 l0 (x4_1 ++ [(⟨x9_1, x9_1⟩ : S100)]) l0 (l0.length : Int) (wrap64 (x9_1 + 1))) else (none))) else (none)) else (none)) = some (r1, r2) := by first | (rw [hji8] at H; exact H) | (simp only [hji8] at H ⊢; exact H)
    have hji8w : (IntKind.i64.wrap (x9_1 - 1)) = ji8 := (i64_w _).trans hji8
    by_cases c9 : 0 ≤ (ji8); rotate_left
    ·rw [if_neg c9] at H
     exact absurd H (by simp)
    rw [if_pos c9] at H
    have c9b0 := decide_eq_true c9
    clear c9
    by_cases c10 : (ji8) < (l0.length : Int); rotate_left
    ·rw [if_neg c10] at H
     exact absurd H (by simp)
    rw [if_pos c10] at H
    have c10b0 := decide_eq_true c10
    clear c10
    obtain ⟨bq11, hbq11⟩ : ∃ b_ : Bool, b_ = (rdOf false l0 (ji8)) := ⟨_, rfl⟩
    replace H : (if bq11 = true then (if 0 ≤ (wrap64 ((x4_1.length : Int) - 1)) then (if (wrap64 ((x4_1.length : Int) - 1)) < (x4_1.length : Int) then (spec_ixOf.l0 k1 l0 (x4_1.set ((wrap64 ((x4_1.length : Int) - 1)) : Int).toNat (⟨(rd_T100 x4_1 (wrap64 ((x4_1.length : Int) - 1))).f0, x9_1⟩ : S100)) l0 (l0.length : Int) (wrap64 (x9_1 + 1))) else (none)) else (none)) else (if x4_1.length < 8796093022208 then (spec_ixOf.l0 k1 l0 (x4_1 ++ [(⟨x9_1, x9_1⟩ : S100)]) l0 (l0.length : Int) (wrap64 (x9_1 + 1))) else (none))) = some (r1, r2) := by rw [← hbq11] at H; exact H
    have Nbq11 := Az_ hbq11
    clear hbq11
    by_cases c12 : bq11 = true; rotate_left
    ·replace c12 := Bool.eq_false_iff.mpr c12
     subst c12
     rw [if_neg nfz_] at H
     by_cases c20 : x4_1.length < 8796093022208; rotate_left
     ·rw [if_neg c20] at H
      exact absurd H (by simp)
     rw [if_pos c20] at H
     have LMc20 := Az_ c20
     clear c20
     obtain ⟨y217, hy217⟩ : ∃ y_ : List (S100), y_ = (x4_1 ++ [(⟨x9_1, x9_1⟩ : S100)]) := ⟨_, rfl⟩
     replace H : (spec_ixOf.l0 k1 l0 y217 l0 (l0.length : Int) (wrap64 (x9_1 + 1))) = some (r1, r2) := by first | (rw [hy217]; with_reducible exact H) | (have H2_ := (Option.bind_some _ _).symm.trans H; rw [hy217]; with_reducible exact H2_) | (have H2_ := (Option.bind_some _ _).symm.trans H; with_reducible exact H2_) | with_reducible exact H | (rw [hy217]; exact H) | exact H
     have Ny217 := Az_ hy217
     clear hy217
     have H' := Az_ H
     clear H
     have p214 : 0 ≤ (x9_1 : Int) := od_
     have q214 : x9_1 < (l0.length : Int) := od_
     obtain ⟨ad214, e214, hx214_0⟩ := Kd.at_bool HR0.out x9_1 p214 q214
     (try rw [← Nbq5.out] at hx214_0)
     (try rw [← Nbq11.out] at hx214_0)
     cases e214
     replace hx214_0 := hbz_ HB.out hx214_0
     replace p214 := eq_true p214
     replace q214 := eq_true q214
     have p215 : 0 ≤ ((ji8) : Int) := od_
     have q215 : (ji8) < (l0.length : Int) := od_
     obtain ⟨ad215, e215, hx215_0⟩ := Kd.at_bool HR0.out (ji8) p215 q215
     (try rw [← Nbq5.out] at hx215_0)
     (try rw [← Nbq11.out] at hx215_0)
     obtain rfl : ad214 = ad215 := (by injection e215)
     replace hx215_0 := hbz_ HB.out hx215_0
     replace p215 := eq_true p215
     replace q215 := eq_true q215
     go_wp2_with (((with_reducible refine gate_builtin (b := .append) (xs := #[.tmp 14, .tmp 18]) rfl ?_); at_builtin; refine Kd.R_append k100 (w0 := w) w.heap.size rfl (.tmp 14) (.tmp 18) 86 100 (.agg #[(.int .i64 0), (.int .i64 0)]) 16 rfl Tryd.underlying86 info100 rfl (by decide) (by omega) u4 x4_1 (⟨x9_1, x9_1⟩ : S100) [.int .i64 x9_1, .int .i64 x9_1] (fun _ => True) (fun _ => False) rfl rfl ?aP (fun _ hk => hk.elim) ?aF ?aO ?aB ?aS ?aL ?_; (case aP => exact k100_mkM _ _ _ (⟨x9_1, x9_1⟩ : S100)); (case aB => exact (ubz_ HB.out)); (case aF => exact (fun _ _ => trivial)); (case aO => exact (w157_)); (case aS => exact (below_size (ubz_ HB.out))); (case aL => have := LMc20.out; omega); intro v218 w21 ho hb hg hat; rw [← Ny217.out] at ho; replace HB := Az_ (hb); have HO219 := Az_ (ho); clear HO_4; clear ho hb hg hat))
     go_roundg k1
     case measure => have := HK1.out; omega
     case rel => exact ⟨(y217), (wrap64 (x9_1 + 1)), qaz_, H', ⟨w144_⟩, ⟨by (with_reducible repeat (first | apply raz_ | apply rnz_ | apply rdz_)); exact HO219.out⟩, ⟨w160_⟩⟩
    subst c12
    rw [if_pos rfl] at H
    obtain ⟨ji13, hji13⟩ : ∃ j_ : Int, (wrap64 ((x4_1.length : Int) - 1)) = j_ := ⟨_, rfl⟩
    replace H : (if 0 ≤ (ji13) then (if (ji13) < (x4_1.length : Int) then (spec_ixOf.l0 k1 l0 (x4_1.set ((ji13) : Int).toNat (⟨(rd_T100 x4_1 (ji13)).f0, x9_1⟩ : S100)) l0 (l0.length : Int) (wrap64 (x9_1 + 1))) else (none)) else (none)) = some (r1, r2) := by first | (rw [hji13] at H; exact H) | (simp only [hji13] at H ⊢; exact H)
    have hji13w : (IntKind.i64.wrap ((x4_1.length : Int) - 1)) = ji13 := (i64_w _).trans hji13
    by_cases c14 : 0 ≤ (ji13); rotate_left
    ·rw [if_neg c14] at H
     exact absurd H (by simp)
    rw [if_pos c14] at H
    have c14b0 := decide_eq_true c14
    clear c14
    by_cases c15 : (ji13) < (x4_1.length : Int); rotate_left
    ·rw [if_neg c15] at H
     exact absurd H (by simp)
    rw [if_pos c15] at H
    have c15b0 := decide_eq_true c15
    clear c15
    obtain ⟨y216, hy216⟩ : ∃ y_ : List (S100), y_ = (x4_1.set ((ji13) : Int).toNat (⟨(rd_T100 x4_1 (ji13)).f0, x9_1⟩ : S100)) := ⟨_, rfl⟩
    replace H : (spec_ixOf.l0 k1 l0 y216 l0 (l0.length : Int) (wrap64 (x9_1 + 1))) = some (r1, r2) := by first | (rw [hy216]; with_reducible exact H) | (have H2_ := (Option.bind_some _ _).symm.trans H; rw [hy216]; with_reducible exact H2_) | (have H2_ := (Option.bind_some _ _).symm.trans H; with_reducible exact H2_) | with_reducible exact H | (rw [hy216]; exact H) | exact H
    have Ny216 := Az_ hy216
    clear hy216
    have H' := Az_ H
    clear H
    have p214 : 0 ≤ (x9_1 : Int) := od_
    have q214 : x9_1 < (l0.length : Int) := od_
    obtain ⟨ad214, e214, hx214_0⟩ := Kd.at_bool HR0.out x9_1 p214 q214
    (try rw [← Nbq5.out] at hx214_0)
    (try rw [← Nbq11.out] at hx214_0)
    cases e214
    replace hx214_0 := hbz_ HB.out hx214_0
    replace p214 := eq_true p214
    replace q214 := eq_true q214
    have p215 : 0 ≤ ((ji8) : Int) := od_
    have q215 : (ji8) < (l0.length : Int) := od_
    obtain ⟨ad215, e215, hx215_0⟩ := Kd.at_bool HR0.out (ji8) p215 q215
    (try rw [← Nbq5.out] at hx215_0)
    (try rw [← Nbq11.out] at hx215_0)
    obtain rfl : ad214 = ad215 := (by injection e215)
    replace hx215_0 := hbz_ HB.out hx215_0
    replace p215 := eq_true p215
    replace q215 := eq_true q215
    obtain ⟨Ao17, co17, eo17⟩ := Kd.R_slice HO_4.out
    subst eo17
    have p16 : 0 ≤ ((ji13) : Int) := od_
    have q16 : ((ji13) : Int) < ((x4_1.length : Int) : Int) := od_
    obtain ⟨go16, co16, eo16, gb16, gl16, cl16, HG16⟩ := Kd.R_form HO_4.out (by omega)
    (first | cases eo16 | (injection eo16 with ea_ en_ ec_; (first | subst ea_ | (injection ea_ with ea_; subst ea_)); subst ec_; clear en_))
    have GB16 := Az_ gb16
    have GG16 := Az_ HG16
    clear gb16 gl16 HG16
    obtain ⟨ce16, hcl16, hM16, hcc16, hfr16⟩ := Kd.R_elem HO_4.out z100 ((ji13) : Int) p16 q16
    obtain rfl := k100_openM hM16
    have hx16_0 : wr.cell? ⟨go16, ((ji13) : Int).toNat * 2, none⟩ = some (.int .i64 ((rd_T100 x4_1 (ji13)).f0)) := hcc16 0 _ rfl
    have hx16_1 : wr.cell? ⟨go16, ((ji13) : Int).toNat * 2 + 1, none⟩ = some (.int .i64 ((rd_T100 x4_1 (ji13)).f1)) := hcc16 1 _ rfl
    have hf16_0 : wr.frozen? ⟨go16, ((ji13) : Int).toNat * 2, none⟩ = false := hfr16 0
    have hf16_1 : wr.frozen? ⟨go16, ((ji13) : Int).toNat * 2 + 1, none⟩ = false := hfr16 1
    clear hcl16 hcc16 hfr16 hM16
    replace p16 := eq_true p16
    replace q16 := eq_true q16
    have HX18 := Az_ (show Kd.R k100 100 wr w.heap.size (fun _ => True) (.slice (some ⟨go16, 0, none⟩) x4_1.length co17) x4_1 from (w157_))
    obtain ⟨ce18, hcl18, hM18, hcc18, hfr18⟩ := Kd.R_elem HX18.out z100 ((ji13) : Int) (od_) (by have h_ : ((ji13) : Int) < ((x4_1.length : Int) : Int) := od_; first | exact h_ | (have e_ := (Kd.R_reads' HO_4.out).1; omega) | simpa using h_)
    obtain rfl := k100_openM hM18
    have HP18 := Kd.R_seg HX18.out ((ji13) : Int) (od_) (by have h_ : ((ji13) : Int) < ((x4_1.length : Int) : Int) := od_; first | exact h_ | (have e_ := (Kd.R_reads' HO_4.out).1; omega) | simpa using h_) (seg := [.int .i64 x9_1]) (j := 1) hcl18 hcc18 (show 2 ≤ 2 from by decide) (x' := (⟨(rd_T100 x4_1 (ji13)).f0, x9_1⟩ : S100)) (k100_mkM _ _ _ (⟨(rd_T100 x4_1 (ji13)).f0, x9_1⟩ : S100) ) (fun _ hk => hk)
    have hx18_1 := hcc18 1 _ rfl
    (try simp only [show (k100).sz = 2 from rfl, Nat.mul_one, Nat.add_zero] at hx18_1)
    have hf18_1 := hfr18 1
    (try simp only [show (k100).sz = 2 from rfl, Nat.mul_one, Nat.add_zero] at hf18_1)
    clear hcl18 hcc18 hfr18 hM18
    go_wp2_with (((with_reducible refine gate_store (t := 3) (p := 39) rfl ?_); refine store_event (t := 3) (p := 39) (v := ?vo_w19) (w1 := (wr.setCell ⟨go16, ((ji13) : Int).toNat * 2 + 1, none⟩ (.int .i64 x9_1))) ?hg ?ho ?hn ?hr ?_; (case ho => rfl); (case hg => rfl); (case hn => rfl); (case hr => first | (go_simp; done) | (go_simp; rfl)); intro w19 hw; have hg : wr.grownBy w19 (some go16) := (by rw [hw]; exact HP18.2); have hp_ : Kd.R k100 100 w19 w.heap.size (fun _ => True) (.slice (some ⟨go16, 0, none⟩) x4_1.length co17) y216 := (by rw [hw, Ny216.out]; exact HP18.1); clear HP18; replace HO_4 := Az_ (hp_); replace HB := Az_ ((by rw [hw]; exact bsz_ (HB.out) GB16.out : Below w.heap.size w w19)); clear hg hw hp_))
    go_roundg k1
    case measure => have := HK1.out; omega
    case rel => exact ⟨(y216), (wrap64 (x9_1 + 1)), qaz_, H', ⟨w144_⟩, ⟨w125_⟩, ⟨w160_⟩⟩
   ·rw [if_neg c2] at H
    have c2b0 := decide_eq_false c2
    clear c2
    by_cases c24 : (x4_1.length : Int) > 20
    ·rw [if_pos c24] at H
     have c24b0 := decide_eq_true c24
     have c24b1 : decide (20 < x4_1.length) = true := decide_eq_true (by omega)
     clear c24
     simp only [Option.some.injEq, Prod.mk.injEq] at H
     obtain ⟨rfl, rfl⟩ := H
     obtain ⟨Ao25, co25, eo25⟩ := Kd.R_slice HO_4.out
     subst eo25
     go_wp2
     go_ret2
     exact ⟨_, w116_, w80_, w160_⟩
    ·rw [if_neg c24] at H
     have c24b0 := decide_eq_false c24
     have c24b1 : decide (20 < x4_1.length) = false := decide_eq_false (by omega)
     clear c24
     simp only [Option.some.injEq, Prod.mk.injEq] at H
     obtain ⟨rfl, rfl⟩ := H
     obtain ⟨Ao26, co26, eo26⟩ := Kd.R_slice HO_4.out
     subst eo26
     go_wp2
     go_ret2
     exact ⟨_, w116_, w125_, w160_⟩


mutual
def spec_PutPages.j0 : Nat → List (S100) → Int → Int → Bool → Option ((List (S100)) × Bool)
 | 0, _, _, _, _ => none
 | k + 1, x0, x1, x2, x20 => if x20 = true then (some (([] : List (S100)), false)) else (if 4002 ≤ 281474976710656 then ((spec_ixMarks.f k x0).bind fun t228 => (spec_PutPages.l0 k x1 x2 (List.replicate 4002 false) t228 (t228.length : Int) 0)) else (none))
def spec_PutPages.l0 : Nat → Int → Int → List Bool → List Bool → Int → Int → Option ((List (S100)) × Bool)
 | 0, _, _, _, _, _, _ => none
 | k + 1, x1, x2, x8, x23, x24, x25 => if x25 < x24 then (if 0 ≤ x25 then (if x25 < (x23.length : Int) then (if x25 ≥ x1 then (spec_PutPages.j2 k x1 x2 x8 (rdOf false x23 x25) (wrap64 (x25 + x2)) x23 x24 x25) else (spec_PutPages.j2 k x1 x2 x8 (rdOf false x23 x25) x25 x23 x24 x25)) else (none)) else (none)) else ((spec_ixOf.f k x8).bind fun bt231 => (some (bt231.1, bt231.2)))
def spec_PutPages.j2 : Nat → Int → Int → List Bool → Bool → Int → List Bool → Int → Int → Option ((List (S100)) × Bool)
 | 0, _, _, _, _, _, _, _, _ => none
 | k + 1, x1, x2, x8, x10, x11, x23, x24, x25 => if x10 = true then (if 0 ≤ x11 then (if x11 < (x8.length : Int) then (if x11 > 2000 then (some (([] : List (S100)), false)) else (spec_PutPages.l0 k x1 x2 (x8.set (x11 : Int).toNat true) x23 x24 (wrap64 (x25 + 1)))) else (none)) else (none)) else (spec_PutPages.l0 k x1 x2 x8 x23 x24 (wrap64 (x25 + 1)))
end
def spec_PutPages.f (k : Nat) (l0 : List (S100)) (a1 : Int) (a2 : Int) : Option ((List (S100)) × Bool) := (spec_ixPage.f k l0 a1).bind fun t223 => (if t223 = true then ((spec_l1In.f a2 0 2000).bind fun t224 => (spec_PutPages.j0 k l0 a1 a2 (!t224))) else (spec_PutPages.j0 k l0 a1 a2 true))
set_option maxHeartbeats 8000000 in
set_option maxRecDepth 100000 in
theorem spec_PutPages.calls (k : Nat) (A0 : Option Addr) (c0 : Nat) (l0 : List (S100)) (a1 : Int) (a2 : Int) (r1 : List (S100)) (r2 : Bool) (w : World) (hr0 : Kd.C k100 w A0 l0.length l0) (hc0 : l0.length ≤ c0) (h : spec_PutPages.f k l0 a1 a2 = some (r1, r2)) :
  Calls Tryd.prog 69 #[.slice A0 l0.length c0, .int .i64 a1, .int .i64 a2] w fun e w' => ∃ v0_ : Value, e = .returned (.tuple #[v0_, .bool r2]) ∧ Kd.R k100 100 w' w.heap.size (fun _ => True) v0_ r1 ∧ Below w.heap.size w w' := by
 have HR0 := Az_ hr0
 have HC0 := Az_ hc0
 clear hr0 hc0
 have HB := Az_ (Below.refl w.heap.size w)
 have H : ((spec_ixPage.f k l0 a1).bind fun t223 => (if t223 = true then ((spec_l1In.f a2 0 2000).bind fun t224 => (j0 k l0 a1 a2 (!t224))) else (j0 k l0 a1 a2 true))) = some (r1, r2) := h
 clear h
 have HC4 := Az_ H
 clear H
 go_enter Tryd.func69, Tryd.ntmps69
 go_upto_region 1 with (fail)
 go_cut [20] (fun v20 wc => ∃ (kq : Nat) (x20_3 : Bool), v20 = .bool x20_3 ∧ Aside0 (j0 kq l0 a1 a2 x20_3 = some (r1, r2)) ∧ Aside0 (kq ≤ k) ∧ Aside0 (Below w.heap.size w wc))
 case first =>
  have H := HC4.out
  clear HC4
  replace H := bqz_ H; obtain ⟨t223, A5, H⟩ := H
  replace H : (if t223 = true then ((spec_l1In.f a2 0 2000).bind fun t224 => (j0 k l0 a1 a2 (!t224))) else (j0 k l0 a1 a2 true)) = some (r1, r2) := H
  by_cases c6 : t223 = true; rotate_left
  ·replace c6 := Bool.eq_false_iff.mpr c6
   subst c6
   rw [if_neg nfz_] at H
   have H' := Az_ H
   clear H
   go_wp2_with (((with_reducible refine gate_callee (f := 157) rfl ?_); refine goesL_ (some 14) rfl rfl Tryd.func157 (w162_) rfl #[.slice A0 l0.length c0, .int .i64 a1] rfl maz_ ?_; (with_reducible refine (spec_ixPage.calls k _ _ l0 a1 false _ ?side1 ?side2 A5.out).mono ?_); (case side1 => exact ucz_ ((Kd.C_below HR0.out HB.out))); (case side2 => exact HC0.out); rintro e w9 ⟨rfl, hb⟩; refine ⟨_, rfl, ?_⟩; replace HB := Az_ (btz_ (ubz_ HB.out) hb); (try clear hb)))
   go_meet
   case rel => exact ⟨_, (true), qaz_, H', ⟨w141_⟩, ⟨w160_⟩⟩
  subst c6
  rw [if_pos rfl] at H
  replace H := bqz_ H; obtain ⟨t224, A7, H⟩ := H
  replace H : (j0 k l0 a1 a2 (!t224)) = some (r1, r2) := H
  have H' := Az_ H
  clear H
  go_wp2_with (first | ((with_reducible refine gate_callee (f := 157) rfl ?_); refine goesL_ (some 14) rfl rfl Tryd.func157 (w162_) rfl #[.slice A0 l0.length c0, .int .i64 a1] rfl maz_ ?_; (with_reducible refine (spec_ixPage.calls k _ _ l0 a1 true _ ?side1 ?side2 A5.out).mono ?_); (case side1 => exact ucz_ ((Kd.C_below HR0.out HB.out))); (case side2 => exact HC0.out); rintro e w8 ⟨rfl, hb⟩; refine ⟨_, rfl, ?_⟩; replace HB := Az_ (btz_ (ubz_ HB.out) hb); (try clear hb)) | (go_at_call 101; (with_reducible refine (spec_l1In.calls a2 0 2000 t224 _ A7.out).mono ?_); rintro e w' ⟨rfl, ⟨nd, rfl⟩⟩))
  go_meet
  case rel => exact ⟨_, (!t224), qaz_, H', ⟨w141_⟩, ⟨w160_⟩⟩
 case rest =>
  clear HC4
  obtain ⟨kq, x20_3, rfl, HA, HJ3, HB⟩ := hcut
  cases kq with
  | zero => exact absurd HA.out (by simp [j0])
  | succ kj3 =>
   have H := HA.out
   clear HA
   simp only [j0] at H
   by_cases c10 : x20_3 = true
   ·subst c10
    rw [if_pos rfl] at H
    simp only [Option.some.injEq, Prod.mk.injEq] at H
    obtain ⟨rfl, rfl⟩ := H
    go_wp2
    go_ret2
    exact ⟨_, w116_, w80_, w160_⟩
   ·replace c10 := Bool.eq_false_iff.mpr c10
    subst c10
    rw [if_neg nfz_] at H
    by_cases c11 : 4002 ≤ 281474976710656
    ·rw [if_pos c11] at H
     have c11b0 := eq_true c11
     have c11b1 := decide_eq_true c11
     clear c11
     obtain ⟨y225, hy225⟩ : ∃ y_ : List Bool, y_ = (List.replicate 4002 false) := ⟨_, rfl⟩
     replace H : ((spec_ixMarks.f kj3 l0).bind fun t228 => (spec_PutPages.l0 kj3 a1 a2 y225 t228 (t228.length : Int) 0)) = some (r1, r2) := by first | (rw [hy225]; with_reducible exact H) | (have H2_ := (Option.bind_some _ _).symm.trans H; rw [hy225]; with_reducible exact H2_) | (have H2_ := (Option.bind_some _ _).symm.trans H; with_reducible exact H2_) | with_reducible exact H | (rw [hy225]; exact H) | exact H
     have Ny225 := Az_ hy225
     clear hy225
     replace H := bqz_ H; obtain ⟨t228, A12, H⟩ := H
     replace H : (spec_PutPages.l0 kj3 a1 a2 y225 t228 (t228.length : Int) 0) = some (r1, r2) := H
     have H' := Az_ H
     clear H
     go_wp2_with (first | ((with_reducible refine gate_dst (N := 21) rfl ?_); refine Kd.R_make Kd.bool _ 4 rfl (N := 21) rfl 156 _ _ rfl 4002 rfl rfl Tryd.underlying156 (.bool false) 1 info4 rfl (by decide) (by omega) false (ok := fun _ => True) (okp := fun _ => True) rfl (fun _ hk => hk) trivial (by omega) (by omega) (Below.refl _ _) (Nat.le_refl _) ?_; intro v226 w13 ho14 hb hg_ hnew_; clear hg_ hnew_; (first | rw [← Ny225.out] at ho14 | (simp only [Int.reduceToNat] at ho14; rw [← Ny225.out] at ho14)); have HO227 := Az_ (Kd.R_lower ho14 (below_size (ubz_ HB.out))); replace HB := Az_ (btz_ (ubz_ HB.out) hb); clear hb ho14) | ((with_reducible refine gate_callee (f := 158) rfl ?_); refine goesL_ (some 23) rfl rfl Tryd.func158 (w162_) rfl #[.slice A0 l0.length c0] rfl maz_ ?_; (with_reducible refine (spec_ixMarks.calls kj3 _ _ l0 t228 _ ?side1 ?side2 A12.out).mono ?_); (case side1 => exact ucz_ ((Kd.C_below HR0.out HB.out))); (case side2 => exact HC0.out); rintro e w15 ⟨v229, rfl, ho0, hb⟩; refine ⟨_, rfl, ?_⟩; have HO230 := Az_ (Kd.R_lower (Kd.R_new' ho0 (Kd.R_lt (by exact urz_ HO227.out))) (below_size (ubz_ HB.out))); replace HO227 := Az_ (rez_ (by exact urz_ HO227.out) (Kd.R_base ho0) hb); replace HB := Az_ (btz_ (ubz_ HB.out) hb); (try clear hb); (try clear ho0); obtain ⟨Ao16, co16, eo16⟩ := Kd.R_slice HO230.out; subst eo16))
     go_loopg [25] kj3 (fun kq v25 w' => ∃ (x8_2 : List Bool) (x25_2 : Int), v25 = .int .i64 x25_2 ∧ Aside0 (spec_PutPages.l0 kq a1 a2 x8_2 t228 (t228.length : Int) x25_2 = some (r1, r2)) ∧ Aside0 (kq ≤ kj3) ∧ Aside0 (Kd.R Kd.bool 4 w' w.heap.size (fun k_ => some k_ ≠ ((.slice Ao16 t228.length co16) : Value).ownBlock) v226 x8_2) ∧ Aside0 (Kd.R Kd.bool 4 w' w.heap.size (fun k_ => some k_ ≠ (v226 : Value).ownBlock) (.slice Ao16 t228.length co16) t228) ∧ Aside0 (Below w.heap.size w w'))
     case atStart => exact ⟨(y225), (0), qaz_, H', ⟨Nat.le_refl _⟩, ⟨by (with_reducible repeat (first | apply raz_ | apply rnz_ | apply rdz_)); exact Kd.R_mono HO227.out (fun _ hk => hk.2)⟩, ⟨by (with_reducible repeat (first | apply raz_ | apply rnz_ | apply rdz_)); exact Kd.R_mono HO230.out (fun _ hk => hk.2)⟩, ⟨w160_⟩⟩
     case round =>
      clear H'
      clear c11b0 c11b1
      obtain ⟨x8_2, x25_2, rfl, HA, HK2, HO_8, HO_23, HB⟩ := hrel
      cases gk with
      | zero => exact absurd HA.out (by simp [spec_PutPages.l0])
      | succ k2 =>
       have H := HA.out
       clear HA
       simp only [spec_PutPages.l0] at H
       by_cases c17 : x25_2 < (t228.length : Int); rotate_left
       ·rw [if_neg c17] at H
        have c17b0 := decide_eq_false c17
        clear c17
        replace H := bqz_ H; obtain ⟨⟨t231, t232⟩, A32, H⟩ := H
        replace H : (some (t231, t232)) = some (r1, r2) := H
        simp only [Option.some.injEq, Prod.mk.injEq] at H
        obtain ⟨rfl, rfl⟩ := H
        obtain ⟨Ao33, co33, eo33⟩ := Kd.R_slice HO_8.out
        subst eo33
        go_wp2_with (((with_reducible refine gate_callee (f := 159) rfl ?_); refine goesL_ (some 48) rfl rfl Tryd.func159 (w162_) rfl #[.slice Ao33 x8_2.length co33] rfl maz_ ?_; (with_reducible refine (spec_ixOf.calls k2 _ _ x8_2 t231 t232 _ ?side1 ?side2 A32.out).mono ?_); (case side1 => exact ucz_ ((Kd.R_reads' HO_8.out).2.2)); (case side2 => exact (Kd.R_reads' HO_8.out).2.1); rintro e w34 ⟨v233, rfl, ho0, hb⟩; refine ⟨_, rfl, ?_⟩; replace HO_8 := Az_ (Kd.R_below (by exact urz_ HO_8.out) hb); replace HO_23 := Az_ (Kd.R_below (by exact urz_ HO_23.out) hb); have HO234 := Az_ (Kd.R_lower ho0 (below_size (ubz_ HB.out))); replace HB := Az_ (btz_ (ubz_ HB.out) hb); (try clear hb); (try clear ho0)))
        go_ret2
        exact ⟨_, w116_, by (with_reducible repeat (first | apply raz_ | apply rnz_ | apply rdz_)); exact HO234.out, w160_⟩
       rw [if_pos c17] at H
       have c17b0 := decide_eq_true c17
       clear c17
       by_cases c18 : 0 ≤ x25_2; rotate_left
       ·rw [if_neg c18] at H
        exact absurd H (by simp)
       rw [if_pos c18] at H
       have c18b0 := decide_eq_true c18
       clear c18
       by_cases c19 : x25_2 < (t228.length : Int); rotate_left
       ·rw [if_neg c19] at H
        exact absurd H (by simp)
       rw [if_pos c19] at H
       have c19b0 := decide_eq_true c19
       clear c19
       have HC20 := Az_ H
       clear H
       have p235 : 0 ≤ (x25_2 : Int) := od_
       have q235 : x25_2 < (t228.length : Int) := od_
       obtain ⟨ad235, e235, hx235_0⟩ := Kd.at_bool (Kd.R_reads' HO_23.out).2.2 x25_2 p235 q235
       cases e235
       replace p235 := eq_true p235
       replace q235 := eq_true q235
       obtain ⟨bq22, hbq22⟩ : ∃ b_ : Bool, b_ = (rdOf false t228 x25_2) := ⟨_, rfl⟩
       have Nbq22 := Az_ hbq22
       clear hbq22
       (try rw [← Nbq22.out] at hx235_0)
       (try rw [← Nbq22.out] at HC20)
       go_upto_if 33 with (fail)
       go_cut [11] (fun v11 wc => ∃ (kq : Nat) (x11_19 : Int), v11 = .int .i64 x11_19 ∧ Aside0 (j2 kq a1 a2 x8_2 bq22 x11_19 t228 (t228.length : Int) x25_2 = some (r1, r2)) ∧ Aside0 (kq ≤ k2) ∧ Aside0 (Kd.R Kd.bool 4 wc w.heap.size (fun k_ => some k_ ≠ ((.slice (some ad235) t228.length co16) : Value).ownBlock) v226 x8_2) ∧ Aside0 (Kd.R Kd.bool 4 wc w.heap.size (fun k_ => some k_ ≠ (v226 : Value).ownBlock) (.slice (some ad235) t228.length co16) t228) ∧ Aside0 (Below w.heap.size w wc))
       case first =>
        have H := HC20.out
        clear HC20
        by_cases c21 : x25_2 ≥ a1; rotate_left
        ·rw [if_neg c21] at H
         have c21b0 := decide_eq_false c21
         clear c21
         (first | rw [c21b0] | (simp only [i64_w, i32_w]; rw [c21b0]) | skip)
         have H' := Az_ H
         clear H
         go_wp2
         go_meet
         case rel => exact ⟨_, (x25_2), qaz_, H', ⟨w129_⟩, ⟨w126_⟩, ⟨w119_⟩, ⟨w160_⟩⟩
        rw [if_pos c21] at H
        have c21b0 := decide_eq_true c21
        clear c21
        (first | rw [c21b0] | (simp only [i64_w, i32_w]; rw [c21b0]) | skip)
        have H' := Az_ H
        clear H
        go_wp2
        go_meet
        case rel => exact ⟨_, (wrap64 (x25_2 + a2)), qaz_, H', ⟨w129_⟩, ⟨w126_⟩, ⟨w119_⟩, ⟨w160_⟩⟩
       case rest =>
        clear HC20
        clear c17b0 c18b0 c19b0 hx235_0 p235 q235
        obtain ⟨kq, x11_19, rfl, HA, HJ19, HO_8, HO_23, HB⟩ := hcut
        cases kq with
        | zero => exact absurd HA.out (by simp [j2])
        | succ kj19 =>
         have H := HA.out
         clear HA
         simp only [j2] at H
         have hbq22 : bq22 = (rdOf false t228 x25_2) := Nbq22.out
         replace H : (if (bq22) = true then (if 0 ≤ x11_19 then (if x11_19 < (x8_2.length : Int) then (if x11_19 > 2000 then (some (([] : List (S100)), false)) else (spec_PutPages.l0 kj19 a1 a2 (x8_2.set (x11_19 : Int).toNat true) t228 (t228.length : Int) (wrap64 (x25_2 + 1)))) else (none)) else (none)) else (spec_PutPages.l0 kj19 a1 a2 x8_2 t228 (t228.length : Int) (wrap64 (x25_2 + 1)))) = some (r1, r2) := by first | (rw [← hbq22] at H; exact H) | exact H
         have Nbq22 := Az_ hbq22
         clear hbq22
         by_cases c23 : (bq22) = true; rotate_left
         ·rw [if_neg c23] at H
          replace c23 : bq22 = false := by simpa using c23
          subst c23
          have H' := Az_ H
          clear H
          go_wp2
          go_roundg kj19
          case measure => have := HJ3.out; have := HK2.out; have := HJ19.out; omega
          case rel => exact ⟨(x8_2), (wrap64 (x25_2 + 1)), qaz_, H', ⟨w130_⟩, ⟨w126_⟩, ⟨w119_⟩, ⟨w160_⟩⟩
         rw [if_pos c23] at H
         subst c23
         by_cases c24 : 0 ≤ x11_19; rotate_left
         ·rw [if_neg c24] at H
          exact absurd H (by simp)
         rw [if_pos c24] at H
         have c24b0 := decide_eq_true c24
         clear c24
         by_cases c25 : x11_19 < (x8_2.length : Int); rotate_left
         ·rw [if_neg c25] at H
          exact absurd H (by simp)
         rw [if_pos c25] at H
         have c25b0 := decide_eq_true c25
         clear c25
         obtain ⟨y236, hy236⟩ : ∃ y_ : List Bool, y_ = (x8_2.set (x11_19 : Int).toNat true) := ⟨_, rfl⟩
         replace H : (if x11_19 > 2000 then (some (([] : List (S100)), false)) else (spec_PutPages.l0 kj19 a1 a2 y236 t228 (t228.length : Int) (wrap64 (x25_2 + 1)))) = some (r1, r2) := by first | (rw [hy236]; with_reducible exact H) | (have H2_ := (Option.bind_some _ _).symm.trans H; rw [hy236]; with_reducible exact H2_) | (have H2_ := (Option.bind_some _ _).symm.trans H; with_reducible exact H2_) | with_reducible exact H | (rw [hy236]; exact H) | exact H
         have Ny236 := Az_ hy236
         clear hy236
         by_cases c27 : x11_19 > 2000
         ·rw [if_pos c27] at H
          have c27b0 := decide_eq_true c27
          clear c27
          simp only [Option.some.injEq, Prod.mk.injEq] at H
          obtain ⟨rfl, rfl⟩ := H
          have p26 : 0 ≤ (x11_19 : Int) := od_
          have q26 : (x11_19 : Int) < ((x8_2.length : Int) : Int) := od_
          obtain ⟨go26, co26, eo26, gb26, gl26, cl26, HG26⟩ := Kd.R_form HO_8.out (by omega)
          (first | cases eo26 | (injection eo26 with ea_ en_ ec_; (first | subst ea_ | (injection ea_ with ea_; subst ea_)); subst ec_; clear en_))
          have GB26 := Az_ gb26
          have GG26 := Az_ HG26
          clear gb26 gl26 HG26
          obtain ⟨hx26_0, hf26_0⟩ := Kd.R_celln false HO_8.out (x11_19 : Int) p26 q26
          replace p26 := eq_true p26
          replace q26 := eq_true q26
          have HP28 := Kd.R_putg HO_8.out (x11_19 : Int) true
          go_wp2_with (((with_reducible refine gate_store (t := 4) (p := 40) rfl ?_); refine store_event (t := 4) (p := 40) (v := ?vo_w29) (w1 := (wc.setCell ⟨go26, (x11_19 : Int).toNat, none⟩ (.bool true))) ?hg ?ho ?hn ?hr ?_; (case ho => rfl); (case hg => rfl); (case hn => rfl); (case hr => first | (go_simp; done) | (go_simp; rfl)); intro w29 hw; have hg : wc.grownBy w29 (some go26) := (by rw [hw]; exact HP28.2); have hp_ : Kd.R Kd.bool 4 w29 w.heap.size (fun k_ => some k_ ≠ (.slice (some ad235) t228.length co16 : Value).ownBlock) (.slice (some ⟨go26, 0, none⟩) x8_2.length co26) y236 := (by rw [hw, Ny236.out]; exact HP28.1); clear HP28; replace HO_8 := Az_ (hp_); replace HO_23 := Az_ (Kd.R_after (v := (.slice (some ⟨go26, 0, none⟩) x8_2.length co26)) (v1 := (.slice (some ⟨go26, 0, none⟩) x8_2.length co26)) (ok := (fun _ => True)) (w89_) hg (.inl rfl)); replace HB := Az_ ((by rw [hw]; exact bsz_ (HB.out) GB26.out : Below w.heap.size w w29)); clear hg hw hp_))
          go_ret2
          exact ⟨_, w116_, w80_, w160_⟩
         rw [if_neg c27] at H
         have c27b0 := decide_eq_false c27
         clear c27
         have H' := Az_ H
         clear H
         have p26 : 0 ≤ (x11_19 : Int) := od_
         have q26 : (x11_19 : Int) < ((x8_2.length : Int) : Int) := od_
         obtain ⟨go26, co26, eo26, gb26, gl26, cl26, HG26⟩ := Kd.R_form HO_8.out (by omega)
         (first | cases eo26 | (injection eo26 with ea_ en_ ec_; (first | subst ea_ | (injection ea_ with ea_; subst ea_)); subst ec_; clear en_))
         have GB26 := Az_ gb26
         have GG26 := Az_ HG26
         clear gb26 gl26 HG26
         obtain ⟨hx26_0, hf26_0⟩ := Kd.R_celln false HO_8.out (x11_19 : Int) p26 q26
         replace p26 := eq_true p26
         replace q26 := eq_true q26
         have HP30 := Kd.R_putg HO_8.out (x11_19 : Int) true
         go_wp2_with (((with_reducible refine gate_store (t := 4) (p := 40) rfl ?_); refine store_event (t := 4) (p := 40) (v := ?vo_w31) (w1 := (wc.setCell ⟨go26, (x11_19 : Int).toNat, none⟩ (.bool true))) ?hg ?ho ?hn ?hr ?_; (case ho => rfl); (case hg => rfl); (case hn => rfl); (case hr => first | (go_simp; done) | (go_simp; rfl)); intro w31 hw; have hg : wc.grownBy w31 (some go26) := (by rw [hw]; exact HP30.2); have hp_ : Kd.R Kd.bool 4 w31 w.heap.size (fun k_ => some k_ ≠ (.slice (some ad235) t228.length co16 : Value).ownBlock) (.slice (some ⟨go26, 0, none⟩) x8_2.length co26) y236 := (by rw [hw, Ny236.out]; exact HP30.1); clear HP30; replace HO_8 := Az_ (hp_); replace HO_23 := Az_ (Kd.R_after (v := (.slice (some ⟨go26, 0, none⟩) x8_2.length co26)) (v1 := (.slice (some ⟨go26, 0, none⟩) x8_2.length co26)) (ok := (fun _ => True)) (w89_) hg (.inl rfl)); replace HB := Az_ ((by rw [hw]; exact bsz_ (HB.out) GB26.out : Below w.heap.size w w31)); clear hg hw hp_))
         go_roundg kj19
         case measure => have := HJ3.out; have := HK2.out; have := HJ19.out; omega
         case rel => exact ⟨(y236), (wrap64 (x25_2 + 1)), qaz_, H', ⟨w130_⟩, ⟨w126_⟩, ⟨by (with_reducible repeat (first | apply raz_ | apply rnz_ | apply rdz_)); exact Kd.R_mono HO_23.out (fun _ hk => hk.2)⟩, ⟨w160_⟩⟩
    ·rw [if_neg c11] at H
     exact absurd H (by simp)


mutual
def spec_TakePages.j0 : Nat → List (S100) → Int → Int → Bool → Option ((List (S100)) × Bool)
 | 0, _, _, _, _ => none
 | k + 1, x0, x1, x2, x19 => if x19 = true then (some (([] : List (S100)), false)) else (if 2002 ≤ 281474976710656 then ((spec_ixMarks.f k x0).bind fun t242 => (spec_TakePages.l0 k x1 x2 (List.replicate 2002 false) t242 (t242.length : Int) 0)) else (none))
def spec_TakePages.l0 : Nat → Int → Int → List Bool → List Bool → Int → Int → Option ((List (S100)) × Bool)
 | 0, _, _, _, _, _, _ => none
 | k + 1, x1, x2, x8, x22, x23, x24 => if x24 < x23 then (if 0 ≤ x24 then (if x24 < (x22.length : Int) then (if rdOf false x22 x24 = true then (spec_TakePages.j2 k x1 x2 x8 x24 (rdOf false x22 x24) x22 x23 x24 (decide (x24 < x1))) else (spec_TakePages.j2 k x1 x2 x8 x24 (rdOf false x22 x24) x22 x23 x24 false)) else (none)) else (none)) else ((spec_ixOf.f k x8).bind fun bt245 => (some (bt245.1, bt245.2)))
def spec_TakePages.j2 : Nat → Int → Int → List Bool → Int → Bool → List Bool → Int → Int → Bool → Option ((List (S100)) × Bool)
 | 0, _, _, _, _, _, _, _, _, _ => none
 | k + 1, x1, x2, x8, x9, x10, x22, x23, x24, x29 => if x29 = true then (if 0 ≤ x9 then (if x9 < (x8.length : Int) then (spec_TakePages.l0 k x1 x2 (x8.set (x9 : Int).toNat true) x22 x23 (wrap64 (x24 + 1))) else (none)) else (none)) else (if x10 = true then (if x9 ≥ (wrap64 (x1 + x2)) then (if 0 ≤ (wrap64 (x9 - x2)) then (if (wrap64 (x9 - x2)) < (x8.length : Int) then (spec_TakePages.l0 k x1 x2 (x8.set ((wrap64 (x9 - x2)) : Int).toNat true) x22 x23 (wrap64 (x24 + 1))) else (none)) else (none)) else (spec_TakePages.l0 k x1 x2 x8 x22 x23 (wrap64 (x24 + 1)))) else (spec_TakePages.l0 k x1 x2 x8 x22 x23 (wrap64 (x24 + 1))))
end
def spec_TakePages.f (k : Nat) (l0 : List (S100)) (a1 : Int) (a2 : Int) : Option ((List (S100)) × Bool) := (spec_ixPage.f k l0 a1).bind fun t237 => (if t237 = true then ((spec_l1In.f a2 0 2000).bind fun t238 => (spec_TakePages.j0 k l0 a1 a2 (!t238))) else (spec_TakePages.j0 k l0 a1 a2 true))
set_option maxHeartbeats 8000000 in
set_option maxRecDepth 100000 in
theorem spec_TakePages.calls (k : Nat) (A0 : Option Addr) (c0 : Nat) (l0 : List (S100)) (a1 : Int) (a2 : Int) (r1 : List (S100)) (r2 : Bool) (w : World) (hr0 : Kd.C k100 w A0 l0.length l0) (hc0 : l0.length ≤ c0) (h : spec_TakePages.f k l0 a1 a2 = some (r1, r2)) :
  Calls Tryd.prog 71 #[.slice A0 l0.length c0, .int .i64 a1, .int .i64 a2] w fun e w' => ∃ v0_ : Value, e = .returned (.tuple #[v0_, .bool r2]) ∧ Kd.R k100 100 w' w.heap.size (fun _ => True) v0_ r1 ∧ Below w.heap.size w w' := by
 have HR0 := Az_ hr0
 have HC0 := Az_ hc0
 clear hr0 hc0
 have HB := Az_ (Below.refl w.heap.size w)
 have H : ((spec_ixPage.f k l0 a1).bind fun t237 => (if t237 = true then ((spec_l1In.f a2 0 2000).bind fun t238 => (j0 k l0 a1 a2 (!t238))) else (j0 k l0 a1 a2 true))) = some (r1, r2) := h
 clear h
 have HC4 := Az_ H
 clear H
 go_enter Tryd.func71, Tryd.ntmps71
 go_upto_region 1 with (fail)
 go_cut [19] (fun v19 wc => ∃ (kq : Nat) (x19_3 : Bool), v19 = .bool x19_3 ∧ Aside0 (j0 kq l0 a1 a2 x19_3 = some (r1, r2)) ∧ Aside0 (kq ≤ k) ∧ Aside0 (Below w.heap.size w wc))
 case first =>
  have H := HC4.out
  clear HC4
  replace H := bqz_ H; obtain ⟨t237, A5, H⟩ := H
  replace H : (if t237 = true then ((spec_l1In.f a2 0 2000).bind fun t238 => (j0 k l0 a1 a2 (!t238))) else (j0 k l0 a1 a2 true)) = some (r1, r2) := H
  by_cases c6 : t237 = true; rotate_left
  ·replace c6 := Bool.eq_false_iff.mpr c6
   subst c6
   rw [if_neg nfz_] at H
   have H' := Az_ H
   clear H
   go_wp2_with (((with_reducible refine gate_callee (f := 157) rfl ?_); refine goesL_ (some 13) rfl rfl Tryd.func157 (w162_) rfl #[.slice A0 l0.length c0, .int .i64 a1] rfl maz_ ?_; (with_reducible refine (spec_ixPage.calls k _ _ l0 a1 false _ ?side1 ?side2 A5.out).mono ?_); (case side1 => exact ucz_ ((Kd.C_below HR0.out HB.out))); (case side2 => exact HC0.out); rintro e w9 ⟨rfl, hb⟩; refine ⟨_, rfl, ?_⟩; replace HB := Az_ (btz_ (ubz_ HB.out) hb); (try clear hb)))
   go_meet
   case rel => exact ⟨_, (true), qaz_, H', ⟨w141_⟩, ⟨w160_⟩⟩
  subst c6
  rw [if_pos rfl] at H
  replace H := bqz_ H; obtain ⟨t238, A7, H⟩ := H
  replace H : (j0 k l0 a1 a2 (!t238)) = some (r1, r2) := H
  have H' := Az_ H
  clear H
  go_wp2_with (first | ((with_reducible refine gate_callee (f := 157) rfl ?_); refine goesL_ (some 13) rfl rfl Tryd.func157 (w162_) rfl #[.slice A0 l0.length c0, .int .i64 a1] rfl maz_ ?_; (with_reducible refine (spec_ixPage.calls k _ _ l0 a1 true _ ?side1 ?side2 A5.out).mono ?_); (case side1 => exact ucz_ ((Kd.C_below HR0.out HB.out))); (case side2 => exact HC0.out); rintro e w8 ⟨rfl, hb⟩; refine ⟨_, rfl, ?_⟩; replace HB := Az_ (btz_ (ubz_ HB.out) hb); (try clear hb)) | (go_at_call 101; (with_reducible refine (spec_l1In.calls a2 0 2000 t238 _ A7.out).mono ?_); rintro e w' ⟨rfl, ⟨nd, rfl⟩⟩))
  go_meet
  case rel => exact ⟨_, (!t238), qaz_, H', ⟨w141_⟩, ⟨w160_⟩⟩
 case rest =>
  clear HC4
  obtain ⟨kq, x19_3, rfl, HA, HJ3, HB⟩ := hcut
  cases kq with
  | zero => exact absurd HA.out (by simp [j0])
  | succ kj3 =>
   have H := HA.out
   clear HA
   simp only [j0] at H
   by_cases c10 : x19_3 = true
   ·subst c10
    rw [if_pos rfl] at H
    simp only [Option.some.injEq, Prod.mk.injEq] at H
    obtain ⟨rfl, rfl⟩ := H
    go_wp2
    go_ret2
    exact ⟨_, w116_, w80_, w160_⟩
   ·replace c10 := Bool.eq_false_iff.mpr c10
    subst c10
    rw [if_neg nfz_] at H
    by_cases c11 : 2002 ≤ 281474976710656
    ·rw [if_pos c11] at H
     have c11b0 := eq_true c11
     have c11b1 := decide_eq_true c11
     clear c11
     obtain ⟨y239, hy239⟩ : ∃ y_ : List Bool, y_ = (List.replicate 2002 false) := ⟨_, rfl⟩
     replace H : ((spec_ixMarks.f kj3 l0).bind fun t242 => (spec_TakePages.l0 kj3 a1 a2 y239 t242 (t242.length : Int) 0)) = some (r1, r2) := by first | (rw [hy239]; with_reducible exact H) | (have H2_ := (Option.bind_some _ _).symm.trans H; rw [hy239]; with_reducible exact H2_) | (have H2_ := (Option.bind_some _ _).symm.trans H; with_reducible exact H2_) | with_reducible exact H | (rw [hy239]; exact H) | exact H
     have Ny239 := Az_ hy239
     clear hy239
     replace H := bqz_ H; obtain ⟨t242, A12, H⟩ := H
     replace H : (spec_TakePages.l0 kj3 a1 a2 y239 t242 (t242.length : Int) 0) = some (r1, r2) := H
     have H' := Az_ H
     clear H
     go_wp2_with (first | ((with_reducible refine gate_dst (N := 20) rfl ?_); refine Kd.R_make Kd.bool _ 4 rfl (N := 20) rfl 156 _ _ rfl 2002 rfl rfl Tryd.underlying156 (.bool false) 1 info4 rfl (by decide) (by omega) false (ok := fun _ => True) (okp := fun _ => True) rfl (fun _ hk => hk) trivial (by omega) (by omega) (Below.refl _ _) (Nat.le_refl _) ?_; intro v240 w13 ho14 hb hg_ hnew_; clear hg_ hnew_; (first | rw [← Ny239.out] at ho14 | (simp only [Int.reduceToNat] at ho14; rw [← Ny239.out] at ho14)); have HO241 := Az_ (Kd.R_lower ho14 (below_size (ubz_ HB.out))); replace HB := Az_ (btz_ (ubz_ HB.out) hb); clear hb ho14) | ((with_reducible refine gate_callee (f := 158) rfl ?_); refine goesL_ (some 22) rfl rfl Tryd.func158 (w162_) rfl #[.slice A0 l0.length c0] rfl maz_ ?_; (with_reducible refine (spec_ixMarks.calls kj3 _ _ l0 t242 _ ?side1 ?side2 A12.out).mono ?_); (case side1 => exact ucz_ ((Kd.C_below HR0.out HB.out))); (case side2 => exact HC0.out); rintro e w15 ⟨v243, rfl, ho0, hb⟩; refine ⟨_, rfl, ?_⟩; have HO244 := Az_ (Kd.R_lower (Kd.R_new' ho0 (Kd.R_lt (by exact urz_ HO241.out))) (below_size (ubz_ HB.out))); replace HO241 := Az_ (rez_ (by exact urz_ HO241.out) (Kd.R_base ho0) hb); replace HB := Az_ (btz_ (ubz_ HB.out) hb); (try clear hb); (try clear ho0); obtain ⟨Ao16, co16, eo16⟩ := Kd.R_slice HO244.out; subst eo16))
     go_loopg [24] kj3 (fun kq v24 w' => ∃ (x8_2 : List Bool) (x24_2 : Int), v24 = .int .i64 x24_2 ∧ Aside0 (spec_TakePages.l0 kq a1 a2 x8_2 t242 (t242.length : Int) x24_2 = some (r1, r2)) ∧ Aside0 (kq ≤ kj3) ∧ Aside0 (Kd.R Kd.bool 4 w' w.heap.size (fun k_ => some k_ ≠ ((.slice Ao16 t242.length co16) : Value).ownBlock) v240 x8_2) ∧ Aside0 (Kd.R Kd.bool 4 w' w.heap.size (fun k_ => some k_ ≠ (v240 : Value).ownBlock) (.slice Ao16 t242.length co16) t242) ∧ Aside0 (Below w.heap.size w w'))
     case atStart => exact ⟨(y239), (0), qaz_, H', ⟨Nat.le_refl _⟩, ⟨by (with_reducible repeat (first | apply raz_ | apply rnz_ | apply rdz_)); exact Kd.R_mono HO241.out (fun _ hk => hk.2)⟩, ⟨by (with_reducible repeat (first | apply raz_ | apply rnz_ | apply rdz_)); exact Kd.R_mono HO244.out (fun _ hk => hk.2)⟩, ⟨w160_⟩⟩
     case round =>
      clear H'
      clear c11b0 c11b1
      obtain ⟨x8_2, x24_2, rfl, HA, HK2, HO_8, HO_22, HB⟩ := hrel
      cases gk with
      | zero => exact absurd HA.out (by simp [spec_TakePages.l0])
      | succ k2 =>
       have H := HA.out
       clear HA
       simp only [spec_TakePages.l0] at H
       by_cases c17 : x24_2 < (t242.length : Int); rotate_left
       ·rw [if_neg c17] at H
        have c17b0 := decide_eq_false c17
        clear c17
        replace H := bqz_ H; obtain ⟨⟨t245, t246⟩, A38, H⟩ := H
        replace H : (some (t245, t246)) = some (r1, r2) := H
        simp only [Option.some.injEq, Prod.mk.injEq] at H
        obtain ⟨rfl, rfl⟩ := H
        obtain ⟨Ao39, co39, eo39⟩ := Kd.R_slice HO_8.out
        subst eo39
        go_wp2_with (((with_reducible refine gate_callee (f := 159) rfl ?_); refine goesL_ (some 55) rfl rfl Tryd.func159 (w162_) rfl #[.slice Ao39 x8_2.length co39] rfl maz_ ?_; (with_reducible refine (spec_ixOf.calls k2 _ _ x8_2 t245 t246 _ ?side1 ?side2 A38.out).mono ?_); (case side1 => exact ucz_ ((Kd.R_reads' HO_8.out).2.2)); (case side2 => exact (Kd.R_reads' HO_8.out).2.1); rintro e w40 ⟨v247, rfl, ho0, hb⟩; refine ⟨_, rfl, ?_⟩; replace HO_8 := Az_ (Kd.R_below (by exact urz_ HO_8.out) hb); replace HO_22 := Az_ (Kd.R_below (by exact urz_ HO_22.out) hb); have HO248 := Az_ (Kd.R_lower ho0 (below_size (ubz_ HB.out))); replace HB := Az_ (btz_ (ubz_ HB.out) hb); (try clear hb); (try clear ho0)))
        go_ret2
        exact ⟨_, w116_, by (with_reducible repeat (first | apply raz_ | apply rnz_ | apply rdz_)); exact HO248.out, w160_⟩
       rw [if_pos c17] at H
       have c17b0 := decide_eq_true c17
       clear c17
       by_cases c18 : 0 ≤ x24_2; rotate_left
       ·rw [if_neg c18] at H
        exact absurd H (by simp)
       rw [if_pos c18] at H
       have c18b0 := decide_eq_true c18
       clear c18
       by_cases c19 : x24_2 < (t242.length : Int); rotate_left
       ·rw [if_neg c19] at H
        exact absurd H (by simp)
       rw [if_pos c19] at H
       have c19b0 := decide_eq_true c19
       clear c19
       have HC20 := Az_ H
       clear H
       have p249 : 0 ≤ (x24_2 : Int) := od_
       have q249 : x24_2 < (t242.length : Int) := od_
       obtain ⟨ad249, e249, hx249_0⟩ := Kd.at_bool (Kd.R_reads' HO_22.out).2.2 x24_2 p249 q249
       cases e249
       replace p249 := eq_true p249
       replace q249 := eq_true q249
       obtain ⟨bq21, hbq21⟩ : ∃ b_ : Bool, b_ = (rdOf false t242 x24_2) := ⟨_, rfl⟩
       have Nbq21 := Az_ hbq21
       clear hbq21
       (try rw [← Nbq21.out] at hx249_0)
       (try rw [← Nbq21.out] at HC20)
       go_upto_region 7 with (fail)
       go_cut [29] (fun v29 wc => ∃ (kq : Nat) (x29_19 : Bool), v29 = .bool x29_19 ∧ Aside0 (j2 kq a1 a2 x8_2 x24_2 bq21 t242 (t242.length : Int) x24_2 x29_19 = some (r1, r2)) ∧ Aside0 (kq ≤ k2) ∧ Aside0 (Kd.R Kd.bool 4 wc w.heap.size (fun k_ => some k_ ≠ ((.slice (some ad249) t242.length co16) : Value).ownBlock) v240 x8_2) ∧ Aside0 (Kd.R Kd.bool 4 wc w.heap.size (fun k_ => some k_ ≠ (v240 : Value).ownBlock) (.slice (some ad249) t242.length co16) t242) ∧ Aside0 (Below w.heap.size w wc))
       case first =>
        have H := HC20.out
        clear HC20
        have hbq21 : bq21 = (rdOf false t242 x24_2) := Nbq21.out
        replace H : (if bq21 = true then (j2 k2 a1 a2 x8_2 x24_2 bq21 t242 (t242.length : Int) x24_2 (decide (x24_2 < a1))) else (j2 k2 a1 a2 x8_2 x24_2 bq21 t242 (t242.length : Int) x24_2 false)) = some (r1, r2) := by first | (rw [← hbq21] at H; exact H) | exact H
        have Nbq21 := Az_ hbq21
        clear hbq21
        (try rw [← Nbq21.out])
        by_cases c22 : bq21 = true
        ·subst c22
         rw [if_pos rfl] at H
         have H' := Az_ H
         clear H
         go_wp2
         go_meet
         case rel => exact ⟨_, (decide (x24_2 < a1)), qaz_, H', ⟨w129_⟩, ⟨w126_⟩, ⟨w120_⟩, ⟨w160_⟩⟩
        replace c22 := Bool.eq_false_iff.mpr c22
        subst c22
        rw [if_neg nfz_] at H
        have H' := Az_ H
        clear H
        go_wp2
        go_meet
        case rel => exact ⟨_, (false), qaz_, H', ⟨w129_⟩, ⟨w126_⟩, ⟨w120_⟩, ⟨w160_⟩⟩
       case rest =>
        clear HC20
        clear c17b0 c18b0 c19b0 hx249_0 p249 q249
        obtain ⟨kq, x29_19, rfl, HA, HJ19, HO_8, HO_22, HB⟩ := hcut
        cases kq with
        | zero => exact absurd HA.out (by simp [j2])
        | succ kj19 =>
         have H := HA.out
         clear HA
         simp only [j2] at H
         by_cases c23 : x29_19 = true
         ·subst c23
          rw [if_pos rfl] at H
          by_cases c24 : 0 ≤ x24_2; rotate_left
          ·rw [if_neg c24] at H
           exact absurd H (by simp)
          rw [if_pos c24] at H
          have c24b0 := decide_eq_true c24
          clear c24
          by_cases c25 : x24_2 < (x8_2.length : Int); rotate_left
          ·rw [if_neg c25] at H
           exact absurd H (by simp)
          rw [if_pos c25] at H
          have c25b0 := decide_eq_true c25
          clear c25
          obtain ⟨y250, hy250⟩ : ∃ y_ : List Bool, y_ = (x8_2.set (x24_2 : Int).toNat true) := ⟨_, rfl⟩
          replace H : (spec_TakePages.l0 kj19 a1 a2 y250 t242 (t242.length : Int) (wrap64 (x24_2 + 1))) = some (r1, r2) := by first | (rw [hy250]; with_reducible exact H) | (have H2_ := (Option.bind_some _ _).symm.trans H; rw [hy250]; with_reducible exact H2_) | (have H2_ := (Option.bind_some _ _).symm.trans H; with_reducible exact H2_) | with_reducible exact H | (rw [hy250]; exact H) | exact H
          have Ny250 := Az_ hy250
          clear hy250
          have H' := Az_ H
          clear H
          have p26 : 0 ≤ (x24_2 : Int) := od_
          have q26 : (x24_2 : Int) < ((x8_2.length : Int) : Int) := od_
          obtain ⟨go26, co26, eo26, gb26, gl26, cl26, HG26⟩ := Kd.R_form HO_8.out (by omega)
          (first | cases eo26 | (injection eo26 with ea_ en_ ec_; (first | subst ea_ | (injection ea_ with ea_; subst ea_)); subst ec_; clear en_))
          have GB26 := Az_ gb26
          have GG26 := Az_ HG26
          clear gb26 gl26 HG26
          obtain ⟨hx26_0, hf26_0⟩ := Kd.R_celln false HO_8.out (x24_2 : Int) p26 q26
          replace p26 := eq_true p26
          replace q26 := eq_true q26
          have HP27 := Kd.R_putg HO_8.out (x24_2 : Int) true
          go_wp2_with (((with_reducible refine gate_store (t := 4) (p := 38) rfl ?_); refine store_event (t := 4) (p := 38) (v := ?vo_w28) (w1 := (wc.setCell ⟨go26, (x24_2 : Int).toNat, none⟩ (.bool true))) ?hg ?ho ?hn ?hr ?_; (case ho => rfl); (case hg => rfl); (case hn => rfl); (case hr => first | (go_simp; done) | (go_simp; rfl)); intro w28 hw; have hg : wc.grownBy w28 (some go26) := (by rw [hw]; exact HP27.2); have hp_ : Kd.R Kd.bool 4 w28 w.heap.size (fun k_ => some k_ ≠ (.slice (some ad249) t242.length co16 : Value).ownBlock) (.slice (some ⟨go26, 0, none⟩) x8_2.length co26) y250 := (by rw [hw, Ny250.out]; exact HP27.1); clear HP27; replace HO_8 := Az_ (hp_); replace HO_22 := Az_ (Kd.R_after (v := (.slice (some ⟨go26, 0, none⟩) x8_2.length co26)) (v1 := (.slice (some ⟨go26, 0, none⟩) x8_2.length co26)) (ok := (fun _ => True)) (w90_) hg (.inl rfl)); replace HB := Az_ ((by rw [hw]; exact bsz_ (HB.out) GB26.out : Below w.heap.size w w28)); clear hg hw hp_))
          go_roundg kj19
          case measure => have := HJ3.out; have := HK2.out; have := HJ19.out; omega
          case rel => exact ⟨(y250), (wrap64 (x24_2 + 1)), qaz_, H', ⟨w130_⟩, ⟨w126_⟩, ⟨by (with_reducible repeat (first | apply raz_ | apply rnz_ | apply rdz_)); exact Kd.R_mono HO_22.out (fun _ hk => hk.2)⟩, ⟨w160_⟩⟩
         replace c23 := Bool.eq_false_iff.mpr c23
         subst c23
         rw [if_neg nfz_] at H
         have hbq29 : bq21 = (rdOf false t242 x24_2) := Nbq21.out
         replace H : (if (bq21) = true then (if x24_2 ≥ (wrap64 (a1 + a2)) then (if 0 ≤ (wrap64 (x24_2 - a2)) then (if (wrap64 (x24_2 - a2)) < (x8_2.length : Int) then (spec_TakePages.l0 kj19 a1 a2 (x8_2.set ((wrap64 (x24_2 - a2)) : Int).toNat true) t242 (t242.length : Int) (wrap64 (x24_2 + 1))) else (none)) else (none)) else (spec_TakePages.l0 kj19 a1 a2 x8_2 t242 (t242.length : Int) (wrap64 (x24_2 + 1)))) else (spec_TakePages.l0 kj19 a1 a2 x8_2 t242 (t242.length : Int) (wrap64 (x24_2 + 1)))) = some (r1, r2) := by first | (rw [← hbq29] at H; exact H) | exact H
         have Nbq21 := Az_ hbq29
         clear hbq29
         by_cases c30 : (bq21) = true; rotate_left
         ·rw [if_neg c30] at H
          replace c30 : bq21 = false := by simpa using c30
          subst c30
          have H' := Az_ H
          clear H
          go_wp2
          go_roundg kj19
          case measure => have := HJ3.out; have := HK2.out; have := HJ19.out; omega
          case rel => exact ⟨(x8_2), (wrap64 (x24_2 + 1)), qaz_, H', ⟨w130_⟩, ⟨w126_⟩, ⟨w120_⟩, ⟨w160_⟩⟩
         rw [if_pos c30] at H
         subst c30
         by_cases c31 : x24_2 ≥ (wrap64 (a1 + a2)); rotate_left
         ·rw [if_neg c31] at H
          have c31b0 := decide_eq_false c31
          clear c31
          have H' := Az_ H
          clear H
          go_wp2
          go_roundg kj19
          case measure => have := HJ3.out; have := HK2.out; have := HJ19.out; omega
          case rel => exact ⟨(x8_2), (wrap64 (x24_2 + 1)), qaz_, H', ⟨w130_⟩, ⟨w126_⟩, ⟨w120_⟩, ⟨w160_⟩⟩
         rw [if_pos c31] at H
         have c31b0 := decide_eq_true c31
         clear c31
         obtain ⟨ji32, hji32⟩ : ∃ j_ : Int, (wrap64 (x24_2 - a2)) = j_ := ⟨_, rfl⟩
         replace H : (if 0 ≤ (ji32) then (if (ji32) < (x8_2.length : Int) then (spec_TakePages.l0 kj19 a1 a2 (x8_2.set ((ji32) : Int).toNat true) t242 (t242.length : Int) (wrap64 (x24_2 + 1))) else (none)) else (none)) = some (r1, r2) := by first | (rw [hji32] at H; exact H) | (simp only [hji32] at H ⊢; exact H)
         have hji32w : (IntKind.i64.wrap (x24_2 - a2)) = ji32 := (i64_w _).trans hji32
         by_cases c33 : 0 ≤ (ji32); rotate_left
         ·rw [if_neg c33] at H
          exact absurd H (by simp)
         rw [if_pos c33] at H
         have c33b0 := decide_eq_true c33
         clear c33
         by_cases c34 : (ji32) < (x8_2.length : Int); rotate_left
         ·rw [if_neg c34] at H
          exact absurd H (by simp)
         rw [if_pos c34] at H
         have c34b0 := decide_eq_true c34
         clear c34
         obtain ⟨y251, hy251⟩ : ∃ y_ : List Bool, y_ = (x8_2.set ((ji32) : Int).toNat true) := ⟨_, rfl⟩
         replace H : (spec_TakePages.l0 kj19 a1 a2 y251 t242 (t242.length : Int) (wrap64 (x24_2 + 1))) = some (r1, r2) := by first | (rw [hy251]; with_reducible exact H) | (have H2_ := (Option.bind_some _ _).symm.trans H; rw [hy251]; with_reducible exact H2_) | (have H2_ := (Option.bind_some _ _).symm.trans H; with_reducible exact H2_) | with_reducible exact H | (rw [hy251]; exact H) | exact H
         have Ny251 := Az_ hy251
         clear hy251
         have H' := Az_ H
         clear H
         have p35 : 0 ≤ ((ji32) : Int) := od_
         have q35 : ((ji32) : Int) < ((x8_2.length : Int) : Int) := od_
         obtain ⟨go35, co35, eo35, gb35, gl35, cl35, HG35⟩ := Kd.R_form HO_8.out (by omega)
         (first | cases eo35 | (injection eo35 with ea_ en_ ec_; (first | subst ea_ | (injection ea_ with ea_; subst ea_)); subst ec_; clear en_))
         have GB35 := Az_ gb35
         have GG35 := Az_ HG35
         clear gb35 gl35 HG35
         obtain ⟨hx35_0, hf35_0⟩ := Kd.R_celln false HO_8.out ((ji32) : Int) p35 q35
         replace p35 := eq_true p35
         replace q35 := eq_true q35
         have HP36 := Kd.R_putg HO_8.out ((ji32) : Int) true
         go_wp2_with (((with_reducible refine gate_store (t := 4) (p := 52) rfl ?_); refine store_event (t := 4) (p := 52) (v := ?vo_w37) (w1 := (wc.setCell ⟨go35, ((ji32) : Int).toNat, none⟩ (.bool true))) ?hg ?ho ?hn ?hr ?_; (case ho => rfl); (case hg => rfl); (case hn => rfl); (case hr => first | (go_simp; done) | (go_simp; rfl)); intro w37 hw; have hg : wc.grownBy w37 (some go35) := (by rw [hw]; exact HP36.2); have hp_ : Kd.R Kd.bool 4 w37 w.heap.size (fun k_ => some k_ ≠ (.slice (some ad249) t242.length co16 : Value).ownBlock) (.slice (some ⟨go35, 0, none⟩) x8_2.length co35) y251 := (by rw [hw, Ny251.out]; exact HP36.1); clear HP36; replace HO_8 := Az_ (hp_); replace HO_22 := Az_ (Kd.R_after (v := (.slice (some ⟨go35, 0, none⟩) x8_2.length co35)) (v1 := (.slice (some ⟨go35, 0, none⟩) x8_2.length co35)) (ok := (fun _ => True)) (w90_) hg (.inl rfl)); replace HB := Az_ ((by rw [hw]; exact bsz_ (HB.out) GB35.out : Below w.heap.size w w37)); clear hg hw hp_))
         go_roundg kj19
         case measure => have := HJ3.out; have := HK2.out; have := HJ19.out; omega
         case rel => exact ⟨(y251), (wrap64 (x24_2 + 1)), qaz_, H', ⟨w130_⟩, ⟨w126_⟩, ⟨by (with_reducible repeat (first | apply raz_ | apply rnz_ | apply rdz_)); exact Kd.R_mono HO_22.out (fun _ hk => hk.2)⟩, ⟨w160_⟩⟩
    ·rw [if_neg c11] at H
     exact absurd H (by simp)

def spec_l1Most.f (a0 : Int) (a1 : Int) : Option (Int) := if a0 > a1 then (some a0) else (some a1)
set_option maxHeartbeats 8000000 in
set_option maxRecDepth 100000 in
theorem spec_l1Most.calls (a0 : Int) (a1 : Int) (r : Int) (w : World) (h : spec_l1Most.f a0 a1 = some r) :
  Calls Tryd.prog 195 #[.int .i64 a0, .int .i64 a1] w fun e w' => e = .returned (.int .i64 r) ∧ Drawn0 w w' := by
 have H : (if a0 > a1 then (some a0) else (some a1)) = some r := h
 clear h
 by_cases c3 : a0 > a1
 ·rw [if_pos c3] at H
  have c3b0 := decide_eq_true c3
  clear c3
  obtain rfl := Option.some.inj H
  go_enter Tryd.func195, Tryd.ntmps195
  go_wp2
  go_ret
  exact ⟨w134_, w131_⟩
 ·rw [if_neg c3] at H
  have c3b0 := decide_eq_false c3
  clear c3
  obtain rfl := Option.some.inj H
  go_enter Tryd.func195, Tryd.ntmps195
  go_wp2
  go_ret
  exact ⟨w134_, w131_⟩

def spec_l1Abs.f (a0 : Int) : Option (Int) := (spec_l1Most.f a0 (wrap64 (-a0))).bind fun t252 => (some t252)
set_option maxHeartbeats 8000000 in
set_option maxRecDepth 100000 in
theorem spec_l1Abs.calls (a0 : Int) (r : Int) (w : World) (h : spec_l1Abs.f a0 = some r) :
  Calls Tryd.prog 160 #[.int .i64 a0] w fun e w' => e = .returned (.int .i64 r) ∧ Drawn0 w w' := by
 have H : ((spec_l1Most.f a0 (wrap64 (-a0))).bind fun t252 => (some t252)) = some r := h
 clear h
 replace H := bqz_ H; obtain ⟨t252, A2, H⟩ := H
 replace H : (some t252) = some r := H
 obtain rfl := Option.some.inj H
 go_enter Tryd.func160, Tryd.ntmps160
 go_wp2_with (((with_reducible refine gate_callee (f := 195) rfl ?_); refine goesL_ (some 6) rfl rfl Tryd.func195 (w162_) rfl #[.int .i64 a0, .int .i64 (wrap64 (-a0))] rfl maz_ ?_; (with_reducible refine (spec_l1Most.calls a0 (wrap64 (-a0)) t252 _ A2.out).mono ?_); rintro e w' ⟨rfl, ⟨nd, rfl⟩⟩; refine ⟨_, rfl, ?_⟩))
 go_ret
 exact ⟨w134_, w131_⟩


mutual
def spec_NearestIndexed.j0 : Nat → List (S100) → Int → Bool → Option (Int × Bool)
 | 0, _, _, _ => none
 | k + 1, x0, x1, x17 => if x17 = true then (some (0, false)) else (if 0 < (x0.length : Int) then ((spec_ixMarks.f k x0).bind fun t255 => (spec_NearestIndexed.l0 k x1 ((rd_T100 x0 0).f0) t255 (t255.length : Int) 0)) else (none))
def spec_NearestIndexed.l0 : Nat → Int → Int → List Bool → Int → Int → Option (Int × Bool)
 | 0, _, _, _, _, _ => none
 | k + 1, x1, x6, x23, x24, x25 => if x25 < x24 then (if 0 ≤ x25 then (if x25 < (x23.length : Int) then (if rdOf false x23 x25 = true then ((spec_l1Abs.f (wrap64 (x25 - x1))).bind fun t259 => ((spec_l1Abs.f (wrap64 (x6 - x1))).bind fun t260 => (if t259 < t260 then (spec_NearestIndexed.l0 k x1 x25 x23 x24 (wrap64 (x25 + 1))) else (spec_NearestIndexed.l0 k x1 x6 x23 x24 (wrap64 (x25 + 1)))))) else (spec_NearestIndexed.l0 k x1 x6 x23 x24 (wrap64 (x25 + 1)))) else (none)) else (none)) else (some (x6, true))
end
def spec_NearestIndexed.f (k : Nat) (l0 : List (S100)) (a1 : Int) : Option (Int × Bool) := (spec_ixPage.f k l0 a1).bind fun t253 => (if t253 = true then (spec_NearestIndexed.j0 k l0 a1 ((l0.length : Int) == 0)) else (spec_NearestIndexed.j0 k l0 a1 true))
set_option maxHeartbeats 8000000 in
set_option maxRecDepth 100000 in
theorem spec_NearestIndexed.calls (k : Nat) (A0 : Option Addr) (c0 : Nat) (l0 : List (S100)) (a1 : Int) (r1 : Int) (r2 : Bool) (w : World) (hr0 : Kd.C k100 w A0 l0.length l0) (hc0 : l0.length ≤ c0) (h : spec_NearestIndexed.f k l0 a1 = some (r1, r2)) :
  Calls Tryd.prog 73 #[.slice A0 l0.length c0, .int .i64 a1] w fun e w' => e = .returned (.tuple #[.int .i64 r1, .bool r2]) ∧ Below w.heap.size w w' := by
 have HR0 := Az_ hr0
 have HC0 := Az_ hc0
 clear hr0 hc0
 have HB := Az_ (Below.refl w.heap.size w)
 have H : ((spec_ixPage.f k l0 a1).bind fun t253 => (if t253 = true then (j0 k l0 a1 ((l0.length : Int) == 0)) else (j0 k l0 a1 true))) = some (r1, r2) := h
 clear h
 have HC3 := Az_ H
 clear H
 go_enter Tryd.func73, Tryd.ntmps73
 go_upto_region 1 with (fail)
 go_cut [17] (fun v17 wc => ∃ (kq : Nat) (x17_2 : Bool), v17 = .bool x17_2 ∧ Aside0 (j0 kq l0 a1 x17_2 = some (r1, r2)) ∧ Aside0 (kq ≤ k) ∧ Aside0 (Below w.heap.size w wc))
 case first =>
  have H := HC3.out
  clear HC3
  replace H := bqz_ H; obtain ⟨t253, A4, H⟩ := H
  replace H : (if t253 = true then (j0 k l0 a1 ((l0.length : Int) == 0)) else (j0 k l0 a1 true)) = some (r1, r2) := H
  by_cases c5 : t253 = true
  ·subst c5
   rw [if_pos rfl] at H
   have H' := Az_ H
   clear H
   go_wp2_with (((with_reducible refine gate_callee (f := 157) rfl ?_); refine goesL_ (some 11) rfl rfl Tryd.func157 (w162_) rfl #[.slice A0 l0.length c0, .int .i64 a1] rfl maz_ ?_; (with_reducible refine (spec_ixPage.calls k _ _ l0 a1 true _ ?side1 ?side2 A4.out).mono ?_); (case side1 => exact ucz_ ((Kd.C_below HR0.out HB.out))); (case side2 => exact HC0.out); rintro e w6 ⟨rfl, hb⟩; refine ⟨_, rfl, ?_⟩; replace HB := Az_ (btz_ (ubz_ HB.out) hb); (try clear hb)))
   go_meet
   case rel => exact ⟨_, (((l0.length : Int) == 0)), qaz_, H', ⟨w141_⟩, ⟨w160_⟩⟩
  replace c5 := Bool.eq_false_iff.mpr c5
  subst c5
  rw [if_neg nfz_] at H
  have H' := Az_ H
  clear H
  go_wp2_with (((with_reducible refine gate_callee (f := 157) rfl ?_); refine goesL_ (some 11) rfl rfl Tryd.func157 (w162_) rfl #[.slice A0 l0.length c0, .int .i64 a1] rfl maz_ ?_; (with_reducible refine (spec_ixPage.calls k _ _ l0 a1 false _ ?side1 ?side2 A4.out).mono ?_); (case side1 => exact ucz_ ((Kd.C_below HR0.out HB.out))); (case side2 => exact HC0.out); rintro e w7 ⟨rfl, hb⟩; refine ⟨_, rfl, ?_⟩; replace HB := Az_ (btz_ (ubz_ HB.out) hb); (try clear hb)))
  go_meet
  case rel => exact ⟨_, (true), qaz_, H', ⟨w141_⟩, ⟨w160_⟩⟩
 case rest =>
  clear HC3
  obtain ⟨kq, x17_2, rfl, HA, HJ2, HB⟩ := hcut
  cases kq with
  | zero => exact absurd HA.out (by simp [j0])
  | succ kj2 =>
   have H := HA.out
   clear HA
   simp only [j0] at H
   by_cases c8 : x17_2 = true
   ·subst c8
    rw [if_pos rfl] at H
    simp only [Option.some.injEq, Prod.mk.injEq] at H
    obtain ⟨rfl, rfl⟩ := H
    go_wp2
    go_ret2
    exact ⟨w116_, w160_⟩
   ·replace c8 := Bool.eq_false_iff.mpr c8
    subst c8
    rw [if_neg nfz_] at H
    by_cases c9 : 0 < (l0.length : Int)
    ·rw [if_pos c9] at H
     have c9b0 := decide_eq_true c9
     have c9b1 : decide (0 < l0.length) = true := decide_eq_true (by omega)
     clear c9
     replace H := bqz_ H; obtain ⟨t255, A10, H⟩ := H
     replace H : (spec_NearestIndexed.l0 kj2 a1 ((rd_T100 l0 0).f0) t255 (t255.length : Int) 0) = some (r1, r2) := H
     have H' := Az_ H
     clear H
     have p254 : 0 ≤ (0 : Int) := (by omega)
     have q254 : 0 < (l0.length : Int) := od_
     obtain ⟨ad254, e254, hx254_0, hx254_1⟩ := at_T100 HR0.out 0 p254 q254
     cases e254
     have qi254 : (0 < l0.length) = True := eq_true (by omega)
     (try rw [show ((0 : Int)).toNat = 0 from rfl] at hx254_0)
     (try rw [show 0 * 2 = 0 from rfl] at hx254_0)
     (try rw [Addr.add_zero'] at hx254_0)
     (try rw [show ((0 : Int)).toNat = 0 from rfl] at hx254_1)
     (try rw [show 0 * 2 = 0 from rfl] at hx254_1)
     (try rw [Addr.add_zero'] at hx254_1)
     replace hx254_0 := hbz_ HB.out hx254_0
     replace hx254_1 := hbz_ HB.out hx254_1
     replace p254 := eq_true p254
     replace q254 := eq_true q254
     go_wp2_with (((with_reducible refine gate_callee (f := 158) rfl ?_); refine goesL_ (some 23) rfl rfl Tryd.func158 (w162_) rfl #[.slice (some ad254) l0.length c0] rfl maz_ ?_; (with_reducible refine (spec_ixMarks.calls kj2 _ _ l0 t255 _ ?side1 ?side2 A10.out).mono ?_); (case side1 => exact ucz_ ((Kd.C_below HR0.out HB.out))); (case side2 => exact HC0.out); rintro e w11 ⟨v256, rfl, ho0, hb⟩; refine ⟨_, rfl, ?_⟩; have HO257 := Az_ (Kd.R_lower ho0 (below_size (ubz_ HB.out))); replace HB := Az_ (btz_ (ubz_ HB.out) hb); (try clear hb); (try clear ho0); obtain ⟨Ao12, co12, eo12⟩ := Kd.R_slice HO257.out; subst eo12))
     go_loopg [6, 25] kj2 (fun kq v6 v25 w' => ∃ (x6_2 : Int) (x25_2 : Int), v6 = .int .i64 x6_2 ∧ v25 = .int .i64 x25_2 ∧ Aside0 (spec_NearestIndexed.l0 kq a1 x6_2 t255 (t255.length : Int) x25_2 = some (r1, r2)) ∧ Aside0 (kq ≤ kj2) ∧ Aside0 (Kd.R Kd.bool 4 w' w.heap.size (fun _ => True) (.slice Ao12 t255.length co12) t255) ∧ Aside0 (Below w.heap.size w w'))
     case atStart => exact ⟨((rd_T100 l0 0).f0), (0), qaz_, qaz_, H', ⟨Nat.le_refl _⟩, ⟨by (with_reducible repeat (first | apply raz_ | apply rnz_ | apply rdz_)); exact HO257.out⟩, ⟨w160_⟩⟩
     case round =>
      clear H'
      clear c9b0 c9b1 hx254_0 hx254_1 p254 q254
      obtain ⟨x6_2, x25_2, rfl, rfl, HA, HK2, HO_23, HB⟩ := hrel
      cases gk with
      | zero => exact absurd HA.out (by simp [spec_NearestIndexed.l0])
      | succ k2 =>
       have H := HA.out
       clear HA
       simp only [spec_NearestIndexed.l0] at H
       by_cases c13 : x25_2 < (t255.length : Int); rotate_left
       ·rw [if_neg c13] at H
        have c13b0 := decide_eq_false c13
        clear c13
        simp only [Option.some.injEq, Prod.mk.injEq] at H
        obtain ⟨rfl, rfl⟩ := H
        go_wp2
        go_ret2
        exact ⟨w116_, w160_⟩
       rw [if_pos c13] at H
       have c13b0 := decide_eq_true c13
       clear c13
       by_cases c14 : 0 ≤ x25_2; rotate_left
       ·rw [if_neg c14] at H
        exact absurd H (by simp)
       rw [if_pos c14] at H
       have c14b0 := decide_eq_true c14
       clear c14
       by_cases c15 : x25_2 < (t255.length : Int); rotate_left
       ·rw [if_neg c15] at H
        exact absurd H (by simp)
       rw [if_pos c15] at H
       have c15b0 := decide_eq_true c15
       clear c15
       obtain ⟨bq16, hbq16⟩ : ∃ b_ : Bool, b_ = (rdOf false t255 x25_2) := ⟨_, rfl⟩
       replace H : (if bq16 = true then ((spec_l1Abs.f (wrap64 (x25_2 - a1))).bind fun t259 => ((spec_l1Abs.f (wrap64 (x6_2 - a1))).bind fun t260 => (if t259 < t260 then (spec_NearestIndexed.l0 k2 a1 x25_2 t255 (t255.length : Int) (wrap64 (x25_2 + 1))) else (spec_NearestIndexed.l0 k2 a1 x6_2 t255 (t255.length : Int) (wrap64 (x25_2 + 1)))))) else (spec_NearestIndexed.l0 k2 a1 x6_2 t255 (t255.length : Int) (wrap64 (x25_2 + 1)))) = some (r1, r2) := by rw [← hbq16] at H; exact H
       have Nbq16 := Az_ hbq16
       clear hbq16
       by_cases c17 : bq16 = true; rotate_left
       ·replace c17 := Bool.eq_false_iff.mpr c17
        subst c17
        rw [if_neg nfz_] at H
        have H' := Az_ H
        clear H
        have p258 : 0 ≤ (x25_2 : Int) := od_
        have q258 : x25_2 < (t255.length : Int) := od_
        obtain ⟨ad258, e258, hx258_0⟩ := Kd.at_bool (Kd.R_reads' HO_23.out).2.2 x25_2 p258 q258
        (try rw [← Nbq16.out] at hx258_0)
        cases e258
        replace p258 := eq_true p258
        replace q258 := eq_true q258
        go_wp2
        go_roundg k2
        case measure => have := HJ2.out; have := HK2.out; omega
        case rel => exact ⟨(x6_2), (wrap64 (x25_2 + 1)), qaz_, qaz_, H', ⟨w138_⟩, ⟨w119_⟩, ⟨w160_⟩⟩
       subst c17
       rw [if_pos rfl] at H
       replace H := bqz_ H; obtain ⟨t259, A18, H⟩ := H
       replace H := bqz_ H; obtain ⟨t260, A19, H⟩ := H
       replace H : (if t259 < t260 then (spec_NearestIndexed.l0 k2 a1 x25_2 t255 (t255.length : Int) (wrap64 (x25_2 + 1))) else (spec_NearestIndexed.l0 k2 a1 x6_2 t255 (t255.length : Int) (wrap64 (x25_2 + 1)))) = some (r1, r2) := H
       by_cases c20 : t259 < t260; rotate_left
       ·rw [if_neg c20] at H
        have c20b0 := decide_eq_false c20
        clear c20
        have H' := Az_ H
        clear H
        have p258 : 0 ≤ (x25_2 : Int) := od_
        have q258 : x25_2 < (t255.length : Int) := od_
        obtain ⟨ad258, e258, hx258_0⟩ := Kd.at_bool (Kd.R_reads' HO_23.out).2.2 x25_2 p258 q258
        (try rw [← Nbq16.out] at hx258_0)
        cases e258
        replace p258 := eq_true p258
        replace q258 := eq_true q258
        go_wp2_with (first | (go_at_call 160; (with_reducible refine (spec_l1Abs.calls (wrap64 (x25_2 - a1)) t259 _ A18.out).mono ?_); rintro e w' ⟨rfl, ⟨nd, rfl⟩⟩) | (go_at_call 160; (with_reducible refine (spec_l1Abs.calls (wrap64 (x6_2 - a1)) t260 _ A19.out).mono ?_); rintro e w' ⟨rfl, ⟨nd, rfl⟩⟩))
        go_roundg k2
        case measure => have := HJ2.out; have := HK2.out; omega
        case rel => exact ⟨(x6_2), (wrap64 (x25_2 + 1)), qaz_, qaz_, H', ⟨w138_⟩, ⟨w119_⟩, ⟨w160_⟩⟩
       rw [if_pos c20] at H
       have c20b0 := decide_eq_true c20
       clear c20
       have H' := Az_ H
       clear H
       have p258 : 0 ≤ (x25_2 : Int) := od_
       have q258 : x25_2 < (t255.length : Int) := od_
       obtain ⟨ad258, e258, hx258_0⟩ := Kd.at_bool (Kd.R_reads' HO_23.out).2.2 x25_2 p258 q258
       (try rw [← Nbq16.out] at hx258_0)
       cases e258
       replace p258 := eq_true p258
       replace q258 := eq_true q258
       go_wp2_with (first | (go_at_call 160; (with_reducible refine (spec_l1Abs.calls (wrap64 (x25_2 - a1)) t259 _ A18.out).mono ?_); rintro e w' ⟨rfl, ⟨nd, rfl⟩⟩) | (go_at_call 160; (with_reducible refine (spec_l1Abs.calls (wrap64 (x6_2 - a1)) t260 _ A19.out).mono ?_); rintro e w' ⟨rfl, ⟨nd, rfl⟩⟩))
       go_roundg k2
       case measure => have := HJ2.out; have := HK2.out; omega
       case rel => exact ⟨(x25_2), (wrap64 (x25_2 + 1)), qaz_, qaz_, H', ⟨w138_⟩, ⟨w119_⟩, ⟨w160_⟩⟩
    ·rw [if_neg c9] at H
     exact absurd H (by simp)

def spec_HasIndexed.f (k : Nat) (l0 : List (S100)) (a1 : Int) : Option (Bool × Bool) := (spec_ixPage.f k l0 a1).bind fun t261 => (if t261 = true then ((spec_ixMarks.f k l0).bind fun t262 => (if 0 ≤ a1 then (if a1 < (t262.length : Int) then (some (rdOf false t262 a1, true)) else (none)) else (none))) else (some (false, false)))
set_option maxHeartbeats 8000000 in
set_option maxRecDepth 100000 in
theorem spec_HasIndexed.calls (k : Nat) (A0 : Option Addr) (c0 : Nat) (l0 : List (S100)) (a1 : Int) (r1 : Bool) (r2 : Bool) (w : World) (hr0 : Kd.C k100 w A0 l0.length l0) (hc0 : l0.length ≤ c0) (h : spec_HasIndexed.f k l0 a1 = some (r1, r2)) :
  Calls Tryd.prog 75 #[.slice A0 l0.length c0, .int .i64 a1] w fun e w' => e = .returned (.tuple #[.bool r1, .bool r2]) ∧ Below w.heap.size w w' := by
 have HR0 := Az_ hr0
 have HC0 := Az_ hc0
 clear hr0 hc0
 have HB := Az_ (Below.refl w.heap.size w)
 have H : ((spec_ixPage.f k l0 a1).bind fun t261 => (if t261 = true then ((spec_ixMarks.f k l0).bind fun t262 => (if 0 ≤ a1 then (if a1 < (t262.length : Int) then (some (rdOf false t262 a1, true)) else (none)) else (none))) else (some (false, false)))) = some (r1, r2) := h
 clear h
 replace H := bqz_ H; obtain ⟨t261, A3, H⟩ := H
 replace H : (if t261 = true then ((spec_ixMarks.f k l0).bind fun t262 => (if 0 ≤ a1 then (if a1 < (t262.length : Int) then (some (rdOf false t262 a1, true)) else (none)) else (none))) else (some (false, false))) = some (r1, r2) := H
 by_cases c4 : t261 = true
 ·subst c4
  rw [if_pos rfl] at H
  replace H := bqz_ H; obtain ⟨t262, A5, H⟩ := H
  replace H : (if 0 ≤ a1 then (if a1 < (t262.length : Int) then (some (rdOf false t262 a1, true)) else (none)) else (none)) = some (r1, r2) := H
  by_cases c6 : 0 ≤ a1; rotate_left
  ·rw [if_neg c6] at H
   exact absurd H (by simp)
  rw [if_pos c6] at H
  have c6b0 := decide_eq_true c6
  clear c6
  by_cases c7 : a1 < (t262.length : Int); rotate_left
  ·rw [if_neg c7] at H
   exact absurd H (by simp)
  rw [if_pos c7] at H
  have c7b0 := decide_eq_true c7
  clear c7
  simp only [Option.some.injEq, Prod.mk.injEq] at H
  obtain ⟨rfl, rfl⟩ := H
  go_enter Tryd.func75, Tryd.ntmps75
  go_wp2_with (first | ((with_reducible refine gate_callee (f := 157) rfl ?_); refine goesL_ (some 8) rfl rfl Tryd.func157 (w162_) rfl #[.slice A0 l0.length c0, .int .i64 a1] rfl maz_ ?_; (with_reducible refine (spec_ixPage.calls k _ _ l0 a1 true _ ?side1 ?side2 A3.out).mono ?_); (case side1 => exact ucz_ (HR0.out)); (case side2 => exact HC0.out); rintro e w8 ⟨rfl, hb⟩; refine ⟨_, rfl, ?_⟩; replace HB := Az_ (btz_ (ubz_ HB.out) hb); (try clear hb)) | ((with_reducible refine gate_callee (f := 158) rfl ?_); refine goesL_ (some 11) rfl rfl Tryd.func158 (w162_) rfl #[.slice A0 l0.length c0] rfl maz_ ?_; (with_reducible refine (spec_ixMarks.calls k _ _ l0 t262 _ ?side1 ?side2 A5.out).mono ?_); (case side1 => exact ucz_ ((Kd.C_below HR0.out HB.out))); (case side2 => exact HC0.out); rintro e w9 ⟨v263, rfl, ho0, hb⟩; refine ⟨_, rfl, ?_⟩; have HO264 := Az_ (Kd.R_lower ho0 (below_size (ubz_ HB.out))); replace HB := Az_ (btz_ (ubz_ HB.out) hb); (try clear hb); (try clear ho0); obtain ⟨Ao10, co10, eo10⟩ := Kd.R_slice HO264.out; subst eo10; have p265 : 0 ≤ (a1 : Int) := od_; have q265 : a1 < (t262.length : Int) := od_; obtain ⟨ad265, e265, hx265_0⟩ := Kd.at_bool (Kd.R_reads' HO264.out).2.2 a1 p265 q265; cases e265; replace p265 := eq_true p265; replace q265 := eq_true q265))
  go_ret2
  exact ⟨w116_, w160_⟩
 ·replace c4 := Bool.eq_false_iff.mpr c4
  subst c4
  rw [if_neg nfz_] at H
  simp only [Option.some.injEq, Prod.mk.injEq] at H
  obtain ⟨rfl, rfl⟩ := H
  go_enter Tryd.func75, Tryd.ntmps75
  go_wp2_with (((with_reducible refine gate_callee (f := 157) rfl ?_); refine goesL_ (some 8) rfl rfl Tryd.func157 (w162_) rfl #[.slice A0 l0.length c0, .int .i64 a1] rfl maz_ ?_; (with_reducible refine (spec_ixPage.calls k _ _ l0 a1 false _ ?side1 ?side2 A3.out).mono ?_); (case side1 => exact ucz_ (HR0.out)); (case side2 => exact HC0.out); rintro e w11 ⟨rfl, hb⟩; refine ⟨_, rfl, ?_⟩; replace HB := Az_ (btz_ (ubz_ HB.out) hb); (try clear hb)))
  go_ret2
  exact ⟨w116_, w160_⟩


attribute [local go_sem high] eqA100
def laws_fRanges.l0 : Nat → List (S100) → List (S100) → Int → Int → Option (Bool)
 | 0, _, _, _, _ => none
 | k + 1, x0, x1, x12, x13 => if x13 < x12 then (if 0 ≤ x13 then (if x13 < (x0.length : Int) then (if x13 < (x1.length : Int) then (if (!(((rd_T100 x0 x13).f0) == ((rd_T100 x1 x13).f0)) || (!(((rd_T100 x0 x13).f1) == ((rd_T100 x1 x13).f1)))) = true then (some false) else (laws_fRanges.l0 k x0 x1 x12 (wrap64 (x13 + 1)))) else (none)) else (none)) else (none)) else (some true)
def laws_fRanges.f (k : Nat) (l0 : List (S100)) (l1 : List (S100)) : Option (Bool) := if (l0.length : Int) = (l1.length : Int) then (laws_fRanges.l0 k l0 l1 (l0.length : Int) 0) else (some false)
set_option maxHeartbeats 8000000 in
set_option maxRecDepth 100000 in
theorem laws_fRanges.calls (k : Nat) (A0 : Option Addr) (c0 : Nat) (l0 : List (S100)) (A1 : Option Addr) (c1 : Nat) (l1 : List (S100)) (r : Bool) (w : World) (hr0 : Kd.C k100 w A0 l0.length l0) (hc0 : l0.length ≤ c0) (hr1 : Kd.C k100 w A1 l1.length l1) (hc1 : l1.length ≤ c1) (h : laws_fRanges.f k l0 l1 = some r) :
  Calls Tryd.prog 76 #[.slice A0 l0.length c0, .slice A1 l1.length c1] w fun e w' => e = .returned (.bool r) ∧ Drawn0 w w' := by
 have hu100 := Tryd.underlying100
 have HR0 := Az_ hr0
 have HC0 := Az_ hc0
 clear hr0 hc0
 have HR1 := Az_ hr1
 have HC1 := Az_ hc1
 clear hr1 hc1
 have H : (if (l0.length : Int) = (l1.length : Int) then (laws_fRanges.l0 k l0 l1 (l0.length : Int) 0) else (some false)) = some r := h
 clear h
 by_cases c3 : (l0.length : Int) = (l1.length : Int)
 ·rw [if_pos c3] at H
  have c3b0 : ((l0.length : Int) == (l1.length : Int)) = true := beq_iff_eq.mpr c3
  have c3b1 : ((l0.length : Int) != (l1.length : Int)) = false := bne_eq_false_iff_eq.mpr c3
  have c3b2 : (l0.length == l1.length) = true := by first | simpa using c3 | (simp at c3 ⊢; omega)
  clear c3
  have H' := Az_ H
  clear H
  go_enter Tryd.func76, Tryd.ntmps76
  go_wp2
  go_loopg [13] k (fun kq v13 w' => ∃ (x13_1 : Int), v13 = .int .i64 x13_1 ∧ Aside0 (laws_fRanges.l0 kq l0 l1 (l0.length : Int) x13_1 = some r) ∧ Aside0 (kq ≤ k) ∧ Drawn0 w w')
  case atStart => exact ⟨(0), qaz_, H', ⟨Nat.le_refl _⟩, w131_⟩
  case round =>
   clear H'
   clear c3b0 c3b1 c3b2
   obtain ⟨x13_1, rfl, HA, HK1, ⟨m1, rfl⟩⟩ := hrel
   cases gk with
   | zero => exact absurd HA.out (by simp [laws_fRanges.l0])
   | succ k1 =>
    have H := HA.out
    clear HA
    simp only [laws_fRanges.l0] at H
    by_cases c4 : x13_1 < (l0.length : Int); rotate_left
    ·rw [if_neg c4] at H
     have c4b0 := decide_eq_false c4
     clear c4
     obtain rfl := Option.some.inj H
     go_wp2
     go_ret
     exact ⟨w134_, w131_⟩
    rw [if_pos c4] at H
    have c4b0 := decide_eq_true c4
    clear c4
    by_cases c5 : 0 ≤ x13_1; rotate_left
    ·rw [if_neg c5] at H
     exact absurd H (by simp)
    rw [if_pos c5] at H
    have c5b0 := decide_eq_true c5
    clear c5
    by_cases c6 : x13_1 < (l0.length : Int); rotate_left
    ·rw [if_neg c6] at H
     exact absurd H (by simp)
    rw [if_pos c6] at H
    have c6b0 := decide_eq_true c6
    clear c6
    by_cases c7 : x13_1 < (l1.length : Int); rotate_left
    ·rw [if_neg c7] at H
     exact absurd H (by simp)
    rw [if_pos c7] at H
    have c7b0 := decide_eq_true c7
    clear c7
    by_cases c8 : (!(((rd_T100 l0 x13_1).f0) == ((rd_T100 l1 x13_1).f0)) || (!(((rd_T100 l0 x13_1).f1) == ((rd_T100 l1 x13_1).f1)))) = true
    ·rw [if_pos c8] at H
     have c8b0 : (!(((rd_T100 l0 x13_1).f0) == ((rd_T100 l1 x13_1).f0)) || (!(((rd_T100 l0 x13_1).f1) == ((rd_T100 l1 x13_1).f1)))) = true := c8
     clear c8
     obtain rfl := Option.some.inj H
     have p266 : 0 ≤ (x13_1 : Int) := od_
     have q266 : x13_1 < (l0.length : Int) := od_
     obtain ⟨ad266, e266, hx266_0, hx266_1⟩ := at_T100 HR0.out x13_1 p266 q266
     cases e266
     replace p266 := eq_true p266
     replace q266 := eq_true q266
     have p267 : 0 ≤ (x13_1 : Int) := od_
     have q267 : x13_1 < (l1.length : Int) := od_
     obtain ⟨ad267, e267, hx267_0, hx267_1⟩ := at_T100 HR1.out x13_1 p267 q267
     cases e267
     replace p267 := eq_true p267
     replace q267 := eq_true q267
     go_wp2
     repeat (go_quiet (fail); try go_wp2)
     go_ret
     exact ⟨w134_, w131_⟩
    rw [if_neg c8] at H
    have c8b0 : (!(((rd_T100 l0 x13_1).f0) == ((rd_T100 l1 x13_1).f0)) || (!(((rd_T100 l0 x13_1).f1) == ((rd_T100 l1 x13_1).f1)))) = false := by simpa using c8
    clear c8
    have H' := Az_ H
    clear H
    have p266 : 0 ≤ (x13_1 : Int) := od_
    have q266 : x13_1 < (l0.length : Int) := od_
    obtain ⟨ad266, e266, hx266_0, hx266_1⟩ := at_T100 HR0.out x13_1 p266 q266
    cases e266
    replace p266 := eq_true p266
    replace q266 := eq_true q266
    have p267 : 0 ≤ (x13_1 : Int) := od_
    have q267 : x13_1 < (l1.length : Int) := od_
    obtain ⟨ad267, e267, hx267_0, hx267_1⟩ := at_T100 HR1.out x13_1 p267 q267
    cases e267
    replace p267 := eq_true p267
    replace q267 := eq_true q267
    go_wp2
    repeat (go_quiet (fail); try go_wp2)
    go_roundg k1
    case measure => have := HK1.out; omega
    case rel => exact ⟨(wrap64 (x13_1 + 1)), qaz_, H', ⟨w144_⟩, w131_⟩
 ·rw [if_neg c3] at H
  have c3b0 : ((l0.length : Int) == (l1.length : Int)) = false := beq_eq_false_iff_ne.mpr c3
  have c3b1 : ((l0.length : Int) != (l1.length : Int)) = true := bne_iff_ne.mpr c3
  have c3b2 : (l0.length == l1.length) = false := by first | simpa using c3 | (simp at c3 ⊢; omega)
  obtain rfl := Option.some.inj H
  go_enter Tryd.func76, Tryd.ntmps76
  go_wp2
  go_ret
  exact ⟨w134_, w131_⟩

def impl_CountIndexed.l0 : Nat → Int → List (S100) → Int → Int → Option (Int × Bool)
 | 0, _, _, _, _ => none
 | k + 1, x4, x10, x11, x12 => if x12 < x11 then (if 0 ≤ x12 then (if x12 < (x10.length : Int) then (impl_CountIndexed.l0 k (wrap64 (x4 + (wrap64 ((wrap64 (((rd_T100 x10 x12).f1) - ((rd_T100 x10 x12).f0))) + 1)))) x10 x11 (wrap64 (x12 + 1))) else (none)) else (none)) else (some (x4, true))
def impl_CountIndexed.f (k : Nat) (l0 : List (S100)) : Option (Int × Bool) := (impl_AreRanges.f k l0).bind fun t268 => (if t268 = true then (impl_CountIndexed.l0 k 0 l0 (l0.length : Int) 0) else (some (0, false)))
set_option maxHeartbeats 8000000 in
set_option maxRecDepth 100000 in
theorem impl_CountIndexed.calls (k : Nat) (A0 : Option Addr) (c0 : Nat) (l0 : List (S100)) (r1 : Int) (r2 : Bool) (w : World) (hr0 : Kd.C k100 w A0 l0.length l0) (hc0 : l0.length ≤ c0) (h : impl_CountIndexed.f k l0 = some (r1, r2)) :
  Calls Tryd.prog 77 #[.slice A0 l0.length c0] w fun e w' => e = .returned (.tuple #[.int .i64 r1, .bool r2]) ∧ Below w.heap.size w w' := by
 have hu100 := Tryd.underlying100
 have HR0 := Az_ hr0
 have HC0 := Az_ hc0
 clear hr0 hc0
 have HB := Az_ (Below.refl w.heap.size w)
 have H : ((impl_AreRanges.f k l0).bind fun t268 => (if t268 = true then (impl_CountIndexed.l0 k 0 l0 (l0.length : Int) 0) else (some (0, false)))) = some (r1, r2) := h
 clear h
 replace H := bqz_ H; obtain ⟨t268, A2, H⟩ := H
 replace H : (if t268 = true then (impl_CountIndexed.l0 k 0 l0 (l0.length : Int) 0) else (some (0, false))) = some (r1, r2) := H
 by_cases c3 : t268 = true
 ·subst c3
  rw [if_pos rfl] at H
  have H' := Az_ H
  clear H
  go_enter Tryd.func77, Tryd.ntmps77
  go_wp2_with (((with_reducible refine gate_callee (f := 91) rfl ?_); refine goesL_ (some 8) rfl rfl Tryd.func91 (w162_) rfl #[.slice A0 l0.length c0] rfl maz_ ?_; (with_reducible refine (impl_AreRanges.calls k _ _ l0 true _ ?side1 ?side2 A2.out).mono ?_); (case side1 => exact ucz_ (HR0.out)); (case side2 => exact HC0.out); rintro e w4 ⟨rfl, hb⟩; refine ⟨_, rfl, ?_⟩; replace HB := Az_ (btz_ (ubz_ HB.out) hb); (try clear hb)))
  go_loopg [4, 12] k (fun kq v4 v12 w' => ∃ (x4_1 : Int) (x12_1 : Int), v4 = .int .i64 x4_1 ∧ v12 = .int .i64 x12_1 ∧ Aside0 (impl_CountIndexed.l0 kq x4_1 l0 (l0.length : Int) x12_1 = some (r1, r2)) ∧ Aside0 (kq ≤ k) ∧ Aside0 (Below w.heap.size w w'))
  case atStart => exact ⟨(0), (0), qaz_, qaz_, H', ⟨Nat.le_refl _⟩, ⟨w160_⟩⟩
  case round =>
   clear H'
   obtain ⟨x4_1, x12_1, rfl, rfl, HA, HK1, HB⟩ := hrel
   cases gk with
   | zero => exact absurd HA.out (by simp [impl_CountIndexed.l0])
   | succ k1 =>
    have H := HA.out
    clear HA
    simp only [impl_CountIndexed.l0] at H
    by_cases c5 : x12_1 < (l0.length : Int); rotate_left
    ·rw [if_neg c5] at H
     have c5b0 := decide_eq_false c5
     clear c5
     simp only [Option.some.injEq, Prod.mk.injEq] at H
     obtain ⟨rfl, rfl⟩ := H
     go_wp2
     go_ret2
     exact ⟨w116_, w160_⟩
    rw [if_pos c5] at H
    have c5b0 := decide_eq_true c5
    clear c5
    by_cases c6 : 0 ≤ x12_1; rotate_left
    ·rw [if_neg c6] at H
     exact absurd H (by simp)
    rw [if_pos c6] at H
    have c6b0 := decide_eq_true c6
    clear c6
    by_cases c7 : x12_1 < (l0.length : Int); rotate_left
    ·rw [if_neg c7] at H
     exact absurd H (by simp)
    rw [if_pos c7] at H
    have c7b0 := decide_eq_true c7
    clear c7
    have H' := Az_ H
    clear H
    have p269 : 0 ≤ (x12_1 : Int) := od_
    have q269 : x12_1 < (l0.length : Int) := od_
    obtain ⟨ad269, e269, hx269_0, hx269_1⟩ := at_T100 HR0.out x12_1 p269 q269
    cases e269
    replace hx269_0 := hbz_ HB.out hx269_0
    replace hx269_1 := hbz_ HB.out hx269_1
    replace p269 := eq_true p269
    replace q269 := eq_true q269
    go_wp2_with (((with_reducible refine gate_dst (N := 6) rfl ?_); refine box_event ?hg (N := 6) ?hd (cs := #[.int .i64 0, .int .i64 0]) (t := 100) ?hr ?_; (case hd => rfl); (case hg => rfl); (case hr => first | (go_simp; done) | (go_simp; rfl)); intro gb270 hg w8 hbox hb; have BK270 := Az_ (hbox); have GW270 := Az_ ((by rw [hg]; exact (below_size (ubz_ HB.out)) : w.heap.size ≤ gb270)); have GE270 := Az_ ((by rw [hg]; exact (below_size (ubz_ HB.out)) : w.heap.size ≤ gb270)); replace HB := Az_ (btz_ (ubz_ HB.out) hb); clear hb hbox hg; have hcz9_0 : w8.cell? ⟨gb270, 0, none⟩ = some (.int .i64 0) := (blk_cell BK270.out 0).trans rfl; have hcz9_1 : w8.cell? ⟨gb270, 1, none⟩ = some (.int .i64 0) := (blk_cell BK270.out 1).trans rfl; have hfz9_0 := blk_frozen BK270.out 0; have hfz9_1 := blk_frozen BK270.out 1))
    go_roundg k1
    case measure => have := HK1.out; omega
    case rel => exact ⟨(wrap64 (x4_1 + (wrap64 ((wrap64 (((rd_T100 l0 x12_1).f1) - ((rd_T100 l0 x12_1).f0))) + 1)))), (wrap64 (x12_1 + 1)), qaz_, qaz_, H', ⟨w144_⟩, ⟨w79_⟩⟩
 ·replace c3 := Bool.eq_false_iff.mpr c3
  subst c3
  rw [if_neg nfz_] at H
  simp only [Option.some.injEq, Prod.mk.injEq] at H
  obtain ⟨rfl, rfl⟩ := H
  go_enter Tryd.func77, Tryd.ntmps77
  go_wp2_with (((with_reducible refine gate_callee (f := 91) rfl ?_); refine goesL_ (some 8) rfl rfl Tryd.func91 (w162_) rfl #[.slice A0 l0.length c0] rfl maz_ ?_; (with_reducible refine (impl_AreRanges.calls k _ _ l0 false _ ?side1 ?side2 A2.out).mono ?_); (case side1 => exact ucz_ (HR0.out)); (case side2 => exact HC0.out); rintro e w10 ⟨rfl, hb⟩; refine ⟨_, rfl, ?_⟩; replace HB := Az_ (btz_ (ubz_ HB.out) hb); (try clear hb)))
  go_ret2
  exact ⟨w116_, w160_⟩

def spec_DrawJoinGaps.f (k : Nat) (l0 : List Int) : Option ((List (S100)) × Int) := (spec_l1Cur_ranges.f k l0 0 0).bind fun bt272 => ((spec_l1Cur_among.f l0 bt272.2.1 bt272.2.2 (([0, 1, 2, 3, 5, 2000, 2001, (-1)] : List Int))).bind fun bt280 => (some (bt272.1, bt280.1)))
set_option maxHeartbeats 8000000 in
set_option maxRecDepth 100000 in
theorem spec_DrawJoinGaps.calls (k : Nat) (A0 : Option Addr) (c0 : Nat) (l0 : List Int) (r1 : List (S100)) (r2 : Int) (w : World) (hr0 : Kd.C (Kd.int .u8) w A0 l0.length l0) (hc0 : l0.length ≤ c0) (h : spec_DrawJoinGaps.f k l0 = some (r1, r2)) :
  Calls Tryd.prog 78 #[.slice A0 l0.length c0] w fun e w' => ∃ v0_ : Value, e = .returned (.tuple #[v0_, .int .i64 r2]) ∧ Kd.R k100 100 w' w.heap.size (fun _ => True) v0_ r1 ∧ Below w.heap.size w w' := by
 have hu111 := Tryd.underlying111
 have HR0 := Az_ hr0
 have HC0 := Az_ hc0
 clear hr0 hc0
 have HB := Az_ (Below.refl w.heap.size w)
 have H : ((spec_l1Cur_ranges.f k l0 0 0).bind fun bt272 => ((spec_l1Cur_among.f l0 bt272.2.1 bt272.2.2 (([0, 1, 2, 3, 5, 2000, 2001, (-1)] : List Int))).bind fun bt280 => (some (bt272.1, bt280.1)))) = some (r1, r2) := h
 clear h
 replace H := bqz_ H; obtain ⟨⟨t272, t275, t276⟩, A2, H⟩ := H
 replace H : ((spec_l1Cur_among.f l0 t275 t276 (([0, 1, 2, 3, 5, 2000, 2001, (-1)] : List Int))).bind fun bt280 => (some (t272, bt280.1))) = some (r1, r2) := H
 obtain ⟨y277, hy277⟩ : ∃ y_ : List Int, y_ = (([0, 1, 2, 3, 5, 2000, 2001, (-1)] : List Int)) := ⟨_, rfl⟩
 replace H : ((spec_l1Cur_among.f l0 t275 t276 y277).bind fun bt280 => (some (t272, bt280.1))) = some (r1, r2) := by first | (rw [hy277]; with_reducible exact H) | (have H2_ := (Option.bind_some _ _).symm.trans H; rw [hy277]; with_reducible exact H2_) | (have H2_ := (Option.bind_some _ _).symm.trans H; with_reducible exact H2_) | with_reducible exact H | (rw [hy277]; exact H) | exact H
 have Ny277 := Az_ hy277
 clear hy277
 replace H := bqz_ H; obtain ⟨⟨t280, t281, t282⟩, A3, H⟩ := H
 replace H : (some (t272, t280)) = some (r1, r2) := H
 simp only [Option.some.injEq, Prod.mk.injEq] at H
 obtain ⟨rfl, rfl⟩ := H
 go_enter Tryd.func78, Tryd.ntmps78
 go_wp2_with (first | ((with_reducible refine gate_dst (N := 8) rfl ?_); refine box_event ?hg (N := 8) ?hd (cs := #[.slice A0 l0.length c0, .int .i64 0, .int .u64 0]) (t := 111) ?hr ?_; (case hd => rfl); (case hg => rfl); (case hr => first | (go_simp; done) | (go_simp; rfl)); intro gb271 hg w4 hbox hb; have BK271 := Az_ (hbox); have GW271 := Az_ ((by rw [hg]; exact (below_size (ubz_ HB.out)) : w.heap.size ≤ gb271)); have GE271 := Az_ ((by rw [hg]; exact (below_size (ubz_ HB.out)) : w.heap.size ≤ gb271)); replace HB := Az_ (btz_ (ubz_ HB.out) hb); clear hb hbox hg) | ((with_reducible refine gate_callee (f := 152) rfl ?_); refine goesL_ (some 10) rfl rfl Tryd.func152 (w162_) rfl #[.pointer (some ⟨gb271, 0, none⟩)] rfl maz_ ?_; have HI271 := Az_ (show IsS111 w w4 gb271 l0 0 0 from ⟨_, _, BK271.out, GE271.out, HR0.out⟩); (with_reducible refine (spec_l1Cur_ranges.calls k gb271 l0 0 0 t272 t275 t276 w _ ?side1 ?side2 A2.out).mono ?_); (case side1 => repeat (first | (with_reducible first | exact HI271.out | apply IsS111.alloc | apply IsS111.drewN | apply IsS111.drew | apply IsS111.set_1 | apply IsS111.set_2) | exact HI271.out)); (case side2 => repeat (first | (with_reducible first | exact HB.out | apply baz_ | apply bnz_ | apply bdz_ | refine bsz_ ?_ (IsS111.ge HI271.out)) | exact HB.out)); rintro e w5 ⟨v273, rfl, ho0, hi, hb, hk⟩; refine ⟨_, rfl, ?_⟩; have HO274 := Az_ (Kd.R_lower ho0 (below_size (w72_))); replace HB := Az_ (hb); replace HI271 := Az_ (hi); (try clear hb); (try clear hk); (try clear hi); (try clear ho0)) | ((with_reducible refine gate_dst (N := 13) rfl ?_); refine Kd.R_lit (Kd.int .i64) _ 3 ?hg (N := 13) ?hd (xs := ([0, 1, 2, 3, 5, 2000, 2001, (-1)] : List Int)) (inner := [.int .i64 0, .int .i64 1, .int .i64 2, .int .i64 3, .int .i64 5, .int .i64 2000, .int .i64 2001, .int .i64 (-1)]) (ok := fun _ => True) (okp := fun _ => True) ?hr ?hp (fun _ hk => hk) trivial (Below.refl _ _) (Nat.le_refl _) (by simp) ?_; (case hd => rfl); (case hg => rfl); (case hr => first | (go_simp; done) | (go_simp; rfl)); (case hp => exact (Reps.one (show Kd.M (Kd.int .i64) _ _ _ 0 [.int .i64 0] from rfl) (Reps.one (show Kd.M (Kd.int .i64) _ _ _ 1 [.int .i64 1] from rfl) (Reps.one (show Kd.M (Kd.int .i64) _ _ _ 2 [.int .i64 2] from rfl) (Reps.one (show Kd.M (Kd.int .i64) _ _ _ 3 [.int .i64 3] from rfl) (Reps.one (show Kd.M (Kd.int .i64) _ _ _ 5 [.int .i64 5] from rfl) (Reps.one (show Kd.M (Kd.int .i64) _ _ _ 2000 [.int .i64 2000] from rfl) (Reps.one (show Kd.M (Kd.int .i64) _ _ _ 2001 [.int .i64 2001] from rfl) (Reps.one (show Kd.M (Kd.int .i64) _ _ _ (-1) [.int .i64 (-1)] from rfl) (Reps.none _ _)))))))))); intro v278 w6 ho7 hb hg_ hnew_; clear hg_ hnew_; (first | rw [← Ny277.out] at ho7 | (simp only [Int.reduceToNat] at ho7; rw [← Ny277.out] at ho7)); replace HO274 := Az_ (Kd.R_below (by exact urz_ HO274.out) hb); have HO279 := Az_ (Kd.R_lower ho7 (below_size (w72_))); replace HB := Az_ (btz_ (w72_) hb); replace HI271 := Az_ (IsS111.below (w57_) hb); clear hb ho7; obtain ⟨Ao8, co8, eo8⟩ := Kd.R_slice HO279.out; subst eo8) | ((with_reducible refine gate_callee (f := 94) rfl ?_); refine goesL_ (some 14) rfl rfl Tryd.func94 (w162_) rfl #[.pointer (some ⟨gb271, 0, none⟩), .slice Ao8 y277.length co8] rfl maz_ ?_; (with_reducible refine (spec_l1Cur_among.calls gb271 l0 t275 t276 _ _ y277 t280 t281 t282 w _ ?side1 ?side2 ?side3 ?side4 ?side5 A3.out).mono ?_); (case side1 => repeat (first | (with_reducible first | exact HI271.out | apply IsS111.alloc | apply IsS111.drewN | apply IsS111.drew | apply IsS111.set_1 | apply IsS111.set_2) | exact HI271.out)); (case side2 => repeat (first | (with_reducible first | exact HB.out | apply baz_ | apply bnz_ | apply bdz_ | refine bsz_ ?_ (IsS111.ge HI271.out)) | exact HB.out)); (case side3 => exact ucz_ ((Kd.R_reads' HO279.out).2.2)); (case side4 => exact (Kd.R_reads' HO279.out).2.1); (case side5 => exact far_slice (IsS111.own_ne HI271.out HO279.out (by decide))); rintro e w9 ⟨rfl, hi, hb, hk⟩; refine ⟨_, rfl, ?_⟩; replace HO274 := Az_ (Kd.R_mono (Kd.R_keep (IsS111.apart (show IsS111 w _ gb271 l0 t275 t276 from w57_) (by exact urz_ HO274.out) (by decide)) hk (fun _ h => h.2)) (fun _ h => h.1)); replace HO279 := Az_ (Kd.R_mono (Kd.R_keep (IsS111.apart (show IsS111 w _ gb271 l0 t275 t276 from w57_) (by exact urz_ HO279.out) (by decide)) hk (fun _ h => h.2)) (fun _ h => h.1)); replace HB := Az_ (hb); replace HI271 := Az_ (hi); (try clear hb); (try clear hk); (try clear hi)))
 go_ret2
 exact ⟨_, w116_, by (with_reducible repeat (first | apply raz_ | apply rnz_ | apply rdz_)); exact HO274.out, w72_⟩


mutual
def impl_JoinGaps.j0 : Nat → List (S100) → Int → Bool → Option ((List (S100)) × Bool)
 | 0, _, _, _ => none
 | k + 1, x0, x1, x17 => if x17 = true then (some (([] : List (S100)), false)) else (impl_JoinGaps.l0 k x1 (([] : List (S100))) x0 (x0.length : Int) 0)
def impl_JoinGaps.l0 : Nat → Int → List (S100) → List (S100) → Int → Int → Option ((List (S100)) × Bool)
 | 0, _, _, _, _, _ => none
 | k + 1, x1, x6, x19, x20, x21 => if x21 < x20 then (if 0 ≤ x21 then (if x21 < (x19.length : Int) then (if (x6.length : Int) > 0 then (if 0 ≤ (wrap64 ((x6.length : Int) - 1)) then (if (wrap64 ((x6.length : Int) - 1)) < (x6.length : Int) then (if (wrap64 ((wrap64 (((rd_T100 x19 x21).f0) - ((rd_T100 x6 (wrap64 ((x6.length : Int) - 1))).f1))) - 1)) ≤ x1 then (impl_JoinGaps.l0 k x1 (x6.set ((wrap64 ((x6.length : Int) - 1)) : Int).toNat (⟨(rd_T100 x6 (wrap64 ((x6.length : Int) - 1))).f0, (rd_T100 x19 x21).f1⟩ : S100)) x19 x20 (wrap64 (x21 + 1))) else (if x6.length < 8796093022208 then (impl_JoinGaps.l0 k x1 (x6 ++ [(⟨(rd_T100 x19 x21).f0, (rd_T100 x19 x21).f1⟩ : S100)]) x19 x20 (wrap64 (x21 + 1))) else (none))) else (none)) else (none)) else (if x6.length < 8796093022208 then (impl_JoinGaps.l0 k x1 (x6 ++ [(⟨(rd_T100 x19 x21).f0, (rd_T100 x19 x21).f1⟩ : S100)]) x19 x20 (wrap64 (x21 + 1))) else (none))) else (none)) else (none)) else (some (x6, true))
end
def impl_JoinGaps.f (k : Nat) (l0 : List (S100)) (a1 : Int) : Option ((List (S100)) × Bool) := (impl_AreRanges.f k l0).bind fun t283 => (if t283 = true then ((impl_within.f a1 0 2000).bind fun t284 => (impl_JoinGaps.j0 k l0 a1 (!t284))) else (impl_JoinGaps.j0 k l0 a1 true))
set_option maxHeartbeats 8000000 in
set_option maxRecDepth 100000 in
theorem impl_JoinGaps.calls (k : Nat) (A0 : Option Addr) (c0 : Nat) (l0 : List (S100)) (a1 : Int) (r1 : List (S100)) (r2 : Bool) (w : World) (hr0 : Kd.C k100 w A0 l0.length l0) (hc0 : l0.length ≤ c0) (h : impl_JoinGaps.f k l0 a1 = some (r1, r2)) :
  Calls Tryd.prog 79 #[.slice A0 l0.length c0, .int .i64 a1] w fun e w' => ∃ v0_ : Value, e = .returned (.tuple #[v0_, .bool r2]) ∧ Kd.R k100 100 w' w.heap.size (fun _ => True) v0_ r1 ∧ Below w.heap.size w w' := by
 have hu100 := Tryd.underlying100
 have HR0 := Az_ hr0
 have HC0 := Az_ hc0
 clear hr0 hc0
 have HB := Az_ (Below.refl w.heap.size w)
 have H : ((impl_AreRanges.f k l0).bind fun t283 => (if t283 = true then ((impl_within.f a1 0 2000).bind fun t284 => (j0 k l0 a1 (!t284))) else (j0 k l0 a1 true))) = some (r1, r2) := h
 clear h
 have HC3 := Az_ H
 clear H
 go_enter Tryd.func79, Tryd.ntmps79
 go_upto_region 1 with (fail)
 go_cut [17] (fun v17 wc => ∃ (kq : Nat) (x17_2 : Bool), v17 = .bool x17_2 ∧ Aside0 (j0 kq l0 a1 x17_2 = some (r1, r2)) ∧ Aside0 (kq ≤ k) ∧ Aside0 (Below w.heap.size w wc))
 case first =>
  have H := HC3.out
  clear HC3
  replace H := bqz_ H; obtain ⟨t283, A4, H⟩ := H
  replace H : (if t283 = true then ((impl_within.f a1 0 2000).bind fun t284 => (j0 k l0 a1 (!t284))) else (j0 k l0 a1 true)) = some (r1, r2) := H
  by_cases c5 : t283 = true; rotate_left
  ·replace c5 := Bool.eq_false_iff.mpr c5
   subst c5
   rw [if_neg nfz_] at H
   have H' := Az_ H
   clear H
   go_wp2_with ((go_at_call 91; (with_reducible refine (impl_AreRanges.calls k _ _ l0 false _ ?side1 ?side2 A4.out).mono ?_); (case side1 => exact ucz_ ((Kd.C_below HR0.out HB.out))); (case side2 => exact HC0.out); rintro e w8 ⟨rfl, hb⟩; replace HB := Az_ (btz_ (ubz_ HB.out) hb); (try clear hb)))
   go_meet
   case rel => exact ⟨_, (true), qaz_, H', ⟨w141_⟩, ⟨w160_⟩⟩
  subst c5
  rw [if_pos rfl] at H
  replace H := bqz_ H; obtain ⟨t284, A6, H⟩ := H
  replace H : (j0 k l0 a1 (!t284)) = some (r1, r2) := H
  have H' := Az_ H
  clear H
  go_wp2_with (first | (go_at_call 91; (with_reducible refine (impl_AreRanges.calls k _ _ l0 true _ ?side1 ?side2 A4.out).mono ?_); (case side1 => exact ucz_ ((Kd.C_below HR0.out HB.out))); (case side2 => exact HC0.out); rintro e w7 ⟨rfl, hb⟩; replace HB := Az_ (btz_ (ubz_ HB.out) hb); (try clear hb)) | (go_at_call 97; (with_reducible refine (impl_within.calls a1 0 2000 t284 _ A6.out).mono ?_); rintro e w' ⟨rfl, ⟨nd, rfl⟩⟩; (try first | exact ⟨rfl, _, World.drewN_drewN _ _ _⟩ | exact ⟨rfl, _, Eq.trans (World.drewN_drewN _ _ _) (congrArg (World.drewN _) (Nat.add_assoc _ _ _))⟩)))
  go_meet
  case rel => exact ⟨_, (!t284), qaz_, H', ⟨w141_⟩, ⟨w160_⟩⟩
 case rest =>
  clear HC3
  obtain ⟨kq, x17_2, rfl, HA, HJ2, HB⟩ := hcut
  cases kq with
  | zero => exact absurd HA.out (by simp [j0])
  | succ kj2 =>
   have H := HA.out
   clear HA
   simp only [j0] at H
   by_cases c9 : x17_2 = true
   ·subst c9
    rw [if_pos rfl] at H
    simp only [Option.some.injEq, Prod.mk.injEq] at H
    obtain ⟨rfl, rfl⟩ := H
    go_wp2
    go_ret2
    exact ⟨_, w116_, w80_, w160_⟩
   ·replace c9 := Bool.eq_false_iff.mpr c9
    subst c9
    rw [if_neg nfz_] at H
    obtain ⟨y285, hy285⟩ : ∃ y_ : List (S100), y_ = (([] : List (S100))) := ⟨_, rfl⟩
    replace H : (impl_JoinGaps.l0 kj2 a1 y285 l0 (l0.length : Int) 0) = some (r1, r2) := by first | (rw [hy285]; with_reducible exact H) | (have H2_ := (Option.bind_some _ _).symm.trans H; rw [hy285]; with_reducible exact H2_) | (have H2_ := (Option.bind_some _ _).symm.trans H; with_reducible exact H2_) | with_reducible exact H | (rw [hy285]; exact H) | exact H
    have Ny285 := Az_ hy285
    clear hy285
    have H' := Az_ H
    clear H
    go_wp2_with (((with_reducible refine gate_dst (N := 18) rfl ?_); refine Kd.R_lit k100 _ 100 ?hg (N := 18) ?hd (xs := ([] : List (S100))) (inner := []) (ok := fun _ => True) (okp := fun _ => True) ?hr ?hp (fun _ hk => hk) trivial (Below.refl _ _) (Nat.le_refl _) (by simp) ?_; (case hd => rfl); (case hg => rfl); (case hr => first | (go_simp; done) | (go_simp; rfl)); (case hp => exact (Reps.none _ _)); intro v286 w10 ho11 hb hg_ hnew_; clear hg_ hnew_; (first | rw [← Ny285.out] at ho11 | (simp only [Int.reduceToNat] at ho11; rw [← Ny285.out] at ho11)); have HO287 := Az_ (Kd.R_lower ho11 (below_size (ubz_ HB.out))); replace HB := Az_ (btz_ (ubz_ HB.out) hb); clear hb ho11))
    go_loopg [6, 21] kj2 (fun kq v6 v21 w' => ∃ (x6_2 : List (S100)) (x21_2 : Int), v21 = .int .i64 x21_2 ∧ Aside0 (impl_JoinGaps.l0 kq a1 x6_2 l0 (l0.length : Int) x21_2 = some (r1, r2)) ∧ Aside0 (kq ≤ kj2) ∧ Aside0 (Kd.R k100 100 w' w.heap.size (fun _ => True) v6 x6_2) ∧ Aside0 (Below w.heap.size w w'))
    case atStart => exact ⟨(y285), (0), qaz_, H', ⟨Nat.le_refl _⟩, ⟨by (with_reducible repeat (first | apply raz_ | apply rnz_ | apply rdz_)); exact HO287.out⟩, ⟨w160_⟩⟩
    case round =>
     clear H'
     obtain ⟨x6_2, x21_2, rfl, HA, HK2, HO_6, HB⟩ := hrel
     cases gk with
     | zero => exact absurd HA.out (by simp [impl_JoinGaps.l0])
     | succ k2 =>
      have H := HA.out
      clear HA
      simp only [impl_JoinGaps.l0] at H
      by_cases c12 : x21_2 < (l0.length : Int)
      ·rw [if_pos c12] at H
       have c12b0 := decide_eq_true c12
       clear c12
       by_cases c13 : 0 ≤ x21_2; rotate_left
       ·rw [if_neg c13] at H
        exact absurd H (by simp)
       rw [if_pos c13] at H
       have c13b0 := decide_eq_true c13
       clear c13
       by_cases c14 : x21_2 < (l0.length : Int); rotate_left
       ·rw [if_neg c14] at H
        exact absurd H (by simp)
       rw [if_pos c14] at H
       have c14b0 := decide_eq_true c14
       clear c14
       by_cases c15 : (x6_2.length : Int) > 0; rotate_left
       ·rw [if_neg c15] at H
        have c15b0 := decide_eq_false c15
        have c15b1 : decide (0 < x6_2.length) = false := decide_eq_false (by omega)
        clear c15
        by_cases c33 : x6_2.length < 8796093022208; rotate_left
        ·rw [if_neg c33] at H
         exact absurd H (by simp)
        rw [if_pos c33] at H
        have LMc33 := Az_ c33
        clear c33
        obtain ⟨y295, hy295⟩ : ∃ y_ : List (S100), y_ = (x6_2 ++ [(⟨(rd_T100 l0 x21_2).f0, (rd_T100 l0 x21_2).f1⟩ : S100)]) := ⟨_, rfl⟩
        replace H : (impl_JoinGaps.l0 k2 a1 y295 l0 (l0.length : Int) (wrap64 (x21_2 + 1))) = some (r1, r2) := by first | (rw [hy295]; with_reducible exact H) | (have H2_ := (Option.bind_some _ _).symm.trans H; rw [hy295]; with_reducible exact H2_) | (have H2_ := (Option.bind_some _ _).symm.trans H; with_reducible exact H2_) | with_reducible exact H | (rw [hy295]; exact H) | exact H
        have Ny295 := Az_ hy295
        clear hy295
        have H' := Az_ H
        clear H
        have p288 : 0 ≤ (x21_2 : Int) := od_
        have q288 : x21_2 < (l0.length : Int) := od_
        obtain ⟨ad288, e288, hx288_0, hx288_1⟩ := at_T100 HR0.out x21_2 p288 q288
        cases e288
        replace hx288_0 := hbz_ HB.out hx288_0
        replace hx288_1 := hbz_ HB.out hx288_1
        replace p288 := eq_true p288
        replace q288 := eq_true q288
        go_wp2_with (((with_reducible refine gate_dst (N := 8) rfl ?_); refine box_event ?hg (N := 8) ?hd (cs := #[.int .i64 0, .int .i64 0]) (t := 100) ?hr ?_; (case hd => rfl); (case hg => rfl); (case hr => first | (go_simp; done) | (go_simp; rfl)); intro gb289 hg w34 hbox hb; replace HO_6 := Az_ (Kd.R_below (Kd.R_elderB (w158_) gb289 (Nat.le_of_eq hg.symm)) hb); have BK289 := Az_ (hbox); have GW289 := Az_ ((by rw [hg]; exact (below_size (ubz_ HB.out)) : w.heap.size ≤ gb289)); have GE289 := Az_ ((by rw [hg]; exact (below_size (ubz_ HB.out)) : w.heap.size ≤ gb289)); replace HB := Az_ (btz_ (ubz_ HB.out) hb); clear hb hbox hg; have hcz35_0 : w34.cell? ⟨gb289, 0, none⟩ = some (.int .i64 0) := (blk_cell BK289.out 0).trans rfl; have hcz35_1 : w34.cell? ⟨gb289, 1, none⟩ = some (.int .i64 0) := (blk_cell BK289.out 1).trans rfl; have hfz35_0 := blk_frozen BK289.out 0; have hfz35_1 := blk_frozen BK289.out 1; obtain ⟨Ao36, co36, eo36⟩ := Kd.R_slice HO_6.out; subst eo36))
        repeat (go_quiet (fail); try go_wp2_with (((with_reducible refine gate_builtin (b := .append) (xs := #[.tmp 50, .tmp 52]) rfl ?_); at_builtin; refine Kd.R_append k100 (w0 := w) w.heap.size rfl (.tmp 50) (.tmp 52) 86 100 (.agg #[(.int .i64 0), (.int .i64 0)]) 16 rfl Tryd.underlying86 info100 rfl (by decide) (by omega) (.slice Ao36 x6_2.length co36) x6_2 (⟨(rd_T100 l0 x21_2).f0, (rd_T100 l0 x21_2).f1⟩ : S100) [.int .i64 ((rd_T100 l0 x21_2).f0), .int .i64 ((rd_T100 l0 x21_2).f1)] (fun k_ => k_ ≠ gb289) (fun _ => False) rfl (w135_) ?aP (fun _ hk => hk.elim) ?aF ?aO ?aB ?aS ?aL ?_; (case aP => exact k100_mkM _ _ _ (⟨(rd_T100 l0 x21_2).f0, (rd_T100 l0 x21_2).f1⟩ : S100)); (case aB => exact (w79_)); (case aF => exact (fun k_ hk => Kd.freshB (g := gb289) (o := .cells #[.int .i64 ((rd_T100 l0 x21_2).f0), .int .i64 ((rd_T100 l0 x21_2).f1)] 100 (0, 0)) (w15_) k_ hk)); (case aO => exact (w23_)); (case aS => exact (below_size (w79_))); (case aL => have := LMc33.out; omega); intro v296 w37 ho hb hg hat; rw [← Ny295.out] at ho; replace BK289 := Az_ (blk_grown (g := gb289) (o := .cells #[.int .i64 ((rd_T100 l0 x21_2).f0), .int .i64 ((rd_T100 l0 x21_2).f1)] 100 (0, 0)) (w15_) hg (Kd.R_away HO_6.out (fun _ hk => hk.2))); replace HB := Az_ (hb); have HO297 := Az_ (ho); clear HO_6; clear ho hb hg hat)))
        go_roundg k2
        case measure => have := HJ2.out; have := HK2.out; omega
        case rel => exact ⟨(y295), (wrap64 (x21_2 + 1)), qaz_, H', ⟨w138_⟩, ⟨by (with_reducible repeat (first | apply raz_ | apply rnz_ | apply rdz_)); exact Kd.R_mono HO297.out (fun _ hk => trivial)⟩, ⟨w79_⟩⟩
       rw [if_pos c15] at H
       have c15b0 := decide_eq_true c15
       have c15b1 : decide (0 < x6_2.length) = true := decide_eq_true (by omega)
       clear c15
       obtain ⟨ji16, hji16⟩ : ∃ j_ : Int, (wrap64 ((x6_2.length : Int) - 1)) = j_ := ⟨_, rfl⟩
       replace H : (if 0 ≤ (ji16) then (if (ji16) < (x6_2.length : Int) then (if (wrap64 ((wrap64 (((rd_T100 l0 x21_2).f0) - ((rd_T100 x6_2 (ji16)).f1))) - 1)) ≤ a1 then (impl_JoinGaps.l0 k2 a1 (x6_2.set ((ji16) : Int).toNat (⟨(rd_T100 x6_2 (ji16)).f0, (rd_T100 l0 x21_2).f1⟩ : S100)) l0 (l0.length : Int) (wrap64 (x21_2 + 1))) else (if x6_2.length < 8796093022208 then (impl_JoinGaps.l0 k2 a1 (x6_2 ++ [(⟨(rd_T100 l0 x21_2).f0, (rd_T100 l0 x21_2).f1⟩ : S100)]) l0 (l0.length : Int) (wrap64 (x21_2 + 1))) else (none))) else (none)) else (none)) = some (r1, r2) := by first | (rw [hji16] at H; exact H) | (simp only [hji16] at H ⊢; exact H)
       have hji16w : (IntKind.i64.wrap ((x6_2.length : Int) - 1)) = ji16 := (i64_w _).trans hji16
       by_cases c17 : 0 ≤ (ji16); rotate_left
       ·rw [if_neg c17] at H
        exact absurd H (by simp)
       rw [if_pos c17] at H
       have c17b0 := decide_eq_true c17
       clear c17
       by_cases c18 : (ji16) < (x6_2.length : Int); rotate_left
       ·rw [if_neg c18] at H
        exact absurd H (by simp)
       rw [if_pos c18] at H
       have c18b0 := decide_eq_true c18
       clear c18
       by_cases c19 : (wrap64 ((wrap64 (((rd_T100 l0 x21_2).f0) - ((rd_T100 x6_2 (ji16)).f1))) - 1)) ≤ a1
       ·rw [if_pos c19] at H
        have c19b0 := decide_eq_true c19
        clear c19
        obtain ⟨y291, hy291⟩ : ∃ y_ : List (S100), y_ = (x6_2.set ((ji16) : Int).toNat (⟨(rd_T100 x6_2 (ji16)).f0, (rd_T100 l0 x21_2).f1⟩ : S100)) := ⟨_, rfl⟩
        replace H : (impl_JoinGaps.l0 k2 a1 y291 l0 (l0.length : Int) (wrap64 (x21_2 + 1))) = some (r1, r2) := by first | (rw [hy291]; with_reducible exact H) | (have H2_ := (Option.bind_some _ _).symm.trans H; rw [hy291]; with_reducible exact H2_) | (have H2_ := (Option.bind_some _ _).symm.trans H; with_reducible exact H2_) | with_reducible exact H | (rw [hy291]; exact H) | exact H
        have Ny291 := Az_ hy291
        clear hy291
        have H' := Az_ H
        clear H
        have p288 : 0 ≤ (x21_2 : Int) := od_
        have q288 : x21_2 < (l0.length : Int) := od_
        obtain ⟨ad288, e288, hx288_0, hx288_1⟩ := at_T100 HR0.out x21_2 p288 q288
        cases e288
        replace hx288_0 := hbz_ HB.out hx288_0
        replace hx288_1 := hbz_ HB.out hx288_1
        replace p288 := eq_true p288
        replace q288 := eq_true q288
        go_wp2_with (first | ((with_reducible refine gate_dst (N := 8) rfl ?_); refine box_event ?hg (N := 8) ?hd (cs := #[.int .i64 0, .int .i64 0]) (t := 100) ?hr ?_; (case hd => rfl); (case hg => rfl); (case hr => first | (go_simp; done) | (go_simp; rfl)); intro gb289 hg w21 hbox hb; replace HO_6 := Az_ (Kd.R_below (Kd.R_elderB (w158_) gb289 (Nat.le_of_eq hg.symm)) hb); have BK289 := Az_ (hbox); have GW289 := Az_ ((by rw [hg]; exact (below_size (ubz_ HB.out)) : w.heap.size ≤ gb289)); have GE289 := Az_ ((by rw [hg]; exact (below_size (ubz_ HB.out)) : w.heap.size ≤ gb289)); replace HB := Az_ (btz_ (ubz_ HB.out) hb); clear hb hbox hg; have hcz22_0 : w21.cell? ⟨gb289, 0, none⟩ = some (.int .i64 0) := (blk_cell BK289.out 0).trans rfl; have hcz22_1 : w21.cell? ⟨gb289, 1, none⟩ = some (.int .i64 0) := (blk_cell BK289.out 1).trans rfl; have hfz22_0 := blk_frozen BK289.out 0; have hfz22_1 := blk_frozen BK289.out 1) | ((with_reducible refine gate_store (t := 100) (p := 8) rfl ?_); (try (rw [drewN_self w21]; generalize hq_ : World.drewN w21 _ = w21; have n0_ := Az_ (Kd.R_at hq_ HO_6.out); have n1_ := Az_ (blk_at hq_ BK289.out); have n2_ := Az_ (below_at hq_ HB.out); clear hq_ HO_6 BK289 HB; have HO_6 := n0_; have BK289 := n1_; have HB := n2_; clear n0_ n1_ n2_)); refine store_event (t := 100) (p := 8) (v := ?vo_w23) (w1 := ((w21.setCell ⟨gb289, 0, none⟩ (.int .i64 ((rd_T100 l0 x21_2).f0))).setCell ⟨gb289, 1, none⟩ (.int .i64 ((rd_T100 l0 x21_2).f1)))) ?hg ?ho ?hn ?hr ?_; (case ho => rfl); (case hg => rfl); (case hn => rfl); (case hr => first | (go_simp; done) | (go_simp; rfl)); intro w23 hw; have n0_ : Aside0 (Kd.R k100 100 w23 w.heap.size (fun k_ => k_ ≠ gb289) u6 x6_2) := ⟨(by rw [hw]; exact (w23_))⟩; have n1_ : Aside0 (w23.heap[gb289]? = some (.cells #[.int .i64 ((rd_T100 l0 x21_2).f0), .int .i64 ((rd_T100 l0 x21_2).f1)] 100 (0, 0))) := ⟨(by rw [hw]; exact (w15_))⟩; have n2_ : Aside0 (Below w.heap.size w w23) := ⟨(w65_)⟩; clear hw; clear HO_6; clear BK289; clear HB; have HO_6 := n0_; have BK289 := n1_; have HB := n2_; clear n0_ n1_ n2_; obtain ⟨Ao24, co24, eo24⟩ := Kd.R_slice HO_6.out; subst eo24; have hcz25_0 : w23.cell? ⟨gb289, 0, none⟩ = some (.int .i64 ((rd_T100 l0 x21_2).f0)) := (blk_cell BK289.out 0).trans rfl; have hcz25_1 : w23.cell? ⟨gb289, 1, none⟩ = some (.int .i64 ((rd_T100 l0 x21_2).f1)) := (blk_cell BK289.out 1).trans rfl; have hfz25_0 := blk_frozen BK289.out 0; have hfz25_1 := blk_frozen BK289.out 1; have p290 : 0 ≤ ((ji16) : Int) := od_; have q290 : (ji16) < (x6_2.length : Int) := od_; obtain ⟨ad290, e290, hx290_0, hx290_1⟩ := at_T100 (Kd.R_reads' HO_6.out).2.2 (ji16) p290 q290; cases e290; replace p290 := eq_true p290; replace q290 := eq_true q290; have p20 : 0 ≤ ((ji16) : Int) := od_; have q20 : ((ji16) : Int) < ((x6_2.length : Int) : Int) := od_; obtain ⟨go20, co20, eo20, gb20, gl20, cl20, HG20⟩ := Kd.R_form HO_6.out (by omega); (first | cases eo20 | (injection eo20 with ea_ en_ ec_; (first | subst ea_ | (injection ea_ with ea_; subst ea_)); subst ec_; clear en_)); have GB20 := Az_ gb20; have GG20 := Az_ HG20; clear gb20 gl20 HG20; (first | simp only [add_plain] at hx290_0 | skip); (first | simp only [add_plain] at hx290_1 | skip); obtain ⟨ce20, hcl20, hM20, hcc20, hfr20⟩ := Kd.R_elem HO_6.out z100 ((ji16) : Int) p20 q20; obtain rfl := k100_openM hM20; have hx20_0 : w23.cell? ⟨go20, ((ji16) : Int).toNat * 2, none⟩ = some (.int .i64 ((rd_T100 x6_2 (ji16)).f0)) := hcc20 0 _ rfl; have hx20_1 : w23.cell? ⟨go20, ((ji16) : Int).toNat * 2 + 1, none⟩ = some (.int .i64 ((rd_T100 x6_2 (ji16)).f1)) := hcc20 1 _ rfl; have hf20_0 : w23.frozen? ⟨go20, ((ji16) : Int).toNat * 2, none⟩ = false := hfr20 0; have hf20_1 : w23.frozen? ⟨go20, ((ji16) : Int).toNat * 2 + 1, none⟩ = false := hfr20 1; (try clear hM20); clear hcl20 hcc20 hfr20; replace p20 := eq_true p20; replace q20 := eq_true q20; have HX26 := Az_ (show Kd.R k100 100 w23 w.heap.size (fun k_ => k_ ≠ gb289) (.slice (some ⟨go20, 0, none⟩) x6_2.length co24) x6_2 from (w158_)); obtain ⟨ce26, hcl26, hM26, hcc26, hfr26⟩ := Kd.R_elem HX26.out z100 ((ji16) : Int) (od_) (by have h_ : ((ji16) : Int) < ((x6_2.length : Int) : Int) := od_; first | exact h_ | (have e_ := (Kd.R_reads' HO_6.out).1; omega) | simpa using h_); obtain rfl := k100_openM hM26; have HP26 := Kd.R_seg HX26.out ((ji16) : Int) (od_) (by have h_ : ((ji16) : Int) < ((x6_2.length : Int) : Int) := od_; first | exact h_ | (have e_ := (Kd.R_reads' HO_6.out).1; omega) | simpa using h_) (seg := [.int .i64 ((rd_T100 l0 x21_2).f1)]) (j := 1) hcl26 hcc26 (show 2 ≤ 2 from by decide) (x' := (⟨(rd_T100 x6_2 (ji16)).f0, (rd_T100 l0 x21_2).f1⟩ : S100)) (k100_mkM _ _ _ (⟨(rd_T100 x6_2 (ji16)).f0, (rd_T100 l0 x21_2).f1⟩ : S100) ) (fun _ hk => hk); have hx26_1 := hcc26 1 _ rfl; (try simp only [show (k100).sz = 2 from rfl, Nat.mul_one, Nat.add_zero] at hx26_1); have hf26_1 := hfr26 1; (try simp only [show (k100).sz = 2 from rfl, Nat.mul_one, Nat.add_zero] at hf26_1); clear hcl26 hcc26 hfr26 hM26))
        repeat (go_quiet (fail); try go_wp2_with (((with_reducible refine gate_store (t := 3) (p := 49) rfl ?_); (try (rw [drewN_self w23]; generalize hq_ : World.drewN w23 _ = w23; have n0_ := Az_ (Kd.R_at hq_ HO_6.out); have n1_ := Az_ (blk_at hq_ BK289.out); have n2_ := Az_ (below_at hq_ HB.out); clear hq_ HO_6 BK289 HB; have HO_6 := n0_; have BK289 := n1_; have HB := n2_; clear n0_ n1_ n2_; (try (have HX26 := Az_ (show Kd.R k100 100 w23 w.heap.size (fun k_ => k_ ≠ gb289) (.slice (some ⟨go20, 0, none⟩) x6_2.length co24) x6_2 from (w158_)))); (try (obtain ⟨ce26, hcl26, hM26, hcc26, hfr26⟩ := Kd.R_elem HX26.out z100 ((ji16) : Int) (od_) (by have h_ : ((ji16) : Int) < ((x6_2.length : Int) : Int) := od_; first | exact h_ | (have e_ := (Kd.R_reads' HO_6.out).1; omega) | simpa using h_))); (try (obtain rfl := k100_openM hM26)); (try (have HP26 := Kd.R_seg HX26.out ((ji16) : Int) (od_) (by have h_ : ((ji16) : Int) < ((x6_2.length : Int) : Int) := od_; first | exact h_ | (have e_ := (Kd.R_reads' HO_6.out).1; omega) | simpa using h_) (seg := [.int .i64 ((rd_T100 l0 x21_2).f1)]) (j := 1) hcl26 hcc26 (show 2 ≤ 2 from by decide) (x' := (⟨(rd_T100 x6_2 (ji16)).f0, (rd_T100 l0 x21_2).f1⟩ : S100)) (k100_mkM _ _ _ (⟨(rd_T100 x6_2 (ji16)).f0, (rd_T100 l0 x21_2).f1⟩ : S100) ) (fun _ hk => hk))); (try (have hx26_1 := hcc26 1 _ rfl)); (try (try simp only [show (k100).sz = 2 from rfl, Nat.mul_one, Nat.add_zero] at hx26_1)); (try (have hf26_1 := hfr26 1)); (try (try simp only [show (k100).sz = 2 from rfl, Nat.mul_one, Nat.add_zero] at hf26_1)); (try (clear hcl26 hcc26 hfr26 hM26)))); refine store_event (t := 3) (p := 49) (v := ?vo_w27) (w1 := (w23.setCell ⟨go20, ((ji16) : Int).toNat * 2 + 1, none⟩ (.int .i64 ((rd_T100 l0 x21_2).f1)))) ?hg ?ho ?hn ?hr ?_; (case ho => rfl); (case hg => rfl); (case hn => rfl); (case hr => first | (go_simp; done) | (go_simp; rfl)); intro w27 hw; have hg : w23.grownBy w27 (some go20) := (by rw [hw]; exact HP26.2); have hp_ : Kd.R k100 100 w27 w.heap.size (fun k_ => k_ ≠ gb289) (.slice (some ⟨go20, 0, none⟩) x6_2.length co24) y291 := (by rw [hw, Ny291.out]; exact HP26.1); clear HP26; replace BK289 := Az_ (blk_grown (g := gb289) (o := .cells #[.int .i64 ((rd_T100 l0 x21_2).f0), .int .i64 ((rd_T100 l0 x21_2).f1)] 100 (0, 0)) (by exact ukz_ BK289.out) hg (Kd.R_away HO_6.out (fun _ hk => hk))); replace HO_6 := Az_ (hp_); replace HB := Az_ ((by rw [hw]; exact bsz_ (HB.out) GB20.out : Below w.heap.size w w27)); clear hg hw hp_)))
        go_roundg k2
        case measure => have := HJ2.out; have := HK2.out; omega
        case rel => exact ⟨(y291), (wrap64 (x21_2 + 1)), qaz_, H', ⟨w138_⟩, ⟨by (with_reducible repeat (first | apply raz_ | apply rnz_ | apply rdz_)); exact Kd.R_mono HO_6.out (fun _ hk => trivial)⟩, ⟨w79_⟩⟩
       rw [if_neg c19] at H
       have c19b0 := decide_eq_false c19
       clear c19
       by_cases c28 : x6_2.length < 8796093022208; rotate_left
       ·rw [if_neg c28] at H
        exact absurd H (by simp)
       rw [if_pos c28] at H
       have LMc28 := Az_ c28
       clear c28
       obtain ⟨y292, hy292⟩ : ∃ y_ : List (S100), y_ = (x6_2 ++ [(⟨(rd_T100 l0 x21_2).f0, (rd_T100 l0 x21_2).f1⟩ : S100)]) := ⟨_, rfl⟩
       replace H : (impl_JoinGaps.l0 k2 a1 y292 l0 (l0.length : Int) (wrap64 (x21_2 + 1))) = some (r1, r2) := by first | (rw [hy292]; with_reducible exact H) | (have H2_ := (Option.bind_some _ _).symm.trans H; rw [hy292]; with_reducible exact H2_) | (have H2_ := (Option.bind_some _ _).symm.trans H; with_reducible exact H2_) | with_reducible exact H | (rw [hy292]; exact H) | exact H
       have Ny292 := Az_ hy292
       clear hy292
       have H' := Az_ H
       clear H
       have p288 : 0 ≤ (x21_2 : Int) := od_
       have q288 : x21_2 < (l0.length : Int) := od_
       obtain ⟨ad288, e288, hx288_0, hx288_1⟩ := at_T100 HR0.out x21_2 p288 q288
       cases e288
       replace hx288_0 := hbz_ HB.out hx288_0
       replace hx288_1 := hbz_ HB.out hx288_1
       replace p288 := eq_true p288
       replace q288 := eq_true q288
       go_wp2_with (((with_reducible refine gate_dst (N := 8) rfl ?_); refine box_event ?hg (N := 8) ?hd (cs := #[.int .i64 0, .int .i64 0]) (t := 100) ?hr ?_; (case hd => rfl); (case hg => rfl); (case hr => first | (go_simp; done) | (go_simp; rfl)); intro gb289 hg w29 hbox hb; replace HO_6 := Az_ (Kd.R_below (Kd.R_elderB (w158_) gb289 (Nat.le_of_eq hg.symm)) hb); have BK289 := Az_ (hbox); have GW289 := Az_ ((by rw [hg]; exact (below_size (ubz_ HB.out)) : w.heap.size ≤ gb289)); have GE289 := Az_ ((by rw [hg]; exact (below_size (ubz_ HB.out)) : w.heap.size ≤ gb289)); replace HB := Az_ (btz_ (ubz_ HB.out) hb); clear hb hbox hg; have hcz30_0 : w29.cell? ⟨gb289, 0, none⟩ = some (.int .i64 0) := (blk_cell BK289.out 0).trans rfl; have hcz30_1 : w29.cell? ⟨gb289, 1, none⟩ = some (.int .i64 0) := (blk_cell BK289.out 1).trans rfl; have hfz30_0 := blk_frozen BK289.out 0; have hfz30_1 := blk_frozen BK289.out 1; obtain ⟨Ao31, co31, eo31⟩ := Kd.R_slice HO_6.out; subst eo31; have p290 : 0 ≤ ((ji16) : Int) := od_; have q290 : (ji16) < (x6_2.length : Int) := od_; obtain ⟨ad290, e290, hx290_0, hx290_1⟩ := at_T100 (Kd.R_reads' HO_6.out).2.2 (ji16) p290 q290; cases e290; have hn290_0 : ad290.block ≠ gb289 := (w92_); have hn290_1 : ad290.block ≠ gb289 := (w92_); replace hx290_0 := (cell_far (p := ⟨gb289, 0, none⟩) (w94_) (.int .i64 ((rd_T100 l0 x21_2).f0))).trans hx290_0; replace hx290_1 := (cell_far (p := ⟨gb289, 0, none⟩) (w94_) (.int .i64 ((rd_T100 l0 x21_2).f0))).trans hx290_1; replace hx290_0 := (cell_far (p := ⟨gb289, 1, none⟩) (w95_) (.int .i64 ((rd_T100 l0 x21_2).f1))).trans hx290_0; replace hx290_1 := (cell_far (p := ⟨gb289, 1, none⟩) (w95_) (.int .i64 ((rd_T100 l0 x21_2).f1))).trans hx290_1; (try have hy290_0 := fun (n_ : Nat) => (show ((((w29.drewN n_).setCell ⟨gb289, 0, none⟩ (.int .i64 ((rd_T100 l0 x21_2).f0))).setCell ⟨gb289, 1, none⟩ (.int .i64 ((rd_T100 l0 x21_2).f1)))).cell? _ = some _ from hx290_0)); (try have hy290_1 := fun (n_ : Nat) => (show ((((w29.drewN n_).setCell ⟨gb289, 0, none⟩ (.int .i64 ((rd_T100 l0 x21_2).f0))).setCell ⟨gb289, 1, none⟩ (.int .i64 ((rd_T100 l0 x21_2).f1)))).cell? _ = some _ from hx290_1)); clear hn290_0; clear hn290_1; replace p290 := eq_true p290; replace q290 := eq_true q290))
       repeat (go_quiet (fail); try go_wp2_with (((with_reducible refine gate_builtin (b := .append) (xs := #[.tmp 50, .tmp 52]) rfl ?_); at_builtin; refine Kd.R_append k100 (w0 := w) w.heap.size rfl (.tmp 50) (.tmp 52) 86 100 (.agg #[(.int .i64 0), (.int .i64 0)]) 16 rfl Tryd.underlying86 info100 rfl (by decide) (by omega) (.slice (some ad290) x6_2.length co31) x6_2 (⟨(rd_T100 l0 x21_2).f0, (rd_T100 l0 x21_2).f1⟩ : S100) [.int .i64 ((rd_T100 l0 x21_2).f0), .int .i64 ((rd_T100 l0 x21_2).f1)] (fun k_ => k_ ≠ gb289) (fun _ => False) rfl (w135_) ?aP (fun _ hk => hk.elim) ?aF ?aO ?aB ?aS ?aL ?_; (case aP => exact k100_mkM _ _ _ (⟨(rd_T100 l0 x21_2).f0, (rd_T100 l0 x21_2).f1⟩ : S100)); (case aB => exact (w79_)); (case aF => exact (fun k_ hk => Kd.freshB (g := gb289) (o := .cells #[.int .i64 ((rd_T100 l0 x21_2).f0), .int .i64 ((rd_T100 l0 x21_2).f1)] 100 (0, 0)) (w15_) k_ hk)); (case aO => exact (w23_)); (case aS => exact (below_size (w79_))); (case aL => have := LMc28.out; omega); intro v293 w32 ho hb hg hat; rw [← Ny292.out] at ho; replace BK289 := Az_ (blk_grown (g := gb289) (o := .cells #[.int .i64 ((rd_T100 l0 x21_2).f0), .int .i64 ((rd_T100 l0 x21_2).f1)] 100 (0, 0)) (w15_) hg (Kd.R_away HO_6.out (fun _ hk => hk.2))); replace HB := Az_ (hb); have HO294 := Az_ (ho); clear HO_6; clear ho hb hg hat)))
       go_roundg k2
       case measure => have := HJ2.out; have := HK2.out; omega
       case rel => exact ⟨(y292), (wrap64 (x21_2 + 1)), qaz_, H', ⟨w138_⟩, ⟨by (with_reducible repeat (first | apply raz_ | apply rnz_ | apply rdz_)); exact Kd.R_mono HO294.out (fun _ hk => trivial)⟩, ⟨w79_⟩⟩
      ·rw [if_neg c12] at H
       have c12b0 := decide_eq_false c12
       clear c12
       simp only [Option.some.injEq, Prod.mk.injEq] at H
       obtain ⟨rfl, rfl⟩ := H
       go_wp2
       go_ret2
       exact ⟨_, w116_, by (with_reducible repeat (first | apply raz_ | apply rnz_ | apply rdz_)); exact HO_6.out, w160_⟩

end Go.Proofs.YtppbpefehpbejaaDoor.P
end
