/- Lean functions with the answers of the program's Go functions, and for each the proof that the Go code comes to these answers; no condition. -/
import Derived.Test.YtppbpefehpbejaaDoorZim21
import Derived.Test.YtppbpefehpbejaaDoorZim23
section
namespace Go.Proofs.YtppbpefehpbejaaDoor.P
open Go.RowKit Go.Proofs.YtppbpefehpbejaaDoorW.PrintWords Go.Proofs.YtppbpefehpbejaaDoorW.PrintLast Go.Proofs.YtppbpefehpbejaaDoorW.PrintMore
attribute [local go_sem] max2_int min2_int max_two min_two max_three min_three max_four min_four   -- for this text's walks alone
set_option linter.unusedVariables false
set_option linter.unusedSimpArgs false

def spec_ixShort.l0 : Nat → ByteArray → ByteArray → Int → Option (ByteArray)
 | 0, _, _, _ => none
 | k + 1, x3, x4, x5 => if 0 ≤ x5 then (if x5 < (x3.size : Int) then (if x5 < (x4.size : Int) then (if (bt x3 x5) = (bt x4 x5) then (spec_ixShort.l0 k x3 x4 (wrap64 (x5 + 1))) else (if x5 ≤ (x4.size : Int) then (if x3.size + 1 ≤ 9223372036854775807 then (if (x3 ++ (⟨#[45]⟩ : ByteArray)).size + (x4.extract (x5 : Int).toNat x4.size).size ≤ 9223372036854775807 then (some ((x3 ++ (⟨#[45]⟩ : ByteArray)) ++ (x4.extract (x5 : Int).toNat x4.size))) else (none)) else (none)) else (none))) else (none)) else (none)) else (none)
def spec_ixShort.f (k : Nat) (a0_0 : Int) (a0_1 : Int) : Option (ByteArray) := (spec_l1Num.f k a0_0).bind fun t366 => ((spec_l1Num.f k a0_1).bind fun t367 => (if a0_0 = a0_1 then (some t366) else (if (t366.size : Int) = (t367.size : Int) then (spec_ixShort.l0 k t366 t367 0) else (if t366.size + 1 ≤ 9223372036854775807 then (if (t366 ++ (⟨#[45]⟩ : ByteArray)).size + t367.size ≤ 9223372036854775807 then (some ((t366 ++ (⟨#[45]⟩ : ByteArray)) ++ t367)) else (none)) else (none)))))
def spec_ixShort.T1 : Bool × List (List Nat × List Nat) := (true, [([], []), ([0], [0]), ([1], [1]), ([], []), ([3], [3]), ([4, 2], [4]), ([2, 5, 0, 1, 2], [2]), ([5, 6, 0, 1, 2, 3, 4, 5, 6], [5])])
def spec_ixShort.B1 : List Nat := [0, 1, 3, 0, 8, 31, 63, 127]
theorem spec_ixShort.tab1 : rtab .any (opsOf Tryd.f165 1) = spec_ixShort.T1 := by kernel_rfl
theorem spec_ixShort.bits1 : waitsOk spec_ixShort.T1.2 spec_ixShort.B1 = true := by kernel_rfl
set_option maxHeartbeats 8000000 in
set_option maxRecDepth 100000 in
theorem spec_ixShort.calls (k : Nat) (a0_0 : Int) (a0_1 : Int) (r : ByteArray) (w : World) (h : spec_ixShort.f k a0_0 a0_1 = some r) :
  Calls Tryd.prog 165 #[.agg #[.int .i64 a0_0, .int .i64 a0_1]] w fun e w' => e = .returned (.string r) ∧ Below w.heap.size w w' := by
 have hu100 := Tryd.underlying100
 have HB := Az_ (Below.refl w.heap.size w)
 have H : ((spec_l1Num.f k a0_0).bind fun t366 => ((spec_l1Num.f k a0_1).bind fun t367 => (if a0_0 = a0_1 then (some t366) else (if (t366.size : Int) = (t367.size : Int) then (spec_ixShort.l0 k t366 t367 0) else (if t366.size + 1 ≤ 9223372036854775807 then (if (t366 ++ (⟨#[45]⟩ : ByteArray)).size + t367.size ≤ 9223372036854775807 then (some ((t366 ++ (⟨#[45]⟩ : ByteArray)) ++ t367)) else (none)) else (none)))))) = some r := h
 clear h
 replace H := bqz_ H; obtain ⟨t366, A2, H⟩ := H
 replace H := bqz_ H; obtain ⟨t367, A3, H⟩ := H
 replace H : (if a0_0 = a0_1 then (some t366) else (if (t366.size : Int) = (t367.size : Int) then (spec_ixShort.l0 k t366 t367 0) else (if t366.size + 1 ≤ 9223372036854775807 then (if (t366 ++ (⟨#[45]⟩ : ByteArray)).size + t367.size ≤ 9223372036854775807 then (some ((t366 ++ (⟨#[45]⟩ : ByteArray)) ++ t367)) else (none)) else (none)))) = some r := H
 by_cases c4 : a0_0 = a0_1
 ·rw [if_pos c4] at H
  have c4b0 : (a0_0 == a0_1) = true := beq_iff_eq.mpr c4
  have c4b1 : (a0_0 != a0_1) = false := bne_eq_false_iff_eq.mpr c4
  clear c4
  obtain rfl := Option.some.inj H
  go_enter Tryd.func165, Tryd.ntmps165
  try go_wp2_with (((with_reducible refine gate_dst (N := 1) rfl ?_); refine box_event ?hg (N := 1) ?hd (cs := #[.int .i64 a0_0, .int .i64 a0_1]) (t := 100) ?hr ?_; (case hd => rfl); (case hg => rfl); (case hr => first | (go_simp; done) | (go_simp; rfl)); intro gb365 hg w5 hbox hb; have BK365 := Az_ (hbox); have GW365 := Az_ ((by rw [hg]; exact (below_size (ubz_ HB.out)) : w.heap.size ≤ gb365)); have GE365 := Az_ ((by rw [hg]; exact (below_size (ubz_ HB.out)) : w.heap.size ≤ gb365)); replace HB := Az_ (btz_ (ubz_ HB.out) hb); clear hb hbox hg))
  have n0_ := Az_ (kdz_ BK365.out)
  have n1_ := Az_ (bdz_ HB.out)
  clear BK365 HB
  have BK365 := n0_
  have HB := n1_
  clear n0_ n1_
  refine start_ (n := 8) (S := fun w' => w'.cell? ⟨gb365, 0, none⟩ = some (.int .i64 a0_0) ∧ w'.cell? ⟨gb365, 1, none⟩ = some (.int .i64 a0_1)) (ds := []) #[false, false, false, false, false, false, false, false] (w162_) rfl rfl ⟨(blk_cell BK365.out 0).trans rfl, (blk_cell BK365.out 1).trans rfl⟩ (fun hHeld => ?_); refine with_tabW spec_ixShort.tab1 spec_ixShort.bits1 (fun HT_ HW_ => ?_)
  generalize w5.drew = w6 at BK365 HB hHeld ⊢
  refine pz_ 0 6 [1,7] ?_
  refine pz_ 3 9 [1,2,1,4] ?_
  refine tz2_ 1 7 [2,1,1,4] ?_
  refine tz2_ 4 10 [2,1,2,3] ?_
  refine one_ (i := 2) (N := some 8) (mz_ [5,3]) rfl rfl (one_of HT_.out (w162_)) (by decide) (fun K hK => ?_)
  refine goes_ Tryd.func183 (w162_) rfl #[.int .i64 a0_0] (by rfl) rfl rfl maz_ ?_
  with_reducible refine (spec_l1Num.calls k a0_0 t366 _ A2.out).mono ?_
  rintro e w7 ⟨rfl, hb⟩
  refine ⟨_, rfl, ?_⟩
  have n1_ := Az_ (btz_ (w79_) hb)
  clear HB
  replace BK365 := Az_ (ukbz_ BK365.out hb)
  have HB := n1_
  clear n1_
  clear hb
  refine hK.out _ _ ⟨(blk_cell BK365.out 0).trans rfl, (blk_cell BK365.out 1).trans rfl⟩ (fun hHeld => ?_)
  clear hK K
  refine nz_ 8 ?_
  refine one_ (i := 5) (N := some 11) (mz_ [6,2]) rfl rfl (one_of HT_.out (w162_)) (by decide) (fun K hK => ?_)
  refine goes_ Tryd.func183 (w162_) rfl #[.int .i64 a0_1] (by rfl) rfl rfl maz_ ?_
  with_reducible refine (spec_l1Num.calls k a0_1 t367 _ A3.out).mono ?_
  rintro e w8 ⟨rfl, hb⟩
  refine ⟨_, rfl, ?_⟩
  have n1_ := Az_ (btz_ (w79_) hb)
  clear HB
  replace BK365 := Az_ (ukbz_ BK365.out hb)
  have HB := n1_
  clear n1_
  clear hb
  refine hK.out _ _ ⟨(blk_cell BK365.out 0).trans rfl, (blk_cell BK365.out 1).trans rfl⟩ (fun hHeld => ?_)
  clear hK K
  refine nz_ 11 ?_
  refine pz_ 6 3 [7,1] ?_
  refine pz_ 7 4 [8] ?_
  refine done_ (done_of HT_.out (w162_)) ?_
  have hcz9_0 : w8.cell? ⟨gb365, 0, none⟩ = some (.int .i64 a0_0) := (blk_cell BK365.out 0).trans rfl
  have hcz9_1 : w8.cell? ⟨gb365, 1, none⟩ = some (.int .i64 a0_1) := (blk_cell BK365.out 1).trans rfl
  have hfz9_0 := blk_frozen BK365.out 0
  have hfz9_1 := blk_frozen BK365.out 1
  try go_wp2
  go_ret
  exact ⟨w116_, w79_⟩
 ·rw [if_neg c4] at H
  have c4b0 : (a0_0 == a0_1) = false := beq_eq_false_iff_ne.mpr c4
  have c4b1 : (a0_0 != a0_1) = true := bne_iff_ne.mpr c4
  by_cases c10 : (t366.size : Int) = (t367.size : Int)
  ·rw [if_pos c10] at H
   have c10b0 : ((t366.size : Int) == (t367.size : Int)) = true := beq_iff_eq.mpr c10
   have c10b1 : ((t366.size : Int) != (t367.size : Int)) = false := bne_eq_false_iff_eq.mpr c10
   have c10b2 : (t366.size == t367.size) = true := by first | simpa using c10 | (simp at c10 ⊢; omega)
   clear c10
   have H' := Az_ H
   clear H
   go_enter Tryd.func165, Tryd.ntmps165
   try go_wp2_with (((with_reducible refine gate_dst (N := 1) rfl ?_); refine box_event ?hg (N := 1) ?hd (cs := #[.int .i64 a0_0, .int .i64 a0_1]) (t := 100) ?hr ?_; (case hd => rfl); (case hg => rfl); (case hr => first | (go_simp; done) | (go_simp; rfl)); intro gb365 hg w11 hbox hb; have BK365 := Az_ (hbox); have GW365 := Az_ ((by rw [hg]; exact (below_size (ubz_ HB.out)) : w.heap.size ≤ gb365)); have GE365 := Az_ ((by rw [hg]; exact (below_size (ubz_ HB.out)) : w.heap.size ≤ gb365)); replace HB := Az_ (btz_ (ubz_ HB.out) hb); clear hb hbox hg))
   have n0_ := Az_ (kdz_ BK365.out)
   have n1_ := Az_ (bdz_ HB.out)
   clear BK365 HB
   have BK365 := n0_
   have HB := n1_
   clear n0_ n1_
   refine start_ (n := 8) (S := fun w' => w'.cell? ⟨gb365, 0, none⟩ = some (.int .i64 a0_0) ∧ w'.cell? ⟨gb365, 1, none⟩ = some (.int .i64 a0_1)) (ds := []) #[false, false, false, false, false, false, false, false] (w162_) rfl rfl ⟨(blk_cell BK365.out 0).trans rfl, (blk_cell BK365.out 1).trans rfl⟩ (fun hHeld => ?_); refine with_tabW spec_ixShort.tab1 spec_ixShort.bits1 (fun HT_ HW_ => ?_)
   generalize w11.drew = w12 at BK365 HB hHeld ⊢
   refine pz_ 0 6 [1,7] ?_
   refine pz_ 3 9 [1,2,1,4] ?_
   refine tz2_ 1 7 [2,1,1,4] ?_
   refine tz2_ 4 10 [2,1,2,3] ?_
   refine one_ (i := 2) (N := some 8) (mz_ [5,3]) rfl rfl (one_of HT_.out (w162_)) (by decide) (fun K hK => ?_)
   refine goes_ Tryd.func183 (w162_) rfl #[.int .i64 a0_0] (by rfl) rfl rfl maz_ ?_
   with_reducible refine (spec_l1Num.calls k a0_0 t366 _ A2.out).mono ?_
   rintro e w13 ⟨rfl, hb⟩
   refine ⟨_, rfl, ?_⟩
   have n1_ := Az_ (btz_ (w79_) hb)
   clear HB
   replace BK365 := Az_ (ukbz_ BK365.out hb)
   have HB := n1_
   clear n1_
   clear hb
   refine hK.out _ _ ⟨(blk_cell BK365.out 0).trans rfl, (blk_cell BK365.out 1).trans rfl⟩ (fun hHeld => ?_)
   clear hK K
   refine nz_ 8 ?_
   refine one_ (i := 5) (N := some 11) (mz_ [6,2]) rfl rfl (one_of HT_.out (w162_)) (by decide) (fun K hK => ?_)
   refine goes_ Tryd.func183 (w162_) rfl #[.int .i64 a0_1] (by rfl) rfl rfl maz_ ?_
   with_reducible refine (spec_l1Num.calls k a0_1 t367 _ A3.out).mono ?_
   rintro e w14 ⟨rfl, hb⟩
   refine ⟨_, rfl, ?_⟩
   have n1_ := Az_ (btz_ (w79_) hb)
   clear HB
   replace BK365 := Az_ (ukbz_ BK365.out hb)
   have HB := n1_
   clear n1_
   clear hb
   refine hK.out _ _ ⟨(blk_cell BK365.out 0).trans rfl, (blk_cell BK365.out 1).trans rfl⟩ (fun hHeld => ?_)
   clear hK K
   refine nz_ 11 ?_
   refine pz_ 6 3 [7,1] ?_
   refine pz_ 7 4 [8] ?_
   refine done_ (done_of HT_.out (w162_)) ?_
   have hcz15_0 : w14.cell? ⟨gb365, 0, none⟩ = some (.int .i64 a0_0) := (blk_cell BK365.out 0).trans rfl
   have hcz15_1 : w14.cell? ⟨gb365, 1, none⟩ = some (.int .i64 a0_1) := (blk_cell BK365.out 1).trans rfl
   have hfz15_0 := blk_frozen BK365.out 0
   have hfz15_1 := blk_frozen BK365.out 1
   try go_wp2
   go_loopg [5] k (fun kq v5 w' => ∃ (x5_1 : Int), v5 = .int .i64 x5_1 ∧ Aside0 (spec_ixShort.l0 kq t366 t367 x5_1 = some r) ∧ Aside0 (kq ≤ k) ∧ Aside0 (w'.heap[gb365]? = some (.cells #[.int .i64 a0_0, .int .i64 a0_1] 100 (0, 0))) ∧ Aside0 (Below w.heap.size w w'))
   case atStart => exact ⟨(0), qaz_, H', ⟨Nat.le_refl _⟩, ⟨by (with_reducible repeat (first | refine knz_ ?_ _ | refine kdz_ ?_ | refine kaz_ ?_ _)); exact BK365.out⟩, ⟨w79_⟩⟩
   case round =>
    clear H'
    clear c4 c4b0 c4b1 c10b0 c10b1 c10b2 hcz15_0 hcz15_1 hfz15_0 hfz15_1
    obtain ⟨x5_1, rfl, HA, HK1, BK365, HB⟩ := hrel
    cases gk with
    | zero => exact absurd HA.out (by simp [spec_ixShort.l0])
    | succ k1 =>
     have H := HA.out
     clear HA
     simp only [spec_ixShort.l0] at H
     by_cases c16 : 0 ≤ x5_1; rotate_left
     ·rw [if_neg c16] at H
      exact absurd H (by simp)
     rw [if_pos c16] at H
     have c16b0 := decide_eq_true c16
     clear c16
     by_cases c17 : x5_1 < (t366.size : Int); rotate_left
     ·rw [if_neg c17] at H
      exact absurd H (by simp)
     rw [if_pos c17] at H
     have c17b0 := decide_eq_true c17
     clear c17
     by_cases c19 : x5_1 < (t367.size : Int); rotate_left
     ·rw [if_neg c19] at H
      exact absurd H (by simp)
     rw [if_pos c19] at H
     have c19b0 := decide_eq_true c19
     clear c19
     by_cases c21 : (bt t366 x5_1) = (bt t367 x5_1)
     ·rw [if_pos c21] at H
      have c21b0 : ((bt t366 x5_1) == (bt t367 x5_1)) = true := beq_iff_eq.mpr c21
      have c21b1 : ((bt t366 x5_1) != (bt t367 x5_1)) = false := bne_eq_false_iff_eq.mpr c21
      clear c21
      have H' := Az_ H
      clear H
      try go_wp2
      have n0_ := Az_ (kdz_ BK365.out)
      have n1_ := Az_ (bdz_ HB.out)
      clear BK365 HB
      have BK365 := n0_
      have HB := n1_
      clear n0_ n1_
      have p18 : 0 ≤ (x5_1 : Int) := od_
      have q18 : x5_1 < (t366.size : Int) := od_
      have hx18 := bt_at t366 x5_1
      replace p18 := eq_true p18
      replace q18 := eq_true q18
      have p20 : 0 ≤ (x5_1 : Int) := od_
      have q20 : x5_1 < (t367.size : Int) := od_
      have hx20 := bt_at t367 x5_1
      replace p20 := eq_true p20
      replace q20 := eq_true q20
      refine start_ (n := 7) (S := fun w' => True) (ds := []) #[false, false, false, false, false, false, false] (w162_) rfl rfl trivial (fun hHeld => ?_)
      generalize wr.drew = w22 at BK365 HB hHeld ⊢
      refine pzk_ 0 23 [1,6] ?_
      refine pzk_ 1 24 [2,5] ?_
      refine pzk_ 3 26 [2,1,1,3] ?_
      refine pzk_ 4 27 [2,1,2,2] ?_
      refine tzk0_ 2 25 [5,2] ?_
      refine tzk0_ 5 28 [6,1] ?_
      refine pzk_ 6 29 [7] ?_
      refine done_ (w162_) ?_
      try go_wp2
      go_roundg k1
      case measure => have := HK1.out; omega
      case rel => exact ⟨(wrap64 (x5_1 + 1)), qaz_, H', ⟨w144_⟩, ⟨by (with_reducible repeat (first | refine knz_ ?_ _ | refine kdz_ ?_ | refine kaz_ ?_ _)); exact BK365.out⟩, ⟨w79_⟩⟩
     rw [if_neg c21] at H
     have c21b0 : ((bt t366 x5_1) == (bt t367 x5_1)) = false := beq_eq_false_iff_ne.mpr c21
     have c21b1 : ((bt t366 x5_1) != (bt t367 x5_1)) = true := bne_iff_ne.mpr c21
     have c23b0 := eq_true (od_ : 0 ≤ x5_1)
     by_cases c24 : x5_1 ≤ (t367.size : Int); rotate_left
     ·rw [if_neg c24] at H
      exact absurd H (by simp)
     rw [if_pos c24] at H
     have c24b0 := eq_true c24
     have c24b1 := decide_eq_true c24
     clear c24
     by_cases c25 : t366.size + 1 ≤ 9223372036854775807; rotate_left
     ·rw [if_neg c25] at H
      exact absurd H (by simp)
     rw [if_pos c25] at H
     have c25b0 := eq_true c25
     have c25b1 := decide_eq_true c25
     try have c25b2 : (9223372036854775807 < t366.size + 1) = False := eq_false (Nat.not_lt.2 c25)
     by_cases c26 : (t366 ++ (⟨#[45]⟩ : ByteArray)).size + (t367.extract (x5_1 : Int).toNat t367.size).size ≤ 9223372036854775807; rotate_left
     ·rw [if_neg c26] at H
      exact absurd H (by simp)
     rw [if_pos c26] at H
     have c26b0 := eq_true c26
     have c26b1 := decide_eq_true c26
     try have c26b2 : (9223372036854775807 < (t366 ++ (⟨#[45]⟩ : ByteArray)).size + (t367.extract (x5_1 : Int).toNat t367.size).size) = False := eq_false (Nat.not_lt.2 c26)
     have c26b3 : (9223372036854775807 < t366.size + 1 + (t367.extract (x5_1 : Int).toNat t367.size).size) = False := by (have h_ := c26b2; simp only [ByteArray.size_append] at h_; exact h_)
     obtain rfl := Option.some.inj H
     try go_wp2
     have n0_ := Az_ (kdz_ BK365.out)
     have n1_ := Az_ (bdz_ HB.out)
     clear BK365 HB
     have BK365 := n0_
     have HB := n1_
     clear n0_ n1_
     have p18 : 0 ≤ (x5_1 : Int) := od_
     have q18 : x5_1 < (t366.size : Int) := od_
     have hx18 := bt_at t366 x5_1
     replace p18 := eq_true p18
     replace q18 := eq_true q18
     have p20 : 0 ≤ (x5_1 : Int) := od_
     have q20 : x5_1 < (t367.size : Int) := od_
     have hx20 := bt_at t367 x5_1
     replace p20 := eq_true p20
     replace q20 := eq_true q20
     refine start_ (n := 7) (S := fun w' => True) (ds := []) #[false, false, false, false, false, false, false] (w162_) rfl rfl trivial (fun hHeld => ?_)
     generalize wr.drew = w27 at BK365 HB hHeld ⊢
     refine pzk_ 0 23 [1,6] ?_
     refine pzk_ 1 24 [2,5] ?_
     refine pzk_ 3 26 [2,1,1,3] ?_
     refine pzk_ 4 27 [2,1,2,2] ?_
     refine tzk0_ 2 25 [5,2] ?_
     refine tzk0_ 5 28 [6,1] ?_
     refine pzk_ 6 29 [7] ?_
     refine done_ (w162_) ?_
     try go_wp2
     go_ret
     exact ⟨w116_, w79_⟩
  ·rw [if_neg c10] at H
   have c10b0 : ((t366.size : Int) == (t367.size : Int)) = false := beq_eq_false_iff_ne.mpr c10
   have c10b1 : ((t366.size : Int) != (t367.size : Int)) = true := bne_iff_ne.mpr c10
   have c10b2 : (t366.size == t367.size) = false := by first | simpa using c10 | (simp at c10 ⊢; omega)
   by_cases c28 : t366.size + 1 ≤ 9223372036854775807
   ·rw [if_pos c28] at H
    have c28b0 := eq_true c28
    have c28b1 := decide_eq_true c28
    try have c28b2 : (9223372036854775807 < t366.size + 1) = False := eq_false (Nat.not_lt.2 c28)
    by_cases c29 : (t366 ++ (⟨#[45]⟩ : ByteArray)).size + t367.size ≤ 9223372036854775807; rotate_left
    ·rw [if_neg c29] at H
     exact absurd H (by simp)
    rw [if_pos c29] at H
    have c29b0 := eq_true c29
    have c29b1 := decide_eq_true c29
    try have c29b2 : (9223372036854775807 < (t366 ++ (⟨#[45]⟩ : ByteArray)).size + t367.size) = False := eq_false (Nat.not_lt.2 c29)
    have c29b3 : (9223372036854775807 < t366.size + 1 + t367.size) = False := by (have h_ := c29b2; simp only [ByteArray.size_append] at h_; exact h_)
    obtain rfl := Option.some.inj H
    go_enter Tryd.func165, Tryd.ntmps165
    try go_wp2_with (((with_reducible refine gate_dst (N := 1) rfl ?_); refine box_event ?hg (N := 1) ?hd (cs := #[.int .i64 a0_0, .int .i64 a0_1]) (t := 100) ?hr ?_; (case hd => rfl); (case hg => rfl); (case hr => first | (go_simp; done) | (go_simp; rfl)); intro gb365 hg w30 hbox hb; have BK365 := Az_ (hbox); have GW365 := Az_ ((by rw [hg]; exact (below_size (ubz_ HB.out)) : w.heap.size ≤ gb365)); have GE365 := Az_ ((by rw [hg]; exact (below_size (ubz_ HB.out)) : w.heap.size ≤ gb365)); replace HB := Az_ (btz_ (ubz_ HB.out) hb); clear hb hbox hg))
    have n0_ := Az_ (kdz_ BK365.out)
    have n1_ := Az_ (bdz_ HB.out)
    clear BK365 HB
    have BK365 := n0_
    have HB := n1_
    clear n0_ n1_
    refine start_ (n := 8) (S := fun w' => w'.cell? ⟨gb365, 0, none⟩ = some (.int .i64 a0_0) ∧ w'.cell? ⟨gb365, 1, none⟩ = some (.int .i64 a0_1)) (ds := []) #[false, false, false, false, false, false, false, false] (w162_) rfl rfl ⟨(blk_cell BK365.out 0).trans rfl, (blk_cell BK365.out 1).trans rfl⟩ (fun hHeld => ?_); refine with_tabW spec_ixShort.tab1 spec_ixShort.bits1 (fun HT_ HW_ => ?_)
    generalize w30.drew = w31 at BK365 HB hHeld ⊢
    refine pz_ 0 6 [1,7] ?_
    refine pz_ 3 9 [1,2,1,4] ?_
    refine tz2_ 1 7 [2,1,1,4] ?_
    refine tz2_ 4 10 [2,1,2,3] ?_
    refine one_ (i := 2) (N := some 8) (mz_ [5,3]) rfl rfl (one_of HT_.out (w162_)) (by decide) (fun K hK => ?_)
    refine goes_ Tryd.func183 (w162_) rfl #[.int .i64 a0_0] (by rfl) rfl rfl maz_ ?_
    with_reducible refine (spec_l1Num.calls k a0_0 t366 _ A2.out).mono ?_
    rintro e w32 ⟨rfl, hb⟩
    refine ⟨_, rfl, ?_⟩
    have n1_ := Az_ (btz_ (w79_) hb)
    clear HB
    replace BK365 := Az_ (ukbz_ BK365.out hb)
    have HB := n1_
    clear n1_
    clear hb
    refine hK.out _ _ ⟨(blk_cell BK365.out 0).trans rfl, (blk_cell BK365.out 1).trans rfl⟩ (fun hHeld => ?_)
    clear hK K
    refine nz_ 8 ?_
    refine one_ (i := 5) (N := some 11) (mz_ [6,2]) rfl rfl (one_of HT_.out (w162_)) (by decide) (fun K hK => ?_)
    refine goes_ Tryd.func183 (w162_) rfl #[.int .i64 a0_1] (by rfl) rfl rfl maz_ ?_
    with_reducible refine (spec_l1Num.calls k a0_1 t367 _ A3.out).mono ?_
    rintro e w33 ⟨rfl, hb⟩
    refine ⟨_, rfl, ?_⟩
    have n1_ := Az_ (btz_ (w79_) hb)
    clear HB
    replace BK365 := Az_ (ukbz_ BK365.out hb)
    have HB := n1_
    clear n1_
    clear hb
    refine hK.out _ _ ⟨(blk_cell BK365.out 0).trans rfl, (blk_cell BK365.out 1).trans rfl⟩ (fun hHeld => ?_)
    clear hK K
    refine nz_ 11 ?_
    refine pz_ 6 3 [7,1] ?_
    refine pz_ 7 4 [8] ?_
    refine done_ (done_of HT_.out (w162_)) ?_
    have hcz34_0 : w33.cell? ⟨gb365, 0, none⟩ = some (.int .i64 a0_0) := (blk_cell BK365.out 0).trans rfl
    have hcz34_1 : w33.cell? ⟨gb365, 1, none⟩ = some (.int .i64 a0_1) := (blk_cell BK365.out 1).trans rfl
    have hfz34_0 := blk_frozen BK365.out 0
    have hfz34_1 := blk_frozen BK365.out 1
    try go_wp2
    go_ret
    exact ⟨w116_, w79_⟩
   ·rw [if_neg c28] at H
    exact absurd H (by simp)


def spec_ShortRange.f (k : Nat) (a0_0 : Int) (a0_1 : Int) : Option (ByteArray × Bool) := (spec_ixRange.f a0_0 a0_1).bind fun t369 => (if t369 = true then ((spec_ixShort.f k a0_0 a0_1).bind fun t370 => (some (t370, true))) else (some ((⟨#[]⟩ : ByteArray), false)))
set_option maxHeartbeats 8000000 in
set_option maxRecDepth 100000 in
theorem spec_ShortRange.calls (k : Nat) (a0_0 : Int) (a0_1 : Int) (r1 : ByteArray) (r2 : Bool) (w : World) (h : spec_ShortRange.f k a0_0 a0_1 = some (r1, r2)) :
  Calls Tryd.prog 87 #[.agg #[.int .i64 a0_0, .int .i64 a0_1]] w fun e w' => e = .returned (.tuple #[.string r1, .bool r2]) ∧ Below w.heap.size w w' := by
 have hu100 := Tryd.underlying100
 have HB := Az_ (Below.refl w.heap.size w)
 have H : ((spec_ixRange.f a0_0 a0_1).bind fun t369 => (if t369 = true then ((spec_ixShort.f k a0_0 a0_1).bind fun t370 => (some (t370, true))) else (some ((⟨#[]⟩ : ByteArray), false)))) = some (r1, r2) := h
 clear h
 replace H := bqz_ H; obtain ⟨t369, A2, H⟩ := H
 replace H : (if t369 = true then ((spec_ixShort.f k a0_0 a0_1).bind fun t370 => (some (t370, true))) else (some ((⟨#[]⟩ : ByteArray), false))) = some (r1, r2) := H
 by_cases c3 : t369 = true
 ·subst c3
  rw [if_pos rfl] at H
  replace H := bqz_ H; obtain ⟨t370, A4, H⟩ := H
  replace H : (some (t370, true)) = some (r1, r2) := H
  simp only [Option.some.injEq, Prod.mk.injEq] at H
  obtain ⟨rfl, rfl⟩ := H
  go_enter Tryd.func87, Tryd.ntmps87
  go_wp2_with (first | ((with_reducible refine gate_dst (N := 1) rfl ?_); refine box_event ?hg (N := 1) ?hd (cs := #[.int .i64 a0_0, .int .i64 a0_1]) (t := 100) ?hr ?_; (case hd => rfl); (case hg => rfl); (case hr => first | (go_simp; done) | (go_simp; rfl)); intro gb368 hg w5 hbox hb; have BK368 := Az_ (hbox); have GW368 := Az_ ((by rw [hg]; exact (below_size (ubz_ HB.out)) : w.heap.size ≤ gb368)); have GE368 := Az_ ((by rw [hg]; exact (below_size (ubz_ HB.out)) : w.heap.size ≤ gb368)); replace HB := Az_ (btz_ (ubz_ HB.out) hb); clear hb hbox hg; have hcz6_0 : w5.cell? ⟨gb368, 0, none⟩ = some (.int .i64 a0_0) := (blk_cell BK368.out 0).trans rfl; have hcz6_1 : w5.cell? ⟨gb368, 1, none⟩ = some (.int .i64 a0_1) := (blk_cell BK368.out 1).trans rfl; have hfz6_0 := blk_frozen BK368.out 0; have hfz6_1 := blk_frozen BK368.out 1) | ((with_reducible refine gate_callee (f := 164) rfl ?_); refine goesL_ (some 5) rfl rfl Tryd.func164 (w162_) rfl #[.agg #[.int .i64 a0_0, .int .i64 a0_1]] rfl maz_ ?_; (with_reducible refine (spec_ixRange.calls a0_0 a0_1 true _ A2.out).mono ?_); rintro e w7 ⟨rfl, hb⟩; refine ⟨_, rfl, ?_⟩; have n1_ := Az_ (btz_ (w79_) hb); clear HB; replace BK368 := Az_ (ukbz_ BK368.out hb); have HB := n1_; clear n1_; (try clear hb); have hcz8_0 : w7.cell? ⟨gb368, 0, none⟩ = some (.int .i64 a0_0) := (blk_cell BK368.out 0).trans rfl; have hcz8_1 : w7.cell? ⟨gb368, 1, none⟩ = some (.int .i64 a0_1) := (blk_cell BK368.out 1).trans rfl; have hfz8_0 := blk_frozen BK368.out 0; have hfz8_1 := blk_frozen BK368.out 1) | ((with_reducible refine gate_callee (f := 165) rfl ?_); refine goesL_ (some 8) rfl rfl Tryd.func165 (w162_) rfl #[.agg #[.int .i64 a0_0, .int .i64 a0_1]] rfl maz_ ?_; (with_reducible refine (spec_ixShort.calls k a0_0 a0_1 t370 _ A4.out).mono ?_); rintro e w9 ⟨rfl, hb⟩; refine ⟨_, rfl, ?_⟩; have n1_ := Az_ (btz_ (w79_) hb); clear HB; replace BK368 := Az_ (ukbz_ BK368.out hb); have HB := n1_; clear n1_; (try clear hb)))
  go_ret2
  exact ⟨w116_, w79_⟩
 ·replace c3 := Bool.eq_false_iff.mpr c3
  subst c3
  rw [if_neg nfz_] at H
  simp only [Option.some.injEq, Prod.mk.injEq] at H
  obtain ⟨rfl, rfl⟩ := H
  go_enter Tryd.func87, Tryd.ntmps87
  go_wp2_with (first | ((with_reducible refine gate_dst (N := 1) rfl ?_); refine box_event ?hg (N := 1) ?hd (cs := #[.int .i64 a0_0, .int .i64 a0_1]) (t := 100) ?hr ?_; (case hd => rfl); (case hg => rfl); (case hr => first | (go_simp; done) | (go_simp; rfl)); intro gb368 hg w10 hbox hb; have BK368 := Az_ (hbox); have GW368 := Az_ ((by rw [hg]; exact (below_size (ubz_ HB.out)) : w.heap.size ≤ gb368)); have GE368 := Az_ ((by rw [hg]; exact (below_size (ubz_ HB.out)) : w.heap.size ≤ gb368)); replace HB := Az_ (btz_ (ubz_ HB.out) hb); clear hb hbox hg; have hcz11_0 : w10.cell? ⟨gb368, 0, none⟩ = some (.int .i64 a0_0) := (blk_cell BK368.out 0).trans rfl; have hcz11_1 : w10.cell? ⟨gb368, 1, none⟩ = some (.int .i64 a0_1) := (blk_cell BK368.out 1).trans rfl; have hfz11_0 := blk_frozen BK368.out 0; have hfz11_1 := blk_frozen BK368.out 1) | ((with_reducible refine gate_callee (f := 164) rfl ?_); refine goesL_ (some 5) rfl rfl Tryd.func164 (w162_) rfl #[.agg #[.int .i64 a0_0, .int .i64 a0_1]] rfl maz_ ?_; (with_reducible refine (spec_ixRange.calls a0_0 a0_1 false _ A2.out).mono ?_); rintro e w12 ⟨rfl, hb⟩; refine ⟨_, rfl, ?_⟩; have n1_ := Az_ (btz_ (w79_) hb); clear HB; replace BK368 := Az_ (ukbz_ BK368.out hb); have HB := n1_; clear n1_; (try clear hb)))
  go_ret2
  exact ⟨w116_, w79_⟩

mutual
def spec_l1Cur_spoilt.l0 : Nat → ByteArray → ByteArray → Int → List Int → Int → Int → Option (ByteArray × Int × Int)
 | 0, _, _, _, _, _, _ => none
 | k + 1, x1, x2, x7, x1000, x1001, x1002 => if x7 > 0 then (spec_l1Cur_spoilt.j1 k x1 x2 x7 (decide ((x1.size : Int) > 0)) x1000 x1001 x1002) else (spec_l1Cur_spoilt.j1 k x1 x2 x7 false x1000 x1001 x1002)
def spec_l1Cur_spoilt.j1 : Nat → ByteArray → ByteArray → Int → Bool → List Int → Int → Int → Option (ByteArray × Int × Int)
 | 0, _, _, _, _, _, _, _ => none
 | k + 1, x1, x2, x7, x19, x1000, x1001, x1002 => if x19 = true then ((spec_l1Cur_pick.f x1000 x1001 x1002 (x1.size : Int)).bind fun bt374 => ((spec_l1Cur_pick.f x1000 bt374.2.1 bt374.2.2 (x2.size : Int)).bind fun bt377 => (if 0 ≤ bt377.1 then (if bt377.1 < (x2.size : Int) then ((some (([bt x2 bt377.1] : List Int) : List Int)).bind fun y380 => ((spec_l1Cur_pick.f x1000 bt377.2.1 bt377.2.2 3).bind fun bt383 => (if bt383.1 = 0 then (if 0 ≤ bt374.1 then (if bt374.1 ≤ (x1.size : Int) then (if (x1.extract 0 (bt374.1 : Int).toNat).size + (strOfNums y380).size ≤ 9223372036854775807 then (if ((x1.extract 0 (bt374.1 : Int).toNat) ++ (strOfNums y380)).size + (x1.extract (bt374.1 : Int).toNat x1.size).size ≤ 9223372036854775807 then (spec_l1Cur_spoilt.l0 k (((x1.extract 0 (bt374.1 : Int).toNat) ++ (strOfNums y380)) ++ (x1.extract (bt374.1 : Int).toNat x1.size)) x2 (wrap64 (x7 - 1)) x1000 bt383.2.1 bt383.2.2) else (none)) else (none)) else (none)) else (none)) else (if bt383.1 = 1 then (if 0 ≤ bt374.1 then (if bt374.1 ≤ (x1.size : Int) then (if (x1.extract 0 (bt374.1 : Int).toNat).size + (strOfNums y380).size ≤ 9223372036854775807 then (if 0 ≤ (wrap64 (bt374.1 + 1)) then (if (wrap64 (bt374.1 + 1)) ≤ (x1.size : Int) then (if ((x1.extract 0 (bt374.1 : Int).toNat) ++ (strOfNums y380)).size + (x1.extract ((wrap64 (bt374.1 + 1)) : Int).toNat x1.size).size ≤ 9223372036854775807 then (spec_l1Cur_spoilt.l0 k (((x1.extract 0 (bt374.1 : Int).toNat) ++ (strOfNums y380)) ++ (x1.extract ((wrap64 (bt374.1 + 1)) : Int).toNat x1.size)) x2 (wrap64 (x7 - 1)) x1000 bt383.2.1 bt383.2.2) else (none)) else (none)) else (none)) else (none)) else (none)) else (none)) else (if 0 ≤ bt374.1 then (if bt374.1 ≤ (x1.size : Int) then (if 0 ≤ (wrap64 (bt374.1 + 1)) then (if (wrap64 (bt374.1 + 1)) ≤ (x1.size : Int) then (if (x1.extract 0 (bt374.1 : Int).toNat).size + (x1.extract ((wrap64 (bt374.1 + 1)) : Int).toNat x1.size).size ≤ 9223372036854775807 then (spec_l1Cur_spoilt.l0 k ((x1.extract 0 (bt374.1 : Int).toNat) ++ (x1.extract ((wrap64 (bt374.1 + 1)) : Int).toNat x1.size)) x2 (wrap64 (x7 - 1)) x1000 bt383.2.1 bt383.2.2) else (none)) else (none)) else (none)) else (none)) else (none)))))) else (none)) else (none)))) else (some (x1, x1001, x1002))
end
def spec_l1Cur_spoilt.f (k : Nat) (s0_0 : List Int) (s0_1 : Int) (s0_2 : Int) (a1 : ByteArray) (a2 : ByteArray) : Option (ByteArray × Int × Int) := (spec_l1Cur_pick.f s0_0 s0_1 s0_2 2).bind fun bt371 => (spec_l1Cur_spoilt.l0 k a1 a2 (wrap64 (1 + bt371.1)) s0_0 bt371.2.1 bt371.2.2)
set_option maxHeartbeats 8000000 in
set_option maxRecDepth 100000 in
theorem spec_l1Cur_spoilt.calls (k : Nat) (g : Nat) (s0_0 : List Int) (s0_1 : Int) (s0_2 : Int) (a1 : ByteArray) (a2 : ByteArray) (r1 : ByteArray) (r2 : Int) (r3 : Int) (w0 w : World) (hI : IsS111 w0 w g s0_0 s0_1 s0_2) (hB : Below w0.heap.size w0 w) (h : spec_l1Cur_spoilt.f k s0_0 s0_1 s0_2 a1 a2 = some (r1, r2, r3)) :
  Calls Tryd.prog 146 #[.pointer (some ⟨g, 0, none⟩), .string a1, .string a2] w fun e w' => e = .returned (.string r1) ∧ IsS111 w0 w' g s0_0 r2 r3 ∧ Below w0.heap.size w0 w' ∧ KeepBut w w' g none := by
 have HI0 := Az_ hI
 have HK := Az_ (KeepBut.refl w g none)
 have HL := Az_ hB.size
 clear hI
 have HW0 := Az_ hB.size
 have HB := Az_ hB
 clear hB
 have H : ((spec_l1Cur_pick.f s0_0 s0_1 s0_2 2).bind fun bt371 => (spec_l1Cur_spoilt.l0 k a1 a2 (wrap64 (1 + bt371.1)) s0_0 bt371.2.1 bt371.2.2)) = some (r1, r2, r3) := h
 clear h
 replace H := bqz_ H; obtain ⟨⟨t371, t372, t373⟩, A4, H⟩ := H
 replace H : (spec_l1Cur_spoilt.l0 k a1 a2 (wrap64 (1 + t371)) s0_0 t372 t373) = some (r1, r2, r3) := H
 have H' := Az_ H
 clear H
 go_enter Tryd.func146, Tryd.ntmps146
 go_wp2_with ((go_at_call 96; (with_reducible refine (spec_l1Cur_pick.calls g s0_0 s0_1 s0_2 2 t371 t372 t373 w0 _ ?side1 ?side2 A4.out).mono ?_); (case side1 => repeat (first | (with_reducible first | exact HI0.out | apply IsS111.alloc | apply IsS111.drewN | apply IsS111.drew | apply IsS111.set_1 | apply IsS111.set_2) | exact HI0.out)); (case side2 => repeat (first | (with_reducible first | exact HB.out | apply baz_ | apply bnz_ | apply bdz_ | refine bsz_ ?_ (IsS111.ge HI0.out)) | exact HB.out)); rintro e w5 ⟨rfl, hi, hb, hk⟩; replace HK := Az_ (KeepBut.trans (w74_) hk (.inl rfl)); replace HB := Az_ (hb); replace HI0 := Az_ (hi); (try clear hb); (try clear hk); (try clear hi)))
 go_loopg [1, 7] k (fun kq v1 v7 w' => ∃ (x1_1 : ByteArray) (x7_1 : Int) (x1001_1 : Int) (x1002_1 : Int), v1 = .string x1_1 ∧ v7 = .int .i64 x7_1 ∧ Aside0 (spec_l1Cur_spoilt.l0 kq x1_1 a2 x7_1 s0_0 x1001_1 x1002_1 = some (r1, r2, r3)) ∧ Aside0 (kq ≤ k) ∧ Aside0 (IsS111 w0 w' g s0_0 x1001_1 x1002_1) ∧ Aside0 (KeepBut w w' g none) ∧ Aside0 (Below w0.heap.size w0 w'))
 case atStart => exact ⟨(a1), (wrap64 (1 + t371)), (t372), (t373), qaz_, qaz_, H', ⟨Nat.le_refl _⟩, ⟨w59_⟩, ⟨w74_⟩, ⟨w78_⟩⟩
 case round =>
  clear H'
  obtain ⟨x1_1, x7_1, x1001_1, x1002_1, rfl, rfl, HA, HK1, HI0, HK, HB⟩ := hrel
  cases gk with
  | zero => exact absurd HA.out (by simp [spec_l1Cur_spoilt.l0])
  | succ k1 =>
   have H := HA.out
   clear HA
   simp only [spec_l1Cur_spoilt.l0] at H
   have HC6 := Az_ H
   clear H
   go_upto_region 2 with (fail)
   go_cut [19] (fun v19 wc => ∃ (kq : Nat) (x19_5 : Bool), v19 = .bool x19_5 ∧ Aside0 (j1 kq x1_1 a2 x7_1 x19_5 s0_0 x1001_1 x1002_1 = some (r1, r2, r3)) ∧ Aside0 (kq ≤ k1) ∧ Aside0 (IsS111 w0 wc g s0_0 x1001_1 x1002_1) ∧ Aside0 (KeepBut w wc g none) ∧ Aside0 (Below w0.heap.size w0 wc))
   case first =>
    have H := HC6.out
    clear HC6
    by_cases c7 : x7_1 > 0; rotate_left
    ·rw [if_neg c7] at H
     have c7b0 := decide_eq_false c7
     clear c7
     (first | rw [c7b0] | (simp only [i64_w, i32_w]; rw [c7b0]) | skip)
     have H' := Az_ H
     clear H
     go_wp2
     go_meet
     case rel => exact ⟨_, (false), qaz_, H', ⟨by have := HK1.out; first | omega | exact Nat.le_refl _⟩, ⟨w59_⟩, ⟨w74_⟩, ⟨w78_⟩⟩
    rw [if_pos c7] at H
    have c7b0 := decide_eq_true c7
    clear c7
    (first | rw [c7b0] | (simp only [i64_w, i32_w]; rw [c7b0]) | skip)
    have H' := Az_ H
    clear H
    go_wp2
    go_meet
    case rel => exact ⟨_, (decide ((x1_1.size : Int) > 0)), qaz_, H', ⟨by have := HK1.out; first | omega | exact Nat.le_refl _⟩, ⟨w59_⟩, ⟨w74_⟩, ⟨w78_⟩⟩
   case rest =>
    clear HC6
    obtain ⟨kq, x19_5, rfl, HA, HJ5, HI0, HK, HB⟩ := hcut
    cases kq with
    | zero => exact absurd HA.out (by simp [j1])
    | succ kj5 =>
     have H := HA.out
     clear HA
     simp only [j1] at H
     by_cases c8 : x19_5 = true
     ·subst c8
      rw [if_pos rfl] at H
      replace H := bqz_ H; obtain ⟨⟨t374, t375, t376⟩, A9, H⟩ := H
      replace H := bqz_ H; obtain ⟨⟨t377, t378, t379⟩, A10, H⟩ := H
      replace H : (if 0 ≤ t377 then (if t377 < (a2.size : Int) then ((some (([bt a2 t377] : List Int) : List Int)).bind fun y380 => ((spec_l1Cur_pick.f s0_0 t378 t379 3).bind fun bt383 => (if bt383.1 = 0 then (if 0 ≤ t374 then (if t374 ≤ (x1_1.size : Int) then (if (x1_1.extract 0 (t374 : Int).toNat).size + (strOfNums y380).size ≤ 9223372036854775807 then (if ((x1_1.extract 0 (t374 : Int).toNat) ++ (strOfNums y380)).size + (x1_1.extract (t374 : Int).toNat x1_1.size).size ≤ 9223372036854775807 then (spec_l1Cur_spoilt.l0 kj5 (((x1_1.extract 0 (t374 : Int).toNat) ++ (strOfNums y380)) ++ (x1_1.extract (t374 : Int).toNat x1_1.size)) a2 (wrap64 (x7_1 - 1)) s0_0 bt383.2.1 bt383.2.2) else (none)) else (none)) else (none)) else (none)) else (if bt383.1 = 1 then (if 0 ≤ t374 then (if t374 ≤ (x1_1.size : Int) then (if (x1_1.extract 0 (t374 : Int).toNat).size + (strOfNums y380).size ≤ 9223372036854775807 then (if 0 ≤ (wrap64 (t374 + 1)) then (if (wrap64 (t374 + 1)) ≤ (x1_1.size : Int) then (if ((x1_1.extract 0 (t374 : Int).toNat) ++ (strOfNums y380)).size + (x1_1.extract ((wrap64 (t374 + 1)) : Int).toNat x1_1.size).size ≤ 9223372036854775807 then (spec_l1Cur_spoilt.l0 kj5 (((x1_1.extract 0 (t374 : Int).toNat) ++ (strOfNums y380)) ++ (x1_1.extract ((wrap64 (t374 + 1)) : Int).toNat x1_1.size)) a2 (wrap64 (x7_1 - 1)) s0_0 bt383.2.1 bt383.2.2) else (none)) else (none)) else (none)) else (none)) else (none)) else (none)) else (if 0 ≤ t374 then (if t374 ≤ (x1_1.size : Int) then (if 0 ≤ (wrap64 (t374 + 1)) then (if (wrap64 (t374 + 1)) ≤ (x1_1.size : Int) then (if (x1_1.extract 0 (t374 : Int).toNat).size + (x1_1.extract ((wrap64 (t374 + 1)) : Int).toNat x1_1.size).size ≤ 9223372036854775807 then (spec_l1Cur_spoilt.l0 kj5 ((x1_1.extract 0 (t374 : Int).toNat) ++ (x1_1.extract ((wrap64 (t374 + 1)) : Int).toNat x1_1.size)) a2 (wrap64 (x7_1 - 1)) s0_0 bt383.2.1 bt383.2.2) else (none)) else (none)) else (none)) else (none)) else (none)))))) else (none)) else (none)) = some (r1, r2, r3) := H
      by_cases c11 : 0 ≤ t377; rotate_left
      ·rw [if_neg c11] at H
       exact absurd H (by simp)
      rw [if_pos c11] at H
      have c11b0 := decide_eq_true c11
      clear c11
      by_cases c12 : t377 < (a2.size : Int); rotate_left
      ·rw [if_neg c12] at H
       exact absurd H (by simp)
      rw [if_pos c12] at H
      have c12b0 := decide_eq_true c12
      clear c12
      obtain ⟨y380, hy380⟩ : ∃ y_ : List Int, y_ = (([bt a2 t377] : List Int)) := ⟨_, rfl⟩
      replace H : ((spec_l1Cur_pick.f s0_0 t378 t379 3).bind fun bt383 => (if bt383.1 = 0 then (if 0 ≤ t374 then (if t374 ≤ (x1_1.size : Int) then (if (x1_1.extract 0 (t374 : Int).toNat).size + (strOfNums y380).size ≤ 9223372036854775807 then (if ((x1_1.extract 0 (t374 : Int).toNat) ++ (strOfNums y380)).size + (x1_1.extract (t374 : Int).toNat x1_1.size).size ≤ 9223372036854775807 then (spec_l1Cur_spoilt.l0 kj5 (((x1_1.extract 0 (t374 : Int).toNat) ++ (strOfNums y380)) ++ (x1_1.extract (t374 : Int).toNat x1_1.size)) a2 (wrap64 (x7_1 - 1)) s0_0 bt383.2.1 bt383.2.2) else (none)) else (none)) else (none)) else (none)) else (if bt383.1 = 1 then (if 0 ≤ t374 then (if t374 ≤ (x1_1.size : Int) then (if (x1_1.extract 0 (t374 : Int).toNat).size + (strOfNums y380).size ≤ 9223372036854775807 then (if 0 ≤ (wrap64 (t374 + 1)) then (if (wrap64 (t374 + 1)) ≤ (x1_1.size : Int) then (if ((x1_1.extract 0 (t374 : Int).toNat) ++ (strOfNums y380)).size + (x1_1.extract ((wrap64 (t374 + 1)) : Int).toNat x1_1.size).size ≤ 9223372036854775807 then (spec_l1Cur_spoilt.l0 kj5 (((x1_1.extract 0 (t374 : Int).toNat) ++ (strOfNums y380)) ++ (x1_1.extract ((wrap64 (t374 + 1)) : Int).toNat x1_1.size)) a2 (wrap64 (x7_1 - 1)) s0_0 bt383.2.1 bt383.2.2) else (none)) else (none)) else (none)) else (none)) else (none)) else (none)) else (if 0 ≤ t374 then (if t374 ≤ (x1_1.size : Int) then (if 0 ≤ (wrap64 (t374 + 1)) then (if (wrap64 (t374 + 1)) ≤ (x1_1.size : Int) then (if (x1_1.extract 0 (t374 : Int).toNat).size + (x1_1.extract ((wrap64 (t374 + 1)) : Int).toNat x1_1.size).size ≤ 9223372036854775807 then (spec_l1Cur_spoilt.l0 kj5 ((x1_1.extract 0 (t374 : Int).toNat) ++ (x1_1.extract ((wrap64 (t374 + 1)) : Int).toNat x1_1.size)) a2 (wrap64 (x7_1 - 1)) s0_0 bt383.2.1 bt383.2.2) else (none)) else (none)) else (none)) else (none)) else (none))))) = some (r1, r2, r3) := by first | (rw [hy380]; with_reducible exact H) | (have H2_ := (Option.bind_some _ _).symm.trans H; rw [hy380]; with_reducible exact H2_) | (have H2_ := (Option.bind_some _ _).symm.trans H; with_reducible exact H2_) | with_reducible exact H | (rw [hy380]; exact H) | exact H
      have Ny380 := Az_ hy380
      clear hy380
      replace H := bqz_ H; obtain ⟨⟨t383, t384, t385⟩, A14, H⟩ := H
      replace H : (if t383 = 0 then (if 0 ≤ t374 then (if t374 ≤ (x1_1.size : Int) then (if (x1_1.extract 0 (t374 : Int).toNat).size + (strOfNums y380).size ≤ 9223372036854775807 then (if ((x1_1.extract 0 (t374 : Int).toNat) ++ (strOfNums y380)).size + (x1_1.extract (t374 : Int).toNat x1_1.size).size ≤ 9223372036854775807 then (spec_l1Cur_spoilt.l0 kj5 (((x1_1.extract 0 (t374 : Int).toNat) ++ (strOfNums y380)) ++ (x1_1.extract (t374 : Int).toNat x1_1.size)) a2 (wrap64 (x7_1 - 1)) s0_0 t384 t385) else (none)) else (none)) else (none)) else (none)) else (if t383 = 1 then (if 0 ≤ t374 then (if t374 ≤ (x1_1.size : Int) then (if (x1_1.extract 0 (t374 : Int).toNat).size + (strOfNums y380).size ≤ 9223372036854775807 then (if 0 ≤ (wrap64 (t374 + 1)) then (if (wrap64 (t374 + 1)) ≤ (x1_1.size : Int) then (if ((x1_1.extract 0 (t374 : Int).toNat) ++ (strOfNums y380)).size + (x1_1.extract ((wrap64 (t374 + 1)) : Int).toNat x1_1.size).size ≤ 9223372036854775807 then (spec_l1Cur_spoilt.l0 kj5 (((x1_1.extract 0 (t374 : Int).toNat) ++ (strOfNums y380)) ++ (x1_1.extract ((wrap64 (t374 + 1)) : Int).toNat x1_1.size)) a2 (wrap64 (x7_1 - 1)) s0_0 t384 t385) else (none)) else (none)) else (none)) else (none)) else (none)) else (none)) else (if 0 ≤ t374 then (if t374 ≤ (x1_1.size : Int) then (if 0 ≤ (wrap64 (t374 + 1)) then (if (wrap64 (t374 + 1)) ≤ (x1_1.size : Int) then (if (x1_1.extract 0 (t374 : Int).toNat).size + (x1_1.extract ((wrap64 (t374 + 1)) : Int).toNat x1_1.size).size ≤ 9223372036854775807 then (spec_l1Cur_spoilt.l0 kj5 ((x1_1.extract 0 (t374 : Int).toNat) ++ (x1_1.extract ((wrap64 (t374 + 1)) : Int).toNat x1_1.size)) a2 (wrap64 (x7_1 - 1)) s0_0 t384 t385) else (none)) else (none)) else (none)) else (none)) else (none)))) = some (r1, r2, r3) := H
      by_cases c15 : t383 = 0
      ·rw [if_pos c15] at H
       have c15b0 : (t383 == 0) = true := beq_iff_eq.mpr c15
       have c15b1 : (t383 != 0) = false := bne_eq_false_iff_eq.mpr c15
       clear c15
       by_cases c16 : 0 ≤ t374; rotate_left
       ·rw [if_neg c16] at H
        exact absurd H (by simp)
       rw [if_pos c16] at H
       have c16b0 := eq_true c16
       have c16b1 := decide_eq_true c16
       clear c16
       by_cases c17 : t374 ≤ (x1_1.size : Int); rotate_left
       ·rw [if_neg c17] at H
        exact absurd H (by simp)
       rw [if_pos c17] at H
       have c17b0 := eq_true c17
       have c17b1 := decide_eq_true c17
       clear c17
       by_cases c18 : (x1_1.extract 0 (t374 : Int).toNat).size + (strOfNums y380).size ≤ 9223372036854775807; rotate_left
       ·rw [if_neg c18] at H
        exact absurd H (by simp)
       rw [if_pos c18] at H
       have c18b0 := eq_true c18
       have c18b1 := decide_eq_true c18
       try have c18b2 : (9223372036854775807 < (x1_1.extract 0 (t374 : Int).toNat).size + (strOfNums y380).size) = False := eq_false (Nat.not_lt.2 c18)
       have c19b0 := eq_true (od_ : 0 ≤ t374)
       have c20b0 := eq_true (od_ : t374 ≤ (x1_1.size : Int))
       by_cases c21 : ((x1_1.extract 0 (t374 : Int).toNat) ++ (strOfNums y380)).size + (x1_1.extract (t374 : Int).toNat x1_1.size).size ≤ 9223372036854775807; rotate_left
       ·rw [if_neg c21] at H
        exact absurd H (by simp)
       rw [if_pos c21] at H
       have c21b0 := eq_true c21
       have c21b1 := decide_eq_true c21
       try have c21b2 : (9223372036854775807 < ((x1_1.extract 0 (t374 : Int).toNat) ++ (strOfNums y380)).size + (x1_1.extract (t374 : Int).toNat x1_1.size).size) = False := eq_false (Nat.not_lt.2 c21)
       have H' := Az_ H
       clear H
       go_wp2_with (first | (go_at_call 96; (with_reducible refine (spec_l1Cur_pick.calls g s0_0 x1001_1 x1002_1 (x1_1.size : Int) t374 t375 t376 w0 _ ?side1 ?side2 A9.out).mono ?_); (case side1 => repeat (first | (with_reducible first | exact HI0.out | apply IsS111.alloc | apply IsS111.drewN | apply IsS111.drew | apply IsS111.set_1 | apply IsS111.set_2) | exact HI0.out)); (case side2 => repeat (first | (with_reducible first | exact HB.out | apply baz_ | apply bnz_ | apply bdz_ | refine bsz_ ?_ (IsS111.ge HI0.out)) | exact HB.out)); rintro e w22 ⟨rfl, hi, hb, hk⟩; replace HK := Az_ (KeepBut.trans (w74_) hk (.inl rfl)); replace HB := Az_ (hb); replace HI0 := Az_ (hi); (try clear hb); (try clear hk); (try clear hi)) | (go_at_call 96; (with_reducible refine (spec_l1Cur_pick.calls g s0_0 t375 t376 (a2.size : Int) t377 t378 t379 w0 _ ?side1 ?side2 A10.out).mono ?_); (case side1 => repeat (first | (with_reducible first | exact HI0.out | apply IsS111.alloc | apply IsS111.drewN | apply IsS111.drew | apply IsS111.set_1 | apply IsS111.set_2) | exact HI0.out)); (case side2 => repeat (first | (with_reducible first | exact HB.out | apply baz_ | apply bnz_ | apply bdz_ | refine bsz_ ?_ (IsS111.ge HI0.out)) | exact HB.out)); rintro e w23 ⟨rfl, hi, hb, hk⟩; replace HK := Az_ (KeepBut.trans (w74_) hk (.inl rfl)); replace HB := Az_ (hb); replace HI0 := Az_ (hi); (try clear hb); (try clear hk); (try clear hi); have p13 : 0 ≤ (t377 : Int) := od_; have q13 : t377 < (a2.size : Int) := od_; have hx13 := bt_at a2 t377; replace p13 := eq_true p13; replace q13 := eq_true q13) | ((with_reducible refine gate_dst (N := 32) rfl ?_); (try (refine gate_guard (by rfl) ?_; dsimp only)); refine Kd.R_lit (Kd.int .u8) _ 5 ?hg (N := 32) ?hd (xs := ([bt a2 t377] : List Int)) (inner := [.int .u8 (bt a2 t377)]) (ok := fun _ => True) (okp := fun _ => True) ?hr ?hp (fun _ hk => hk) trivial (Below.refl _ _) (Nat.le_refl _) (by simp) ?_; (case hd => rfl); (case hg => rfl); (case hr => first | (go_simp; done) | (go_simp; rfl)); (case hp => exact (Reps.one (show Kd.M (Kd.int .u8) _ _ _ (bt a2 t377) [.int .u8 (bt a2 t377)] from rfl) (Reps.none _ _))); intro v381 w24 ho25 hb hg_ hnew_; clear hg_ hnew_; (first | rw [← Ny380.out] at ho25 | (simp only [Int.reduceToNat] at ho25; rw [← Ny380.out] at ho25)); have HO382 := Az_ (Kd.R_lower ho25 (keep_size (w := w) (g := g) (row := none) (w74_))); replace HK := Az_ (KeepBut.trans (w74_) (KeepBut.of_below hb g none) (.inl rfl)); replace HB := Az_ (btz_ (w78_) hb); replace HI0 := Az_ (IsS111.below (w59_) hb); clear hb ho25; have hcv26 := own_string (P := Tryd.prog) Tryd.underlying22 Tryd.underlying5 Tryd.underlying9 (Kd.own_of_R HO382.out)) | (go_at_call 96; (with_reducible refine (spec_l1Cur_pick.calls g s0_0 t378 t379 3 t383 t384 t385 w0 _ ?side1 ?side2 A14.out).mono ?_); (case side1 => repeat (first | (with_reducible first | exact HI0.out | apply IsS111.alloc | apply IsS111.drewN | apply IsS111.drew | apply IsS111.set_1 | apply IsS111.set_2) | exact HI0.out)); (case side2 => repeat (first | (with_reducible first | exact HB.out | apply baz_ | apply bnz_ | apply bdz_ | refine bsz_ ?_ (IsS111.ge HI0.out)) | exact HB.out)); rintro e w27 ⟨rfl, hi, hb, hk⟩; replace HO382 := Az_ (Kd.R_mono (Kd.R_keep (IsS111.apart (show IsS111 w0 _ g s0_0 t378 t379 from w59_) (by exact urz_ HO382.out) (by decide)) hk (fun _ h => h.2)) (fun _ h => h.1)); replace HK := Az_ (KeepBut.trans (w74_) hk (.inl rfl)); replace HB := Az_ (hb); replace HI0 := Az_ (hi); (try clear hb); (try clear hk); (try clear hi)))
       repeat (go_quiet (fail); try go_wp2)
       go_roundg kj5
       case measure => have := HK1.out; have := HJ5.out; omega
       case rel => exact ⟨(((x1_1.extract 0 (t374 : Int).toNat) ++ (strOfNums y380)) ++ (x1_1.extract (t374 : Int).toNat x1_1.size)), (wrap64 (x7_1 - 1)), (t384), (t385), qaz_, qaz_, H', ⟨by have := HK1.out; have := HJ5.out; omega⟩, ⟨w59_⟩, ⟨w74_⟩, ⟨w78_⟩⟩
      rw [if_neg c15] at H
      have c15b0 : (t383 == 0) = false := beq_eq_false_iff_ne.mpr c15
      have c15b1 : (t383 != 0) = true := bne_iff_ne.mpr c15
      by_cases c28 : t383 = 1; rotate_left
      ·rw [if_neg c28] at H
       have c28b0 : (t383 == 1) = false := beq_eq_false_iff_ne.mpr c28
       have c28b1 : (t383 != 1) = true := bne_iff_ne.mpr c28
       by_cases c42 : 0 ≤ t374; rotate_left
       ·rw [if_neg c42] at H
        exact absurd H (by simp)
       rw [if_pos c42] at H
       have c42b0 := eq_true c42
       have c42b1 := decide_eq_true c42
       clear c42
       by_cases c43 : t374 ≤ (x1_1.size : Int); rotate_left
       ·rw [if_neg c43] at H
        exact absurd H (by simp)
       rw [if_pos c43] at H
       have c43b0 := eq_true c43
       have c43b1 := decide_eq_true c43
       clear c43
       obtain ⟨ji44, hji44⟩ : ∃ j_ : Int, (wrap64 (t374 + 1)) = j_ := ⟨_, rfl⟩
       replace H : (if 0 ≤ (ji44) then (if (ji44) ≤ (x1_1.size : Int) then (if (x1_1.extract 0 (t374 : Int).toNat).size + (x1_1.extract ((ji44) : Int).toNat x1_1.size).size ≤ 9223372036854775807 then (spec_l1Cur_spoilt.l0 kj5 ((x1_1.extract 0 (t374 : Int).toNat) ++ (x1_1.extract ((ji44) : Int).toNat x1_1.size)) a2 (wrap64 (x7_1 - 1)) s0_0 t384 t385) else (none)) else (none)) else (none)) = some (r1, r2, r3) := by first | (rw [hji44] at H; exact H) | (simp only [hji44] at H ⊢; exact H)
       (try rw [hji44] at A9)
       (try rw [hji44] at A10)
       (try rw [hji44] at A14)
       have hji44w : (IntKind.i64.wrap (t374 + 1)) = ji44 := (i64_w _).trans hji44
       by_cases c45 : 0 ≤ (ji44); rotate_left
       ·rw [if_neg c45] at H
        exact absurd H (by simp)
       rw [if_pos c45] at H
       have c45b0 := eq_true c45
       have c45b1 := decide_eq_true c45
       clear c45
       by_cases c46 : (ji44) ≤ (x1_1.size : Int); rotate_left
       ·rw [if_neg c46] at H
        exact absurd H (by simp)
       rw [if_pos c46] at H
       have c46b0 := eq_true c46
       have c46b1 := decide_eq_true c46
       clear c46
       by_cases c47 : (x1_1.extract 0 (t374 : Int).toNat).size + (x1_1.extract ((ji44) : Int).toNat x1_1.size).size ≤ 9223372036854775807; rotate_left
       ·rw [if_neg c47] at H
        exact absurd H (by simp)
       rw [if_pos c47] at H
       have c47b0 := eq_true c47
       have c47b1 := decide_eq_true c47
       try have c47b2 : (9223372036854775807 < (x1_1.extract 0 (t374 : Int).toNat).size + (x1_1.extract ((ji44) : Int).toNat x1_1.size).size) = False := eq_false (Nat.not_lt.2 c47)
       have H' := Az_ H
       clear H
       go_wp2_with (first | (go_at_call 96; (with_reducible refine (spec_l1Cur_pick.calls g s0_0 x1001_1 x1002_1 (x1_1.size : Int) t374 t375 t376 w0 _ ?side1 ?side2 A9.out).mono ?_); (case side1 => repeat (first | (with_reducible first | exact HI0.out | apply IsS111.alloc | apply IsS111.drewN | apply IsS111.drew | apply IsS111.set_1 | apply IsS111.set_2) | exact HI0.out)); (case side2 => repeat (first | (with_reducible first | exact HB.out | apply baz_ | apply bnz_ | apply bdz_ | refine bsz_ ?_ (IsS111.ge HI0.out)) | exact HB.out)); rintro e w48 ⟨rfl, hi, hb, hk⟩; replace HK := Az_ (KeepBut.trans (w74_) hk (.inl rfl)); replace HB := Az_ (hb); replace HI0 := Az_ (hi); (try clear hb); (try clear hk); (try clear hi)) | (go_at_call 96; (with_reducible refine (spec_l1Cur_pick.calls g s0_0 t375 t376 (a2.size : Int) t377 t378 t379 w0 _ ?side1 ?side2 A10.out).mono ?_); (case side1 => repeat (first | (with_reducible first | exact HI0.out | apply IsS111.alloc | apply IsS111.drewN | apply IsS111.drew | apply IsS111.set_1 | apply IsS111.set_2) | exact HI0.out)); (case side2 => repeat (first | (with_reducible first | exact HB.out | apply baz_ | apply bnz_ | apply bdz_ | refine bsz_ ?_ (IsS111.ge HI0.out)) | exact HB.out)); rintro e w49 ⟨rfl, hi, hb, hk⟩; replace HK := Az_ (KeepBut.trans (w74_) hk (.inl rfl)); replace HB := Az_ (hb); replace HI0 := Az_ (hi); (try clear hb); (try clear hk); (try clear hi); have p13 : 0 ≤ (t377 : Int) := od_; have q13 : t377 < (a2.size : Int) := od_; have hx13 := bt_at a2 t377; replace p13 := eq_true p13; replace q13 := eq_true q13) | ((with_reducible refine gate_dst (N := 32) rfl ?_); (try (refine gate_guard (by rfl) ?_; dsimp only)); refine Kd.R_lit (Kd.int .u8) _ 5 ?hg (N := 32) ?hd (xs := ([bt a2 t377] : List Int)) (inner := [.int .u8 (bt a2 t377)]) (ok := fun _ => True) (okp := fun _ => True) ?hr ?hp (fun _ hk => hk) trivial (Below.refl _ _) (Nat.le_refl _) (by simp) ?_; (case hd => rfl); (case hg => rfl); (case hr => first | (go_simp; done) | (go_simp; rfl)); (case hp => exact (Reps.one (show Kd.M (Kd.int .u8) _ _ _ (bt a2 t377) [.int .u8 (bt a2 t377)] from rfl) (Reps.none _ _))); intro v381 w50 ho51 hb hg_ hnew_; clear hg_ hnew_; (first | rw [← Ny380.out] at ho51 | (simp only [Int.reduceToNat] at ho51; rw [← Ny380.out] at ho51)); have HO382 := Az_ (Kd.R_lower ho51 (keep_size (w := w) (g := g) (row := none) (w74_))); replace HK := Az_ (KeepBut.trans (w74_) (KeepBut.of_below hb g none) (.inl rfl)); replace HB := Az_ (btz_ (w78_) hb); replace HI0 := Az_ (IsS111.below (w59_) hb); clear hb ho51; have hcv52 := own_string (P := Tryd.prog) Tryd.underlying22 Tryd.underlying5 Tryd.underlying9 (Kd.own_of_R HO382.out)) | (go_at_call 96; (with_reducible refine (spec_l1Cur_pick.calls g s0_0 t378 t379 3 t383 t384 t385 w0 _ ?side1 ?side2 A14.out).mono ?_); (case side1 => repeat (first | (with_reducible first | exact HI0.out | apply IsS111.alloc | apply IsS111.drewN | apply IsS111.drew | apply IsS111.set_1 | apply IsS111.set_2) | exact HI0.out)); (case side2 => repeat (first | (with_reducible first | exact HB.out | apply baz_ | apply bnz_ | apply bdz_ | refine bsz_ ?_ (IsS111.ge HI0.out)) | exact HB.out)); rintro e w53 ⟨rfl, hi, hb, hk⟩; replace HO382 := Az_ (Kd.R_mono (Kd.R_keep (IsS111.apart (show IsS111 w0 _ g s0_0 t378 t379 from w59_) (by exact urz_ HO382.out) (by decide)) hk (fun _ h => h.2)) (fun _ h => h.1)); replace HK := Az_ (KeepBut.trans (w74_) hk (.inl rfl)); replace HB := Az_ (hb); replace HI0 := Az_ (hi); (try clear hb); (try clear hk); (try clear hi)))
       repeat (go_quiet (fail); try go_wp2)
       go_roundg kj5
       case measure => have := HK1.out; have := HJ5.out; omega
       case rel => exact ⟨((x1_1.extract 0 (t374 : Int).toNat) ++ (x1_1.extract ((ji44) : Int).toNat x1_1.size)), (wrap64 (x7_1 - 1)), (t384), (t385), (by first | rfl | (simp; done) | (simp only [← hji44] <;> (first | rfl | simp)) | (simp [*]; done)), qaz_, H', ⟨by have := HK1.out; have := HJ5.out; omega⟩, ⟨w59_⟩, ⟨w74_⟩, ⟨w78_⟩⟩
      rw [if_pos c28] at H
      have c28b0 : (t383 == 1) = true := beq_iff_eq.mpr c28
      have c28b1 : (t383 != 1) = false := bne_eq_false_iff_eq.mpr c28
      clear c28
      by_cases c29 : 0 ≤ t374; rotate_left
      ·rw [if_neg c29] at H
       exact absurd H (by simp)
      rw [if_pos c29] at H
      have c29b0 := eq_true c29
      have c29b1 := decide_eq_true c29
      clear c29
      by_cases c30 : t374 ≤ (x1_1.size : Int); rotate_left
      ·rw [if_neg c30] at H
       exact absurd H (by simp)
      rw [if_pos c30] at H
      have c30b0 := eq_true c30
      have c30b1 := decide_eq_true c30
      clear c30
      by_cases c31 : (x1_1.extract 0 (t374 : Int).toNat).size + (strOfNums y380).size ≤ 9223372036854775807; rotate_left
      ·rw [if_neg c31] at H
       exact absurd H (by simp)
      rw [if_pos c31] at H
      have c31b0 := eq_true c31
      have c31b1 := decide_eq_true c31
      try have c31b2 : (9223372036854775807 < (x1_1.extract 0 (t374 : Int).toNat).size + (strOfNums y380).size) = False := eq_false (Nat.not_lt.2 c31)
      obtain ⟨ji32, hji32⟩ : ∃ j_ : Int, (wrap64 (t374 + 1)) = j_ := ⟨_, rfl⟩
      replace H : (if 0 ≤ (ji32) then (if (ji32) ≤ (x1_1.size : Int) then (if ((x1_1.extract 0 (t374 : Int).toNat) ++ (strOfNums y380)).size + (x1_1.extract ((ji32) : Int).toNat x1_1.size).size ≤ 9223372036854775807 then (spec_l1Cur_spoilt.l0 kj5 (((x1_1.extract 0 (t374 : Int).toNat) ++ (strOfNums y380)) ++ (x1_1.extract ((ji32) : Int).toNat x1_1.size)) a2 (wrap64 (x7_1 - 1)) s0_0 t384 t385) else (none)) else (none)) else (none)) = some (r1, r2, r3) := by first | (rw [hji32] at H; exact H) | (simp only [hji32] at H ⊢; exact H)
      (try rw [hji32] at A9)
      (try rw [hji32] at A10)
      (try rw [hji32] at A14)
      have hji32w : (IntKind.i64.wrap (t374 + 1)) = ji32 := (i64_w _).trans hji32
      by_cases c33 : 0 ≤ (ji32); rotate_left
      ·rw [if_neg c33] at H
       exact absurd H (by simp)
      rw [if_pos c33] at H
      have c33b0 := eq_true c33
      have c33b1 := decide_eq_true c33
      clear c33
      by_cases c34 : (ji32) ≤ (x1_1.size : Int); rotate_left
      ·rw [if_neg c34] at H
       exact absurd H (by simp)
      rw [if_pos c34] at H
      have c34b0 := eq_true c34
      have c34b1 := decide_eq_true c34
      clear c34
      by_cases c35 : ((x1_1.extract 0 (t374 : Int).toNat) ++ (strOfNums y380)).size + (x1_1.extract ((ji32) : Int).toNat x1_1.size).size ≤ 9223372036854775807; rotate_left
      ·rw [if_neg c35] at H
       exact absurd H (by simp)
      rw [if_pos c35] at H
      have c35b0 := eq_true c35
      have c35b1 := decide_eq_true c35
      try have c35b2 : (9223372036854775807 < ((x1_1.extract 0 (t374 : Int).toNat) ++ (strOfNums y380)).size + (x1_1.extract ((ji32) : Int).toNat x1_1.size).size) = False := eq_false (Nat.not_lt.2 c35)
      have H' := Az_ H
      clear H
      go_wp2_with (first | (go_at_call 96; (with_reducible refine (spec_l1Cur_pick.calls g s0_0 x1001_1 x1002_1 (x1_1.size : Int) t374 t375 t376 w0 _ ?side1 ?side2 A9.out).mono ?_); (case side1 => repeat (first | (with_reducible first | exact HI0.out | apply IsS111.alloc | apply IsS111.drewN | apply IsS111.drew | apply IsS111.set_1 | apply IsS111.set_2) | exact HI0.out)); (case side2 => repeat (first | (with_reducible first | exact HB.out | apply baz_ | apply bnz_ | apply bdz_ | refine bsz_ ?_ (IsS111.ge HI0.out)) | exact HB.out)); rintro e w36 ⟨rfl, hi, hb, hk⟩; replace HK := Az_ (KeepBut.trans (w74_) hk (.inl rfl)); replace HB := Az_ (hb); replace HI0 := Az_ (hi); (try clear hb); (try clear hk); (try clear hi)) | (go_at_call 96; (with_reducible refine (spec_l1Cur_pick.calls g s0_0 t375 t376 (a2.size : Int) t377 t378 t379 w0 _ ?side1 ?side2 A10.out).mono ?_); (case side1 => repeat (first | (with_reducible first | exact HI0.out | apply IsS111.alloc | apply IsS111.drewN | apply IsS111.drew | apply IsS111.set_1 | apply IsS111.set_2) | exact HI0.out)); (case side2 => repeat (first | (with_reducible first | exact HB.out | apply baz_ | apply bnz_ | apply bdz_ | refine bsz_ ?_ (IsS111.ge HI0.out)) | exact HB.out)); rintro e w37 ⟨rfl, hi, hb, hk⟩; replace HK := Az_ (KeepBut.trans (w74_) hk (.inl rfl)); replace HB := Az_ (hb); replace HI0 := Az_ (hi); (try clear hb); (try clear hk); (try clear hi); have p13 : 0 ≤ (t377 : Int) := od_; have q13 : t377 < (a2.size : Int) := od_; have hx13 := bt_at a2 t377; replace p13 := eq_true p13; replace q13 := eq_true q13) | ((with_reducible refine gate_dst (N := 32) rfl ?_); (try (refine gate_guard (by rfl) ?_; dsimp only)); refine Kd.R_lit (Kd.int .u8) _ 5 ?hg (N := 32) ?hd (xs := ([bt a2 t377] : List Int)) (inner := [.int .u8 (bt a2 t377)]) (ok := fun _ => True) (okp := fun _ => True) ?hr ?hp (fun _ hk => hk) trivial (Below.refl _ _) (Nat.le_refl _) (by simp) ?_; (case hd => rfl); (case hg => rfl); (case hr => first | (go_simp; done) | (go_simp; rfl)); (case hp => exact (Reps.one (show Kd.M (Kd.int .u8) _ _ _ (bt a2 t377) [.int .u8 (bt a2 t377)] from rfl) (Reps.none _ _))); intro v381 w38 ho39 hb hg_ hnew_; clear hg_ hnew_; (first | rw [← Ny380.out] at ho39 | (simp only [Int.reduceToNat] at ho39; rw [← Ny380.out] at ho39)); have HO382 := Az_ (Kd.R_lower ho39 (keep_size (w := w) (g := g) (row := none) (w74_))); replace HK := Az_ (KeepBut.trans (w74_) (KeepBut.of_below hb g none) (.inl rfl)); replace HB := Az_ (btz_ (w78_) hb); replace HI0 := Az_ (IsS111.below (w59_) hb); clear hb ho39; have hcv40 := own_string (P := Tryd.prog) Tryd.underlying22 Tryd.underlying5 Tryd.underlying9 (Kd.own_of_R HO382.out)) | (go_at_call 96; (with_reducible refine (spec_l1Cur_pick.calls g s0_0 t378 t379 3 t383 t384 t385 w0 _ ?side1 ?side2 A14.out).mono ?_); (case side1 => repeat (first | (with_reducible first | exact HI0.out | apply IsS111.alloc | apply IsS111.drewN | apply IsS111.drew | apply IsS111.set_1 | apply IsS111.set_2) | exact HI0.out)); (case side2 => repeat (first | (with_reducible first | exact HB.out | apply baz_ | apply bnz_ | apply bdz_ | refine bsz_ ?_ (IsS111.ge HI0.out)) | exact HB.out)); rintro e w41 ⟨rfl, hi, hb, hk⟩; replace HO382 := Az_ (Kd.R_mono (Kd.R_keep (IsS111.apart (show IsS111 w0 _ g s0_0 t378 t379 from w59_) (by exact urz_ HO382.out) (by decide)) hk (fun _ h => h.2)) (fun _ h => h.1)); replace HK := Az_ (KeepBut.trans (w74_) hk (.inl rfl)); replace HB := Az_ (hb); replace HI0 := Az_ (hi); (try clear hb); (try clear hk); (try clear hi)))
      repeat (go_quiet (fail); try go_wp2)
      go_roundg kj5
      case measure => have := HK1.out; have := HJ5.out; omega
      case rel => exact ⟨(((x1_1.extract 0 (t374 : Int).toNat) ++ (strOfNums y380)) ++ (x1_1.extract ((ji32) : Int).toNat x1_1.size)), (wrap64 (x7_1 - 1)), (t384), (t385), (by first | rfl | (simp; done) | (simp only [← hji32] <;> (first | rfl | simp)) | (simp [*]; done)), qaz_, H', ⟨by have := HK1.out; have := HJ5.out; omega⟩, ⟨w59_⟩, ⟨w74_⟩, ⟨w78_⟩⟩
     ·replace c8 := Bool.eq_false_iff.mpr c8
      subst c8
      rw [if_neg nfz_] at H
      simp only [Option.some.injEq, Prod.mk.injEq] at H
      obtain ⟨rfl, rfl, rfl⟩ := H
      go_wp2
      go_ret
      exact ⟨w116_, w59_, w78_, w74_⟩

def spec_DrawLongRange.f (k : Nat) (l0 : List Int) : Option (ByteArray) := (spec_l1Cur_pick.f l0 0 0 140).bind fun bt387 => ((spec_l1Cur_pick.f l0 bt387.2.1 bt387.2.2 30).bind fun bt390 => ((spec_ixShort.f k (wrap64 (1 + bt387.1)) (wrap64 ((wrap64 (1 + bt387.1)) + bt390.1))).bind fun t393 => ((spec_l1Cur_one.f l0 bt390.2.1 bt390.2.2 3).bind fun bt394 => (if bt394.1 = true then ((spec_l1Cur_spoilt.f k l0 bt394.2.1 bt394.2.2 t393 (⟨#[48, 49, 50, 51, 45, 120]⟩ : ByteArray)).bind fun bt397 => (some bt397.1)) else (some t393)))))
set_option maxHeartbeats 8000000 in
set_option maxRecDepth 100000 in
theorem spec_DrawLongRange.calls (k : Nat) (A0 : Option Addr) (c0 : Nat) (l0 : List Int) (r : ByteArray) (w : World) (hr0 : Kd.C (Kd.int .u8) w A0 l0.length l0) (hc0 : l0.length ≤ c0) (h : spec_DrawLongRange.f k l0 = some r) :
  Calls Tryd.prog 88 #[.slice A0 l0.length c0] w fun e w' => e = .returned (.string r) ∧ Below w.heap.size w w' := by
 have hu111 := Tryd.underlying111
 have hu100 := Tryd.underlying100
 have HR0 := Az_ hr0
 have HC0 := Az_ hc0
 clear hr0 hc0
 have HB := Az_ (Below.refl w.heap.size w)
 have H : ((spec_l1Cur_pick.f l0 0 0 140).bind fun bt387 => ((spec_l1Cur_pick.f l0 bt387.2.1 bt387.2.2 30).bind fun bt390 => ((spec_ixShort.f k (wrap64 (1 + bt387.1)) (wrap64 ((wrap64 (1 + bt387.1)) + bt390.1))).bind fun t393 => ((spec_l1Cur_one.f l0 bt390.2.1 bt390.2.2 3).bind fun bt394 => (if bt394.1 = true then ((spec_l1Cur_spoilt.f k l0 bt394.2.1 bt394.2.2 t393 (⟨#[48, 49, 50, 51, 45, 120]⟩ : ByteArray)).bind fun bt397 => (some bt397.1)) else (some t393)))))) = some r := h
 clear h
 replace H := bqz_ H; obtain ⟨⟨t387, t388, t389⟩, A2, H⟩ := H
 replace H := bqz_ H; obtain ⟨⟨t390, t391, t392⟩, A3, H⟩ := H
 replace H := bqz_ H; obtain ⟨t393, A4, H⟩ := H
 replace H := bqz_ H; obtain ⟨⟨t394, t395, t396⟩, A5, H⟩ := H
 replace H : (if t394 = true then ((spec_l1Cur_spoilt.f k l0 t395 t396 t393 (⟨#[48, 49, 50, 51, 45, 120]⟩ : ByteArray)).bind fun bt397 => (some bt397.1)) else (some t393)) = some r := H
 by_cases c6 : t394 = true
 ·subst c6
  rw [if_pos rfl] at H
  replace H := bqz_ H; obtain ⟨⟨t397, t398, t399⟩, A7, H⟩ := H
  replace H : (some t397) = some r := H
  obtain rfl := Option.some.inj H
  go_enter Tryd.func88, Tryd.ntmps88
  go_wp2_with (first | ((with_reducible refine gate_dst (N := 8) rfl ?_); refine box_event ?hg (N := 8) ?hd (cs := #[.slice A0 l0.length c0, .int .i64 0, .int .u64 0]) (t := 111) ?hr ?_; (case hd => rfl); (case hg => rfl); (case hr => first | (go_simp; done) | (go_simp; rfl)); intro gb386 hg w8 hbox hb; have BK386 := Az_ (hbox); have GW386 := Az_ ((by rw [hg]; exact (below_size (ubz_ HB.out)) : w.heap.size ≤ gb386)); have GE386 := Az_ ((by rw [hg]; exact (below_size (ubz_ HB.out)) : w.heap.size ≤ gb386)); replace HB := Az_ (btz_ (ubz_ HB.out) hb); clear hb hbox hg) | ((with_reducible refine gate_callee (f := 96) rfl ?_); refine goesL_ (some 10) rfl rfl Tryd.func96 (w162_) rfl #[.pointer (some ⟨gb386, 0, none⟩), .int .i64 140] rfl maz_ ?_; have HI386 := Az_ (show IsS111 w w8 gb386 l0 0 0 from ⟨_, _, BK386.out, GE386.out, HR0.out⟩); (with_reducible refine (spec_l1Cur_pick.calls gb386 l0 0 0 140 t387 t388 t389 w _ ?side1 ?side2 A2.out).mono ?_); (case side1 => repeat (first | (with_reducible first | exact HI386.out | apply IsS111.alloc | apply IsS111.drewN | apply IsS111.drew | apply IsS111.set_1 | apply IsS111.set_2) | exact HI386.out)); (case side2 => repeat (first | (with_reducible first | exact HB.out | apply baz_ | apply bnz_ | apply bdz_ | refine bsz_ ?_ (IsS111.ge HI386.out)) | exact HB.out)); rintro e w9 ⟨rfl, hi, hb, hk⟩; refine ⟨_, rfl, ?_⟩; replace HB := Az_ (hb); replace HI386 := Az_ (hi); (try clear hb); (try clear hk); (try clear hi)) | ((with_reducible refine gate_callee (f := 96) rfl ?_); refine goesL_ (some 15) rfl rfl Tryd.func96 (w162_) rfl #[.pointer (some ⟨gb386, 0, none⟩), .int .i64 30] rfl maz_ ?_; (with_reducible refine (spec_l1Cur_pick.calls gb386 l0 t388 t389 30 t390 t391 t392 w _ ?side1 ?side2 A3.out).mono ?_); (case side1 => repeat (first | (with_reducible first | exact HI386.out | apply IsS111.alloc | apply IsS111.drewN | apply IsS111.drew | apply IsS111.set_1 | apply IsS111.set_2) | exact HI386.out)); (case side2 => repeat (first | (with_reducible first | exact HB.out | apply baz_ | apply bnz_ | apply bdz_ | refine bsz_ ?_ (IsS111.ge HI386.out)) | exact HB.out)); rintro e w10 ⟨rfl, hi, hb, hk⟩; refine ⟨_, rfl, ?_⟩; replace HB := Az_ (hb); replace HI386 := Az_ (hi); (try clear hb); (try clear hk); (try clear hi)) | ((with_reducible refine gate_callee (f := 165) rfl ?_); refine goesL_ (some 18) rfl rfl Tryd.func165 (w162_) rfl #[.agg #[.int .i64 (wrap64 (1 + t387)), .int .i64 (wrap64 ((wrap64 (1 + t387)) + t390))]] rfl maz_ ?_; (with_reducible refine (spec_ixShort.calls k (wrap64 (1 + t387)) (wrap64 ((wrap64 (1 + t387)) + t390)) t393 _ A4.out).mono ?_); rintro e w11 ⟨rfl, hb⟩; refine ⟨_, rfl, ?_⟩; replace HB := Az_ (btz_ (w73_) hb); replace HI386 := Az_ (IsS111.below (w58_) hb); (try clear hb); (try clear hk); (try clear hi)) | ((with_reducible refine gate_callee (f := 93) rfl ?_); refine goesL_ (some 20) rfl rfl Tryd.func93 (w162_) rfl #[.pointer (some ⟨gb386, 0, none⟩), .int .i64 3] rfl maz_ ?_; (with_reducible refine (spec_l1Cur_one.calls gb386 l0 t391 t392 3 true t395 t396 w _ ?side1 ?side2 A5.out).mono ?_); (case side1 => repeat (first | (with_reducible first | exact HI386.out | apply IsS111.alloc | apply IsS111.drewN | apply IsS111.drew | apply IsS111.set_1 | apply IsS111.set_2) | exact HI386.out)); (case side2 => repeat (first | (with_reducible first | exact HB.out | apply baz_ | apply bnz_ | apply bdz_ | refine bsz_ ?_ (IsS111.ge HI386.out)) | exact HB.out)); rintro e w12 ⟨rfl, hi, hb, hk⟩; refine ⟨_, rfl, ?_⟩; replace HB := Az_ (hb); replace HI386 := Az_ (hi); (try clear hb); (try clear hk); (try clear hi)) | ((with_reducible refine gate_callee (f := 146) rfl ?_); refine goesL_ (some 23) rfl rfl Tryd.func146 (w162_) rfl #[.pointer (some ⟨gb386, 0, none⟩), .string t393, .string (⟨#[48, 49, 50, 51, 45, 120]⟩ : ByteArray)] rfl maz_ ?_; (with_reducible refine (spec_l1Cur_spoilt.calls k gb386 l0 t395 t396 t393 (⟨#[48, 49, 50, 51, 45, 120]⟩ : ByteArray) t397 t398 t399 w _ ?side1 ?side2 A7.out).mono ?_); (case side1 => repeat (first | (with_reducible first | exact HI386.out | apply IsS111.alloc | apply IsS111.drewN | apply IsS111.drew | apply IsS111.set_1 | apply IsS111.set_2) | exact HI386.out)); (case side2 => repeat (first | (with_reducible first | exact HB.out | apply baz_ | apply bnz_ | apply bdz_ | refine bsz_ ?_ (IsS111.ge HI386.out)) | exact HB.out)); rintro e w13 ⟨rfl, hi, hb, hk⟩; refine ⟨_, rfl, ?_⟩; replace HB := Az_ (hb); replace HI386 := Az_ (hi); (try clear hb); (try clear hk); (try clear hi)))
  go_ret
  exact ⟨w116_, w73_⟩
 ·replace c6 := Bool.eq_false_iff.mpr c6
  subst c6
  rw [if_neg nfz_] at H
  obtain rfl := Option.some.inj H
  go_enter Tryd.func88, Tryd.ntmps88
  go_wp2_with (first | ((with_reducible refine gate_dst (N := 8) rfl ?_); refine box_event ?hg (N := 8) ?hd (cs := #[.slice A0 l0.length c0, .int .i64 0, .int .u64 0]) (t := 111) ?hr ?_; (case hd => rfl); (case hg => rfl); (case hr => first | (go_simp; done) | (go_simp; rfl)); intro gb386 hg w14 hbox hb; have BK386 := Az_ (hbox); have GW386 := Az_ ((by rw [hg]; exact (below_size (ubz_ HB.out)) : w.heap.size ≤ gb386)); have GE386 := Az_ ((by rw [hg]; exact (below_size (ubz_ HB.out)) : w.heap.size ≤ gb386)); replace HB := Az_ (btz_ (ubz_ HB.out) hb); clear hb hbox hg) | ((with_reducible refine gate_callee (f := 96) rfl ?_); refine goesL_ (some 10) rfl rfl Tryd.func96 (w162_) rfl #[.pointer (some ⟨gb386, 0, none⟩), .int .i64 140] rfl maz_ ?_; have HI386 := Az_ (show IsS111 w w14 gb386 l0 0 0 from ⟨_, _, BK386.out, GE386.out, HR0.out⟩); (with_reducible refine (spec_l1Cur_pick.calls gb386 l0 0 0 140 t387 t388 t389 w _ ?side1 ?side2 A2.out).mono ?_); (case side1 => repeat (first | (with_reducible first | exact HI386.out | apply IsS111.alloc | apply IsS111.drewN | apply IsS111.drew | apply IsS111.set_1 | apply IsS111.set_2) | exact HI386.out)); (case side2 => repeat (first | (with_reducible first | exact HB.out | apply baz_ | apply bnz_ | apply bdz_ | refine bsz_ ?_ (IsS111.ge HI386.out)) | exact HB.out)); rintro e w15 ⟨rfl, hi, hb, hk⟩; refine ⟨_, rfl, ?_⟩; replace HB := Az_ (hb); replace HI386 := Az_ (hi); (try clear hb); (try clear hk); (try clear hi)) | ((with_reducible refine gate_callee (f := 96) rfl ?_); refine goesL_ (some 15) rfl rfl Tryd.func96 (w162_) rfl #[.pointer (some ⟨gb386, 0, none⟩), .int .i64 30] rfl maz_ ?_; (with_reducible refine (spec_l1Cur_pick.calls gb386 l0 t388 t389 30 t390 t391 t392 w _ ?side1 ?side2 A3.out).mono ?_); (case side1 => repeat (first | (with_reducible first | exact HI386.out | apply IsS111.alloc | apply IsS111.drewN | apply IsS111.drew | apply IsS111.set_1 | apply IsS111.set_2) | exact HI386.out)); (case side2 => repeat (first | (with_reducible first | exact HB.out | apply baz_ | apply bnz_ | apply bdz_ | refine bsz_ ?_ (IsS111.ge HI386.out)) | exact HB.out)); rintro e w16 ⟨rfl, hi, hb, hk⟩; refine ⟨_, rfl, ?_⟩; replace HB := Az_ (hb); replace HI386 := Az_ (hi); (try clear hb); (try clear hk); (try clear hi)) | ((with_reducible refine gate_callee (f := 165) rfl ?_); refine goesL_ (some 18) rfl rfl Tryd.func165 (w162_) rfl #[.agg #[.int .i64 (wrap64 (1 + t387)), .int .i64 (wrap64 ((wrap64 (1 + t387)) + t390))]] rfl maz_ ?_; (with_reducible refine (spec_ixShort.calls k (wrap64 (1 + t387)) (wrap64 ((wrap64 (1 + t387)) + t390)) t393 _ A4.out).mono ?_); rintro e w17 ⟨rfl, hb⟩; refine ⟨_, rfl, ?_⟩; replace HB := Az_ (btz_ (w73_) hb); replace HI386 := Az_ (IsS111.below (w58_) hb); (try clear hb); (try clear hk); (try clear hi)) | ((with_reducible refine gate_callee (f := 93) rfl ?_); refine goesL_ (some 20) rfl rfl Tryd.func93 (w162_) rfl #[.pointer (some ⟨gb386, 0, none⟩), .int .i64 3] rfl maz_ ?_; (with_reducible refine (spec_l1Cur_one.calls gb386 l0 t391 t392 3 false t395 t396 w _ ?side1 ?side2 A5.out).mono ?_); (case side1 => repeat (first | (with_reducible first | exact HI386.out | apply IsS111.alloc | apply IsS111.drewN | apply IsS111.drew | apply IsS111.set_1 | apply IsS111.set_2) | exact HI386.out)); (case side2 => repeat (first | (with_reducible first | exact HB.out | apply baz_ | apply bnz_ | apply bdz_ | refine bsz_ ?_ (IsS111.ge HI386.out)) | exact HB.out)); rintro e w18 ⟨rfl, hi, hb, hk⟩; refine ⟨_, rfl, ?_⟩; replace HB := Az_ (hb); replace HI386 := Az_ (hi); (try clear hb); (try clear hk); (try clear hi)))
  go_ret
  exact ⟨w116_, w73_⟩

end Go.Proofs.YtppbpefehpbejaaDoor.P
end

section
namespace Go.Proofs.YtppbpefehpbejaaDoor.P
open Go.RowKit Go.Proofs.YtppbpefehpbejaaDoorW.PrintWords Go.Proofs.YtppbpefehpbejaaDoorW.PrintLast Go.Proofs.YtppbpefehpbejaaDoorW.PrintMore
set_option linter.unusedVariables false

def strcut.f (s sep : ByteArray) : Option (ByteArray × ByteArray × Bool) :=
  if s.size < 4294967281 then some (⟨(Lib.cut s.data.toList sep.data.toList).1.toArray⟩, ⟨(Lib.cut s.data.toList sep.data.toList).2.1.toArray⟩, (Lib.cut s.data.toList sep.data.toList).2.2) else none
theorem strcut.calls (s sep : ByteArray) (r1 r2 : ByteArray) (r3 : Bool) (w : World) (hT : LibW w) (h : strcut.f s sep = some (r1, r2, r3)) :
    Calls Tryd.prog 196 #[.string s, .string sep] w fun e w' => e = .returned (.tuple #[.string r1, .string r2, .bool r3]) ∧ Below w.heap.size w w' := by
  unfold strcut.f at h
  by_cases hn : s.size < 4294967281; rotate_left
  · rw [if_neg hn] at h
    cases h
  rw [if_pos hn] at h
  simp only [Option.some.injEq, Prod.mk.injEq] at h
  obtain ⟨rfl, rfl, rfl⟩ := h
  obtain ⟨m, hm⟩ := hT.2.1
  refine (Tryd.strings_Cut s sep m w hn hm).mono fun e w' ⟨he, n, hw⟩ => ⟨he, ?_⟩
  subst hw
  exact pw_below_drewN (Below.refl _ _) n
end Go.Proofs.YtppbpefehpbejaaDoor.P
end

section
namespace Go.Proofs.YtppbpefehpbejaaDoor.P
open Go.RowKit Go.Proofs.YtppbpefehpbejaaDoorW.PrintWords Go.Proofs.YtppbpefehpbejaaDoorW.PrintLast Go.Proofs.YtppbpefehpbejaaDoorW.PrintMore
attribute [local go_sem] max2_int min2_int max_two min_two max_three min_three max_four min_four   -- for this text's walks alone
set_option linter.unusedVariables false
set_option linter.unusedSimpArgs false

mutual
def impl_longRange.j1 : Nat → ByteArray → ByteArray → ByteArray → Option (Int × Int × Bool)
 | 0, _, _, _ => none
 | k + 1, x0, x4, x7 => (atoi.f x4).bind fun bt404 => ((atoi.f x7).bind fun bt406 => (if bt404.2.isNone = true then (if bt406.2.isNone = true then ((impl_isRange.f bt404.1 bt406.1).bind fun t411 => (if t411 = true then ((impl_shortRange.f k bt404.1 bt406.1).bind fun t412 => (if t412.toList = x0.toList then (some (bt404.1, bt406.1, true)) else (some (0, 0, false)))) else (some (0, 0, false)))) else (some (0, 0, false))) else (some (0, 0, false))))
def impl_longRange.j0 : Nat → ByteArray → ByteArray → ByteArray → Bool → ByteArray → Bool → Option (Int × Int × Bool)
 | 0, _, _, _, _, _, _ => none
 | k + 1, x0, x4, x5, x6, x7, x20 => if x20 = true then (if 0 ≤ (wrap64 ((x4.size : Int) - (x5.size : Int))) then (if (wrap64 ((x4.size : Int) - (x5.size : Int))) ≤ (x4.size : Int) then (if (x4.extract 0 ((wrap64 ((x4.size : Int) - (x5.size : Int))) : Int).toNat).size + x5.size ≤ 9223372036854775807 then (impl_longRange.j1 k x0 x4 ((x4.extract 0 ((wrap64 ((x4.size : Int) - (x5.size : Int))) : Int).toNat) ++ x5)) else (none)) else (none)) else (none)) else (if x6 = true then (impl_longRange.j1 k x0 x4 x5) else (impl_longRange.j1 k x0 x4 x7))
end
def impl_longRange.f (k : Nat) (a0 : ByteArray) : Option (Int × Int × Bool) := (strcut.f a0 (⟨#[45]⟩ : ByteArray)).bind fun bt401 => (if bt401.2.2 = true then (impl_longRange.j0 k a0 bt401.1 bt401.2.1 bt401.2.2 bt401.1 (decide ((bt401.2.1.size : Int) < (bt401.1.size : Int)))) else (impl_longRange.j0 k a0 bt401.1 bt401.2.1 bt401.2.2 bt401.1 false))
set_option maxHeartbeats 8000000 in
set_option maxRecDepth 100000 in
theorem impl_longRange.calls (k : Nat) (a0 : ByteArray) (r1 : Int) (r2 : Int) (r3 : Bool) (w : World) (hT : LibW w) (h : impl_longRange.f k a0 = some (r1, r2, r3)) :
  Calls Tryd.prog 166 #[.string a0] w fun e w' => e = .returned (.tuple #[.agg #[.int .i64 r1, .int .i64 r2], .bool r3]) ∧ Below w.heap.size w w' := by
 have HTAB := Az_ hT
 clear hT
 have hu100 := Tryd.underlying100
 have hu177 := Tryd.underlying177
 have HB := Az_ (Below.refl w.heap.size w)
 have H : ((strcut.f a0 (⟨#[45]⟩ : ByteArray)).bind fun bt401 => (if bt401.2.2 = true then (j0 k a0 bt401.1 bt401.2.1 bt401.2.2 bt401.1 (decide ((bt401.2.1.size : Int) < (bt401.1.size : Int)))) else (j0 k a0 bt401.1 bt401.2.1 bt401.2.2 bt401.1 false))) = some (r1, r2, r3) := h
 clear h
 replace H := bqz_ H; obtain ⟨⟨t401, t402, t403⟩, A2, H⟩ := H
 replace H : (if t403 = true then (j0 k a0 t401 t402 t403 t401 (decide ((t402.size : Int) < (t401.size : Int)))) else (j0 k a0 t401 t402 t403 t401 false)) = some (r1, r2, r3) := H
 have HC3 := Az_ H
 clear H
 go_enter Tryd.func166, Tryd.ntmps166
 go_upto_block 0 with (first | ((with_reducible refine gate_dst (N := 2) rfl ?_); (try (refine gate_guard (by rfl) ?_; dsimp only)); refine box_event ?hg (N := 2) ?hd (cs := #[.int .i64 0, .int .i64 0]) (t := 100) ?hr ?_; (case hd => rfl); (case hg => rfl); (case hr => first | (go_simp; done) | (go_simp; rfl)); intro gb400 hg w4 hbox hb; have BK400 := Az_ (hbox); have GW400 := Az_ ((by rw [hg]; exact (below_size (ubz_ HB.out)) : w.heap.size ≤ gb400)); have GE400 := Az_ ((by rw [hg]; exact (below_size (ubz_ HB.out)) : w.heap.size ≤ gb400)); replace HB := Az_ (btz_ (ubz_ HB.out) hb); clear hb hbox hg) | ((with_reducible refine gate_callee (f := 196) rfl ?_); refine goesL_ (some 15) rfl rfl Tryd.func196 (w162_) rfl #[.string a0, .string (⟨#[45]⟩ : ByteArray)] rfl maz_ ?_; (with_reducible refine (strcut.calls a0 (⟨#[45]⟩ : ByteArray) t401 t402 t403 _ (libW_below HTAB.out (w79_)) A2.out).mono ?_); rintro e w5 ⟨rfl, hb⟩; refine ⟨_, rfl, ?_⟩; have n1_ := Az_ (btz_ (w79_) hb); clear HB; replace BK400 := Az_ (ukbz_ BK400.out hb); have HB := n1_; clear n1_; (try clear hb)))
 (try simp only [Act.put, List.setIfInBounds_toArray, List.set_cons_zero, List.set_cons_succ])
 go_cut [7] (fun v7 wc => ∃ (kq : Nat) (x7_2 : ByteArray), v7 = .string x7_2 ∧ Aside0 (j1 kq a0 t401 x7_2 = some (r1, r2, r3)) ∧ Aside0 (kq ≤ k) ∧ Aside0 (wc.heap[gb400]? = some (.cells #[.int .i64 0, .int .i64 0] 100 (0, 0))) ∧ Aside0 (Below w.heap.size w wc))
 case first =>
  have H := HC3.out
  clear HC3
  have HC6 := Az_ H
  clear H
  go_upto_region 3 with (fail)
  go_cut [20] (fun v20 wc => ∃ (kq : Nat) (x20_5 : Bool), v20 = .bool x20_5 ∧ Aside0 (j0 kq a0 t401 t402 t403 t401 x20_5 = some (r1, r2, r3)) ∧ Aside0 (kq ≤ k) ∧ Aside0 (wc.heap[gb400]? = some (.cells #[.int .i64 0, .int .i64 0] 100 (0, 0))) ∧ Aside0 (Below w.heap.size w wc))
  case first =>
   have H := HC6.out
   clear HC6
   by_cases c7 : t403 = true
   ·subst c7
    rw [if_pos rfl] at H
    have H' := Az_ H
    clear H
    go_wp2
    go_meet
    case rel => exact ⟨_, (decide ((t402.size : Int) < (t401.size : Int))), qaz_, H', ⟨w141_⟩, ⟨w106_⟩, ⟨w79_⟩⟩
   replace c7 := Bool.eq_false_iff.mpr c7
   subst c7
   rw [if_neg nfz_] at H
   have H' := Az_ H
   clear H
   go_wp2
   go_meet
   case rel => exact ⟨_, (false), qaz_, H', ⟨w141_⟩, ⟨w106_⟩, ⟨w79_⟩⟩
  case rest =>
   clear HC6
   obtain ⟨kq, x20_5, rfl, HA, HJ5, BK400, HB⟩ := hcut
   cases kq with
   | zero => exact absurd HA.out (by simp [j0])
   | succ kj5 =>
    have H := HA.out
    clear HA
    simp only [j0] at H
    by_cases c8 : x20_5 = true; rotate_left
    ·replace c8 := Bool.eq_false_iff.mpr c8
     subst c8
     rw [if_neg nfz_] at H
     by_cases c13 : t403 = true
     ·subst c13
      rw [if_pos rfl] at H
      have H' := Az_ H
      clear H
      go_wp2
      go_meet
      case rel => exact ⟨_, (t402), qaz_, H', ⟨by have := HJ5.out; first | omega | exact Nat.le_refl _⟩, ⟨w106_⟩, ⟨w79_⟩⟩
     replace c13 := Bool.eq_false_iff.mpr c13
     subst c13
     rw [if_neg nfz_] at H
     have H' := Az_ H
     clear H
     go_wp2
     go_meet
     case rel => exact ⟨_, (t401), qaz_, H', ⟨by have := HJ5.out; first | omega | exact Nat.le_refl _⟩, ⟨w106_⟩, ⟨w79_⟩⟩
    subst c8
    rw [if_pos rfl] at H
    obtain ⟨ji9, hji9⟩ : ∃ j_ : Int, (wrap64 ((t401.size : Int) - (t402.size : Int))) = j_ := ⟨_, rfl⟩
    replace H : (if 0 ≤ (ji9) then (if (ji9) ≤ (t401.size : Int) then (if (t401.extract 0 ((ji9) : Int).toNat).size + t402.size ≤ 9223372036854775807 then (j1 kj5 a0 t401 ((t401.extract 0 ((ji9) : Int).toNat) ++ t402)) else (none)) else (none)) else (none)) = some (r1, r2, r3) := by first | (rw [hji9] at H; exact H) | (simp only [hji9] at H ⊢; exact H)
    have hji9w : (IntKind.i64.wrap ((t401.size : Int) - (t402.size : Int))) = ji9 := (i64_w _).trans hji9
    by_cases c10 : 0 ≤ (ji9); rotate_left
    ·rw [if_neg c10] at H
     exact absurd H (by simp)
    rw [if_pos c10] at H
    have c10b0 := eq_true c10
    have c10b1 := decide_eq_true c10
    clear c10
    by_cases c11 : (ji9) ≤ (t401.size : Int); rotate_left
    ·rw [if_neg c11] at H
     exact absurd H (by simp)
    rw [if_pos c11] at H
    have c11b0 := eq_true c11
    have c11b1 := decide_eq_true c11
    clear c11
    by_cases c12 : (t401.extract 0 ((ji9) : Int).toNat).size + t402.size ≤ 9223372036854775807; rotate_left
    ·rw [if_neg c12] at H
     exact absurd H (by simp)
    rw [if_pos c12] at H
    have c12b0 := eq_true c12
    have c12b1 := decide_eq_true c12
    try have c12b2 : (9223372036854775807 < (t401.extract 0 ((ji9) : Int).toNat).size + t402.size) = False := eq_false (Nat.not_lt.2 c12)
    try have c12b3 : (9223372036854775807 < ji9.toNat + t402.size) = False := by (have h_ := c12; rw [ByteArray.size_extract, Nat.sub_zero, Nat.min_eq_left (by have g_ : ji9 ≤ (t401.size : Int) := of_decide_eq_true (by assumption); omega)] at h_; exact eq_false (Nat.not_lt.2 h_))
    have H' := Az_ H
    clear H
    go_wp2
    go_meet
    case rel => exact ⟨_, ((t401.extract 0 ((ji9) : Int).toNat) ++ t402), (by first | rfl | (simp; done) | (simp only [← hji9] <;> (first | rfl | simp)) | (simp [*]; done)), H', ⟨by have := HJ5.out; first | omega | exact Nat.le_refl _⟩, ⟨w106_⟩, ⟨w79_⟩⟩
 case rest =>
  clear HC3
  obtain ⟨kq, x7_2, rfl, HA, HJ2, BK400, HB⟩ := hcut
  cases kq with
  | zero => exact absurd HA.out (by simp [j1])
  | succ kj2 =>
   have H := HA.out
   clear HA
   simp only [j1] at H
   replace H := bqz_ H; obtain ⟨⟨t404, t405⟩, A14, H⟩ := H
   replace H := bqz_ H; obtain ⟨⟨t406, t407⟩, A15, H⟩ := H
   replace H : (if t405.isNone = true then (if t407.isNone = true then ((impl_isRange.f t404 t406).bind fun t411 => (if t411 = true then ((impl_shortRange.f kj2 t404 t406).bind fun t412 => (if t412.toList = a0.toList then (some (t404, t406, true)) else (some (0, 0, false)))) else (some (0, 0, false)))) else (some (0, 0, false))) else (some (0, 0, false))) = some (r1, r2, r3) := H
   rcases t405 with _ | q409
   ·have H1 : (if t407.isNone = true then ((impl_isRange.f t404 t406).bind fun t411 => (if t411 = true then ((impl_shortRange.f kj2 t404 t406).bind fun t412 => (if t412.toList = a0.toList then (some (t404, t406, true)) else (some (0, 0, false)))) else (some (0, 0, false)))) else (some (0, 0, false))) = some (r1, r2, r3) := by rw [if_pos (show (none : Option Int).isNone = true by rfl)] at H; exact H
    clear H
    have H := H1
    clear H1
    try simp only [errW_none, errW_some]
    rcases t407 with _ | q410
    ·have H1 : ((impl_isRange.f t404 t406).bind fun t411 => (if t411 = true then ((impl_shortRange.f kj2 t404 t406).bind fun t412 => (if t412.toList = a0.toList then (some (t404, t406, true)) else (some (0, 0, false)))) else (some (0, 0, false)))) = some (r1, r2, r3) := by rw [if_pos (show (none : Option Int).isNone = true by rfl)] at H; exact H
     clear H
     have H := H1
     clear H1
     try simp only [errW_none, errW_some]
     replace H := bqz_ H; obtain ⟨t411, A16, H⟩ := H
     replace H : (if t411 = true then ((impl_shortRange.f kj2 t404 t406).bind fun t412 => (if t412.toList = a0.toList then (some (t404, t406, true)) else (some (0, 0, false)))) else (some (0, 0, false))) = some (r1, r2, r3) := H
     by_cases c17 : t411 = true; rotate_left
     ·replace c17 := Bool.eq_false_iff.mpr c17
      subst c17
      rw [if_neg nfz_] at H
      simp only [Option.some.injEq, Prod.mk.injEq] at H
      obtain ⟨rfl, rfl, rfl⟩ := H
      go_wp2_with (first | ((with_reducible refine gate_callee (f := 197) rfl ?_); refine goesL_ (some 43) rfl rfl Tryd.func197 (w162_) rfl #[.string t401] rfl maz_ ?_; (with_reducible refine (atoi.calls t401 t404 none _ (libW_below HTAB.out (w79_)) A14.out).mono ?_); rintro e w39 ⟨ev_, rfl, hev_, hb⟩; obtain rfl : ev_ = Value.nilIface := hev_; refine ⟨_, rfl, ?_⟩; have n1_ := Az_ (btz_ (w79_) hb); clear HB; replace BK400 := Az_ (ukbz_ BK400.out hb); have HB := n1_; clear n1_; (try clear hb)) | ((with_reducible refine gate_callee (f := 197) rfl ?_); refine goesL_ (some 48) rfl rfl Tryd.func197 (w162_) rfl #[.string x7_2] rfl maz_ ?_; (with_reducible refine (atoi.calls x7_2 t406 none _ (libW_below HTAB.out (w79_)) A15.out).mono ?_); rintro e w40 ⟨ev_, rfl, hev_, hb⟩; obtain rfl : ev_ = Value.nilIface := hev_; refine ⟨_, rfl, ?_⟩; have n1_ := Az_ (btz_ (w79_) hb); clear HB; replace BK400 := Az_ (ukbz_ BK400.out hb); have HB := n1_; clear n1_; (try clear hb)) | ((with_reducible refine gate_dst (N := 12) rfl ?_); (try (refine gate_guard (by rfl) ?_; dsimp only)); refine box_event ?hg (N := 12) ?hd (cs := #[.int .i64 0, .int .i64 0]) (t := 100) ?hr ?_; (case hd => rfl); (case hg => rfl); (case hr => first | (go_simp; done) | (go_simp; rfl)); intro gb408 hg w41 hbox hb; have n1_ := Az_ (btz_ (w79_) hb); have n2_ := Az_ (hbox); have n3_ := Az_ ((by rw [hg]; exact (below_size (w79_)) : w.heap.size ≤ gb408)); have n4_ := Az_ ((by rw [hg]; exact (below_size (w79_)) : w.heap.size ≤ gb408)); have n5_ := Az_ ((by rw [hg]; exact Nat.ne_of_lt (uklz_ BK400.out) : gb400 ≠ gb408)); have n6_ := Az_ ((by rw [hg]; exact Nat.ne_of_gt (uklz_ BK400.out) : gb408 ≠ gb400)); clear HB; replace BK400 := Az_ (ukbz_ BK400.out hb); have HB := n1_; have BK408 := n2_; have GW408 := n3_; have GE408 := n4_; have NB400_408 := n5_; have NB408_400 := n6_; clear n1_ n2_ n3_ n4_ n5_ n6_; clear hb hbox hg; have hnb42 := NB408_400.out; have hnc42 := NB400_408.out; have hcz43_0 : w41.cell? ⟨gb408, 0, none⟩ = some (.int .i64 0) := (blk_cell BK408.out 0).trans rfl; have hcz43_1 : w41.cell? ⟨gb408, 1, none⟩ = some (.int .i64 0) := (blk_cell BK408.out 1).trans rfl; have hfz43_0 := blk_frozen BK408.out 0; have hfz43_1 := blk_frozen BK408.out 1) | (go_at_call 162; (with_reducible refine (impl_isRange.calls t404 t406 false _ A16.out).mono ?_); rintro e w44 ⟨rfl, hb⟩; replace BK400 := Az_ (kbz_ (g := gb400) (o := .cells #[.int .i64 0, .int .i64 0] 100 (0, 0)) (w25_) hb); replace BK408 := Az_ (kbz_ (g := gb408) (o := .cells #[.int .i64 t404, .int .i64 t406] 100 (0, 0)) (w18_) hb); replace HB := Az_ (btz_ (w79_) hb); (try clear hb); have hcz45_0 : w44.cell? ⟨gb400, 0, none⟩ = some (.int .i64 0) := (blk_cell BK400.out 0).trans rfl; have hcz45_1 : w44.cell? ⟨gb400, 1, none⟩ = some (.int .i64 0) := (blk_cell BK400.out 1).trans rfl; have hfz45_0 := blk_frozen BK400.out 0; have hfz45_1 := blk_frozen BK400.out 1))
      refine bodyPost_ret (results_ct rfl _ _ gb400 100 #[.int .i64 0, .int .i64 0] (0, 0) _ rfl (w21_) Tryd.underlying100 rfl (w162_)) rfl ?_
      exact ⟨w116_, w79_⟩
     subst c17
     rw [if_pos rfl] at H
     replace H := bqz_ H; obtain ⟨t412, A18, H⟩ := H
     replace H : (if t412.toList = a0.toList then (some (t404, t406, true)) else (some (0, 0, false))) = some (r1, r2, r3) := H
     by_cases c19 : t412.toList = a0.toList; rotate_left
     ·rw [if_neg c19] at H
      have c19b0 : (t412.toList == a0.toList) = false := beq_eq_false_iff_ne.mpr c19
      have c19b1 : (t412.toList != a0.toList) = true := bne_iff_ne.mpr c19
      simp only [Option.some.injEq, Prod.mk.injEq] at H
      obtain ⟨rfl, rfl, rfl⟩ := H
      go_wp2_with (first | ((with_reducible refine gate_callee (f := 197) rfl ?_); refine goesL_ (some 43) rfl rfl Tryd.func197 (w162_) rfl #[.string t401] rfl maz_ ?_; (with_reducible refine (atoi.calls t401 t404 none _ (libW_below HTAB.out (w79_)) A14.out).mono ?_); rintro e w30 ⟨ev_, rfl, hev_, hb⟩; obtain rfl : ev_ = Value.nilIface := hev_; refine ⟨_, rfl, ?_⟩; have n1_ := Az_ (btz_ (w79_) hb); clear HB; replace BK400 := Az_ (ukbz_ BK400.out hb); have HB := n1_; clear n1_; (try clear hb)) | ((with_reducible refine gate_callee (f := 197) rfl ?_); refine goesL_ (some 48) rfl rfl Tryd.func197 (w162_) rfl #[.string x7_2] rfl maz_ ?_; (with_reducible refine (atoi.calls x7_2 t406 none _ (libW_below HTAB.out (w79_)) A15.out).mono ?_); rintro e w31 ⟨ev_, rfl, hev_, hb⟩; obtain rfl : ev_ = Value.nilIface := hev_; refine ⟨_, rfl, ?_⟩; have n1_ := Az_ (btz_ (w79_) hb); clear HB; replace BK400 := Az_ (ukbz_ BK400.out hb); have HB := n1_; clear n1_; (try clear hb)) | ((with_reducible refine gate_dst (N := 12) rfl ?_); (try (refine gate_guard (by rfl) ?_; dsimp only)); refine box_event ?hg (N := 12) ?hd (cs := #[.int .i64 0, .int .i64 0]) (t := 100) ?hr ?_; (case hd => rfl); (case hg => rfl); (case hr => first | (go_simp; done) | (go_simp; rfl)); intro gb408 hg w32 hbox hb; have n1_ := Az_ (btz_ (w79_) hb); have n2_ := Az_ (hbox); have n3_ := Az_ ((by rw [hg]; exact (below_size (w79_)) : w.heap.size ≤ gb408)); have n4_ := Az_ ((by rw [hg]; exact (below_size (w79_)) : w.heap.size ≤ gb408)); have n5_ := Az_ ((by rw [hg]; exact Nat.ne_of_lt (uklz_ BK400.out) : gb400 ≠ gb408)); have n6_ := Az_ ((by rw [hg]; exact Nat.ne_of_gt (uklz_ BK400.out) : gb408 ≠ gb400)); clear HB; replace BK400 := Az_ (ukbz_ BK400.out hb); have HB := n1_; have BK408 := n2_; have GW408 := n3_; have GE408 := n4_; have NB400_408 := n5_; have NB408_400 := n6_; clear n1_ n2_ n3_ n4_ n5_ n6_; clear hb hbox hg; have hnb33 := NB408_400.out; have hnc33 := NB400_408.out; have hcz34_0 : w32.cell? ⟨gb408, 0, none⟩ = some (.int .i64 0) := (blk_cell BK408.out 0).trans rfl; have hcz34_1 : w32.cell? ⟨gb408, 1, none⟩ = some (.int .i64 0) := (blk_cell BK408.out 1).trans rfl; have hfz34_0 := blk_frozen BK408.out 0; have hfz34_1 := blk_frozen BK408.out 1) | (go_at_call 162; (with_reducible refine (impl_isRange.calls t404 t406 true _ A16.out).mono ?_); rintro e w35 ⟨rfl, hb⟩; replace BK400 := Az_ (kbz_ (g := gb400) (o := .cells #[.int .i64 0, .int .i64 0] 100 (0, 0)) (w25_) hb); replace BK408 := Az_ (kbz_ (g := gb408) (o := .cells #[.int .i64 t404, .int .i64 t406] 100 (0, 0)) (w18_) hb); replace HB := Az_ (btz_ (w79_) hb); (try clear hb); have hcz36_0 : w35.cell? ⟨gb408, 0, none⟩ = some (.int .i64 t404) := (blk_cell BK408.out 0).trans rfl; have hcz36_1 : w35.cell? ⟨gb408, 1, none⟩ = some (.int .i64 t406) := (blk_cell BK408.out 1).trans rfl; have hfz36_0 := blk_frozen BK408.out 0; have hfz36_1 := blk_frozen BK408.out 1) | (go_at_call 163; (with_reducible refine (impl_shortRange.calls kj2 t404 t406 t412 _ (libW_below HTAB.out (w79_)) A18.out).mono ?_); rintro e w37 ⟨rfl, hb⟩; have n2_ := Az_ (btz_ (w79_) hb); clear HB; replace BK400 := Az_ (ukbz_ BK400.out hb); replace BK408 := Az_ (ukbz_ BK408.out hb); have HB := n2_; clear n2_; (try clear hb); have hcz38_0 : w37.cell? ⟨gb400, 0, none⟩ = some (.int .i64 0) := (blk_cell BK400.out 0).trans rfl; have hcz38_1 : w37.cell? ⟨gb400, 1, none⟩ = some (.int .i64 0) := (blk_cell BK400.out 1).trans rfl; have hfz38_0 := blk_frozen BK400.out 0; have hfz38_1 := blk_frozen BK400.out 1))
      refine bodyPost_ret (results_ct rfl _ _ gb400 100 #[.int .i64 0, .int .i64 0] (0, 0) _ rfl (w21_) Tryd.underlying100 rfl (w162_)) rfl ?_
      exact ⟨w116_, w79_⟩
     rw [if_pos c19] at H
     have c19b0 : (t412.toList == a0.toList) = true := beq_iff_eq.mpr c19
     have c19b1 : (t412.toList != a0.toList) = false := bne_eq_false_iff_eq.mpr c19
     clear c19
     simp only [Option.some.injEq, Prod.mk.injEq] at H
     obtain ⟨rfl, rfl, rfl⟩ := H
     go_wp2_with (first | ((with_reducible refine gate_callee (f := 197) rfl ?_); refine goesL_ (some 43) rfl rfl Tryd.func197 (w162_) rfl #[.string t401] rfl maz_ ?_; (with_reducible refine (atoi.calls t401 t404 none _ (libW_below HTAB.out (w79_)) A14.out).mono ?_); rintro e w20 ⟨ev_, rfl, hev_, hb⟩; obtain rfl : ev_ = Value.nilIface := hev_; refine ⟨_, rfl, ?_⟩; have n1_ := Az_ (btz_ (w79_) hb); clear HB; replace BK400 := Az_ (ukbz_ BK400.out hb); have HB := n1_; clear n1_; (try clear hb)) | ((with_reducible refine gate_callee (f := 197) rfl ?_); refine goesL_ (some 48) rfl rfl Tryd.func197 (w162_) rfl #[.string x7_2] rfl maz_ ?_; (with_reducible refine (atoi.calls x7_2 t406 none _ (libW_below HTAB.out (w79_)) A15.out).mono ?_); rintro e w21 ⟨ev_, rfl, hev_, hb⟩; obtain rfl : ev_ = Value.nilIface := hev_; refine ⟨_, rfl, ?_⟩; have n1_ := Az_ (btz_ (w79_) hb); clear HB; replace BK400 := Az_ (ukbz_ BK400.out hb); have HB := n1_; clear n1_; (try clear hb)) | ((with_reducible refine gate_dst (N := 12) rfl ?_); (try (refine gate_guard (by rfl) ?_; dsimp only)); refine box_event ?hg (N := 12) ?hd (cs := #[.int .i64 0, .int .i64 0]) (t := 100) ?hr ?_; (case hd => rfl); (case hg => rfl); (case hr => first | (go_simp; done) | (go_simp; rfl)); intro gb408 hg w22 hbox hb; have n1_ := Az_ (btz_ (w79_) hb); have n2_ := Az_ (hbox); have n3_ := Az_ ((by rw [hg]; exact (below_size (w79_)) : w.heap.size ≤ gb408)); have n4_ := Az_ ((by rw [hg]; exact (below_size (w79_)) : w.heap.size ≤ gb408)); have n5_ := Az_ ((by rw [hg]; exact Nat.ne_of_lt (uklz_ BK400.out) : gb400 ≠ gb408)); have n6_ := Az_ ((by rw [hg]; exact Nat.ne_of_gt (uklz_ BK400.out) : gb408 ≠ gb400)); clear HB; replace BK400 := Az_ (ukbz_ BK400.out hb); have HB := n1_; have BK408 := n2_; have GW408 := n3_; have GE408 := n4_; have NB400_408 := n5_; have NB408_400 := n6_; clear n1_ n2_ n3_ n4_ n5_ n6_; clear hb hbox hg; have hnb23 := NB408_400.out; have hnc23 := NB400_408.out; have hcz24_0 : w22.cell? ⟨gb408, 0, none⟩ = some (.int .i64 0) := (blk_cell BK408.out 0).trans rfl; have hcz24_1 : w22.cell? ⟨gb408, 1, none⟩ = some (.int .i64 0) := (blk_cell BK408.out 1).trans rfl; have hfz24_0 := blk_frozen BK408.out 0; have hfz24_1 := blk_frozen BK408.out 1) | (go_at_call 162; (with_reducible refine (impl_isRange.calls t404 t406 true _ A16.out).mono ?_); rintro e w25 ⟨rfl, hb⟩; replace BK400 := Az_ (kbz_ (g := gb400) (o := .cells #[.int .i64 0, .int .i64 0] 100 (0, 0)) (w25_) hb); replace BK408 := Az_ (kbz_ (g := gb408) (o := .cells #[.int .i64 t404, .int .i64 t406] 100 (0, 0)) (w18_) hb); replace HB := Az_ (btz_ (w79_) hb); (try clear hb); have hcz26_0 : w25.cell? ⟨gb408, 0, none⟩ = some (.int .i64 t404) := (blk_cell BK408.out 0).trans rfl; have hcz26_1 : w25.cell? ⟨gb408, 1, none⟩ = some (.int .i64 t406) := (blk_cell BK408.out 1).trans rfl; have hfz26_0 := blk_frozen BK408.out 0; have hfz26_1 := blk_frozen BK408.out 1) | (go_at_call 163; (with_reducible refine (impl_shortRange.calls kj2 t404 t406 t412 _ (libW_below HTAB.out (w79_)) A18.out).mono ?_); rintro e w27 ⟨rfl, hb⟩; have n2_ := Az_ (btz_ (w79_) hb); clear HB; replace BK400 := Az_ (ukbz_ BK400.out hb); replace BK408 := Az_ (ukbz_ BK408.out hb); have HB := n2_; clear n2_; (try clear hb); have hcz28_0 : w27.cell? ⟨gb408, 0, none⟩ = some (.int .i64 t404) := (blk_cell BK408.out 0).trans rfl; have hcz28_1 : w27.cell? ⟨gb408, 1, none⟩ = some (.int .i64 t406) := (blk_cell BK408.out 1).trans rfl; have hfz28_0 := blk_frozen BK408.out 0; have hfz28_1 := blk_frozen BK408.out 1; have hcz29_0 : w27.cell? ⟨gb400, 0, none⟩ = some (.int .i64 0) := (blk_cell BK400.out 0).trans rfl; have hcz29_1 : w27.cell? ⟨gb400, 1, none⟩ = some (.int .i64 0) := (blk_cell BK400.out 1).trans rfl; have hfz29_0 := blk_frozen BK400.out 0; have hfz29_1 := blk_frozen BK400.out 1))
     refine bodyPost_ret (results_ct rfl _ _ gb400 100 #[.int .i64 t404, .int .i64 t406] (0, 0) _ rfl (by (with_reducible repeat (first | refine knz_ ?_ _ | refine kdz_ ?_ | refine kaz_ ?_ _)); refine blk_put (cs := #[.int .i64 t404, .int .i64 0]) ?_ 1 _ rfl; (with_reducible repeat (first | refine knz_ ?_ _ | refine kdz_ ?_ | refine kaz_ ?_ _)); refine blk_put (cs := #[.int .i64 0, .int .i64 0]) ?_ 0 _ rfl; (with_reducible repeat (first | refine knz_ ?_ _ | refine kdz_ ?_ | refine kaz_ ?_ _)); exact BK400.out) Tryd.underlying100 rfl (w162_)) rfl ?_
     exact ⟨w116_, w79_⟩
    ·have H1 : (some (0, 0, false)) = some (r1, r2, r3) := by rw [if_neg (show ¬ (some q410).isNone = true by simp)] at H; exact H
     clear H
     have H := H1
     clear H1
     try simp only [errW_none, errW_some]
     simp only [Option.some.injEq, Prod.mk.injEq] at H
     obtain ⟨rfl, rfl, rfl⟩ := H
     go_wp2_with (first | ((with_reducible refine gate_callee (f := 197) rfl ?_); refine goesL_ (some 43) rfl rfl Tryd.func197 (w162_) rfl #[.string t401] rfl maz_ ?_; (with_reducible refine (atoi.calls t401 t404 none _ (libW_below HTAB.out (w79_)) A14.out).mono ?_); rintro e w46 ⟨ev_, rfl, hev_, hb⟩; obtain rfl : ev_ = Value.nilIface := hev_; refine ⟨_, rfl, ?_⟩; have n1_ := Az_ (btz_ (w79_) hb); clear HB; replace BK400 := Az_ (ukbz_ BK400.out hb); have HB := n1_; clear n1_; (try clear hb)) | ((with_reducible refine gate_callee (f := 197) rfl ?_); refine goesL_ (some 48) rfl rfl Tryd.func197 (w162_) rfl #[.string x7_2] rfl maz_ ?_; (with_reducible refine (atoi.calls x7_2 t406 (some q410) _ (libW_below HTAB.out (w79_)) A15.out).mono ?_); rintro e w47 ⟨ev_, rfl, hev_, hb⟩; obtain ⟨N_, rfl⟩ := hev_; refine ⟨_, rfl, ?_⟩; have n1_ := Az_ (btz_ (w79_) hb); clear HB; replace BK400 := Az_ (ukbz_ BK400.out hb); have HB := n1_; clear n1_; (try clear hb)) | ((with_reducible refine gate_dst (N := 12) rfl ?_); (try (refine gate_guard (by rfl) ?_; dsimp only)); refine box_event ?hg (N := 12) ?hd (cs := #[.int .i64 0, .int .i64 0]) (t := 100) ?hr ?_; (case hd => rfl); (case hg => rfl); (case hr => first | (go_simp; done) | (go_simp; rfl)); intro gb408 hg w48 hbox hb; have n1_ := Az_ (btz_ (w79_) hb); have n2_ := Az_ (hbox); have n3_ := Az_ ((by rw [hg]; exact (below_size (w79_)) : w.heap.size ≤ gb408)); have n4_ := Az_ ((by rw [hg]; exact (below_size (w79_)) : w.heap.size ≤ gb408)); have n5_ := Az_ ((by rw [hg]; exact Nat.ne_of_lt (uklz_ BK400.out) : gb400 ≠ gb408)); have n6_ := Az_ ((by rw [hg]; exact Nat.ne_of_gt (uklz_ BK400.out) : gb408 ≠ gb400)); clear HB; replace BK400 := Az_ (ukbz_ BK400.out hb); have HB := n1_; have BK408 := n2_; have GW408 := n3_; have GE408 := n4_; have NB400_408 := n5_; have NB408_400 := n6_; clear n1_ n2_ n3_ n4_ n5_ n6_; clear hb hbox hg; have hnb49 := NB408_400.out; have hnc49 := NB400_408.out; have hcz50_0 : w48.cell? ⟨gb408, 0, none⟩ = some (.int .i64 0) := (blk_cell BK408.out 0).trans rfl; have hcz50_1 : w48.cell? ⟨gb408, 1, none⟩ = some (.int .i64 0) := (blk_cell BK408.out 1).trans rfl; have hfz50_0 := blk_frozen BK408.out 0; have hfz50_1 := blk_frozen BK408.out 1; have hcz51_0 : w48.cell? ⟨gb400, 0, none⟩ = some (.int .i64 0) := (blk_cell BK400.out 0).trans rfl; have hcz51_1 : w48.cell? ⟨gb400, 1, none⟩ = some (.int .i64 0) := (blk_cell BK400.out 1).trans rfl; have hfz51_0 := blk_frozen BK400.out 0; have hfz51_1 := blk_frozen BK400.out 1))
     refine bodyPost_ret (results_ct rfl _ _ gb400 100 #[.int .i64 0, .int .i64 0] (0, 0) _ rfl (w1_) Tryd.underlying100 rfl (w162_)) rfl ?_
     exact ⟨w116_, w79_⟩
   ·have H1 : (some (0, 0, false)) = some (r1, r2, r3) := by rw [if_neg (show ¬ (some q409).isNone = true by simp)] at H; exact H
    clear H
    have H := H1
    clear H1
    try simp only [errW_none, errW_some]
    simp only [Option.some.injEq, Prod.mk.injEq] at H
    obtain ⟨rfl, rfl, rfl⟩ := H
    go_wp2_with (first | ((with_reducible refine gate_callee (f := 197) rfl ?_); refine goesL_ (some 43) rfl rfl Tryd.func197 (w162_) rfl #[.string t401] rfl maz_ ?_; (with_reducible refine (atoi.calls t401 t404 (some q409) _ (libW_below HTAB.out (w79_)) A14.out).mono ?_); rintro e w52 ⟨ev_, rfl, hev_, hb⟩; obtain ⟨N_, rfl⟩ := hev_; refine ⟨_, rfl, ?_⟩; have n1_ := Az_ (btz_ (w79_) hb); clear HB; replace BK400 := Az_ (ukbz_ BK400.out hb); have HB := n1_; clear n1_; (try clear hb)) | ((with_reducible refine gate_callee (f := 197) rfl ?_); refine goesL_ (some 48) rfl rfl Tryd.func197 (w162_) rfl #[.string x7_2] rfl maz_ ?_; (with_reducible refine (atoi.calls x7_2 t406 t407 _ (libW_below HTAB.out (w79_)) A15.out).mono ?_); rintro e w53 ⟨ev_, rfl, hev_, hb⟩; refine ⟨_, rfl, ?_⟩; have n1_ := Az_ (btz_ (w79_) hb); clear HB; replace BK400 := Az_ (ukbz_ BK400.out hb); have HB := n1_; clear n1_; (try clear hb)) | ((with_reducible refine gate_dst (N := 12) rfl ?_); (try (refine gate_guard (by rfl) ?_; dsimp only)); refine box_event ?hg (N := 12) ?hd (cs := #[.int .i64 0, .int .i64 0]) (t := 100) ?hr ?_; (case hd => rfl); (case hg => rfl); (case hr => first | (go_simp; done) | (go_simp; rfl)); intro gb408 hg w54 hbox hb; have n1_ := Az_ (btz_ (w79_) hb); have n2_ := Az_ (hbox); have n3_ := Az_ ((by rw [hg]; exact (below_size (w79_)) : w.heap.size ≤ gb408)); have n4_ := Az_ ((by rw [hg]; exact (below_size (w79_)) : w.heap.size ≤ gb408)); have n5_ := Az_ ((by rw [hg]; exact Nat.ne_of_lt (uklz_ BK400.out) : gb400 ≠ gb408)); have n6_ := Az_ ((by rw [hg]; exact Nat.ne_of_gt (uklz_ BK400.out) : gb408 ≠ gb400)); clear HB; replace BK400 := Az_ (ukbz_ BK400.out hb); have HB := n1_; have BK408 := n2_; have GW408 := n3_; have GE408 := n4_; have NB400_408 := n5_; have NB408_400 := n6_; clear n1_ n2_ n3_ n4_ n5_ n6_; clear hb hbox hg; have hnb55 := NB408_400.out; have hnc55 := NB400_408.out; have hcz56_0 : w54.cell? ⟨gb408, 0, none⟩ = some (.int .i64 0) := (blk_cell BK408.out 0).trans rfl; have hcz56_1 : w54.cell? ⟨gb408, 1, none⟩ = some (.int .i64 0) := (blk_cell BK408.out 1).trans rfl; have hfz56_0 := blk_frozen BK408.out 0; have hfz56_1 := blk_frozen BK408.out 1; have hcz57_0 : w54.cell? ⟨gb400, 0, none⟩ = some (.int .i64 0) := (blk_cell BK400.out 0).trans rfl; have hcz57_1 : w54.cell? ⟨gb400, 1, none⟩ = some (.int .i64 0) := (blk_cell BK400.out 1).trans rfl; have hfz57_0 := blk_frozen BK400.out 0; have hfz57_1 := blk_frozen BK400.out 1))
    refine bodyPost_ret (results_ct rfl _ _ gb400 100 #[.int .i64 0, .int .i64 0] (0, 0) _ rfl (w1_) Tryd.underlying100 rfl (w162_)) rfl ?_
    exact ⟨w116_, w79_⟩

def impl_LongRange.f (k : Nat) (a0 : ByteArray) : Option (Int × Int × Bool) := (impl_longRange.f k a0).bind fun bt414 => (some (bt414.1, bt414.2.1, bt414.2.2))
set_option maxHeartbeats 8000000 in
set_option maxRecDepth 100000 in
theorem impl_LongRange.calls (k : Nat) (a0 : ByteArray) (r1 : Int) (r2 : Int) (r3 : Bool) (w : World) (hT : LibW w) (h : impl_LongRange.f k a0 = some (r1, r2, r3)) :
  Calls Tryd.prog 89 #[.string a0] w fun e w' => e = .returned (.tuple #[.agg #[.int .i64 r1, .int .i64 r2], .bool r3]) ∧ Below w.heap.size w w' := by
 have HTAB := Az_ hT
 clear hT
 have hu100 := Tryd.underlying100
 have HB := Az_ (Below.refl w.heap.size w)
 have H : ((impl_longRange.f k a0).bind fun bt414 => (some (bt414.1, bt414.2.1, bt414.2.2))) = some (r1, r2, r3) := h
 clear h
 replace H := bqz_ H; obtain ⟨⟨t414, t415, t416⟩, A2, H⟩ := H
 replace H : (some (t414, t415, t416)) = some (r1, r2, r3) := H
 simp only [Option.some.injEq, Prod.mk.injEq] at H
 obtain ⟨rfl, rfl, rfl⟩ := H
 go_enter Tryd.func89, Tryd.ntmps89
 go_wp2_with (first | ((with_reducible refine gate_dst (N := 2) rfl ?_); refine box_event ?hg (N := 2) ?hd (cs := #[.int .i64 0, .int .i64 0]) (t := 100) ?hr ?_; (case hd => rfl); (case hg => rfl); (case hr => first | (go_simp; done) | (go_simp; rfl)); intro gb413 hg w3 hbox hb; have BK413 := Az_ (hbox); have GW413 := Az_ ((by rw [hg]; exact (below_size (ubz_ HB.out)) : w.heap.size ≤ gb413)); have GE413 := Az_ ((by rw [hg]; exact (below_size (ubz_ HB.out)) : w.heap.size ≤ gb413)); replace HB := Az_ (btz_ (ubz_ HB.out) hb); clear hb hbox hg) | ((with_reducible refine gate_callee (f := 166) rfl ?_); refine goesL_ (some 5) rfl rfl Tryd.func166 (w162_) rfl #[.string a0] rfl maz_ ?_; (with_reducible refine (impl_longRange.calls k a0 t414 t415 t416 _ (libW_below HTAB.out (w79_)) A2.out).mono ?_); rintro e w4 ⟨rfl, hb⟩; refine ⟨_, rfl, ?_⟩; have n1_ := Az_ (btz_ (w79_) hb); clear HB; replace BK413 := Az_ (ukbz_ BK413.out hb); have HB := n1_; clear n1_; (try clear hb); have hcz5_0 : w4.cell? ⟨gb413, 0, none⟩ = some (.int .i64 0) := (blk_cell BK413.out 0).trans rfl; have hcz5_1 : w4.cell? ⟨gb413, 1, none⟩ = some (.int .i64 0) := (blk_cell BK413.out 1).trans rfl; have hfz5_0 := blk_frozen BK413.out 0; have hfz5_1 := blk_frozen BK413.out 1))
 refine bodyPost_ret (results_ct rfl _ _ gb413 100 #[.int .i64 t414, .int .i64 t415] (0, 0) _ rfl (by (with_reducible repeat (first | refine knz_ ?_ _ | refine kdz_ ?_ | refine kaz_ ?_ _)); refine blk_put (cs := #[.int .i64 t414, .int .i64 0]) ?_ 1 _ rfl; (with_reducible repeat (first | refine knz_ ?_ _ | refine kdz_ ?_ | refine kaz_ ?_ _)); refine blk_put (cs := #[.int .i64 0, .int .i64 0]) ?_ 0 _ rfl; (with_reducible repeat (first | refine knz_ ?_ _ | refine kdz_ ?_ | refine kaz_ ?_ _)); exact BK413.out) Tryd.underlying100 rfl (w162_)) rfl ?_
 exact ⟨w116_, w79_⟩


mutual
def spec_l1Read.j0 : Nat → ByteArray → Bool → Option (Int)
 | 0, _, _ => none
 | k + 1, x0, x18 => if x18 = true then (some (-1)) else (spec_l1Read.l0 k x0 0 0)
def spec_l1Read.l0 : Nat → ByteArray → Int → Int → Option (Int)
 | 0, _, _, _ => none
 | k + 1, x0, x3, x4 => if x4 < (x0.size : Int) then (if 0 ≤ x4 then (if (bt x0 x4) < 48 then (some (-1)) else (if (bt x0 x4) > 57 then (some (-1)) else (spec_l1Read.l0 k x0 (wrap64 ((wrap64 (10 * x3)) + (((bt x0 x4) - 48) % 256))) (wrap64 (x4 + 1))))) else (none)) else (some x3)
end
def spec_l1Read.f (k : Nat) (a0 : ByteArray) : Option (Int) := (spec_l1In.f (a0.size : Int) 1 6).bind fun t417 => (if t417 = true then (if 0 < (a0.size : Int) then (if (bt a0 0) = 48 then (spec_l1Read.j0 k a0 (decide ((a0.size : Int) > 1))) else (spec_l1Read.j0 k a0 false)) else (none)) else (spec_l1Read.j0 k a0 true))
set_option maxHeartbeats 8000000 in
set_option maxRecDepth 100000 in
theorem spec_l1Read.calls (k : Nat) (a0 : ByteArray) (r : Int) (w : World) (h : spec_l1Read.f k a0 = some r) :
  Calls Tryd.prog 192 #[.string a0] w fun e w' => e = .returned (.int .i64 r) ∧ Drawn0 w w' := by
 have H : ((spec_l1In.f (a0.size : Int) 1 6).bind fun t417 => (if t417 = true then (if 0 < (a0.size : Int) then (if (bt a0 0) = 48 then (j0 k a0 (decide ((a0.size : Int) > 1))) else (j0 k a0 false)) else (none)) else (j0 k a0 true))) = some r := h
 clear h
 have HC2 := Az_ H
 clear H
 go_enter Tryd.func192, Tryd.ntmps192
 go_upto_region 1 with (fail)
 go_cut [18] (fun v18 wc => ∃ (kq : Nat) (x18_1 : Bool), v18 = .bool x18_1 ∧ Aside0 (j0 kq a0 x18_1 = some r) ∧ Aside0 (kq ≤ k) ∧ Drawn0 w wc)
 case first =>
  have H := HC2.out
  clear HC2
  replace H := bqz_ H; obtain ⟨t417, A3, H⟩ := H
  replace H : (if t417 = true then (if 0 < (a0.size : Int) then (if (bt a0 0) = 48 then (j0 k a0 (decide ((a0.size : Int) > 1))) else (j0 k a0 false)) else (none)) else (j0 k a0 true)) = some r := H
  by_cases c4 : t417 = true; rotate_left
  ·replace c4 := Bool.eq_false_iff.mpr c4
   subst c4
   rw [if_neg nfz_] at H
   have H' := Az_ H
   clear H
   go_wp2_with (((with_reducible refine gate_callee (f := 101) rfl ?_); refine goesL_ (some 7) rfl rfl Tryd.func101 (w162_) rfl #[.int .i64 (a0.size : Int), .int .i64 1, .int .i64 6] rfl maz_ ?_; (with_reducible refine (spec_l1In.calls (a0.size : Int) 1 6 false _ A3.out).mono ?_); rintro e w' ⟨rfl, ⟨nd, rfl⟩⟩; refine ⟨_, rfl, ?_⟩))
   go_meet
   case rel => exact ⟨_, (true), qaz_, H', ⟨w141_⟩, w131_⟩
  subst c4
  rw [if_pos rfl] at H
  by_cases c5 : 0 < (a0.size : Int); rotate_left
  ·rw [if_neg c5] at H
   exact absurd H (by simp)
  rw [if_pos c5] at H
  have c5b0 := decide_eq_true c5
  have c5b1 : decide (0 < a0.size) = true := decide_eq_true (by omega)
  clear c5
  (first | rw [c5b0] | (simp only [i64_w, i32_w]; rw [c5b0]) | skip)
  by_cases c7 : (bt a0 0) = 48; rotate_left
  ·rw [if_neg c7] at H
   have c7b0 : ((bt a0 0) == 48) = false := beq_eq_false_iff_ne.mpr c7
   have c7b1 : ((bt a0 0) != 48) = true := bne_iff_ne.mpr c7
   have H' := Az_ H
   clear H
   go_wp2_with (((with_reducible refine gate_callee (f := 101) rfl ?_); refine goesL_ (some 7) rfl rfl Tryd.func101 (w162_) rfl #[.int .i64 (a0.size : Int), .int .i64 1, .int .i64 6] rfl maz_ ?_; (with_reducible refine (spec_l1In.calls (a0.size : Int) 1 6 true _ A3.out).mono ?_); rintro e w' ⟨rfl, ⟨nd, rfl⟩⟩; refine ⟨_, rfl, ?_⟩; have p6 : 0 ≤ (0 : Int) := (by omega); have q6 : 0 < a0.size := (by have : (0 : Int) < (a0.size : Int) := od_; omega); have hx6 : ∀ h : 0 < a0.size, ((a0[0]'h).toNat : Int) = bt a0 0 := bt_at a0 0; clear p6; have qi6 : (0 < (a0.size : Int)) = True := eq_true (od_); replace q6 := eq_true q6))
   go_meet
   case rel => exact ⟨_, (false), qaz_, H', ⟨w141_⟩, w131_⟩
  rw [if_pos c7] at H
  have c7b0 : ((bt a0 0) == 48) = true := beq_iff_eq.mpr c7
  have c7b1 : ((bt a0 0) != 48) = false := bne_eq_false_iff_eq.mpr c7
  clear c7
  have H' := Az_ H
  clear H
  go_wp2_with (((with_reducible refine gate_callee (f := 101) rfl ?_); refine goesL_ (some 7) rfl rfl Tryd.func101 (w162_) rfl #[.int .i64 (a0.size : Int), .int .i64 1, .int .i64 6] rfl maz_ ?_; (with_reducible refine (spec_l1In.calls (a0.size : Int) 1 6 true _ A3.out).mono ?_); rintro e w' ⟨rfl, ⟨nd, rfl⟩⟩; refine ⟨_, rfl, ?_⟩; have p6 : 0 ≤ (0 : Int) := (by omega); have q6 : 0 < a0.size := (by have : (0 : Int) < (a0.size : Int) := od_; omega); have hx6 : ∀ h : 0 < a0.size, ((a0[0]'h).toNat : Int) = bt a0 0 := bt_at a0 0; clear p6; have qi6 : (0 < (a0.size : Int)) = True := eq_true (od_); replace q6 := eq_true q6))
  go_meet
  case rel => exact ⟨_, (decide ((a0.size : Int) > 1)), qaz_, H', ⟨w141_⟩, w131_⟩
 case rest =>
  clear HC2
  obtain ⟨kq, x18_1, rfl, HA, HJ1, ⟨mc1, rfl⟩⟩ := hcut
  cases kq with
  | zero => exact absurd HA.out (by simp [j0])
  | succ kj1 =>
   have H := HA.out
   clear HA
   simp only [j0] at H
   by_cases c8 : x18_1 = true
   ·subst c8
    rw [if_pos rfl] at H
    obtain rfl := Option.some.inj H
    go_wp2
    go_ret
    exact ⟨w134_, w131_⟩
   ·replace c8 := Bool.eq_false_iff.mpr c8
    subst c8
    rw [if_neg nfz_] at H
    have H' := Az_ H
    clear H
    go_wp2
    go_loopg [3, 4] kj1 (fun kq v3 v4 w' => ∃ (x3_2 : Int) (x4_2 : Int), v3 = .int .i64 x3_2 ∧ v4 = .int .i64 x4_2 ∧ Aside0 (spec_l1Read.l0 kq a0 x3_2 x4_2 = some r) ∧ Aside0 (kq ≤ kj1) ∧ Drawn0 w w')
    case atStart => exact ⟨(0), (0), qaz_, qaz_, H', ⟨Nat.le_refl _⟩, w131_⟩
    case round =>
     clear H'
     obtain ⟨x3_2, x4_2, rfl, rfl, HA, HK2, ⟨m2, rfl⟩⟩ := hrel
     cases gk with
     | zero => exact absurd HA.out (by simp [spec_l1Read.l0])
     | succ k2 =>
      have H := HA.out
      clear HA
      simp only [spec_l1Read.l0] at H
      by_cases c9 : x4_2 < (a0.size : Int)
      ·rw [if_pos c9] at H
       have c9b0 := decide_eq_true c9
       clear c9
       by_cases c10 : 0 ≤ x4_2; rotate_left
       ·rw [if_neg c10] at H
        exact absurd H (by simp)
       rw [if_pos c10] at H
       have c10b0 := decide_eq_true c10
       clear c10
       by_cases c12 : (bt a0 x4_2) < 48
       ·rw [if_pos c12] at H
        have c12b0 := decide_eq_true c12
        clear c12
        obtain rfl := Option.some.inj H
        have p11 : 0 ≤ (x4_2 : Int) := od_
        have q11 : x4_2 < (a0.size : Int) := od_
        have hx11 := bt_at a0 x4_2
        replace p11 := eq_true p11
        replace q11 := eq_true q11
        go_wp2
        go_ret
        exact ⟨w134_, w131_⟩
       rw [if_neg c12] at H
       have c12b0 := decide_eq_false c12
       clear c12
       by_cases c14 : (bt a0 x4_2) > 57
       ·rw [if_pos c14] at H
        have c14b0 := decide_eq_true c14
        clear c14
        obtain rfl := Option.some.inj H
        have p11 : 0 ≤ (x4_2 : Int) := od_
        have q11 : x4_2 < (a0.size : Int) := od_
        have hx11 := bt_at a0 x4_2
        replace p11 := eq_true p11
        replace q11 := eq_true q11
        have p13 : 0 ≤ (x4_2 : Int) := od_
        have q13 : x4_2 < (a0.size : Int) := od_
        have hx13 := bt_at a0 x4_2
        replace p13 := eq_true p13
        replace q13 := eq_true q13
        go_wp2
        go_ret
        exact ⟨w134_, w131_⟩
       rw [if_neg c14] at H
       have c14b0 := decide_eq_false c14
       clear c14
       have H' := Az_ H
       clear H
       have p11 : 0 ≤ (x4_2 : Int) := od_
       have q11 : x4_2 < (a0.size : Int) := od_
       have hx11 := bt_at a0 x4_2
       replace p11 := eq_true p11
       replace q11 := eq_true q11
       have p13 : 0 ≤ (x4_2 : Int) := od_
       have q13 : x4_2 < (a0.size : Int) := od_
       have hx13 := bt_at a0 x4_2
       replace p13 := eq_true p13
       replace q13 := eq_true q13
       have p15 : 0 ≤ (x4_2 : Int) := od_
       have q15 : x4_2 < (a0.size : Int) := od_
       have hx15 := bt_at a0 x4_2
       replace p15 := eq_true p15
       replace q15 := eq_true q15
       go_wp2
       go_roundg k2
       case measure => have := HJ1.out; have := HK2.out; omega
       case rel => exact ⟨(wrap64 ((wrap64 (10 * x3_2)) + (((bt a0 x4_2) - 48) % 256))), (wrap64 (x4_2 + 1)), qaz_, qaz_, H', ⟨w139_⟩, w131_⟩
      ·rw [if_neg c9] at H
       have c9b0 := decide_eq_false c9
       clear c9
       obtain rfl := Option.some.inj H
       go_wp2
       go_ret
       exact ⟨w134_, w131_⟩

def spec_l1Split.l0 : Nat → ByteArray → Int → List ByteArray → Int → Int → Option (List ByteArray)
 | 0, _, _, _, _, _ => none
 | k + 1, x0, x1, x5, x6, x7 => if x7 < (x0.size : Int) then (if 0 ≤ x7 then (if (bt x0 x7) = x1 then (if 0 ≤ x6 then (if x6 ≤ x7 then (if x7 ≤ (x0.size : Int) then (if x5.length < 8796093022208 then (spec_l1Split.l0 k x0 x1 (x5 ++ [x0.extract (x6 : Int).toNat (x7 : Int).toNat]) (wrap64 (x7 + 1)) (wrap64 (x7 + 1))) else (none)) else (none)) else (none)) else (none)) else (spec_l1Split.l0 k x0 x1 x5 x6 (wrap64 (x7 + 1)))) else (none)) else (if 0 ≤ x6 then (if x6 ≤ (x0.size : Int) then (if x5.length < 8796093022208 then (some (x5 ++ [x0.extract (x6 : Int).toNat x0.size])) else (none)) else (none)) else (none))
def spec_l1Split.f (k : Nat) (a0 : ByteArray) (a1 : Int) : Option (List ByteArray) := spec_l1Split.l0 k a0 a1 ([] : List ByteArray) 0 0
set_option maxHeartbeats 8000000 in
set_option maxRecDepth 100000 in
theorem spec_l1Split.calls (k : Nat) (a0 : ByteArray) (a1 : Int) (r : List ByteArray) (w : World) (h : spec_l1Split.f k a0 a1 = some r) :
  Calls Tryd.prog 198 #[.string a0, .int .u8 a1] w fun e w' => ∃ v0_ : Value, e = .returned (v0_) ∧ Kd.R Kd.string 9 w' w.heap.size (fun _ => True) v0_ r ∧ Below w.heap.size w w' := by
 have HB := Az_ (Below.refl w.heap.size w)
 have H : (spec_l1Split.l0 k a0 a1 ([] : List ByteArray) 0 0) = some r := h
 clear h
 have H' := Az_ H
 clear H
 go_enter Tryd.func198, Tryd.ntmps198
 go_wp2
 go_loopg [5, 6, 7] k (fun kq v5 v6 v7 w' => ∃ (x5_1 : List ByteArray) (x6_1 : Int) (x7_1 : Int), v6 = .int .i64 x6_1 ∧ v7 = .int .i64 x7_1 ∧ Aside0 (spec_l1Split.l0 kq a0 a1 x5_1 x6_1 x7_1 = some r) ∧ Aside0 (kq ≤ k) ∧ Aside0 (Kd.R Kd.string 9 w' w.heap.size (fun _ => True) v5 x5_1) ∧ Aside0 (Below w.heap.size w w'))
 case atStart => exact ⟨(([] : List ByteArray)), (0), (0), qaz_, qaz_, H', ⟨Nat.le_refl _⟩, ⟨w80_⟩, ⟨w160_⟩⟩
 case round =>
  clear H'
  obtain ⟨x5_1, x6_1, x7_1, rfl, rfl, HA, HK1, HO_5, HB⟩ := hrel
  cases gk with
  | zero => exact absurd HA.out (by simp [spec_l1Split.l0])
  | succ k1 =>
   have H := HA.out
   clear HA
   simp only [spec_l1Split.l0] at H
   by_cases c3 : x7_1 < (a0.size : Int)
   ·rw [if_pos c3] at H
    have c3b0 := decide_eq_true c3
    clear c3
    by_cases c4 : 0 ≤ x7_1; rotate_left
    ·rw [if_neg c4] at H
     exact absurd H (by simp)
    rw [if_pos c4] at H
    have c4b0 := decide_eq_true c4
    clear c4
    by_cases c6 : (bt a0 x7_1) = a1; rotate_left
    ·rw [if_neg c6] at H
     have c6b0 : ((bt a0 x7_1) == a1) = false := beq_eq_false_iff_ne.mpr c6
     have c6b1 : ((bt a0 x7_1) != a1) = true := bne_iff_ne.mpr c6
     have H' := Az_ H
     clear H
     have p5 : 0 ≤ (x7_1 : Int) := od_
     have q5 : x7_1 < (a0.size : Int) := od_
     have hx5 := bt_at a0 x7_1
     replace p5 := eq_true p5
     replace q5 := eq_true q5
     go_wp2
     go_roundg k1
     case measure => have := HK1.out; omega
     case rel => exact ⟨(x5_1), (x6_1), (wrap64 (x7_1 + 1)), qaz_, qaz_, H', ⟨w144_⟩, ⟨w127_⟩, ⟨w160_⟩⟩
    rw [if_pos c6] at H
    have c6b0 : ((bt a0 x7_1) == a1) = true := beq_iff_eq.mpr c6
    have c6b1 : ((bt a0 x7_1) != a1) = false := bne_eq_false_iff_eq.mpr c6
    clear c6
    by_cases c7 : 0 ≤ x6_1; rotate_left
    ·rw [if_neg c7] at H
     exact absurd H (by simp)
    rw [if_pos c7] at H
    have c7b0 := eq_true c7
    have c7b1 := decide_eq_true c7
    clear c7
    by_cases c8 : x6_1 ≤ x7_1; rotate_left
    ·rw [if_neg c8] at H
     exact absurd H (by simp)
    rw [if_pos c8] at H
    have c8b0 := eq_true c8
    have c8b1 := decide_eq_true c8
    clear c8
    by_cases c9 : x7_1 ≤ (a0.size : Int); rotate_left
    ·rw [if_neg c9] at H
     exact absurd H (by simp)
    rw [if_pos c9] at H
    have c9b0 := eq_true c9
    have c9b1 := decide_eq_true c9
    clear c9
    by_cases c10 : x5_1.length < 8796093022208; rotate_left
    ·rw [if_neg c10] at H
     exact absurd H (by simp)
    rw [if_pos c10] at H
    have LMc10 := Az_ c10
    clear c10
    obtain ⟨y418, hy418⟩ : ∃ y_ : List ByteArray, y_ = (x5_1 ++ [a0.extract (x6_1 : Int).toNat (x7_1 : Int).toNat]) := ⟨_, rfl⟩
    replace H : (spec_l1Split.l0 k1 a0 a1 y418 (wrap64 (x7_1 + 1)) (wrap64 (x7_1 + 1))) = some r := by first | (rw [hy418]; with_reducible exact H) | (have H2_ := (Option.bind_some _ _).symm.trans H; rw [hy418]; with_reducible exact H2_) | (have H2_ := (Option.bind_some _ _).symm.trans H; with_reducible exact H2_) | with_reducible exact H | (rw [hy418]; exact H) | exact H
    have Ny418 := Az_ hy418
    clear hy418
    have H' := Az_ H
    clear H
    have p5 : 0 ≤ (x7_1 : Int) := od_
    have q5 : x7_1 < (a0.size : Int) := od_
    have hx5 := bt_at a0 x7_1
    replace p5 := eq_true p5
    replace q5 := eq_true q5
    go_wp2_with (((with_reducible refine gate_builtin (b := .append) (xs := #[.tmp 19, .tmp 24]) rfl ?_); at_builtin; refine Kd.R_append Kd.string (w0 := w) w.heap.size rfl (.tmp 19) (.tmp 24) 180 9 (.string ⟨#[]⟩) 16 rfl Tryd.underlying180 info9 rfl (by decide) (by omega) u5 x5_1 (a0.extract (x6_1 : Int).toNat (x7_1 : Int).toNat) [.string (a0.extract (x6_1 : Int).toNat (x7_1 : Int).toNat)] (fun _ => True) (fun _ => False) rfl rfl ?aP (fun _ hk => hk.elim) ?aF ?aO ?aB ?aS ?aL ?_; (case aP => exact rfl); (case aB => exact (ubz_ HB.out)); (case aF => exact (fun _ _ => trivial)); (case aO => exact (w159_)); (case aS => exact (below_size (ubz_ HB.out))); (case aL => have := LMc10.out; omega); intro v419 w11 ho hb hg hat; rw [← Ny418.out] at ho; replace HB := Az_ (hb); have HO420 := Az_ (ho); clear HO_5; clear ho hb hg hat))
    go_roundg k1
    case measure => have := HK1.out; omega
    case rel => exact ⟨(y418), (wrap64 (x7_1 + 1)), (wrap64 (x7_1 + 1)), qaz_, qaz_, H', ⟨w144_⟩, ⟨by (with_reducible repeat (first | apply raz_ | apply rnz_ | apply rdz_)); exact HO420.out⟩, ⟨w160_⟩⟩
   ·rw [if_neg c3] at H
    have c3b0 := decide_eq_false c3
    clear c3
    by_cases c12 : 0 ≤ x6_1
    ·rw [if_pos c12] at H
     have c12b0 := eq_true c12
     have c12b1 := decide_eq_true c12
     clear c12
     by_cases c13 : x6_1 ≤ (a0.size : Int); rotate_left
     ·rw [if_neg c13] at H
      exact absurd H (by simp)
     rw [if_pos c13] at H
     have c13b0 := eq_true c13
     have c13b1 := decide_eq_true c13
     clear c13
     by_cases c14 : x5_1.length < 8796093022208; rotate_left
     ·rw [if_neg c14] at H
      exact absurd H (by simp)
     rw [if_pos c14] at H
     have LMc14 := Az_ c14
     clear c14
     obtain ⟨y421, hy421⟩ : ∃ y_ : List ByteArray, y_ = (x5_1 ++ [a0.extract (x6_1 : Int).toNat a0.size]) := ⟨_, rfl⟩
     replace H : (some y421) = some r := by first | (rw [hy421]; with_reducible exact H) | (have H2_ := (Option.bind_some _ _).symm.trans H; rw [hy421]; with_reducible exact H2_) | (have H2_ := (Option.bind_some _ _).symm.trans H; with_reducible exact H2_) | with_reducible exact H | (rw [hy421]; exact H) | exact H
     have Ny421 := Az_ hy421
     clear hy421
     obtain rfl := Option.some.inj H
     go_wp2_with (((with_reducible refine gate_builtin (b := .append) (xs := #[.tmp 28, .tmp 32]) rfl ?_); at_builtin; refine Kd.R_append Kd.string (w0 := w) w.heap.size rfl (.tmp 28) (.tmp 32) 180 9 (.string ⟨#[]⟩) 16 rfl Tryd.underlying180 info9 rfl (by decide) (by omega) u5 x5_1 (a0.extract (x6_1 : Int).toNat a0.size) [.string (a0.extract (x6_1 : Int).toNat a0.size)] (fun _ => True) (fun _ => False) rfl rfl ?aP (fun _ hk => hk.elim) ?aF ?aO ?aB ?aS ?aL ?_; (case aP => exact rfl); (case aB => exact (ubz_ HB.out)); (case aF => exact (fun _ _ => trivial)); (case aO => exact (w159_)); (case aS => exact (below_size (ubz_ HB.out))); (case aL => have := LMc14.out; omega); intro v422 w15 ho hb hg hat; rw [← Ny421.out] at ho; replace HB := Az_ (hb); have HO423 := Az_ (ho); clear HO_5; clear ho hb hg hat))
     go_ret
     exact ⟨_, w116_, by (with_reducible repeat (first | apply raz_ | apply rnz_ | apply rdz_)); exact HO423.out, w160_⟩
    ·rw [if_neg c12] at H
     exact absurd H (by simp)


mutual
def spec_ixLong.j0 : Nat → ByteArray → List ByteArray → Bool → Option (Int × Int × Bool)
 | 0, _, _, _ => none
 | k + 1, x0, x4, x16 => if x16 = true then (some (0, 0, false)) else (if 0 < (x4.length : Int) then ((spec_l1Read.f k (rdOf ByteArray.empty x4 0)).bind fun t429 => ((spec_l1Read.f k (rdOf ByteArray.empty x4 0)).bind fun t431 => (if (x4.length : Int) = 2 then (if 1 < (x4.length : Int) then (if ((rdOf ByteArray.empty x4 1).size : Int) < ((rdOf ByteArray.empty x4 0).size : Int) then (if 0 ≤ (wrap64 (((rdOf ByteArray.empty x4 0).size : Int) - ((rdOf ByteArray.empty x4 1).size : Int))) then (if (wrap64 (((rdOf ByteArray.empty x4 0).size : Int) - ((rdOf ByteArray.empty x4 1).size : Int))) ≤ ((rdOf ByteArray.empty x4 0).size : Int) then (if ((rdOf ByteArray.empty x4 0).extract 0 ((wrap64 (((rdOf ByteArray.empty x4 0).size : Int) - ((rdOf ByteArray.empty x4 1).size : Int))) : Int).toNat).size + (rdOf ByteArray.empty x4 1).size ≤ 9223372036854775807 then ((spec_l1Read.f k (((rdOf ByteArray.empty x4 0).extract 0 ((wrap64 (((rdOf ByteArray.empty x4 0).size : Int) - ((rdOf ByteArray.empty x4 1).size : Int))) : Int).toNat) ++ (rdOf ByteArray.empty x4 1))).bind fun t437 => (spec_ixLong.j1 k x0 t429 t437)) else (none)) else (none)) else (none)) else ((spec_l1Read.f k (rdOf ByteArray.empty x4 1)).bind fun t438 => (spec_ixLong.j1 k x0 t429 t438))) else (none)) else (spec_ixLong.j1 k x0 t429 t431)))) else (none))
def spec_ixLong.j1 : Nat → ByteArray → Int → Int → Option (Int × Int × Bool)
 | 0, _, _, _ => none
 | k + 1, x0, x433000, x433001 => (spec_ixRange.f x433000 x433001).bind fun t439 => (if t439 = true then ((spec_ixShort.f k x433000 x433001).bind fun t440 => (if t440.toList = x0.toList then (some (x433000, x433001, true)) else (some (0, 0, false)))) else (some (0, 0, false)))
end
def spec_ixLong.f (k : Nat) (a0 : ByteArray) : Option (Int × Int × Bool) := (spec_l1Split.f k a0 45).bind fun t425 => (if (a0.size : Int) > 9 then (spec_ixLong.j0 k a0 t425 true) else (spec_ixLong.j0 k a0 t425 (decide ((t425.length : Int) > 2))))
def spec_ixLong.T4 : Bool × List (List Nat × List Nat) := (true, [([], []), ([0], [0]), ([1], [1]), ([2], [2]), ([], []), ([4], [4]), ([5], [5]), ([6, 3], [6]), ([3, 7], [3, 7]), ([], []), ([9, 8, 7, 0, 1, 2, 3, 4, 5, 6, 7, 8, 9], [8, 9])])
def spec_ixLong.B4 : List Nat := [0, 1, 3, 7, 0, 16, 48, 127, 255, 0, 1023]
theorem spec_ixLong.tab4 : rtab .any (opsOf Tryd.f167 4) = spec_ixLong.T4 := by kernel_rfl
theorem spec_ixLong.bits4 : waitsOk spec_ixLong.T4.2 spec_ixLong.B4 = true := by kernel_rfl
def spec_ixLong.T8 : Bool × List (List Nat × List Nat) := (true, [([], []), ([0], [0]), ([1], [1]), ([], []), ([3], [3]), ([4], [4]), ([5], [5]), ([], []), ([7], [7]), ([6, 8], [6, 8]), ([2, 9], [2, 9]), ([], []), ([10, 11], [10, 11]), ([12, 0, 1, 2, 3, 4, 5, 6, 7, 8, 9, 10, 11, 12], [7, 11, 12])])
def spec_ixLong.B8 : List Nat := [0, 1, 3, 0, 8, 24, 56, 0, 128, 504, 1023, 0, 4095, 8191]
theorem spec_ixLong.tab8 : rtab .any (opsOf Tryd.f167 8) = spec_ixLong.T8 := by kernel_rfl
theorem spec_ixLong.bits8 : waitsOk spec_ixLong.T8.2 spec_ixLong.B8 = true := by kernel_rfl
set_option maxHeartbeats 8000000 in
set_option maxRecDepth 100000 in
theorem spec_ixLong.calls (k : Nat) (a0 : ByteArray) (r1 : Int) (r2 : Int) (r3 : Bool) (w : World) (h : spec_ixLong.f k a0 = some (r1, r2, r3)) :
  Calls Tryd.prog 167 #[.string a0] w fun e w' => e = .returned (.tuple #[.agg #[.int .i64 r1, .int .i64 r2], .bool r3]) ∧ Below w.heap.size w w' := by
 have hu100 := Tryd.underlying100
 have HB := Az_ (Below.refl w.heap.size w)
 have H : ((spec_l1Split.f k a0 45).bind fun t425 => (if (a0.size : Int) > 9 then (j0 k a0 t425 true) else (j0 k a0 t425 (decide ((t425.length : Int) > 2))))) = some (r1, r2, r3) := h
 clear h
 replace H := bqz_ H; obtain ⟨t425, A2, H⟩ := H
 replace H : (if (a0.size : Int) > 9 then (j0 k a0 t425 true) else (j0 k a0 t425 (decide ((t425.length : Int) > 2)))) = some (r1, r2, r3) := H
 have HC3 := Az_ H
 clear H
 go_enter Tryd.func167, Tryd.ntmps167
 go_upto_region 2 with (first | ((with_reducible refine gate_dst (N := 2) rfl ?_); (try (refine gate_guard (by rfl) ?_; dsimp only)); refine box_event ?hg (N := 2) ?hd (cs := #[.int .i64 0, .int .i64 0]) (t := 100) ?hr ?_; (case hd => rfl); (case hg => rfl); (case hr => first | (go_simp; done) | (go_simp; rfl)); intro gb424 hg w4 hbox hb; have BK424 := Az_ (hbox); have GW424 := Az_ ((by rw [hg]; exact (below_size (ubz_ HB.out)) : w.heap.size ≤ gb424)); have GE424 := Az_ ((by rw [hg]; exact (below_size (ubz_ HB.out)) : w.heap.size ≤ gb424)); replace HB := Az_ (btz_ (ubz_ HB.out) hb); clear hb hbox hg) | ((with_reducible refine gate_callee (f := 198) rfl ?_); refine goesL_ (some 8) rfl rfl Tryd.func198 (w162_) rfl #[.string a0, .int .u8 45] rfl maz_ ?_; (with_reducible refine (spec_l1Split.calls k a0 45 t425 _ A2.out).mono ?_); rintro e w5 ⟨v426, rfl, ho0, hb⟩; refine ⟨_, rfl, ?_⟩; have n0_ := Az_ (Kd.R_lower ho0 (below_size (w79_))); have n2_ := Az_ (btz_ (w79_) hb); clear HB; have HO427 := n0_; replace BK424 := Az_ (ukbz_ BK424.out hb); have HB := n2_; clear n0_ n2_; (try clear hb); (try clear ho0)))
 (try simp only [Act.put, List.setIfInBounds_toArray, List.set_cons_zero, List.set_cons_succ])
 go_cut [16] (fun v16 wc => ∃ (kq : Nat) (x16_2 : Bool), v16 = .bool x16_2 ∧ Aside0 (j0 kq a0 t425 x16_2 = some (r1, r2, r3)) ∧ Aside0 (kq ≤ k) ∧ Aside0 (Kd.R Kd.string 9 wc w.heap.size (fun _ => True) v426 t425) ∧ Aside0 (wc.heap[gb424]? = some (.cells #[.int .i64 0, .int .i64 0] 100 (0, 0))) ∧ Aside0 (Below w.heap.size w wc))
 case first =>
  have H := HC3.out
  clear HC3
  by_cases c6 : (a0.size : Int) > 9
  ·rw [if_pos c6] at H
   have c6b0 := decide_eq_true c6
   have c6b1 : decide (9 < a0.size) = true := decide_eq_true (by omega)
   clear c6
   (first | rw [c6b0] | (simp only [i64_w, i32_w]; rw [c6b0]) | skip)
   have H' := Az_ H
   clear H
   go_wp2
   go_meet
   case rel => exact ⟨_, (true), qaz_, H', ⟨w141_⟩, ⟨by (with_reducible repeat (first | apply raz_ | apply rnz_ | apply rdz_)); exact HO427.out⟩, ⟨by (with_reducible repeat (first | refine knz_ ?_ _ | refine kdz_ ?_ | refine kaz_ ?_ _)); exact BK424.out⟩, ⟨w79_⟩⟩
  rw [if_neg c6] at H
  have c6b0 := decide_eq_false c6
  have c6b1 : decide (9 < a0.size) = false := decide_eq_false (by omega)
  clear c6
  (first | rw [c6b0] | (simp only [i64_w, i32_w]; rw [c6b0]) | skip)
  have H' := Az_ H
  clear H
  obtain ⟨Ao7, co7, eo7⟩ := Kd.R_slice HO427.out
  subst eo7
  go_wp2
  go_meet
  case rel => exact ⟨_, (decide ((t425.length : Int) > 2)), qaz_, H', ⟨w141_⟩, ⟨by (with_reducible repeat (first | apply raz_ | apply rnz_ | apply rdz_)); exact HO427.out⟩, ⟨by (with_reducible repeat (first | refine knz_ ?_ _ | refine kdz_ ?_ | refine kaz_ ?_ _)); exact BK424.out⟩, ⟨w79_⟩⟩
 case rest =>
  clear HC3
  obtain ⟨kq, x16_2, rfl, HA, HJ2, HO_4, BK424, HB⟩ := hcut
  cases kq with
  | zero => exact absurd HA.out (by simp [j0])
  | succ kj2 =>
   have H := HA.out
   clear HA
   simp only [j0] at H
   by_cases c8 : x16_2 = true
   ·subst c8
    rw [if_pos rfl] at H
    simp only [Option.some.injEq, Prod.mk.injEq] at H
    obtain ⟨rfl, rfl, rfl⟩ := H
    have hcz9_0 : wc.cell? ⟨gb424, 0, none⟩ = some (.int .i64 0) := (blk_cell BK424.out 0).trans rfl
    have hcz9_1 : wc.cell? ⟨gb424, 1, none⟩ = some (.int .i64 0) := (blk_cell BK424.out 1).trans rfl
    have hfz9_0 := blk_frozen BK424.out 0
    have hfz9_1 := blk_frozen BK424.out 1
    go_wp2
    refine bodyPost_ret (results_ct rfl _ _ gb424 100 #[.int .i64 0, .int .i64 0] (0, 0) _ rfl (w22_) Tryd.underlying100 rfl (w162_)) rfl ?_
    exact ⟨w116_, w79_⟩
   ·replace c8 := Bool.eq_false_iff.mpr c8
    subst c8
    rw [if_neg nfz_] at H
    by_cases c10 : 0 < (t425.length : Int)
    ·rw [if_pos c10] at H
     have c10b0 := decide_eq_true c10
     have c10b1 : decide (0 < t425.length) = true := decide_eq_true (by omega)
     clear c10
     replace H := bqz_ H; obtain ⟨t429, A11, H⟩ := H
     replace H := bqz_ H; obtain ⟨t431, A12, H⟩ := H
     replace H : (if (t425.length : Int) = 2 then (if 1 < (t425.length : Int) then (if ((rdOf ByteArray.empty t425 1).size : Int) < ((rdOf ByteArray.empty t425 0).size : Int) then (if 0 ≤ (wrap64 (((rdOf ByteArray.empty t425 0).size : Int) - ((rdOf ByteArray.empty t425 1).size : Int))) then (if (wrap64 (((rdOf ByteArray.empty t425 0).size : Int) - ((rdOf ByteArray.empty t425 1).size : Int))) ≤ ((rdOf ByteArray.empty t425 0).size : Int) then (if ((rdOf ByteArray.empty t425 0).extract 0 ((wrap64 (((rdOf ByteArray.empty t425 0).size : Int) - ((rdOf ByteArray.empty t425 1).size : Int))) : Int).toNat).size + (rdOf ByteArray.empty t425 1).size ≤ 9223372036854775807 then ((spec_l1Read.f kj2 (((rdOf ByteArray.empty t425 0).extract 0 ((wrap64 (((rdOf ByteArray.empty t425 0).size : Int) - ((rdOf ByteArray.empty t425 1).size : Int))) : Int).toNat) ++ (rdOf ByteArray.empty t425 1))).bind fun t437 => (j1 kj2 a0 t429 t437)) else (none)) else (none)) else (none)) else ((spec_l1Read.f kj2 (rdOf ByteArray.empty t425 1)).bind fun t438 => (j1 kj2 a0 t429 t438))) else (none)) else (j1 kj2 a0 t429 t431)) = some (r1, r2, r3) := H
     have HC13 := Az_ H
     clear H
     try go_wp2
     have n0_ := Az_ (rdz_ HO_4.out)
     have n1_ := Az_ (kdz_ BK424.out)
     have n2_ := Az_ (bdz_ HB.out)
     clear HO_4 BK424 HB
     have HO_4 := n0_
     have BK424 := n1_
     have HB := n2_
     clear n0_ n1_ n2_
     obtain ⟨Ao15, co15, eo15⟩ := Kd.R_slice HO_4.out
     (first | subst eo15 | (injection eo15 with f1_ f2_ f3_; have f4_ := f1_.symm; have f5_ := f3_.symm; clear f1_ f2_ f3_; subst f4_; subst f5_))
     have p428 : 0 ≤ (0 : Int) := (by omega)
     have q428 : 0 < (t425.length : Int) := od_
     obtain ⟨ad428, e428, hx428_0⟩ := Kd.at_string (Kd.R_reads' HO_4.out).2.2 0 p428 q428
     cases e428
     have qi428 : (0 < t425.length) = True := eq_true (by omega)
     (try rw [show ((0 : Int)).toNat = 0 from rfl] at hx428_0)
     (try rw [Addr.add_zero'] at hx428_0)
     replace p428 := eq_true p428
     replace q428 := eq_true q428
     have p430 : 0 ≤ (0 : Int) := (by omega)
     have q430 : 0 < (t425.length : Int) := od_
     obtain ⟨ad430, e430, hx430_0⟩ := Kd.at_string (Kd.R_reads' HO_4.out).2.2 0 p430 q430
     obtain rfl : ad428 = ad430 := (by injection e430)
     have qi430 : (0 < t425.length) = True := eq_true (by omega)
     (try rw [show ((0 : Int)).toNat = 0 from rfl] at hx430_0)
     (try rw [Addr.add_zero'] at hx430_0)
     replace p430 := eq_true p430
     replace q430 := eq_true q430
     refine start_ (n := 11) (S := fun w' => w'.cell? ad428 = some (.string (rdOf ByteArray.empty t425 0)) ∧ w'.cell? ad428 = some (.string (rdOf ByteArray.empty t425 0))) (ds := []) #[false, false, false, false, false, false, false, false, false, false, false] (w162_) rfl rfl ⟨hx428_0, hx430_0⟩ (fun hHeld => ?_); refine with_tabW spec_ixLong.tab4 spec_ixLong.bits4 (fun HT_ HW_ => ?_)
     generalize wc.drew = w14 at HO_4 BK424 HB hx428_0 hx430_0 hHeld ⊢
     refine pz_ 0 18 [1,10] ?_
     refine pz_ 1 19 [2,9] ?_
     refine pz_ 4 22 [2,2,1,6] ?_
     refine pz_ 5 23 [2,2,2,5] ?_
     refine tz2_ 2 20 [3,1,2,5] ?_
     refine tz2_ 6 24 [3,1,3,4] ?_
     refine join_ (σ := Nat) 1 #[true, true, true, true, true, true, true, true, true, true, false] (fun s_ => [(21, .int .i64 t429), (25, .int .i64 t431), (5, .pointer (some ⟨s_, 0, none⟩)), (26, .agg #[.int .i64 t429, .int .i64 t431])]) (fun s_ w' => (w'.cell? ad428 = some (.string (rdOf ByteArray.empty t425 0)) ∧ w'.cell? ad428 = some (.string (rdOf ByteArray.empty t425 0))) ∧ (Kd.R Kd.string 9 w' w.heap.size (fun _ => True) (.slice (some ad428) t425.length co15) t425) ∧ (w'.heap[gb424]? = some (.cells #[.int .i64 0, .int .i64 0] 100 (0, 0))) ∧ (w'.heap[s_]? = some (.cells #[.int .i64 0, .int .i64 0] 100 (0, 0))) ∧ (w.heap.size ≤ s_) ∧ (w.heap.size ≤ s_) ∧ (gb424 ≠ s_) ∧ (s_ ≠ gb424) ∧ (Below w.heap.size w w')) ?_ ?_
     rotate_left
     ·intro hCont
      refine two_ (i := 3) (j := 9) (Ni := some 21) (Nj := some 5) (mz_ [7,4]) #[true, true, true, false, true, true, true, false, false, true, false] rfl rfl rfl rfl (two_of HT_.out (w162_)) (by decide) (by decide) (fun K hK => ?_) (fun K hK => ?_)
      ·skip
       refine goes_ Tryd.func192 (w162_) rfl #[.string (rdOf ByteArray.empty t425 0)] (by rfl) rfl rfl maz_ ?_
       with_reducible refine (spec_l1Read.calls kj2 (rdOf ByteArray.empty t425 0) t429 _ A11.out).mono ?_
       rintro e w' ⟨rfl, ⟨nd, rfl⟩⟩
       refine ⟨_, rfl, ?_⟩
       refine hK.out _ _ ⟨hHeld.1, hHeld.2⟩ (fun hHeld => ?_)
       clear hK K
       refine nz_ 21 ?_
       refine two_ (i := 7) (j := 9) (Ni := some 25) (Nj := some 5) (mz_ [8,3]) #[true, true, true, true, true, true, true, false, false, true, false] rfl rfl rfl rfl (two_of HT_.out (w162_)) (by decide) (by decide) (fun K hK => ?_) (fun K hK => ?_)
       ·skip
        refine goes_ Tryd.func192 (w162_) rfl #[.string (rdOf ByteArray.empty t425 0)] (by rfl) rfl rfl maz_ ?_
        with_reducible refine (spec_l1Read.calls kj2 (rdOf ByteArray.empty t425 0) t431 _ A12.out).mono ?_
        rintro e w' ⟨rfl, ⟨nd, rfl⟩⟩
        refine ⟨_, rfl, ?_⟩
        refine hK.out _ _ ⟨hHeld.1, hHeld.2⟩ (fun hHeld => ?_)
        clear hK K
        refine nz_ 25 ?_
        refine pz_ 8 26 [9,2] ?_
        refine one_ (i := 9) (N := some 5) (mz_ [10,1]) rfl rfl (one_of HT_.out (w162_)) (by decide) (fun K hK => ?_)
        refine box_step ?hg (N := 5) ?hd (cs := #[.int .i64 0, .int .i64 0]) (t := 100) ?hr ?_; (case hd => rfl); (case hg => rfl); (case hr => first | (go_simp; done) | (go_simp; rfl))
        intro gb432 hg w16 hbox hb
        have HS0_ := (hb.cell (World.block_lt_of_cell? _ _ (hHeld.1))).trans (hHeld.1)
        have HS1_ := (hb.cell (World.block_lt_of_cell? _ _ (hHeld.2))).trans (hHeld.2)
        have n0_ := Az_ (Kd.R_below (w157_) hb)
        have n2_ := Az_ (btz_ (w79_) hb)
        have n3_ := Az_ (hbox)
        have n4_ := Az_ ((by rw [hg]; exact (below_size (w79_)) : w.heap.size ≤ gb432))
        have n5_ := Az_ ((by rw [hg]; exact (below_size (w79_)) : w.heap.size ≤ gb432))
        have n6_ := Az_ ((by rw [hg]; exact Nat.ne_of_lt (uklz_ BK424.out) : gb424 ≠ gb432))
        have n7_ := Az_ ((by rw [hg]; exact Nat.ne_of_gt (uklz_ BK424.out) : gb432 ≠ gb424))
        clear HO_4 HB
        have HO_4 := n0_
        replace BK424 := Az_ (ukbz_ BK424.out hb)
        have HB := n2_
        have BK432 := n3_
        have GW432 := n4_
        have GE432 := n5_
        have NB424_432 := n6_
        have NB432_424 := n7_
        clear n0_ n2_ n3_ n4_ n5_ n6_ n7_ hb hbox hg
        refine hK.out _ _ ⟨HS0_, HS1_⟩ (fun hHeld => ?_)
        clear hK K
        refine nz_ 5 ?_
        exact norm_ (w115_) (hCont (gb432) _ ⟨hHeld, (w157_), (by exact ukz_ BK424.out), (by exact ukz_ BK432.out), GW432.out, GE432.out, NB424_432.out, NB432_424.out, (w79_)⟩)
       ·skip
        refine box_step ?hg (N := 5) ?hd (cs := #[.int .i64 0, .int .i64 0]) (t := 100) ?hr ?_; (case hd => rfl); (case hg => rfl); (case hr => first | (go_simp; done) | (go_simp; rfl))
        intro gb432 hg w16 hbox hb
        have HS0_ := (hb.cell (World.block_lt_of_cell? _ _ (hHeld.1))).trans (hHeld.1)
        have HS1_ := (hb.cell (World.block_lt_of_cell? _ _ (hHeld.2))).trans (hHeld.2)
        have n0_ := Az_ (Kd.R_below (w157_) hb)
        have n2_ := Az_ (btz_ (w79_) hb)
        have n3_ := Az_ (hbox)
        have n4_ := Az_ ((by rw [hg]; exact (below_size (w79_)) : w.heap.size ≤ gb432))
        have n5_ := Az_ ((by rw [hg]; exact (below_size (w79_)) : w.heap.size ≤ gb432))
        have n6_ := Az_ ((by rw [hg]; exact Nat.ne_of_lt (uklz_ BK424.out) : gb424 ≠ gb432))
        have n7_ := Az_ ((by rw [hg]; exact Nat.ne_of_gt (uklz_ BK424.out) : gb432 ≠ gb424))
        clear HO_4 HB
        have HO_4 := n0_
        replace BK424 := Az_ (ukbz_ BK424.out hb)
        have HB := n2_
        have BK432 := n3_
        have GW432 := n4_
        have GE432 := n5_
        have NB424_432 := n6_
        have NB432_424 := n7_
        clear n0_ n2_ n3_ n4_ n5_ n6_ n7_ hb hbox hg
        refine hK.out _ _ ⟨HS0_, HS1_⟩ (fun hHeld => ?_)
        clear hK K
        refine nz_ 5 ?_
        refine one_ (i := 7) (N := some 25) (mz_ [8,1,1,1]) rfl rfl (one_of HT_.out (w162_)) (by decide) (fun K hK => ?_)
        refine goes_ Tryd.func192 (w162_) rfl #[.string (rdOf ByteArray.empty t425 0)] (by rfl) rfl rfl maz_ ?_
        with_reducible refine (spec_l1Read.calls kj2 (rdOf ByteArray.empty t425 0) t431 _ A12.out).mono ?_
        rintro e w' ⟨rfl, ⟨nd, rfl⟩⟩
        refine ⟨_, rfl, ?_⟩
        refine hK.out _ _ ⟨hHeld.1, hHeld.2⟩ (fun hHeld => ?_)
        clear hK K
        refine nz_ 25 ?_
        refine pz_ 8 26 [10,1] ?_
        exact norm_ (w115_) (hCont (gb432) _ ⟨hHeld, (w157_), (by exact ukz_ BK424.out), (by exact ukz_ BK432.out), GW432.out, GE432.out, NB424_432.out, NB432_424.out, (w79_)⟩)
      ·skip
       refine box_step ?hg (N := 5) ?hd (cs := #[.int .i64 0, .int .i64 0]) (t := 100) ?hr ?_; (case hd => rfl); (case hg => rfl); (case hr => first | (go_simp; done) | (go_simp; rfl))
       intro gb432 hg w16 hbox hb
       have HS0_ := (hb.cell (World.block_lt_of_cell? _ _ (hHeld.1))).trans (hHeld.1)
       have HS1_ := (hb.cell (World.block_lt_of_cell? _ _ (hHeld.2))).trans (hHeld.2)
       have n0_ := Az_ (Kd.R_below (w157_) hb)
       have n2_ := Az_ (btz_ (w79_) hb)
       have n3_ := Az_ (hbox)
       have n4_ := Az_ ((by rw [hg]; exact (below_size (w79_)) : w.heap.size ≤ gb432))
       have n5_ := Az_ ((by rw [hg]; exact (below_size (w79_)) : w.heap.size ≤ gb432))
       have n6_ := Az_ ((by rw [hg]; exact Nat.ne_of_lt (uklz_ BK424.out) : gb424 ≠ gb432))
       have n7_ := Az_ ((by rw [hg]; exact Nat.ne_of_gt (uklz_ BK424.out) : gb432 ≠ gb424))
       clear HO_4 HB
       have HO_4 := n0_
       replace BK424 := Az_ (ukbz_ BK424.out hb)
       have HB := n2_
       have BK432 := n3_
       have GW432 := n4_
       have GE432 := n5_
       have NB424_432 := n6_
       have NB432_424 := n7_
       clear n0_ n2_ n3_ n4_ n5_ n6_ n7_ hb hbox hg
       refine hK.out _ _ ⟨HS0_, HS1_⟩ (fun hHeld => ?_)
       clear hK K
       refine nz_ 5 ?_
       refine one_ (i := 3) (N := some 21) (mz_ [7,2,1,1]) rfl rfl (one_of HT_.out (w162_)) (by decide) (fun K hK => ?_)
       refine goes_ Tryd.func192 (w162_) rfl #[.string (rdOf ByteArray.empty t425 0)] (by rfl) rfl rfl maz_ ?_
       with_reducible refine (spec_l1Read.calls kj2 (rdOf ByteArray.empty t425 0) t429 _ A11.out).mono ?_
       rintro e w' ⟨rfl, ⟨nd, rfl⟩⟩
       refine ⟨_, rfl, ?_⟩
       refine hK.out _ _ ⟨hHeld.1, hHeld.2⟩ (fun hHeld => ?_)
       clear hK K
       refine nz_ 21 ?_
       refine one_ (i := 7) (N := some 25) (mz_ [8,1,1,1]) rfl rfl (one_of HT_.out (w162_)) (by decide) (fun K hK => ?_)
       refine goes_ Tryd.func192 (w162_) rfl #[.string (rdOf ByteArray.empty t425 0)] (by rfl) rfl rfl maz_ ?_
       with_reducible refine (spec_l1Read.calls kj2 (rdOf ByteArray.empty t425 0) t431 _ A12.out).mono ?_
       rintro e w' ⟨rfl, ⟨nd, rfl⟩⟩
       refine ⟨_, rfl, ?_⟩
       refine hK.out _ _ ⟨hHeld.1, hHeld.2⟩ (fun hHeld => ?_)
       clear hK K
       refine nz_ 25 ?_
       refine pz_ 8 26 [10,1] ?_
       exact norm_ (w115_) (hCont (gb432) _ ⟨hHeld, (w157_), (by exact ukz_ BK424.out), (by exact ukz_ BK432.out), GW432.out, GE432.out, NB424_432.out, NB432_424.out, (w79_)⟩)
     rintro gb432 w17 ⟨hS_, h0_, h1_, h2_, h3_, h4_, h5_, h6_, h7_⟩
     have n0_ : Aside0 (Kd.R Kd.string 9 w17 w.heap.size (fun _ => True) (.slice (some ad428) t425.length co15) t425) := ⟨h0_⟩
     have n1_ : Aside0 (w17.heap[gb424]? = some (.cells #[.int .i64 0, .int .i64 0] 100 (0, 0))) := ⟨h1_⟩
     have n2_ : Aside0 (w17.heap[gb432]? = some (.cells #[.int .i64 0, .int .i64 0] 100 (0, 0))) := ⟨h2_⟩
     have n3_ : Aside0 (w.heap.size ≤ gb432) := ⟨h3_⟩
     have n4_ : Aside0 (w.heap.size ≤ gb432) := ⟨h4_⟩
     have n5_ : Aside0 (gb424 ≠ gb432) := ⟨h5_⟩
     have n6_ : Aside0 (gb432 ≠ gb424) := ⟨h6_⟩
     have n7_ : Aside0 (Below w.heap.size w w17) := ⟨h7_⟩
     clear HO_4 BK424 HB h0_ h1_ h2_ h3_ h4_ h5_ h6_ h7_
     have HO_4 := n0_
     have BK424 := n1_
     have BK432 := n2_
     have GW432 := n3_
     have GE432 := n4_
     have NB424_432 := n5_
     have NB432_424 := n6_
     have HB := n7_
     clear n0_ n1_ n2_ n3_ n4_ n5_ n6_ n7_
     have hHeld : w17.cell? ad428 = some (.string (rdOf ByteArray.empty t425 0)) ∧ w17.cell? ad428 = some (.string (rdOf ByteArray.empty t425 0)) := hS_
     refine norm_ (a' := ?_) ?_ ?_
     rotate_left
     ·simp only [putAll, Act.put, List.setIfInBounds_toArray, List.set_cons_zero, List.set_cons_succ]
      rfl
     refine one_ (i := 10) (N := none) (mz_ [11]) rfl rfl (one_of HT_.out (w162_)) (by decide) (fun K hK => ?_)
     have hs18 : w17.cell? ⟨gb432, 0, none⟩ = some (.int .i64 0) := (blk_cell BK432.out 0).trans rfl
     have hfs18 := blk_frozen BK432.out 0
     have hns18_0 := NB424_432.out
     have hms18_0 := NB432_424.out
     have hs19 : w17.cell? ⟨gb432, 1, none⟩ = some (.int .i64 0) := (blk_cell BK432.out 1).trans rfl
     have hfs19 := blk_frozen BK432.out 1
     have hns19_0 := NB424_432.out
     have hms19_0 := NB432_424.out
     refine skip_ (w1 := ?_) (by rfl) rfl ?_ ?_
     rotate_left
     ·go_simp
      rfl
     refine hK.out _ _ ⟨((cell_far (p := ⟨gb432, _, none⟩) (w2_) _).trans (((cell_far (p := ⟨gb432, _, none⟩) (w2_) _).trans (hHeld.1)))), ((cell_far (p := ⟨gb432, _, none⟩) (w2_) _).trans (((cell_far (p := ⟨gb432, _, none⟩) (w2_) _).trans (hHeld.2))))⟩ (fun hHeld => ?_)
     clear hK K
     refine done_ (done_of HT_.out (w162_)) ?_
     go_upto_if 29 with (fail)
     go_cut [] (fun wc => ∃ (kq : Nat) (x433001_12 : Int), Aside0 (j1 kq a0 t429 x433001_12 = some (r1, r2, r3)) ∧ Aside0 (kq ≤ kj2) ∧ Aside0 (wc.heap[gb424]? = some (.cells #[.int .i64 0, .int .i64 0] 100 (0, 0))) ∧ Aside0 (wc.heap[gb432]? = some (.cells #[.int .i64 t429, .int .i64 x433001_12] 100 (0, 0))) ∧ Aside0 (Below w.heap.size w wc))
     case first =>
      have H := HC13.out
      clear HC13
      by_cases c20 : (t425.length : Int) = 2; rotate_left
      ·rw [if_neg c20] at H
       have c20b0 : ((t425.length : Int) == 2) = false := beq_eq_false_iff_ne.mpr c20
       have c20b1 : ((t425.length : Int) != 2) = true := bne_iff_ne.mpr c20
       (first | rw [c20b0] | (simp only [i64_w, i32_w]; rw [c20b0]) | skip)
       have H' := Az_ H
       clear H
       go_wp2
       go_meet
       case rel => exact ⟨_, (t431), H', ⟨by have := HJ2.out; first | omega | exact Nat.le_refl _⟩, ⟨w26_⟩, ⟨w19_⟩, ⟨w79_⟩⟩
      rw [if_pos c20] at H
      have c20b0 : ((t425.length : Int) == 2) = true := beq_iff_eq.mpr c20
      have c20b1 : ((t425.length : Int) != 2) = false := bne_eq_false_iff_eq.mpr c20
      clear c20
      (first | rw [c20b0] | (simp only [i64_w, i32_w]; rw [c20b0]) | skip)
      by_cases c21 : 1 < (t425.length : Int); rotate_left
      ·rw [if_neg c21] at H
       exact absurd H (by simp)
      rw [if_pos c21] at H
      have c21b0 := decide_eq_true c21
      have c21b1 : decide (1 < t425.length) = true := decide_eq_true (by omega)
      clear c21
      by_cases c22 : ((rdOf ByteArray.empty t425 1).size : Int) < ((rdOf ByteArray.empty t425 0).size : Int); rotate_left
      ·rw [if_neg c22] at H
       have c22b0 := decide_eq_false c22
       have c22b1 : decide ((rdOf ByteArray.empty t425 1).size < (rdOf ByteArray.empty t425 0).size) = false := decide_eq_false (fun h => c22 (Int.ofNat_lt.mpr h))
       clear c22
       replace H := bqz_ H; obtain ⟨t438, A32, H⟩ := H
       replace H : (j1 kj2 a0 t429 t438) = some (r1, r2, r3) := H
       have H' := Az_ H
       clear H
       have p433 : 0 ≤ (1 : Int) := (by omega)
       have q433 : 1 < (t425.length : Int) := od_
       obtain ⟨ad433, e433, hx433_0⟩ := Kd.at_string (Kd.R_reads' HO_4.out).2.2 1 p433 q433
       obtain rfl : ad428 = ad433 := (by injection e433)
       (try simp only [show (1 : Int).toNat = 1 from rfl, Nat.reduceMul, Nat.reduceEqDiff, Go.Addr.add, ↓reduceIte] at hx433_0)
       have qi433 : (1 < t425.length) = True := eq_true (by omega)
       (try rw [show ((1 : Int)).toNat = 1 from rfl] at hx433_0)
       have hn433_0 : ad428.block ≠ gb432 := (w93_)
       have hn433_1 : ad428.block ≠ gb432 := (w93_)
       replace hx433_0 := (cell_far (p := ⟨gb432, 0, none⟩) (w98_) (.int .i64 t429)).trans hx433_0
       replace hx433_0 := (cell_far (p := ⟨gb432, 1, none⟩) (w99_) (.int .i64 t431)).trans hx433_0
       clear hn433_0 hn433_1
       replace p433 := eq_true p433
       replace q433 := eq_true q433
       have p434 : 0 ≤ (0 : Int) := (by omega)
       have q434 : 0 < (t425.length : Int) := od_
       obtain ⟨ad434, e434, hx434_0⟩ := Kd.at_string (Kd.R_reads' HO_4.out).2.2 0 p434 q434
       obtain rfl : ad428 = ad434 := (by injection e434)
       have qi434 : (0 < t425.length) = True := eq_true (by omega)
       (try rw [show ((0 : Int)).toNat = 0 from rfl] at hx434_0)
       (try rw [Addr.add_zero'] at hx434_0)
       have hn434_0 : ad428.block ≠ gb432 := (w93_)
       have hn434_1 : ad428.block ≠ gb432 := (w93_)
       replace hx434_0 := (cell_far (p := ⟨gb432, 0, none⟩) (w100_) (.int .i64 t429)).trans hx434_0
       replace hx434_0 := (cell_far (p := ⟨gb432, 1, none⟩) (w101_) (.int .i64 t431)).trans hx434_0
       clear hn434_0 hn434_1
       replace p434 := eq_true p434
       replace q434 := eq_true q434
       go_wp2_with (((with_reducible refine gate_callee (f := 192) rfl ?_); refine goesL_ (some 54) rfl rfl Tryd.func192 (w162_) rfl #[.string (rdOf ByteArray.empty t425 1)] rfl maz_ ?_; (with_reducible refine (spec_l1Read.calls kj2 (rdOf ByteArray.empty t425 1) t438 _ A32.out).mono ?_); rintro e w' ⟨rfl, ⟨nd, rfl⟩⟩; refine ⟨_, rfl, ?_⟩; have hnb33 := NB432_424.out; have hnc33 := NB424_432.out; have hcz34_0 : w17.cell? ⟨gb432, 0, none⟩ = some (.int .i64 0) := (blk_cell BK432.out 0).trans rfl; have hcz34_1 : w17.cell? ⟨gb432, 1, none⟩ = some (.int .i64 0) := (blk_cell BK432.out 1).trans rfl; have hfz34_0 := blk_frozen BK432.out 0; have hfz34_1 := blk_frozen BK432.out 1))
       go_meet
       case rel => exact ⟨_, (t438), H', ⟨by have := HJ2.out; first | omega | exact Nat.le_refl _⟩, ⟨by (with_reducible repeat (first | refine knz_ ?_ _ | refine kdz_ ?_ | refine kaz_ ?_ _)); refine blk_far ?_ NB424_432.out _; (with_reducible repeat (first | refine knz_ ?_ _ | refine kdz_ ?_ | refine kaz_ ?_ _)); refine blk_far ?_ NB424_432.out _; (with_reducible repeat (first | refine knz_ ?_ _ | refine kdz_ ?_ | refine kaz_ ?_ _)); refine blk_far ?_ NB424_432.out _; (with_reducible repeat (first | refine knz_ ?_ _ | refine kdz_ ?_ | refine kaz_ ?_ _)); exact BK424.out⟩, ⟨by (with_reducible repeat (first | refine knz_ ?_ _ | refine kdz_ ?_ | refine kaz_ ?_ _)); refine blk_put (cs := #[.int .i64 t429, .int .i64 t431]) ?_ 1 _ rfl; (with_reducible repeat (first | refine knz_ ?_ _ | refine kdz_ ?_ | refine kaz_ ?_ _)); refine blk_put (cs := #[.int .i64 t429, .int .i64 0]) ?_ 1 _ rfl; (with_reducible repeat (first | refine knz_ ?_ _ | refine kdz_ ?_ | refine kaz_ ?_ _)); refine blk_put (cs := #[.int .i64 0, .int .i64 0]) ?_ 0 _ rfl; (with_reducible repeat (first | refine knz_ ?_ _ | refine kdz_ ?_ | refine kaz_ ?_ _)); exact BK432.out⟩, ⟨w79_⟩⟩
      rw [if_pos c22] at H
      have c22b0 := decide_eq_true c22
      have c22b1 : decide ((rdOf ByteArray.empty t425 1).size < (rdOf ByteArray.empty t425 0).size) = true := decide_eq_true (Int.ofNat_lt.mp c22)
      clear c22
      obtain ⟨ji23, hji23⟩ : ∃ j_ : Int, (wrap64 (((rdOf ByteArray.empty t425 0).size : Int) - ((rdOf ByteArray.empty t425 1).size : Int))) = j_ := ⟨_, rfl⟩
      replace H : (if 0 ≤ (ji23) then (if (ji23) ≤ ((rdOf ByteArray.empty t425 0).size : Int) then (if ((rdOf ByteArray.empty t425 0).extract 0 ((ji23) : Int).toNat).size + (rdOf ByteArray.empty t425 1).size ≤ 9223372036854775807 then ((spec_l1Read.f kj2 (((rdOf ByteArray.empty t425 0).extract 0 ((ji23) : Int).toNat) ++ (rdOf ByteArray.empty t425 1))).bind fun t437 => (j1 kj2 a0 t429 t437)) else (none)) else (none)) else (none)) = some (r1, r2, r3) := by first | (rw [hji23] at H; exact H) | (simp only [hji23] at H ⊢; exact H)
      have hji23w : (IntKind.i64.wrap (((rdOf ByteArray.empty t425 0).size : Int) - ((rdOf ByteArray.empty t425 1).size : Int))) = ji23 := (i64_w _).trans hji23
      by_cases c24 : 0 ≤ (ji23); rotate_left
      ·rw [if_neg c24] at H
       exact absurd H (by simp)
      rw [if_pos c24] at H
      have c24b0 := eq_true c24
      have c24b1 := decide_eq_true c24
      clear c24
      by_cases c25 : (ji23) ≤ ((rdOf ByteArray.empty t425 0).size : Int); rotate_left
      ·rw [if_neg c25] at H
       exact absurd H (by simp)
      rw [if_pos c25] at H
      have c25b0 := eq_true c25
      have c25b1 := decide_eq_true c25
      clear c25
      by_cases c26 : ((rdOf ByteArray.empty t425 0).extract 0 ((ji23) : Int).toNat).size + (rdOf ByteArray.empty t425 1).size ≤ 9223372036854775807; rotate_left
      ·rw [if_neg c26] at H
       exact absurd H (by simp)
      rw [if_pos c26] at H
      have c26b0 := eq_true c26
      have c26b1 := decide_eq_true c26
      try have c26b2 : (9223372036854775807 < ((rdOf ByteArray.empty t425 0).extract 0 ((ji23) : Int).toNat).size + (rdOf ByteArray.empty t425 1).size) = False := eq_false (Nat.not_lt.2 c26)
      try have c26b3 : (9223372036854775807 < ji23.toNat + (rdOf ByteArray.empty t425 1).size) = False := by (have h_ := c26; rw [ByteArray.size_extract, Nat.sub_zero, Nat.min_eq_left (by have g_ : ji23 ≤ ((rdOf ByteArray.empty t425 0).size : Int) := of_decide_eq_true (by assumption); omega)] at h_; exact eq_false (Nat.not_lt.2 h_))
      replace H := bqz_ H; obtain ⟨t437, A27, H⟩ := H
      replace H : (j1 kj2 a0 t429 t437) = some (r1, r2, r3) := H
      have H' := Az_ H
      clear H
      have p433 : 0 ≤ (1 : Int) := (by omega)
      have q433 : 1 < (t425.length : Int) := od_
      obtain ⟨ad433, e433, hx433_0⟩ := Kd.at_string (Kd.R_reads' HO_4.out).2.2 1 p433 q433
      obtain rfl : ad428 = ad433 := (by injection e433)
      (try simp only [show (1 : Int).toNat = 1 from rfl, Nat.reduceMul, Nat.reduceEqDiff, Go.Addr.add, ↓reduceIte] at hx433_0)
      have qi433 : (1 < t425.length) = True := eq_true (by omega)
      (try rw [show ((1 : Int)).toNat = 1 from rfl] at hx433_0)
      have hn433_0 : ad428.block ≠ gb432 := (w93_)
      have hn433_1 : ad428.block ≠ gb432 := (w93_)
      replace hx433_0 := (cell_far (p := ⟨gb432, 0, none⟩) (w98_) (.int .i64 t429)).trans hx433_0
      replace hx433_0 := (cell_far (p := ⟨gb432, 1, none⟩) (w99_) (.int .i64 t431)).trans hx433_0
      clear hn433_0 hn433_1
      replace p433 := eq_true p433
      replace q433 := eq_true q433
      have p434 : 0 ≤ (0 : Int) := (by omega)
      have q434 : 0 < (t425.length : Int) := od_
      obtain ⟨ad434, e434, hx434_0⟩ := Kd.at_string (Kd.R_reads' HO_4.out).2.2 0 p434 q434
      obtain rfl : ad428 = ad434 := (by injection e434)
      have qi434 : (0 < t425.length) = True := eq_true (by omega)
      (try rw [show ((0 : Int)).toNat = 0 from rfl] at hx434_0)
      (try rw [Addr.add_zero'] at hx434_0)
      have hn434_0 : ad428.block ≠ gb432 := (w93_)
      have hn434_1 : ad428.block ≠ gb432 := (w93_)
      replace hx434_0 := (cell_far (p := ⟨gb432, 0, none⟩) (w100_) (.int .i64 t429)).trans hx434_0
      replace hx434_0 := (cell_far (p := ⟨gb432, 1, none⟩) (w101_) (.int .i64 t431)).trans hx434_0
      clear hn434_0 hn434_1
      replace p434 := eq_true p434
      replace q434 := eq_true q434
      try go_wp2
      have n0_ : Aside0 (Kd.R Kd.string 9 ((w17.setCell ⟨gb432, 0, none⟩ (.int .i64 t429)).setCell ⟨gb432, 1, none⟩ (.int .i64 t431)) w.heap.size (fun _ => True) (.slice (some ad428) t425.length co15) t425) := ⟨by (with_reducible repeat (first | apply raz_ | apply rnz_ | apply rdz_)); exact Kd.R_mono (Kd.R_far (p := ⟨gb432, 1, none⟩) (Kd.R_far (p := ⟨gb432, 0, none⟩) (Kd.R_types HO_4.out BK432.out (by decide)) (fun _ hk => hk.2) (.int .i64 t429)) (fun _ hk => hk.2) (.int .i64 t431)) (fun _ hk => trivial)⟩
      have n1_ : Aside0 (((w17.setCell ⟨gb432, 0, none⟩ (.int .i64 t429)).setCell ⟨gb432, 1, none⟩ (.int .i64 t431)).heap[gb424]? = some (.cells #[.int .i64 0, .int .i64 0] 100 (0, 0))) := ⟨w26_⟩
      have n2_ : Aside0 (((w17.setCell ⟨gb432, 0, none⟩ (.int .i64 t429)).setCell ⟨gb432, 1, none⟩ (.int .i64 t431)).heap[gb432]? = some (.cells #[.int .i64 t429, .int .i64 t431] 100 (0, 0))) := ⟨w19_⟩
      have n3_ : Aside0 (Below w.heap.size w ((w17.setCell ⟨gb432, 0, none⟩ (.int .i64 t429)).setCell ⟨gb432, 1, none⟩ (.int .i64 t431))) := ⟨w79_⟩
      clear HO_4
      clear BK424
      clear BK432
      clear HB
      generalize ((w17.setCell ⟨gb432, 0, none⟩ (.int .i64 t429)).setCell ⟨gb432, 1, none⟩ (.int .i64 t431)) = w28 at n0_ n1_ n2_ n3_ ⊢
      have HO_4 := n0_
      have BK424 := n1_
      have BK432 := n2_
      have HB := n3_
      clear n0_ n1_ n2_ n3_
      have n0_ := Az_ (rdz_ HO_4.out)
      have n1_ := Az_ (kdz_ BK424.out)
      have n2_ := Az_ (kdz_ BK432.out)
      have n3_ := Az_ (bdz_ HB.out)
      clear HO_4 BK424 BK432 HB
      have HO_4 := n0_
      have BK424 := n1_
      have BK432 := n2_
      have HB := n3_
      clear n0_ n1_ n2_ n3_
      have p435 : 0 ≤ (0 : Int) := (by omega)
      have q435 : 0 < (t425.length : Int) := od_
      obtain ⟨ad435, e435, hx435_0⟩ := Kd.at_string (Kd.R_reads' HO_4.out).2.2 0 p435 q435
      obtain rfl : ad428 = ad435 := (by injection e435)
      have qi435 : (0 < t425.length) = True := eq_true (by omega)
      (try rw [show ((0 : Int)).toNat = 0 from rfl] at hx435_0)
      (try rw [Addr.add_zero'] at hx435_0)
      replace p435 := eq_true p435
      replace q435 := eq_true q435
      have p436 : 0 ≤ (0 : Int) := (by omega)
      have q436 : 0 < (t425.length : Int) := od_
      obtain ⟨ad436, e436, hx436_0⟩ := Kd.at_string (Kd.R_reads' HO_4.out).2.2 0 p436 q436
      obtain rfl : ad428 = ad436 := (by injection e436)
      have qi436 : (0 < t425.length) = True := eq_true (by omega)
      (try rw [show ((0 : Int)).toNat = 0 from rfl] at hx436_0)
      (try rw [Addr.add_zero'] at hx436_0)
      replace p436 := eq_true p436
      replace q436 := eq_true q436
      refine start_ (n := 14) (S := fun w' => w'.cell? ad428 = some (.string (rdOf ByteArray.empty t425 0)) ∧ w'.cell? ad428 = some (.string (rdOf ByteArray.empty t425 0))) (ds := []) #[false, false, false, false, false, false, false, false, false, false, false, false, false, false] (w162_) rfl rfl ⟨hx435_0, hx436_0⟩ (fun hHeld => ?_); refine with_tabW spec_ixLong.tab8 spec_ixLong.bits8 (fun HT_ HW_ => ?_)
      generalize w28.drew = w29 at HO_4 BK424 BK432 HB hx435_0 hx436_0 hHeld ⊢
      refine pz_ 0 40 [1,13] ?_
      refine pz_ 1 41 [2,12] ?_
      refine pz_ 3 43 [2,1,1,10] ?_
      refine pz_ 4 44 [2,1,2,9] ?_
      refine pz_ 7 47 [2,1,2,2,1,6] ?_
      refine pz_ 8 48 [2,1,2,2,2,5] ?_
      refine pz_ 11 51 [2,1,2,2,2,2,1,2] ?_
      refine tz2_ 2 42 [5,2,2,2,1,2] ?_
      refine tz2_ 5 45 [6,1,2,2,1,2] ?_
      refine pz_ 6 46 [9,2,1,2] ?_
      refine pz_ 9 49 [10,1,1,2] ?_
      refine pz_ 10 50 [12,2] ?_
      refine pz_ 12 52 [13,1] ?_
      refine pz_ 13 6 [14] ?_
      refine done_ (done_of HT_.out (w162_)) ?_
      try go_wp2_with (((with_reducible refine gate_callee (f := 192) rfl ?_); refine goesL_ (some 54) rfl rfl Tryd.func192 (w162_) rfl #[.string (((rdOf ByteArray.empty t425 0).extract 0 ((ji23) : Int).toNat) ++ (rdOf ByteArray.empty t425 1))] rfl (by (try simp only [List.map_toArray, List.map_cons, List.map_nil]); first | done | (simp only [hji23]; rfl) | rfl | (simp only [List.length_drop, List.length_take]; rfl)) ?_; (with_reducible refine (spec_l1Read.calls kj2 (((rdOf ByteArray.empty t425 0).extract 0 ((ji23) : Int).toNat) ++ (rdOf ByteArray.empty t425 1)) t437 _ A27.out).mono ?_); rintro e w' ⟨rfl, ⟨nd, rfl⟩⟩; refine ⟨_, rfl, ?_⟩; (try (rw [drewN_self w29]; generalize hq_ : World.drewN w29 _ = w29; have n0_ : Aside0 (Kd.R Kd.string 9 w29 w.heap.size (fun _ => True) (.slice (some ad428) t425.length co15) t425) := ⟨by rw [← hq_]; exact (w157_)⟩; have n1_ : Aside0 (w29.heap[gb424]? = some (.cells #[.int .i64 0, .int .i64 0] 100 (0, 0))) := ⟨by rw [← hq_]; exact (by exact ukz_ BK424.out)⟩; have n2_ : Aside0 (w29.heap[gb432]? = some (.cells #[.int .i64 t429, .int .i64 t431] 100 (0, 0))) := ⟨by rw [← hq_]; exact (by exact ukz_ BK432.out)⟩; have n3_ : Aside0 (Below w.heap.size w w29) := ⟨by rw [← hq_]; exact (w79_)⟩; clear HO_4 BK424 BK432 HB hq_; have HO_4 := n0_; have BK424 := n1_; have BK432 := n2_; have HB := n3_; clear n0_ n1_ n2_ n3_)); have hnb30 := NB432_424.out; have hnc30 := NB424_432.out; have hcz31_0 : w29.cell? ⟨gb432, 0, none⟩ = some (.int .i64 t429) := (blk_cell BK432.out 0).trans rfl; have hcz31_1 : w29.cell? ⟨gb432, 1, none⟩ = some (.int .i64 t431) := (blk_cell BK432.out 1).trans rfl; have hfz31_0 := blk_frozen BK432.out 0; have hfz31_1 := blk_frozen BK432.out 1))
      go_meet
      case rel => exact ⟨_, (t437), H', ⟨by have := HJ2.out; first | omega | exact Nat.le_refl _⟩, ⟨by (with_reducible repeat (first | refine knz_ ?_ _ | refine kdz_ ?_ | refine kaz_ ?_ _)); refine blk_far ?_ NB424_432.out _; (with_reducible repeat (first | refine knz_ ?_ _ | refine kdz_ ?_ | refine kaz_ ?_ _)); exact BK424.out⟩, ⟨by (with_reducible repeat (first | refine knz_ ?_ _ | refine kdz_ ?_ | refine kaz_ ?_ _)); refine blk_put (cs := #[.int .i64 t429, .int .i64 t431]) ?_ 1 _ rfl; (with_reducible repeat (first | refine knz_ ?_ _ | refine kdz_ ?_ | refine kaz_ ?_ _)); exact BK432.out⟩, ⟨w79_⟩⟩
     case rest =>
      clear HC13
      clear hx428_0 hx430_0 p428 p430 q428 q430
      obtain ⟨kq, x433001_12, HA, HJ12, BK424, BK432, HB⟩ := hcut
      cases kq with
      | zero => exact absurd HA.out (by simp [j1])
      | succ kj12 =>
       have H := HA.out
       clear HA
       simp only [j1] at H
       replace H := bqz_ H; obtain ⟨t439, A35, H⟩ := H
       replace H : (if t439 = true then ((spec_ixShort.f kj12 t429 x433001_12).bind fun t440 => (if t440.toList = a0.toList then (some (t429, x433001_12, true)) else (some (0, 0, false)))) else (some (0, 0, false))) = some (r1, r2, r3) := H
       by_cases c36 : t439 = true; rotate_left
       ·replace c36 := Bool.eq_false_iff.mpr c36
        subst c36
        rw [if_neg nfz_] at H
        simp only [Option.some.injEq, Prod.mk.injEq] at H
        obtain ⟨rfl, rfl, rfl⟩ := H
        have hnb52 := NB432_424.out
        have hnc52 := NB424_432.out
        have hcz53_0 : wc.cell? ⟨gb432, 0, none⟩ = some (.int .i64 t429) := (blk_cell BK432.out 0).trans rfl
        have hcz53_1 : wc.cell? ⟨gb432, 1, none⟩ = some (.int .i64 x433001_12) := (blk_cell BK432.out 1).trans rfl
        have hfz53_0 := blk_frozen BK432.out 0
        have hfz53_1 := blk_frozen BK432.out 1
        go_wp2_with (((with_reducible refine gate_callee (f := 164) rfl ?_); refine goesL_ (some 57) rfl rfl Tryd.func164 (w162_) rfl #[.agg #[.int .i64 t429, .int .i64 x433001_12]] rfl maz_ ?_; (with_reducible refine (spec_ixRange.calls t429 x433001_12 false _ A35.out).mono ?_); rintro e w54 ⟨rfl, hb⟩; refine ⟨_, rfl, ?_⟩; have n2_ := Az_ (btz_ (w79_) hb); clear HB; replace BK424 := Az_ (ukbz_ BK424.out hb); replace BK432 := Az_ (ukbz_ BK432.out hb); have HB := n2_; clear n2_; (try clear hb); have hcz55_0 : w54.cell? ⟨gb424, 0, none⟩ = some (.int .i64 0) := (blk_cell BK424.out 0).trans rfl; have hcz55_1 : w54.cell? ⟨gb424, 1, none⟩ = some (.int .i64 0) := (blk_cell BK424.out 1).trans rfl; have hfz55_0 := blk_frozen BK424.out 0; have hfz55_1 := blk_frozen BK424.out 1))
        refine bodyPost_ret (results_ct rfl _ _ gb424 100 #[.int .i64 0, .int .i64 0] (0, 0) _ rfl (w22_) Tryd.underlying100 rfl (w162_)) rfl ?_
        exact ⟨w116_, w79_⟩
       subst c36
       rw [if_pos rfl] at H
       replace H := bqz_ H; obtain ⟨t440, A37, H⟩ := H
       replace H : (if t440.toList = a0.toList then (some (t429, x433001_12, true)) else (some (0, 0, false))) = some (r1, r2, r3) := H
       by_cases c38 : t440.toList = a0.toList; rotate_left
       ·rw [if_neg c38] at H
        have c38b0 : (t440.toList == a0.toList) = false := beq_eq_false_iff_ne.mpr c38
        have c38b1 : (t440.toList != a0.toList) = true := bne_iff_ne.mpr c38
        simp only [Option.some.injEq, Prod.mk.injEq] at H
        obtain ⟨rfl, rfl, rfl⟩ := H
        have hnb46 := NB432_424.out
        have hnc46 := NB424_432.out
        have hcz47_0 : wc.cell? ⟨gb432, 0, none⟩ = some (.int .i64 t429) := (blk_cell BK432.out 0).trans rfl
        have hcz47_1 : wc.cell? ⟨gb432, 1, none⟩ = some (.int .i64 x433001_12) := (blk_cell BK432.out 1).trans rfl
        have hfz47_0 := blk_frozen BK432.out 0
        have hfz47_1 := blk_frozen BK432.out 1
        go_wp2_with (first | ((with_reducible refine gate_callee (f := 164) rfl ?_); refine goesL_ (some 57) rfl rfl Tryd.func164 (w162_) rfl #[.agg #[.int .i64 t429, .int .i64 x433001_12]] rfl maz_ ?_; (with_reducible refine (spec_ixRange.calls t429 x433001_12 true _ A35.out).mono ?_); rintro e w48 ⟨rfl, hb⟩; refine ⟨_, rfl, ?_⟩; have n2_ := Az_ (btz_ (w79_) hb); clear HB; replace BK424 := Az_ (ukbz_ BK424.out hb); replace BK432 := Az_ (ukbz_ BK432.out hb); have HB := n2_; clear n2_; (try clear hb); have hcz49_0 : w48.cell? ⟨gb432, 0, none⟩ = some (.int .i64 t429) := (blk_cell BK432.out 0).trans rfl; have hcz49_1 : w48.cell? ⟨gb432, 1, none⟩ = some (.int .i64 x433001_12) := (blk_cell BK432.out 1).trans rfl; have hfz49_0 := blk_frozen BK432.out 0; have hfz49_1 := blk_frozen BK432.out 1) | (go_at_call 165; (with_reducible refine (spec_ixShort.calls kj12 t429 x433001_12 t440 _ A37.out).mono ?_); rintro e w50 ⟨rfl, hb⟩; have n2_ := Az_ (btz_ (w79_) hb); clear HB; replace BK424 := Az_ (ukbz_ BK424.out hb); replace BK432 := Az_ (ukbz_ BK432.out hb); have HB := n2_; clear n2_; (try clear hb); have hcz51_0 : w50.cell? ⟨gb424, 0, none⟩ = some (.int .i64 0) := (blk_cell BK424.out 0).trans rfl; have hcz51_1 : w50.cell? ⟨gb424, 1, none⟩ = some (.int .i64 0) := (blk_cell BK424.out 1).trans rfl; have hfz51_0 := blk_frozen BK424.out 0; have hfz51_1 := blk_frozen BK424.out 1))
        refine bodyPost_ret (results_ct rfl _ _ gb424 100 #[.int .i64 0, .int .i64 0] (0, 0) _ rfl (w22_) Tryd.underlying100 rfl (w162_)) rfl ?_
        exact ⟨w116_, w79_⟩
       rw [if_pos c38] at H
       have c38b0 : (t440.toList == a0.toList) = true := beq_iff_eq.mpr c38
       have c38b1 : (t440.toList != a0.toList) = false := bne_eq_false_iff_eq.mpr c38
       clear c38
       simp only [Option.some.injEq, Prod.mk.injEq] at H
       obtain ⟨rfl, rfl, rfl⟩ := H
       have hnb39 := NB432_424.out
       have hnc39 := NB424_432.out
       have hcz40_0 : wc.cell? ⟨gb432, 0, none⟩ = some (.int .i64 t429) := (blk_cell BK432.out 0).trans rfl
       have hcz40_1 : wc.cell? ⟨gb432, 1, none⟩ = some (.int .i64 x433001_12) := (blk_cell BK432.out 1).trans rfl
       have hfz40_0 := blk_frozen BK432.out 0
       have hfz40_1 := blk_frozen BK432.out 1
       go_wp2_with (first | ((with_reducible refine gate_callee (f := 164) rfl ?_); refine goesL_ (some 57) rfl rfl Tryd.func164 (w162_) rfl #[.agg #[.int .i64 t429, .int .i64 x433001_12]] rfl maz_ ?_; (with_reducible refine (spec_ixRange.calls t429 x433001_12 true _ A35.out).mono ?_); rintro e w41 ⟨rfl, hb⟩; refine ⟨_, rfl, ?_⟩; have n2_ := Az_ (btz_ (w79_) hb); clear HB; replace BK424 := Az_ (ukbz_ BK424.out hb); replace BK432 := Az_ (ukbz_ BK432.out hb); have HB := n2_; clear n2_; (try clear hb); have hcz42_0 : w41.cell? ⟨gb432, 0, none⟩ = some (.int .i64 t429) := (blk_cell BK432.out 0).trans rfl; have hcz42_1 : w41.cell? ⟨gb432, 1, none⟩ = some (.int .i64 x433001_12) := (blk_cell BK432.out 1).trans rfl; have hfz42_0 := blk_frozen BK432.out 0; have hfz42_1 := blk_frozen BK432.out 1) | (go_at_call 165; (with_reducible refine (spec_ixShort.calls kj12 t429 x433001_12 t440 _ A37.out).mono ?_); rintro e w43 ⟨rfl, hb⟩; have n2_ := Az_ (btz_ (w79_) hb); clear HB; replace BK424 := Az_ (ukbz_ BK424.out hb); replace BK432 := Az_ (ukbz_ BK432.out hb); have HB := n2_; clear n2_; (try clear hb); have hcz44_0 : w43.cell? ⟨gb432, 0, none⟩ = some (.int .i64 t429) := (blk_cell BK432.out 0).trans rfl; have hcz44_1 : w43.cell? ⟨gb432, 1, none⟩ = some (.int .i64 x433001_12) := (blk_cell BK432.out 1).trans rfl; have hfz44_0 := blk_frozen BK432.out 0; have hfz44_1 := blk_frozen BK432.out 1; have hcz45_0 : w43.cell? ⟨gb424, 0, none⟩ = some (.int .i64 0) := (blk_cell BK424.out 0).trans rfl; have hcz45_1 : w43.cell? ⟨gb424, 1, none⟩ = some (.int .i64 0) := (blk_cell BK424.out 1).trans rfl; have hfz45_0 := blk_frozen BK424.out 0; have hfz45_1 := blk_frozen BK424.out 1))
       refine bodyPost_ret (results_ct rfl _ _ gb424 100 #[.int .i64 t429, .int .i64 x433001_12] (0, 0) _ rfl (by (with_reducible repeat (first | refine knz_ ?_ _ | refine kdz_ ?_ | refine kaz_ ?_ _)); refine blk_put (cs := #[.int .i64 t429, .int .i64 0]) ?_ 1 _ rfl; (with_reducible repeat (first | refine knz_ ?_ _ | refine kdz_ ?_ | refine kaz_ ?_ _)); refine blk_put (cs := #[.int .i64 0, .int .i64 0]) ?_ 0 _ rfl; (with_reducible repeat (first | refine knz_ ?_ _ | refine kdz_ ?_ | refine kaz_ ?_ _)); exact BK424.out) Tryd.underlying100 rfl (w162_)) rfl ?_
       exact ⟨w116_, w79_⟩
    ·rw [if_neg c10] at H
     exact absurd H (by simp)


def spec_LongRange.f (k : Nat) (a0 : ByteArray) : Option (Int × Int × Bool) := (spec_ixLong.f k a0).bind fun bt442 => (some (bt442.1, bt442.2.1, bt442.2.2))
set_option maxHeartbeats 8000000 in
set_option maxRecDepth 100000 in
theorem spec_LongRange.calls (k : Nat) (a0 : ByteArray) (r1 : Int) (r2 : Int) (r3 : Bool) (w : World) (h : spec_LongRange.f k a0 = some (r1, r2, r3)) :
  Calls Tryd.prog 90 #[.string a0] w fun e w' => e = .returned (.tuple #[.agg #[.int .i64 r1, .int .i64 r2], .bool r3]) ∧ Below w.heap.size w w' := by
 have hu100 := Tryd.underlying100
 have HB := Az_ (Below.refl w.heap.size w)
 have H : ((spec_ixLong.f k a0).bind fun bt442 => (some (bt442.1, bt442.2.1, bt442.2.2))) = some (r1, r2, r3) := h
 clear h
 replace H := bqz_ H; obtain ⟨⟨t442, t443, t444⟩, A2, H⟩ := H
 replace H : (some (t442, t443, t444)) = some (r1, r2, r3) := H
 simp only [Option.some.injEq, Prod.mk.injEq] at H
 obtain ⟨rfl, rfl, rfl⟩ := H
 go_enter Tryd.func90, Tryd.ntmps90
 go_wp2_with (first | ((with_reducible refine gate_dst (N := 2) rfl ?_); refine box_event ?hg (N := 2) ?hd (cs := #[.int .i64 0, .int .i64 0]) (t := 100) ?hr ?_; (case hd => rfl); (case hg => rfl); (case hr => first | (go_simp; done) | (go_simp; rfl)); intro gb441 hg w3 hbox hb; have BK441 := Az_ (hbox); have GW441 := Az_ ((by rw [hg]; exact (below_size (ubz_ HB.out)) : w.heap.size ≤ gb441)); have GE441 := Az_ ((by rw [hg]; exact (below_size (ubz_ HB.out)) : w.heap.size ≤ gb441)); replace HB := Az_ (btz_ (ubz_ HB.out) hb); clear hb hbox hg) | ((with_reducible refine gate_callee (f := 167) rfl ?_); refine goesL_ (some 5) rfl rfl Tryd.func167 (w162_) rfl #[.string a0] rfl maz_ ?_; (with_reducible refine (spec_ixLong.calls k a0 t442 t443 t444 _ A2.out).mono ?_); rintro e w4 ⟨rfl, hb⟩; refine ⟨_, rfl, ?_⟩; have n1_ := Az_ (btz_ (w79_) hb); clear HB; replace BK441 := Az_ (ukbz_ BK441.out hb); have HB := n1_; clear n1_; (try clear hb); have hcz5_0 : w4.cell? ⟨gb441, 0, none⟩ = some (.int .i64 0) := (blk_cell BK441.out 0).trans rfl; have hcz5_1 : w4.cell? ⟨gb441, 1, none⟩ = some (.int .i64 0) := (blk_cell BK441.out 1).trans rfl; have hfz5_0 := blk_frozen BK441.out 0; have hfz5_1 := blk_frozen BK441.out 1))
 refine bodyPost_ret (results_ct rfl _ _ gb441 100 #[.int .i64 t442, .int .i64 t443] (0, 0) _ rfl (by (with_reducible repeat (first | refine knz_ ?_ _ | refine kdz_ ?_ | refine kaz_ ?_ _)); refine blk_put (cs := #[.int .i64 t442, .int .i64 0]) ?_ 1 _ rfl; (with_reducible repeat (first | refine knz_ ?_ _ | refine kdz_ ?_ | refine kaz_ ?_ _)); refine blk_put (cs := #[.int .i64 0, .int .i64 0]) ?_ 0 _ rfl; (with_reducible repeat (first | refine knz_ ?_ _ | refine kdz_ ?_ | refine kaz_ ?_ _)); exact BK441.out) Tryd.underlying100 rfl (w162_)) rfl ?_
 exact ⟨w116_, w79_⟩

end Go.Proofs.YtppbpefehpbejaaDoor.P
end
