/- Lean functions with the answers of the program's Go functions, and for each the proof that the Go code comes to these answers; no condition. -/
import Derived.Test.YtodacdcbeleleaaDoorZbh25
import Derived.Test.YtodacdcbeleleaaDoorZbh21
import Derived.Test.YtodacdcbeleleaaDoorZbh22
import Derived.Test.YtodacdcbeleleaaDoorZbh23
import Derived.Test.YtodacdcbeleleaaDoorZbh24
namespace Go.Proofs.YtodacdcbeleleaaDoor.P
open Go.RowKit Go.Proofs.YtodacdcbeleleaaDoorW.PrintWords Go.Proofs.YtodacdcbeleleaaDoorW.PrintLast Go.Proofs.YtodacdcbeleleaaDoorW.PrintMore
attribute [local go_sem] max2_int min2_int max_two min_two max_three min_three max_four min_four   -- for this text's walks alone
set_option linter.unusedVariables false
set_option linter.unusedSimpArgs false

attribute [local go_sem high] eqA40
set_option maxHeartbeats 24000000 in
set_option maxRecDepth 100000 in
theorem laws_FnBooksHidden.calls (k : Nat) (A0 : Option Addr) (c0 : Nat) (l0 : List Int) (A1 : Option Addr) (c1 : Nat) (l1 : List Int) (r : Bool) (w : World) (hr0 : Kd.C (Kd.int .u8) w A0 l0.length l0) (hc0 : l0.length ≤ c0) (hr1 : Kd.C (Kd.int .u8) w A1 l1.length l1) (hc1 : l1.length ≤ c1) (h : laws_FnBooksHidden.f k l0 l1 = some r) (hrT : r = true) :
  Calls Tryd.prog 3 #[.slice A0 l0.length c0, .slice A1 l1.length c1] w fun e w' => e = .returned (.bool r) ∧ Below w.heap.size w w' := by
 have hu25 := Tryd.underlying25
 have hu30 := Tryd.underlying30
 have hu40 := Tryd.underlying40
 have HR0 := Az_ hr0
 have HC0 := Az_ hc0
 clear hr0 hc0
 have HR1 := Az_ hr1
 have HC1 := Az_ hc1
 clear hr1 hc1
 have HB := Az_ (Below.refl w.heap.size w)
 have H : ((laws_big.f l0 l1).bind fun t645 => (if t645 = true then (some true) else ((spec_DrawMakePuzzle.f l0).bind fun bt646 => ((impl_MakePuzzle.f k bt646.1 bt646.2.1 bt646.2.2.1 bt646.2.2.2).bind fun bt651 => ((spec_MakePuzzle.f k bt646.1 bt646.2.1 bt646.2.2.1 bt646.2.2.2).bind fun bt656 => (if (bt651.2 != bt656.2) = true then (j0 k l1 bt646.2.2.1 bt651.2 true bt646.1 bt646.2.1 bt651.1) else ((laws_xPuzzle.f k bt651.1 bt656.1).bind fun t661 => (if t661 = true then (if bt651.2 = true then ((impl_IsHidden.f bt646.1 bt646.2.1).bind fun t662 => (if t662 = true then ((impl_IsHidden.f bt646.1 bt646.2.1).bind fun t663 => ((spec_IsHidden.f bt646.1 bt646.2.1).bind fun t664 => (j0 k l1 bt646.2.2.1 bt651.2 (t663 != t664) bt646.1 bt646.2.1 bt651.1))) else (j0 k l1 bt646.2.2.1 bt651.2 true bt646.1 bt646.2.1 bt651.1))) else ((impl_IsHidden.f bt646.1 bt646.2.1).bind fun t665 => ((spec_IsHidden.f bt646.1 bt646.2.1).bind fun t666 => (j0 k l1 bt646.2.2.1 bt651.2 (t665 != t666) bt646.1 bt646.2.1 bt651.1)))) else (j0 k l1 bt646.2.2.1 bt651.2 true bt646.1 bt646.2.1 bt651.1))))))))) = some r := h
 clear h
 replace H := bqz_ H; obtain ⟨t645, A3, H⟩ := H
 replace H : (if t645 = true then (some true) else ((spec_DrawMakePuzzle.f l0).bind fun bt646 => ((impl_MakePuzzle.f k bt646.1 bt646.2.1 bt646.2.2.1 bt646.2.2.2).bind fun bt651 => ((spec_MakePuzzle.f k bt646.1 bt646.2.1 bt646.2.2.1 bt646.2.2.2).bind fun bt656 => (if (bt651.2 != bt656.2) = true then (j0 k l1 bt646.2.2.1 bt651.2 true bt646.1 bt646.2.1 bt651.1) else ((laws_xPuzzle.f k bt651.1 bt656.1).bind fun t661 => (if t661 = true then (if bt651.2 = true then ((impl_IsHidden.f bt646.1 bt646.2.1).bind fun t662 => (if t662 = true then ((impl_IsHidden.f bt646.1 bt646.2.1).bind fun t663 => ((spec_IsHidden.f bt646.1 bt646.2.1).bind fun t664 => (j0 k l1 bt646.2.2.1 bt651.2 (t663 != t664) bt646.1 bt646.2.1 bt651.1))) else (j0 k l1 bt646.2.2.1 bt651.2 true bt646.1 bt646.2.1 bt651.1))) else ((impl_IsHidden.f bt646.1 bt646.2.1).bind fun t665 => ((spec_IsHidden.f bt646.1 bt646.2.1).bind fun t666 => (j0 k l1 bt646.2.2.1 bt651.2 (t665 != t666) bt646.1 bt646.2.1 bt651.1)))) else (j0 k l1 bt646.2.2.1 bt651.2 true bt646.1 bt646.2.1 bt651.1)))))))) = some r := H
 by_cases c4 : t645 = true
 ·subst c4
  rw [if_pos rfl] at H
  obtain rfl := Option.some.inj H; clear hrT
  go_enter Tryd.func3, Tryd.ntmps3
  (try simp only [List.append_eq, List.append, List.cons_append, List.nil_append])
  go_wp2_with (((with_reducible refine gate_callee (f := 4) rfl ?_); refine goesL_ (some 67) rfl rfl Tryd.func4 (w204_) rfl #[.slice A0 l0.length c0, .slice A1 l1.length c1] rfl maz_ ?_; (with_reducible refine (laws_big.calls _ _ l0 _ _ l1 true _ ?side1 ?side2 ?side3 ?side4 A3.out).mono ?_); (case side1 => exact ucz_ (HR0.out)); (case side2 => exact HC0.out); (case side3 => exact ucz_ (HR1.out)); (case side4 => exact HC1.out); rintro e w' ⟨rfl, ⟨nd, rfl⟩⟩; refine ⟨_, rfl, ?_⟩))
  go_ret
  exact ⟨w166_, w203_⟩
 replace c4 := Bool.eq_false_iff.mpr c4
 subst c4
 rw [if_neg nfz_] at H
 replace H := bqz_ H; obtain ⟨⟨t646, t647, t648, t649⟩, A5, H⟩ := H
 replace H := bqz_ H; obtain ⟨⟨t651, t654⟩, A6, H⟩ := H
 replace H := bqz_ H; obtain ⟨⟨t656, t659⟩, A7, H⟩ := H
 replace H : (if (t654 != t659) = true then (j0 k l1 t648 t654 true t646 t647 t651) else ((laws_xPuzzle.f k t651 t656).bind fun t661 => (if t661 = true then (if t654 = true then ((impl_IsHidden.f t646 t647).bind fun t662 => (if t662 = true then ((impl_IsHidden.f t646 t647).bind fun t663 => ((spec_IsHidden.f t646 t647).bind fun t664 => (j0 k l1 t648 t654 (t663 != t664) t646 t647 t651))) else (j0 k l1 t648 t654 true t646 t647 t651))) else ((impl_IsHidden.f t646 t647).bind fun t665 => ((spec_IsHidden.f t646 t647).bind fun t666 => (j0 k l1 t648 t654 (t665 != t666) t646 t647 t651)))) else (j0 k l1 t648 t654 true t646 t647 t651)))) = some r := H
 have HC8 := Az_ H
 clear H
 go_enter Tryd.func3, Tryd.ntmps3
 (try simp only [List.append_eq, List.append, List.cons_append, List.nil_append])
 go_upto_region 6 with (first | ((with_reducible refine gate_callee (f := 4) rfl ?_); refine goesL_ (some 67) rfl rfl Tryd.func4 (w204_) rfl #[.slice A0 l0.length c0, .slice A1 l1.length c1] rfl maz_ ?_; (with_reducible refine (laws_big.calls _ _ l0 _ _ l1 false _ ?side1 ?side2 ?side3 ?side4 A3.out).mono ?_); (case side1 => exact ucz_ (HR0.out)); (case side2 => exact HC0.out); (case side3 => exact ucz_ (HR1.out)); (case side4 => exact HC1.out); rintro e w' ⟨rfl, ⟨nd, rfl⟩⟩; refine ⟨_, rfl, ?_⟩) | ((with_reducible refine gate_callee (f := 5) rfl ?_); refine goesL_ (some 70) rfl rfl Tryd.func5 (w204_) rfl #[.slice A0 l0.length c0] rfl maz_ ?_; (with_reducible refine (spec_DrawMakePuzzle.calls _ _ l0 t646 t647 t648 t649 _ ?side1 ?side2 A5.out).mono ?_); (case side1 => exact ucz_ (HR0.out)); (case side2 => exact HC0.out); rintro e w9 ⟨rfl, hb⟩; refine ⟨_, rfl, ?_⟩; replace HB := Az_ (btz_ (ubz_ HB.out) hb); (try clear hb)) | ((with_reducible refine gate_dst (N := 5) rfl ?_); (try (refine gate_guard (by rfl) ?_; dsimp only)); refine bxe_ (N := 5) (cs := #[.int .i64 0, .int .i64 0]) (t := 25) ?_; intro gb650 hg w10 BK650 hb; have GW650 := gez_ hg (ubz_ HB.out); have GE650 := GW650; replace HB := Az_ (btz_ (ubz_ HB.out) hb); clear hb hg; have hcz11_0 := cz_ (x := .int .i64 0) BK650 0; have hcz11_1 := cz_ (x := .int .i64 0) BK650 1; have hfz11_0 := blk_frozen BK650.out 0; have hfz11_1 := blk_frozen BK650.out 1) | ((with_reducible refine gate_callee (f := 6) rfl ?_); refine goesL_ (some 78) rfl rfl Tryd.func6 (w204_) rfl #[.agg #[.int .i64 t646, .int .i64 t647], .int .i64 t648, .int .i64 t649] rfl maz_ ?_; (with_reducible refine (impl_MakePuzzle.calls k t646 t647 t648 t649 t651 t654 _ A6.out).mono ?_); rintro e w12 ⟨v652, rfl, ho0, hb⟩; refine ⟨_, rfl, ?_⟩; have HO653 := Az_ (Kd.R_lower ho0 (below_size (w129_))); replace BK650 := Az_ (kbz_ (g := gb650) (o := .cells #[.int .i64 t646, .int .i64 t647] 25 (0, 0)) (by (with_reducible repeat (first | refine knz_ ?_ _ | refine kdz_ ?_ | refine kaz_ ?_ _)); refine blk_put (cs := #[.int .i64 t646, .int .i64 0]) ?_ 1 _ rfl; (with_reducible repeat (first | refine knz_ ?_ _ | refine kdz_ ?_ | refine kaz_ ?_ _)); refine blk_put (cs := #[.int .i64 0, .int .i64 0]) ?_ 0 _ rfl; (with_reducible repeat (first | refine knz_ ?_ _ | refine kdz_ ?_ | refine kaz_ ?_ _)); exact BK650.out) hb); replace HB := Az_ (btz_ (w129_) hb); (try clear hb); (try clear ho0)) | ((with_reducible refine gate_dst (N := 8) rfl ?_); (try (refine gate_guard (by rfl) ?_; dsimp only)); refine bxe_ (N := 8) (cs := #[.slice none 0 0]) (t := 30) ?_; intro gb655 hg w13 BK655 hb; obtain ⟨NB650_655, NB655_650⟩ := nez_ BK650 hg; have GW655 : Aside0 (w.heap.size ≤ gb655) := gez_ hg (w129_); have GE655 := GW655; replace HO653 := Az_ (Kd.R_below (w193_) hb); replace HB := Az_ (btz_ (w129_) hb); replace BK650 := Az_ (ukbz_ BK650.out hb); clear hb hg; obtain ⟨Ao14, co14, eo14⟩ := Kd.R_slice HO653.out; subst eo14; have hnb15 := NB655_650.out; have hnc15 := NB650_655.out; have hcz16_0 := cz_ (x := .slice none 0 0) BK655 0; have hfz16_0 := blk_frozen BK655.out 0; have hcz17_0 := cz_ (x := .int .i64 t646) BK650 0; have hcz17_1 := cz_ (x := .int .i64 t647) BK650 1; have hfz17_0 := blk_frozen BK650.out 0; have hfz17_1 := blk_frozen BK650.out 1) | ((with_reducible refine gate_callee (f := 7) rfl ?_); refine goesL_ (some 85) rfl rfl Tryd.func7 (w204_) rfl #[.agg #[.int .i64 t646, .int .i64 t647], .int .i64 t648, .int .i64 t649] rfl maz_ ?_; (with_reducible refine (spec_MakePuzzle.calls k t646 t647 t648 t649 t656 t659 _ A7.out).mono ?_); rintro e w18 ⟨v657, rfl, ho0, hb⟩; refine ⟨_, rfl, ?_⟩; have HO658 := Az_ (Kd.R_lower (Kd.R_new' ho0 (Kd.R_lt (w72_))) (below_size (w129_))); replace HO653 := Az_ (rez_ (w72_) (Kd.R_base ho0) hb); replace BK650 := Az_ (kbz_ (g := gb650) (o := .cells #[.int .i64 t646, .int .i64 t647] 25 (0, 0)) (by (with_reducible repeat (first | refine knz_ ?_ _ | refine kdz_ ?_ | refine kaz_ ?_ _)); refine blk_far ?_ NB650_655.out _; (with_reducible repeat (first | refine knz_ ?_ _ | refine kdz_ ?_ | refine kaz_ ?_ _)); exact BK650.out) hb); replace BK655 := Az_ (kbz_ (g := gb655) (o := .cells #[.slice Ao14 t651.length co14] 30 (0, 0)) (by (with_reducible repeat (first | refine knz_ ?_ _ | refine kdz_ ?_ | refine kaz_ ?_ _)); refine blk_put (cs := #[.slice none 0 0]) ?_ 0 _ rfl; (with_reducible repeat (first | refine knz_ ?_ _ | refine kdz_ ?_ | refine kaz_ ?_ _)); exact BK655.out) hb); replace HB := Az_ (btz_ (w129_) hb); (try clear hb); (try clear ho0)) | ((with_reducible refine gate_dst (N := 10) rfl ?_); (try (refine gate_guard (by rfl) ?_; dsimp only)); refine bxe_ (N := 10) (cs := #[.slice none 0 0]) (t := 30) ?_; intro gb660 hg w19 BK660 hb; obtain ⟨NB650_660, NB660_650⟩ := nez_ BK650 hg; obtain ⟨NB655_660, NB660_655⟩ := nez_ BK655 hg; have GW660 : Aside0 (w.heap.size ≤ gb660) := gez_ hg (w129_); have GE660 := GW660; replace HO653 := Az_ (Kd.R_below (w193_) hb); replace HO658 := Az_ (Kd.R_below (w194_) hb); replace HB := Az_ (btz_ (w129_) hb); replace BK650 := Az_ (ukbz_ BK650.out hb); replace BK655 := Az_ (ukbz_ BK655.out hb); clear hb hg; obtain ⟨Ao20, co20, eo20⟩ := Kd.R_slice HO658.out; subst eo20; have hnb21 := NB660_650.out; have hnc21 := NB650_660.out; have hnb22 := NB660_655.out; have hnc22 := NB655_660.out; have hcz23_0 := cz_ (x := .slice none 0 0) BK660 0; have hfz23_0 := blk_frozen BK660.out 0))
 (try simp only [Act.put, List.setIfInBounds_toArray, List.set_cons_zero, List.set_cons_succ])
 go_cut [111] from 1 to 0 (fun v111 wc => ∃ (kq : Nat) (x111_7 : Bool), v111 = .bool x111_7 ∧ Aside0 (j0 kq l1 t648 t654 x111_7 t646 t647 t651 = some r) ∧ Aside0 (kq ≤ k) ∧ Aside0 (Kd.R k40 40 wc w.heap.size (fun _ => True) (.slice Ao14 t651.length co14) t651) ∧ Aside0 (wc.heap[gb650]? = some (.cells #[.int .i64 t646, .int .i64 t647] 25 (0, 0))) ∧ Aside0 (wc.heap[gb655]? = some (.cells #[(.slice Ao14 t651.length co14)] 30 (0, 0))) ∧ Aside0 (Below w.heap.size w wc))
 case first => as_aux_lemma =>
  have H := HC8.out
  clear HC8
  by_cases c24 : (t654 != t659) = true
  ·rw [if_pos c24] at H
   exact (laws_FnBooksHidden.j0_no _ _ _ _ _ _ _ _ hrT H).elim
  rw [if_neg c24] at H
  obtain rfl : t654 = t659 := by simpa using c24
  clear c24
  replace H := bqz_ H; obtain ⟨t661, A27, H⟩ := H
  replace H : (if t661 = true then (if t654 = true then ((impl_IsHidden.f t646 t647).bind fun t662 => (if t662 = true then ((impl_IsHidden.f t646 t647).bind fun t663 => ((spec_IsHidden.f t646 t647).bind fun t664 => (j0 k l1 t648 t654 (t663 != t664) t646 t647 t651))) else (j0 k l1 t648 t654 true t646 t647 t651))) else ((impl_IsHidden.f t646 t647).bind fun t665 => ((spec_IsHidden.f t646 t647).bind fun t666 => (j0 k l1 t648 t654 (t665 != t666) t646 t647 t651)))) else (j0 k l1 t648 t654 true t646 t647 t651)) = some r := H
  by_cases c28 : t661 = true; rotate_left
  ·replace c28 := Bool.eq_false_iff.mpr c28
   subst c28
   have H1 : (j0 k l1 t648 t654 true t646 t647 t651) = some r := by rw [if_neg (show ¬ (false = true) by decide)] at H; exact H
   clear H
   have H := H1
   exact (laws_FnBooksHidden.j0_no _ _ _ _ _ _ _ _ hrT H).elim
  subst c28
  rw [if_pos rfl] at H
  by_cases c29 : t654 = true; rotate_left
  ·replace c29 := Bool.eq_false_iff.mpr c29
   subst c29
   rw [if_neg nfz_] at H
   replace H := bqz_ H; obtain ⟨t665, A44, H⟩ := H
   replace H := bqz_ H; obtain ⟨t666, A45, H⟩ := H
   replace H : (j0 k l1 t648 false (t665 != t666) t646 t647 t651) = some r := H
   have H' := Az_ H
   clear H
   try go_wp2
   have n0_ : Aside0 (Kd.R k40 40 (w19.setCell ⟨gb660, 0, none⟩ (.slice Ao20 t656.length co20)) w.heap.size (fun k_ => some k_ ≠ (.slice Ao20 t656.length co20 : Value).ownBlock) (.slice Ao14 t651.length co14) t651) := ⟨w73_⟩
   have n1_ : Aside0 (Kd.R k40 40 (w19.setCell ⟨gb660, 0, none⟩ (.slice Ao20 t656.length co20)) w.heap.size (fun k_ => some k_ ≠ (.slice Ao14 t651.length co14 : Value).ownBlock) (.slice Ao20 t656.length co20) t656) := ⟨w74_⟩
   have n2_ : Aside0 ((w19.setCell ⟨gb660, 0, none⟩ (.slice Ao20 t656.length co20)).heap[gb650]? = some (.cells #[.int .i64 t646, .int .i64 t647] 25 (0, 0))) := ⟨w88_⟩
   have n3_ : Aside0 ((w19.setCell ⟨gb660, 0, none⟩ (.slice Ao20 t656.length co20)).heap[gb655]? = some (.cells #[.slice Ao14 t651.length co14] 30 (0, 0))) := ⟨w89_⟩
   have n4_ : Aside0 ((w19.setCell ⟨gb660, 0, none⟩ (.slice Ao20 t656.length co20)).heap[gb660]? = some (.cells #[.slice Ao20 t656.length co20] 30 (0, 0))) := ⟨w50_⟩
   have n5_ : Aside0 (Below w.heap.size w (w19.setCell ⟨gb660, 0, none⟩ (.slice Ao20 t656.length co20))) := ⟨w129_⟩
   clear HO653
   clear HO658
   clear BK650
   clear BK655
   clear BK660
   clear HB
   generalize (w19.setCell ⟨gb660, 0, none⟩ (.slice Ao20 t656.length co20)) = w46 at n0_ n1_ n2_ n3_ n4_ n5_ ⊢
   have HO653 := n0_
   have HO658 := n1_
   have BK650 := n2_
   have BK655 := n3_
   have BK660 := n4_
   have HB := n5_
   clear n0_ n1_ n2_ n3_ n4_ n5_
   replace HO653 := Az_ (rdz_ HO653.out)
   replace HO658 := Az_ (rdz_ HO658.out)
   replace BK650 := Az_ (kdz_ BK650.out)
   replace BK655 := Az_ (kdz_ BK655.out)
   replace BK660 := Az_ (kdz_ BK660.out)
   replace HB := Az_ (bdz_ HB.out)
   as_aux_lemma =>
    refine start_ (n := 24) (S := fun w' => w'.cell? ⟨gb655, 0, none⟩ = some (.slice Ao14 t651.length co14) ∧ w'.cell? ⟨gb660, 0, none⟩ = some (.slice Ao20 t656.length co20) ∧ w'.cell? ⟨gb650, 0, none⟩ = some (.int .i64 t646) ∧ w'.cell? ⟨gb650, 1, none⟩ = some (.int .i64 t647)) (ds := []) #[false, false, false, false, false, false, false, false, false, false, false, false, false, false, false, false, false, false, false, false, false, false, false, false] (w204_) rfl rfl ⟨(blk_cell BK655.out 0).trans rfl, (blk_cell BK660.out 0).trans rfl, (blk_cell BK650.out 0).trans rfl, (blk_cell BK650.out 1).trans rfl⟩ (fun hHeld => ?_); refine with_tabW laws_FnBooksHidden.tab6 laws_FnBooksHidden.bits6 (fun HT_ HW_ => ?_)
    generalize w46.drew = w47 at HO653 HO658 BK650 BK655 BK660 HB hHeld ⊢
    refine pz_ 0 88 [1,23] ?_
    refine pz_ 1 89 [2,22] ?_
    refine pz_ 2 90 [3,21] ?_
    refine pz_ 3 91 [4,20] ?_
    refine tz4_ 4 92 [5,19] ?_
    refine tz4_ 5 93 [6,18] ?_
    refine one_ (i := 6) (N := some 94) (mz_ [7,17]) rfl rfl (one_of HT_.out (w204_)) (by decide) (fun K hK => ?_)
    refine goes_ Tryd.func8 (w204_) rfl #[.agg #[.slice Ao14 t651.length co14], .agg #[.slice Ao20 t656.length co20]] (by rfl) rfl rfl maz_ ?_
    with_reducible refine (laws_xPuzzle.calls k _ _ t651 _ _ t656 true _ ?side1 ?side2 ?side3 ?side4 A27.out).mono ?_
    (case side1 => repeat (first | exact (Kd.R_reads' HO653.out).2.2 | (with_reducible refine Kd.C_alloc ?_ _) | (with_reducible refine Kd.C_drewN ?_ _) | (with_reducible refine Kd.C_drew ?_)))
    (case side2 => exact (Kd.R_reads' HO653.out).2.1)
    (case side3 => repeat (first | exact (Kd.R_reads' HO658.out).2.2 | (with_reducible refine Kd.C_alloc ?_ _) | (with_reducible refine Kd.C_drewN ?_ _) | (with_reducible refine Kd.C_drew ?_)))
    (case side4 => exact (Kd.R_reads' HO658.out).2.1)
    rintro e w48 ⟨rfl, hb⟩
    refine ⟨_, rfl, ?_⟩
    have n0_ := Az_ (Kd.R_below (w193_) hb)
    have n1_ := Az_ (Kd.R_below (w194_) hb)
    have n5_ := Az_ (btz_ (w129_) hb)
    clear HO653 HO658 HB
    have HO653 := n0_
    have HO658 := n1_
    replace BK650 := Az_ (ukbz_ BK650.out hb)
    replace BK655 := Az_ (ukbz_ BK655.out hb)
    replace BK660 := Az_ (ukbz_ BK660.out hb)
    have HB := n5_
    clear n0_ n1_ n5_
    clear hb
    refine hK.out _ _ ⟨(blk_cell BK655.out 0).trans rfl, (blk_cell BK660.out 0).trans rfl, (blk_cell BK650.out 0).trans rfl, (blk_cell BK650.out 1).trans rfl⟩ (fun hHeld => ?_)
    clear hK K
    refine nz_ 94 ?_
    refine pz_ 7 95 [8,16] ?_
    refine pz_ 8 96 [9,15] ?_
    refine pz_ 9 97 [10,14] ?_
    refine pz_ 10 98 [11,13] ?_
    refine pz_ 11 99 [12,12] ?_
    refine qz_ 12 100 [13,11] ?_
    refine qz_ 13 101 [14,10] ?_
    refine qz_ 14 102 [15,9] ?_
    refine pz_ 15 103 [16,8] ?_
    refine pz_ 16 104 [17,7] ?_
    refine pz_ 17 105 [18,6] ?_
    refine tz4_ 18 106 [19,5] ?_
    refine tz4_ 20 108 [19,1,1,3] ?_
    refine one_ (i := 19) (N := some 107) (mz_ [21,3]) rfl rfl (one_of HT_.out (w204_)) (by decide) (fun K hK => ?_)
    refine goes_ Tryd.func9 (w204_) rfl #[.agg #[.int .i64 t646, .int .i64 t647]] (by rfl) rfl rfl maz_ ?_
    with_reducible refine (impl_IsHidden.calls t646 t647 t665 _ A44.out).mono ?_
    rintro e w49 ⟨rfl, hb⟩
    refine ⟨_, rfl, ?_⟩
    have n0_ := Az_ (Kd.R_below (w193_) hb)
    have n1_ := Az_ (Kd.R_below (w194_) hb)
    have n5_ := Az_ (btz_ (w129_) hb)
    clear HO653 HO658 HB
    have HO653 := n0_
    have HO658 := n1_
    replace BK650 := Az_ (ukbz_ BK650.out hb)
    replace BK655 := Az_ (ukbz_ BK655.out hb)
    replace BK660 := Az_ (ukbz_ BK660.out hb)
    have HB := n5_
    clear n0_ n1_ n5_
    clear hb
    refine hK.out _ _ ⟨(blk_cell BK655.out 0).trans rfl, (blk_cell BK660.out 0).trans rfl, (blk_cell BK650.out 0).trans rfl, (blk_cell BK650.out 1).trans rfl⟩ (fun hHeld => ?_)
    clear hK K
    refine nz_ 107 ?_
    refine one_ (i := 21) (N := some 109) (mz_ [22,2]) rfl rfl (one_of HT_.out (w204_)) (by decide) (fun K hK => ?_)
    refine goes_ Tryd.func10 (w204_) rfl #[.agg #[.int .i64 t646, .int .i64 t647]] (by rfl) rfl rfl maz_ ?_
    with_reducible refine (spec_IsHidden.calls t646 t647 t666 _ A45.out).mono ?_
    rintro e w50 ⟨rfl, hb⟩
    refine ⟨_, rfl, ?_⟩
    have n0_ := Az_ (Kd.R_below (w193_) hb)
    have n1_ := Az_ (Kd.R_below (w194_) hb)
    have n5_ := Az_ (btz_ (w129_) hb)
    clear HO653 HO658 HB
    have HO653 := n0_
    have HO658 := n1_
    replace BK650 := Az_ (ukbz_ BK650.out hb)
    replace BK655 := Az_ (ukbz_ BK655.out hb)
    replace BK660 := Az_ (ukbz_ BK660.out hb)
    have HB := n5_
    clear n0_ n1_ n5_
    clear hb
    refine hK.out _ _ ⟨(blk_cell BK655.out 0).trans rfl, (blk_cell BK660.out 0).trans rfl, (blk_cell BK650.out 0).trans rfl, (blk_cell BK650.out 1).trans rfl⟩ (fun hHeld => ?_)
    clear hK K
    refine nz_ 109 ?_
    refine pz_ 22 110 [23,1] ?_
    refine pz_ 23 111 [24] ?_
    refine done_ (done_of HT_.out (w204_)) ?_
    try go_wp2
    go_meet
    case rel => exact ⟨_, ((t665 != t666)), qaz_, H', ⟨w173_⟩, ⟨by (with_reducible repeat (first | apply raz_ | apply rnz_ | apply rdz_)); exact Kd.R_mono HO653.out (fun _ hk => trivial)⟩, ⟨w161_⟩, ⟨w162_⟩, ⟨w129_⟩⟩
  subst c29
  rw [if_pos rfl] at H
  replace H := bqz_ H; obtain ⟨t662, A30, H⟩ := H
  replace H : (if t662 = true then ((impl_IsHidden.f t646 t647).bind fun t663 => ((spec_IsHidden.f t646 t647).bind fun t664 => (j0 k l1 t648 true (t663 != t664) t646 t647 t651))) else (j0 k l1 t648 true true t646 t647 t651)) = some r := H
  by_cases c31 : t662 = true; rotate_left
  ·replace c31 := Bool.eq_false_iff.mpr c31
   subst c31
   have H1 : (j0 k l1 t648 true true t646 t647 t651) = some r := by rw [if_neg (show ¬ (false = true) by decide)] at H; exact H
   clear H
   have H := H1
   exact (laws_FnBooksHidden.j0_no _ _ _ _ _ _ _ _ hrT H).elim
  subst c31
  rw [if_pos rfl] at H
  replace H := bqz_ H; obtain ⟨t663, A32, H⟩ := H
  replace H := bqz_ H; obtain ⟨t664, A33, H⟩ := H
  replace H : (j0 k l1 t648 true (t663 != t664) t646 t647 t651) = some r := H
  have H' := Az_ H
  clear H
  try go_wp2
  have n0_ : Aside0 (Kd.R k40 40 (w19.setCell ⟨gb660, 0, none⟩ (.slice Ao20 t656.length co20)) w.heap.size (fun k_ => some k_ ≠ (.slice Ao20 t656.length co20 : Value).ownBlock) (.slice Ao14 t651.length co14) t651) := ⟨w73_⟩
  have n1_ : Aside0 (Kd.R k40 40 (w19.setCell ⟨gb660, 0, none⟩ (.slice Ao20 t656.length co20)) w.heap.size (fun k_ => some k_ ≠ (.slice Ao14 t651.length co14 : Value).ownBlock) (.slice Ao20 t656.length co20) t656) := ⟨w74_⟩
  have n2_ : Aside0 ((w19.setCell ⟨gb660, 0, none⟩ (.slice Ao20 t656.length co20)).heap[gb650]? = some (.cells #[.int .i64 t646, .int .i64 t647] 25 (0, 0))) := ⟨w88_⟩
  have n3_ : Aside0 ((w19.setCell ⟨gb660, 0, none⟩ (.slice Ao20 t656.length co20)).heap[gb655]? = some (.cells #[.slice Ao14 t651.length co14] 30 (0, 0))) := ⟨w89_⟩
  have n4_ : Aside0 ((w19.setCell ⟨gb660, 0, none⟩ (.slice Ao20 t656.length co20)).heap[gb660]? = some (.cells #[.slice Ao20 t656.length co20] 30 (0, 0))) := ⟨w50_⟩
  have n5_ : Aside0 (Below w.heap.size w (w19.setCell ⟨gb660, 0, none⟩ (.slice Ao20 t656.length co20))) := ⟨w129_⟩
  clear HO653
  clear HO658
  clear BK650
  clear BK655
  clear BK660
  clear HB
  generalize (w19.setCell ⟨gb660, 0, none⟩ (.slice Ao20 t656.length co20)) = w34 at n0_ n1_ n2_ n3_ n4_ n5_ ⊢
  have HO653 := n0_
  have HO658 := n1_
  have BK650 := n2_
  have BK655 := n3_
  have BK660 := n4_
  have HB := n5_
  clear n0_ n1_ n2_ n3_ n4_ n5_
  replace HO653 := Az_ (rdz_ HO653.out)
  replace HO658 := Az_ (rdz_ HO658.out)
  replace BK650 := Az_ (kdz_ BK650.out)
  replace BK655 := Az_ (kdz_ BK655.out)
  replace BK660 := Az_ (kdz_ BK660.out)
  replace HB := Az_ (bdz_ HB.out)
  as_aux_lemma =>
   refine start_ (n := 24) (S := fun w' => w'.cell? ⟨gb655, 0, none⟩ = some (.slice Ao14 t651.length co14) ∧ w'.cell? ⟨gb660, 0, none⟩ = some (.slice Ao20 t656.length co20) ∧ w'.cell? ⟨gb650, 0, none⟩ = some (.int .i64 t646) ∧ w'.cell? ⟨gb650, 1, none⟩ = some (.int .i64 t647)) (ds := []) #[false, false, false, false, false, false, false, false, false, false, false, false, false, false, false, false, false, false, false, false, false, false, false, false] (w204_) rfl rfl ⟨(blk_cell BK655.out 0).trans rfl, (blk_cell BK660.out 0).trans rfl, (blk_cell BK650.out 0).trans rfl, (blk_cell BK650.out 1).trans rfl⟩ (fun hHeld => ?_); refine with_tabW laws_FnBooksHidden.tab6 laws_FnBooksHidden.bits6 (fun HT_ HW_ => ?_)
   generalize w34.drew = w35 at HO653 HO658 BK650 BK655 BK660 HB hHeld ⊢
   refine pz_ 0 88 [1,23] ?_
   refine pz_ 1 89 [2,22] ?_
   refine pz_ 2 90 [3,21] ?_
   refine pz_ 3 91 [4,20] ?_
   refine tz4_ 4 92 [5,19] ?_
   refine tz4_ 5 93 [6,18] ?_
   refine one_ (i := 6) (N := some 94) (mz_ [7,17]) rfl rfl (one_of HT_.out (w204_)) (by decide) (fun K hK => ?_)
   refine goes_ Tryd.func8 (w204_) rfl #[.agg #[.slice Ao14 t651.length co14], .agg #[.slice Ao20 t656.length co20]] (by rfl) rfl rfl maz_ ?_
   with_reducible refine (laws_xPuzzle.calls k _ _ t651 _ _ t656 true _ ?side1 ?side2 ?side3 ?side4 A27.out).mono ?_
   (case side1 => repeat (first | exact (Kd.R_reads' HO653.out).2.2 | (with_reducible refine Kd.C_alloc ?_ _) | (with_reducible refine Kd.C_drewN ?_ _) | (with_reducible refine Kd.C_drew ?_)))
   (case side2 => exact (Kd.R_reads' HO653.out).2.1)
   (case side3 => repeat (first | exact (Kd.R_reads' HO658.out).2.2 | (with_reducible refine Kd.C_alloc ?_ _) | (with_reducible refine Kd.C_drewN ?_ _) | (with_reducible refine Kd.C_drew ?_)))
   (case side4 => exact (Kd.R_reads' HO658.out).2.1)
   rintro e w36 ⟨rfl, hb⟩
   refine ⟨_, rfl, ?_⟩
   have n0_ := Az_ (Kd.R_below (w193_) hb)
   have n1_ := Az_ (Kd.R_below (w194_) hb)
   have n5_ := Az_ (btz_ (w129_) hb)
   clear HO653 HO658 HB
   have HO653 := n0_
   have HO658 := n1_
   replace BK650 := Az_ (ukbz_ BK650.out hb)
   replace BK655 := Az_ (ukbz_ BK655.out hb)
   replace BK660 := Az_ (ukbz_ BK660.out hb)
   have HB := n5_
   clear n0_ n1_ n5_
   clear hb
   refine hK.out _ _ ⟨(blk_cell BK655.out 0).trans rfl, (blk_cell BK660.out 0).trans rfl, (blk_cell BK650.out 0).trans rfl, (blk_cell BK650.out 1).trans rfl⟩ (fun hHeld => ?_)
   clear hK K
   refine nz_ 94 ?_
   refine pz_ 7 95 [8,16] ?_
   refine pz_ 8 96 [9,15] ?_
   refine pz_ 9 97 [10,14] ?_
   refine pz_ 10 98 [11,13] ?_
   refine pz_ 11 99 [12,12] ?_
   refine tz4_ 12 100 [13,11] ?_
   refine one_ (i := 13) (N := some 101) (mz_ [14,10]) rfl rfl (one_of HT_.out (w204_)) (by decide) (fun K hK => ?_)
   refine goes_ Tryd.func9 (w204_) rfl #[.agg #[.int .i64 t646, .int .i64 t647]] (by rfl) rfl rfl maz_ ?_
   with_reducible refine (impl_IsHidden.calls t646 t647 true _ A30.out).mono ?_
   rintro e w37 ⟨rfl, hb⟩
   refine ⟨_, rfl, ?_⟩
   have n0_ := Az_ (Kd.R_below (w193_) hb)
   have n1_ := Az_ (Kd.R_below (w194_) hb)
   have n5_ := Az_ (btz_ (w129_) hb)
   clear HO653 HO658 HB
   have HO653 := n0_
   have HO658 := n1_
   replace BK650 := Az_ (ukbz_ BK650.out hb)
   replace BK655 := Az_ (ukbz_ BK655.out hb)
   replace BK660 := Az_ (ukbz_ BK660.out hb)
   have HB := n5_
   clear n0_ n1_ n5_
   clear hb
   refine hK.out _ _ ⟨(blk_cell BK655.out 0).trans rfl, (blk_cell BK660.out 0).trans rfl, (blk_cell BK650.out 0).trans rfl, (blk_cell BK650.out 1).trans rfl⟩ (fun hHeld => ?_)
   clear hK K
   refine nz_ 101 ?_
   refine pz_ 14 102 [15,9] ?_
   refine pz_ 15 103 [16,8] ?_
   refine pz_ 16 104 [17,7] ?_
   refine pz_ 17 105 [18,6] ?_
   refine tz4_ 18 106 [19,5] ?_
   refine tz4_ 20 108 [19,1,1,3] ?_
   refine one_ (i := 19) (N := some 107) (mz_ [21,3]) rfl rfl (one_of HT_.out (w204_)) (by decide) (fun K hK => ?_)
   refine goes_ Tryd.func9 (w204_) rfl #[.agg #[.int .i64 t646, .int .i64 t647]] (by rfl) rfl rfl maz_ ?_
   with_reducible refine (impl_IsHidden.calls t646 t647 t663 _ A32.out).mono ?_
   rintro e w38 ⟨rfl, hb⟩
   refine ⟨_, rfl, ?_⟩
   have n0_ := Az_ (Kd.R_below (w193_) hb)
   have n1_ := Az_ (Kd.R_below (w194_) hb)
   have n5_ := Az_ (btz_ (w129_) hb)
   clear HO653 HO658 HB
   have HO653 := n0_
   have HO658 := n1_
   replace BK650 := Az_ (ukbz_ BK650.out hb)
   replace BK655 := Az_ (ukbz_ BK655.out hb)
   replace BK660 := Az_ (ukbz_ BK660.out hb)
   have HB := n5_
   clear n0_ n1_ n5_
   clear hb
   refine hK.out _ _ ⟨(blk_cell BK655.out 0).trans rfl, (blk_cell BK660.out 0).trans rfl, (blk_cell BK650.out 0).trans rfl, (blk_cell BK650.out 1).trans rfl⟩ (fun hHeld => ?_)
   clear hK K
   refine nz_ 107 ?_
   refine one_ (i := 21) (N := some 109) (mz_ [22,2]) rfl rfl (one_of HT_.out (w204_)) (by decide) (fun K hK => ?_)
   refine goes_ Tryd.func10 (w204_) rfl #[.agg #[.int .i64 t646, .int .i64 t647]] (by rfl) rfl rfl maz_ ?_
   with_reducible refine (spec_IsHidden.calls t646 t647 t664 _ A33.out).mono ?_
   rintro e w39 ⟨rfl, hb⟩
   refine ⟨_, rfl, ?_⟩
   have n0_ := Az_ (Kd.R_below (w193_) hb)
   have n1_ := Az_ (Kd.R_below (w194_) hb)
   have n5_ := Az_ (btz_ (w129_) hb)
   clear HO653 HO658 HB
   have HO653 := n0_
   have HO658 := n1_
   replace BK650 := Az_ (ukbz_ BK650.out hb)
   replace BK655 := Az_ (ukbz_ BK655.out hb)
   replace BK660 := Az_ (ukbz_ BK660.out hb)
   have HB := n5_
   clear n0_ n1_ n5_
   clear hb
   refine hK.out _ _ ⟨(blk_cell BK655.out 0).trans rfl, (blk_cell BK660.out 0).trans rfl, (blk_cell BK650.out 0).trans rfl, (blk_cell BK650.out 1).trans rfl⟩ (fun hHeld => ?_)
   clear hK K
   refine nz_ 109 ?_
   refine pz_ 22 110 [23,1] ?_
   refine pz_ 23 111 [24] ?_
   refine done_ (done_of HT_.out (w204_)) ?_
   try go_wp2
   go_meet
   case rel => exact ⟨_, ((t663 != t664)), qaz_, H', ⟨w173_⟩, ⟨by (with_reducible repeat (first | apply raz_ | apply rnz_ | apply rdz_)); exact Kd.R_mono HO653.out (fun _ hk => trivial)⟩, ⟨w161_⟩, ⟨w162_⟩, ⟨w129_⟩⟩
 case rest => as_aux_lemma =>
  clear HC8
  obtain ⟨kq, x111_7, rfl, HA, HJ7, HO_656000, BK650, BK655, HB⟩ := hcut
  cases kq with
  | zero => exact absurd HA.out (by simp [j0])
  | succ kj7 =>
   have H := HA.out
   clear HA
   simp only [j0] at H
   by_cases c54 : x111_7 = true
   ·subst c54
    rw [if_pos rfl] at H
    exact absurd ((Option.some.inj H).trans hrT) (by decide)
   replace c54 := Bool.eq_false_iff.mpr c54
   subst c54
   rw [if_neg nfz_] at H
   have HC55 := Az_ H
   clear H
   go_upto_if 112 with (fail)
   go_cut [] from 1 to 0 (fun wc => ∃ (kq : Nat), Aside0 (j3 kq l1 = some r) ∧ Aside0 (kq ≤ kj7) ∧ Aside0 (Below w.heap.size w wc))
   case first => as_aux_lemma =>
    have H := HC55.out
    clear HC55
    by_cases c56 : t654 = true; rotate_left
    ·replace c56 := Bool.eq_false_iff.mpr c56
     subst c56
     rw [if_neg nfz_] at H
     have H' := Az_ H
     clear H
     go_wp2
     go_meet
     case rel => exact ⟨_, H', ⟨by have := HJ7.out; first | omega | exact Nat.le_refl _⟩, ⟨w129_⟩⟩
    subst c56
    rw [if_pos rfl] at H
    replace H := bqz_ H; obtain ⟨⟨t667, t668⟩, A57, H⟩ := H
    replace H := bqz_ H; obtain ⟨⟨t669, t670⟩, A58, H⟩ := H
    replace H := bqz_ H; obtain ⟨⟨t671, t672⟩, A59, H⟩ := H
    replace H := bqz_ H; obtain ⟨⟨t673, t674⟩, A60, H⟩ := H
    replace H := bqz_ H; obtain ⟨⟨t675, t676⟩, A61, H⟩ := H
    replace H := bqz_ H; obtain ⟨⟨t677, t678⟩, A62, H⟩ := H
    replace H : ((impl_IsPuzzle.f t651).bind fun t679 => (if t679 = true then (if (t651.length : Int) = t648 then (if t668 = true then (if t670 = true then (if t672 = true then (if t671 = true then (if t674 = true then (if t673 = true then (if t676 = true then (if t675 = t647 then (if t678 = true then (j1 kj7 l1 (!t677) t646 t647 t651) else (j1 kj7 l1 true t646 t647 t651)) else (j1 kj7 l1 true t646 t647 t651)) else (j1 kj7 l1 true t646 t647 t651)) else (j1 kj7 l1 true t646 t647 t651)) else (j1 kj7 l1 true t646 t647 t651)) else (j1 kj7 l1 true t646 t647 t651)) else (j1 kj7 l1 true t646 t647 t651)) else (j1 kj7 l1 true t646 t647 t651)) else (j1 kj7 l1 true t646 t647 t651)) else (j1 kj7 l1 true t646 t647 t651)) else (j1 kj7 l1 true t646 t647 t651))) = some r := H
    have HC63 := Az_ H
    clear H
    have hnb64 := NB650_655.out
    have hnc64 := NB655_650.out
    have hcz65_0 := cz_ (x := .int .i64 t646) BK650 0
    have hcz65_1 := cz_ (x := .int .i64 t647) BK650 1
    have hfz65_0 := blk_frozen BK650.out 0
    have hfz65_1 := blk_frozen BK650.out 1
    go_upto_region 15 with (first | ((with_reducible refine gate_callee (f := 11) rfl ?_); refine goesL_ (some 116) rfl rfl Tryd.func11 (w204_) rfl #[.int .i64 t646] rfl maz_ ?_; (with_reducible refine (impl_SumOfPages.calls t646 t667 t668 _ A57.out).mono ?_); rintro e w' ⟨rfl, ⟨nd, rfl⟩⟩; refine ⟨_, rfl, ?_⟩) | ((with_reducible refine gate_callee (f := 12) rfl ?_); refine goesL_ (some 122) rfl rfl Tryd.func12 (w204_) rfl #[.int .i64 t647] rfl maz_ ?_; (with_reducible refine (impl_SumOfLeaf.calls t647 t669 t670 _ A58.out).mono ?_); rintro e w' ⟨rfl, ⟨nd, rfl⟩⟩; refine ⟨_, rfl, ?_⟩) | ((with_reducible refine gate_callee (f := 13) rfl ?_); refine goesL_ (some 131) rfl rfl Tryd.func13 (w204_) rfl #[.agg #[.int .i64 0, .int .i64 0, .int .i64 (wrap64 (t667 - t669))], .agg #[.int .i64 t646, .int .i64 t647]] rfl maz_ ?_; (with_reducible refine (impl_DoesFit.calls kj7 0 0 (wrap64 (t667 - t669)) t646 t647 t671 t672 _ A59.out).mono ?_); rintro e w66 ⟨rfl, hb⟩; refine ⟨_, rfl, ?_⟩; have n0_ := Az_ (Kd.R_below (by exact urz_ HO_656000.out) hb); have n3_ := Az_ (btz_ (w129_) hb); clear HO_656000; clear HB; have HO_656000 := n0_; replace BK650 := Az_ (ukbz_ BK650.out hb); replace BK655 := Az_ (ukbz_ BK655.out hb); have HB := n3_; clear n0_ n3_; (try clear hb); have hcz67_0 := cz_ (x := .int .i64 t646) BK650 0; have hcz67_1 := cz_ (x := .int .i64 t647) BK650 1; have hfz67_0 := blk_frozen BK650.out 0; have hfz67_1 := blk_frozen BK650.out 1; clear A59) | ((with_reducible refine gate_callee (f := 13) rfl ?_); refine goesL_ (some 138) rfl rfl Tryd.func13 (w204_) rfl #[.agg #[.int .i64 5, .int .i64 0, .int .i64 t669], .agg #[.int .i64 t646, .int .i64 t647]] rfl maz_ ?_; (with_reducible refine (impl_DoesFit.calls kj7 5 0 t669 t646 t647 t673 t674 _ A60.out).mono ?_); rintro e w68 ⟨rfl, hb⟩; refine ⟨_, rfl, ?_⟩; have n0_ := Az_ (Kd.R_below (by exact urz_ HO_656000.out) hb); have n3_ := Az_ (btz_ (w129_) hb); clear HO_656000; clear HB; have HO_656000 := n0_; replace BK650 := Az_ (ukbz_ BK650.out hb); replace BK655 := Az_ (ukbz_ BK655.out hb); have HB := n3_; clear n0_ n3_; (try clear hb); have hcz69_0 := cz_ (x := .int .i64 t646) BK650 0; have hcz69_1 := cz_ (x := .int .i64 t647) BK650 1; have hfz69_0 := blk_frozen BK650.out 0; have hfz69_1 := blk_frozen BK650.out 1; clear A60) | ((with_reducible refine gate_callee (f := 14) rfl ?_); refine goesL_ (some 147) rfl rfl Tryd.func14 (w204_) rfl #[.int .i64 t646, .int .i64 (wrap64 (t667 - t669))] rfl maz_ ?_; (with_reducible refine (impl_TornLeaf.calls t646 (wrap64 (t667 - t669)) t675 t676 _ A61.out).mono ?_); rintro e w' ⟨rfl, ⟨nd, rfl⟩⟩; refine ⟨_, rfl, ?_⟩) | ((with_reducible refine gate_callee (f := 13) rfl ?_); refine goesL_ (some 155) rfl rfl Tryd.func13 (w204_) rfl #[.agg #[.int .i64 3, .int .i64 t647, .int .i64 1], .agg #[.int .i64 t646, .int .i64 t647]] rfl maz_ ?_; (with_reducible refine (impl_DoesFit.calls kj7 3 t647 1 t646 t647 t677 t678 _ A62.out).mono ?_); rintro e w70 ⟨rfl, hb⟩; refine ⟨_, rfl, ?_⟩; have n0_ := Az_ (Kd.R_below (by exact urz_ HO_656000.out) hb); have n3_ := Az_ (btz_ (w129_) hb); clear HO_656000; clear HB; have HO_656000 := n0_; replace BK650 := Az_ (ukbz_ BK650.out hb); replace BK655 := Az_ (ukbz_ BK655.out hb); have HB := n3_; clear n0_ n3_; (try clear hb)))
    (try simp only [Act.put, List.setIfInBounds_toArray, List.set_cons_zero, List.set_cons_succ])
    go_cut [209] from 1 to 0 (fun v209 wc => ∃ (kq : Nat) (x209_62 : Bool), v209 = .bool x209_62 ∧ Aside0 (j1 kq l1 x209_62 t646 t647 t651 = some r) ∧ Aside0 (kq ≤ kj7) ∧ Aside0 (Kd.R k40 40 wc w.heap.size (fun _ => True) (.slice Ao14 t651.length co14) t651) ∧ Aside0 (wc.heap[gb650]? = some (.cells #[.int .i64 t646, .int .i64 t647] 25 (0, 0))) ∧ Aside0 (wc.heap[gb655]? = some (.cells #[(.slice Ao14 t651.length co14)] 30 (0, 0))) ∧ Aside0 (Below w.heap.size w wc))
    case first => as_aux_lemma =>
     have H := HC63.out
     clear HC63
     replace H := bqz_ H; obtain ⟨t679, A71, H⟩ := H
     replace H : (if t679 = true then (if (t651.length : Int) = t648 then (if t668 = true then (if t670 = true then (if t672 = true then (if t671 = true then (if t674 = true then (if t673 = true then (if t676 = true then (if t675 = t647 then (if t678 = true then (j1 kj7 l1 (!t677) t646 t647 t651) else (j1 kj7 l1 true t646 t647 t651)) else (j1 kj7 l1 true t646 t647 t651)) else (j1 kj7 l1 true t646 t647 t651)) else (j1 kj7 l1 true t646 t647 t651)) else (j1 kj7 l1 true t646 t647 t651)) else (j1 kj7 l1 true t646 t647 t651)) else (j1 kj7 l1 true t646 t647 t651)) else (j1 kj7 l1 true t646 t647 t651)) else (j1 kj7 l1 true t646 t647 t651)) else (j1 kj7 l1 true t646 t647 t651)) else (j1 kj7 l1 true t646 t647 t651)) = some r := H
     by_cases c72 : t679 = true; rotate_left
     ·replace c72 := Bool.eq_false_iff.mpr c72
      subst c72
      have H1 : (j1 kj7 l1 true t646 t647 t651) = some r := by rw [if_neg (show ¬ (false = true) by decide)] at H; exact H
      clear H
      have H := H1
      exact (laws_FnBooksHidden.j1_no _ _ _ _ _ _ hrT H).elim
     subst c72
     rw [if_pos rfl] at H
     by_cases c73 : (t651.length : Int) = t648; rotate_left
     ·rw [if_neg c73] at H
      exact (laws_FnBooksHidden.j1_no _ _ _ _ _ _ hrT H).elim
     rw [if_pos c73] at H
     have c73b0 : ((t651.length : Int) == t648) = true := beq_iff_eq.mpr c73
     have c73b1 : ((t651.length : Int) != t648) = false := bne_eq_false_iff_eq.mpr c73
     clear c73
     (first | rw [c73b0] | (simp only [i64_w, i32_w]; rw [c73b0]) | skip)
     by_cases c74 : t668 = true; rotate_left
     ·replace c74 := Bool.eq_false_iff.mpr c74
      subst c74
      have H1 : (j1 kj7 l1 true t646 t647 t651) = some r := by rw [if_neg (show ¬ (false = true) by decide)] at H; exact H
      clear H
      have H := H1
      exact (laws_FnBooksHidden.j1_no _ _ _ _ _ _ hrT H).elim
     subst c74
     rw [if_pos rfl] at H
     by_cases c75 : t670 = true; rotate_left
     ·replace c75 := Bool.eq_false_iff.mpr c75
      subst c75
      have H1 : (j1 kj7 l1 true t646 t647 t651) = some r := by rw [if_neg (show ¬ (false = true) by decide)] at H; exact H
      clear H
      have H := H1
      exact (laws_FnBooksHidden.j1_no _ _ _ _ _ _ hrT H).elim
     subst c75
     rw [if_pos rfl] at H
     by_cases c76 : t672 = true; rotate_left
     ·replace c76 := Bool.eq_false_iff.mpr c76
      subst c76
      have H1 : (j1 kj7 l1 true t646 t647 t651) = some r := by rw [if_neg (show ¬ (false = true) by decide)] at H; exact H
      clear H
      have H := H1
      exact (laws_FnBooksHidden.j1_no _ _ _ _ _ _ hrT H).elim
     subst c76
     rw [if_pos rfl] at H
     by_cases c77 : t671 = true; rotate_left
     ·replace c77 := Bool.eq_false_iff.mpr c77
      subst c77
      have H1 : (j1 kj7 l1 true t646 t647 t651) = some r := by rw [if_neg (show ¬ (false = true) by decide)] at H; exact H
      clear H
      have H := H1
      exact (laws_FnBooksHidden.j1_no _ _ _ _ _ _ hrT H).elim
     subst c77
     rw [if_pos rfl] at H
     by_cases c78 : t674 = true; rotate_left
     ·replace c78 := Bool.eq_false_iff.mpr c78
      subst c78
      have H1 : (j1 kj7 l1 true t646 t647 t651) = some r := by rw [if_neg (show ¬ (false = true) by decide)] at H; exact H
      clear H
      have H := H1
      exact (laws_FnBooksHidden.j1_no _ _ _ _ _ _ hrT H).elim
     subst c78
     rw [if_pos rfl] at H
     by_cases c79 : t673 = true; rotate_left
     ·replace c79 := Bool.eq_false_iff.mpr c79
      subst c79
      have H1 : (j1 kj7 l1 true t646 t647 t651) = some r := by rw [if_neg (show ¬ (false = true) by decide)] at H; exact H
      clear H
      have H := H1
      exact (laws_FnBooksHidden.j1_no _ _ _ _ _ _ hrT H).elim
     subst c79
     rw [if_pos rfl] at H
     by_cases c80 : t676 = true; rotate_left
     ·replace c80 := Bool.eq_false_iff.mpr c80
      subst c80
      have H1 : (j1 kj7 l1 true t646 t647 t651) = some r := by rw [if_neg (show ¬ (false = true) by decide)] at H; exact H
      clear H
      have H := H1
      exact (laws_FnBooksHidden.j1_no _ _ _ _ _ _ hrT H).elim
     subst c80
     rw [if_pos rfl] at H
     by_cases c81 : t675 = t647; rotate_left
     ·rw [if_neg c81] at H
      exact (laws_FnBooksHidden.j1_no _ _ _ _ _ _ hrT H).elim
     rw [if_pos c81] at H
     subst c81
     by_cases c82 : t678 = true; rotate_left
     ·replace c82 := Bool.eq_false_iff.mpr c82
      subst c82
      have H1 : (j1 kj7 l1 true t646 t675 t651) = some r := by rw [if_neg (show ¬ (false = true) by decide)] at H; exact H
      clear H
      have H := H1
      exact (laws_FnBooksHidden.j1_no _ _ _ _ _ _ hrT H).elim
     subst c82
     rw [if_pos rfl] at H
     have H' := Az_ H
     clear H
     have hnb83 := NB655_650.out
     have hnc83 := NB650_655.out
     have hcz84_0 := cz_ (x := .slice Ao14 t651.length co14) BK655 0
     have hfz84_0 := blk_frozen BK655.out 0
     go_wp2_with (((with_reducible refine gate_callee (f := 15) rfl ?_); refine goesL_ (some 159) rfl rfl Tryd.func15 (w204_) rfl #[.agg #[.slice Ao14 t651.length co14]] rfl maz_ ?_; (with_reducible refine (impl_IsPuzzle.calls _ _ t651 true _ ?side1 ?side2 A71.out).mono ?_); (case side1 => exact ucz_ ((Kd.R_reads' HO_656000.out).2.2)); (case side2 => exact (Kd.R_reads' HO_656000.out).2.1); rintro e w85 ⟨rfl, hb⟩; refine ⟨_, rfl, ?_⟩; have n0_ := Az_ (Kd.R_below (by exact urz_ HO_656000.out) hb); have n3_ := Az_ (btz_ (w129_) hb); clear HO_656000; clear HB; have HO_656000 := n0_; replace BK650 := Az_ (ukbz_ BK650.out hb); replace BK655 := Az_ (ukbz_ BK655.out hb); have HB := n3_; clear n0_ n3_; (try clear hb); have hcz86_0 := cz_ (x := .slice Ao14 t651.length co14) BK655 0; have hfz86_0 := blk_frozen BK655.out 0; have hcz87_0 := cz_ (x := .int .i64 t646) BK650 0; have hcz87_1 := cz_ (x := .int .i64 t675) BK650 1; have hfz87_0 := blk_frozen BK650.out 0; have hfz87_1 := blk_frozen BK650.out 1))
     go_meet
     case rel => exact ⟨_, (!t677), qaz_, H', ⟨by have := HJ7.out; first | omega | exact Nat.le_refl _⟩, ⟨by (with_reducible repeat (first | apply raz_ | apply rnz_ | apply rdz_)); exact HO_656000.out⟩, ⟨w161_⟩, ⟨w162_⟩, ⟨w129_⟩⟩
    case rest => as_aux_lemma =>
     clear HC63
     clear hcz65_0 hcz65_1 hcz67_0 hcz67_1 hcz69_0 hcz69_1 hfz65_0 hfz65_1 hfz67_0 hfz67_1 hfz69_0 hfz69_1
     obtain ⟨kq, x209_62, rfl, HA, HJ62, HO_656000, BK650, BK655, HB⟩ := hcut
     cases kq with
     | zero => exact absurd HA.out (by simp [j1])
     | succ kj62 =>
      have H := HA.out
      clear HA
      simp only [j1] at H
      by_cases c133 : x209_62 = true
      ·subst c133
       rw [if_pos rfl] at H
       exact absurd ((Option.some.inj H).trans hrT) (by decide)
      replace c133 := Bool.eq_false_iff.mpr c133
      subst c133
      rw [if_neg nfz_] at H
      have H' := Az_ H
      clear H
      have hnb134 := NB655_650.out
      have hnc134 := NB650_655.out
      have hcz135_0 := cz_ (x := .slice Ao14 t651.length co14) BK655 0
      have hfz135_0 := blk_frozen BK655.out 0
      go_wp2
      go_loopg [213] kj62 (fun kq v213 w' => ∃ (x213_3 : Int), v213 = .int .i64 x213_3 ∧ Aside0 (laws_FnBooksHidden.l0 kq l1 t651 (t651.length : Int) x213_3 t646 t647 = some r) ∧ Aside0 (kq ≤ kj62) ∧ Aside0 (Kd.R k40 40 w' w.heap.size (fun _ => True) (.slice Ao14 t651.length co14) t651) ∧ Aside0 (w'.heap[gb650]? = some (.cells #[.int .i64 t646, .int .i64 t647] 25 (0, 0))) ∧ Aside0 (Below w.heap.size w w'))
      case atStart => exact ⟨(0), qaz_, H', ⟨Nat.le_refl _⟩, ⟨by (with_reducible repeat (first | apply raz_ | apply rnz_ | apply rdz_)); exact HO_656000.out⟩, ⟨w161_⟩, ⟨w129_⟩⟩
      case round =>
       clear H'
       clear hcz135_0 hfz135_0
       obtain ⟨x213_3, rfl, HA, HK3, HO_211, BK650, HB⟩ := hrel
       cases gk with
       | zero => exact absurd HA.out (by simp [laws_FnBooksHidden.l0])
       | succ k3 =>
        have H := HA.out
        clear HA
        simp only [laws_FnBooksHidden.l0] at H
        by_cases c136 : x213_3 < (t651.length : Int); rotate_left
        ·rw [if_neg c136] at H
         have c136b0 := decide_eq_false c136
         clear c136
         have H' := Az_ H
         clear H
         go_wp2
         go_meet
         case rel => exact ⟨_, H', ⟨by have := HJ7.out; have := HJ62.out; have := HK3.out; first | omega | exact Nat.le_refl _⟩, ⟨w129_⟩⟩
        rw [if_pos c136] at H
        have c136b0 := decide_eq_true c136
        clear c136
        by_cases c137 : 0 ≤ x213_3; rotate_left
        ·rw [if_neg c137] at H
         exact absurd H (by simp)
        rw [if_pos c137] at H
        have c137b0 := decide_eq_true c137
        clear c137
        by_cases c138 : x213_3 < (t651.length : Int); rotate_left
        ·rw [if_neg c138] at H
         exact absurd H (by simp)
        rw [if_pos c138] at H
        have c138b0 := decide_eq_true c138
        clear c138
        replace H := bqz_ H; obtain ⟨⟨t682, t683⟩, A139, H⟩ := H
        replace H : (if t683 = true then (if t682 = true then (laws_FnBooksHidden.l0 k3 l1 t651 (t651.length : Int) (wrap64 (x213_3 + 1)) t646 t647) else (some false)) else (some false)) = some r := H
        by_cases c140 : t683 = true; rotate_left
        ·replace c140 := Bool.eq_false_iff.mpr c140
         subst c140
         rw [if_neg nfz_] at H
         exact absurd ((Option.some.inj H).trans hrT) (by decide)
        subst c140
        rw [if_pos rfl] at H
        by_cases c141 : t682 = true; rotate_left
        ·replace c141 := Bool.eq_false_iff.mpr c141
         subst c141
         rw [if_neg nfz_] at H
         exact absurd ((Option.some.inj H).trans hrT) (by decide)
        subst c141
        rw [if_pos rfl] at H
        have H' := Az_ H
        clear H
        have p680 : 0 ≤ (x213_3 : Int) := od_
        have q680 : x213_3 < (t651.length : Int) := od_
        obtain ⟨ad680, e680, hx680_0, hx680_1, hx680_2⟩ := at_T40 (Kd.R_reads' HO_211.out).2.2 x213_3 p680 q680
        cases e680
        replace p680 := eq_true p680
        replace q680 := eq_true q680
        go_wp2_with (first | ((with_reducible refine gate_dst (N := 25) rfl ?_); (try (refine gate_guard (by rfl) ?_; dsimp only)); refine bxe_ (N := 25) (cs := #[.int .i64 0, .int .i64 0, .int .i64 0]) (t := 40) ?_; intro gb681 hg w142 BK681 hb; obtain ⟨NB650_681, NB681_650⟩ := nez_ BK650 hg; have GW681 : Aside0 (w.heap.size ≤ gb681) := gez_ hg (w129_); have GE681 := GW681; replace HO_211 := Az_ (Kd.R_below (Kd.R_elderB (by exact urz_ HO_211.out) gb681 (Nat.le_of_eq hg.symm)) hb); replace HB := Az_ (btz_ (w129_) hb); replace BK650 := Az_ (ukbz_ BK650.out hb); clear hb hg; have hnb143 := NB681_650.out; have hnc143 := NB650_681.out; have hcz144_0 := cz_ (x := .int .i64 0) BK681 0; have hcz144_1 := cz_ (x := .int .i64 0) BK681 1; have hcz144_2 := cz_ (x := .int .i64 0) BK681 2; have hfz144_0 := blk_frozen BK681.out 0; have hfz144_1 := blk_frozen BK681.out 1; have hfz144_2 := blk_frozen BK681.out 2; have hcz145_0 := cz_ (x := .int .i64 t646) BK650 0; have hcz145_1 := cz_ (x := .int .i64 t647) BK650 1; have hfz145_0 := blk_frozen BK650.out 0; have hfz145_1 := blk_frozen BK650.out 1) | ((with_reducible refine gate_callee (f := 13) rfl ?_); refine goesL_ (some 220) rfl rfl Tryd.func13 (w204_) rfl #[.agg #[.int .i64 ((rd_T40 t651 x213_3).f0), .int .i64 ((rd_T40 t651 x213_3).f1), .int .i64 ((rd_T40 t651 x213_3).f2)], .agg #[.int .i64 t646, .int .i64 t647]] rfl maz_ ?_; (with_reducible refine (impl_DoesFit.calls k3 ((rd_T40 t651 x213_3).f0) ((rd_T40 t651 x213_3).f1) ((rd_T40 t651 x213_3).f2) t646 t647 true true _ A139.out).mono ?_); rintro e w146 ⟨rfl, hb⟩; refine ⟨_, rfl, ?_⟩; replace HO_211 := Az_ (Kd.R_below (by (with_reducible repeat (first | apply raz_ | apply rnz_ | apply rdz_)); exact (Kd.R_mono (Kd.R_far (p := ⟨gb681, 2, none⟩) (Kd.R_far (p := ⟨gb681, 1, none⟩) (Kd.R_far (p := ⟨gb681, 0, none⟩) (Kd.R_mono HO_211.out (fun k_ hk => (⟨hk, hk.2⟩ : _ ∧ k_ ≠ gb681))) (fun _ hk => hk.2) (.int .i64 ((rd_T40 t651 x213_3).f0))) (fun _ hk => hk.2) (.int .i64 ((rd_T40 t651 x213_3).f1))) (fun _ hk => hk.2) (.int .i64 ((rd_T40 t651 x213_3).f2))) (fun _ h_ => h_.1))) hb); replace BK650 := Az_ (kbz_ (g := gb650) (o := .cells #[.int .i64 t646, .int .i64 t647] 25 (0, 0)) (by (with_reducible repeat (first | refine knz_ ?_ _ | refine kdz_ ?_ | refine kaz_ ?_ _)); refine blk_far ?_ NB650_681.out _; (with_reducible repeat (first | refine knz_ ?_ _ | refine kdz_ ?_ | refine kaz_ ?_ _)); refine blk_far ?_ NB650_681.out _; (with_reducible repeat (first | refine knz_ ?_ _ | refine kdz_ ?_ | refine kaz_ ?_ _)); refine blk_far ?_ NB650_681.out _; (with_reducible repeat (first | refine knz_ ?_ _ | refine kdz_ ?_ | refine kaz_ ?_ _)); exact BK650.out) hb); replace BK681 := Az_ (kbz_ (g := gb681) (o := .cells #[.int .i64 ((rd_T40 t651 x213_3).f0), .int .i64 ((rd_T40 t651 x213_3).f1), .int .i64 ((rd_T40 t651 x213_3).f2)] 40 (0, 0)) (by (with_reducible repeat (first | refine knz_ ?_ _ | refine kdz_ ?_ | refine kaz_ ?_ _)); refine blk_put (cs := #[.int .i64 ((rd_T40 t651 x213_3).f0), .int .i64 ((rd_T40 t651 x213_3).f1), .int .i64 0]) ?_ 2 _ rfl; (with_reducible repeat (first | refine knz_ ?_ _ | refine kdz_ ?_ | refine kaz_ ?_ _)); refine blk_put (cs := #[.int .i64 ((rd_T40 t651 x213_3).f0), .int .i64 0, .int .i64 0]) ?_ 1 _ rfl; (with_reducible repeat (first | refine knz_ ?_ _ | refine kdz_ ?_ | refine kaz_ ?_ _)); refine blk_put (cs := #[.int .i64 0, .int .i64 0, .int .i64 0]) ?_ 0 _ rfl; (with_reducible repeat (first | refine knz_ ?_ _ | refine kdz_ ?_ | refine kaz_ ?_ _)); exact BK681.out) hb); replace HB := Az_ (btz_ (w129_) hb); (try clear hb)))
        go_roundg k3
        case measure => have := HJ7.out; have := HJ62.out; have := HK3.out; omega
        case rel => exact ⟨(wrap64 (x213_3 + 1)), qaz_, H', ⟨by have := HJ7.out; have := HJ62.out; have := HK3.out; omega⟩, ⟨by (with_reducible repeat (first | apply raz_ | apply rnz_ | apply rdz_)); exact Kd.R_mono HO_211.out (fun _ hk => trivial)⟩, ⟨w161_⟩, ⟨w129_⟩⟩
   case rest => as_aux_lemma =>
    clear HC55
    obtain ⟨kq, HA, HJ54, HB⟩ := hcut
    cases kq with
    | zero => exact absurd HA.out (by simp [j3])
    | succ kj54 =>
     have H := HA.out
     clear HA
     simp only [j3] at H
     replace H := bqz_ H; obtain ⟨t684, A157, H⟩ := H
     replace H := bqz_ H; obtain ⟨⟨t688, t691⟩, A158, H⟩ := H
     replace H := bqz_ H; obtain ⟨⟨t693, t696⟩, A159, H⟩ := H
     replace H := bqz_ H; obtain ⟨⟨t698, t699⟩, A160, H⟩ := H
     replace H : (if (t691 != t696) = true then (j4 kj54 l1 t691 true t684 t688) else ((laws_xPuzzle.f kj54 t688 t693).bind fun t700 => (if t700 = true then (if t699 = true then (j4 kj54 l1 t691 (t691 != t698) t684 t688) else (j4 kj54 l1 t691 (t691 != false) t684 t688)) else (j4 kj54 l1 t691 true t684 t688)))) = some r := H
     have HC161 := Az_ H
     clear H
     go_upto_region 28 with (first | ((with_reducible refine gate_callee (f := 16) rfl ?_); refine goesL_ (some 231) rfl rfl Tryd.func16 (w204_) rfl #[.slice A1 l1.length c1] rfl maz_ ?_; (with_reducible refine (spec_DrawHarderPuzzle.calls kj54 _ _ l1 t684 _ ?side1 ?side2 A157.out).mono ?_); (case side1 => exact ucz_ ((Kd.C_below HR1.out HB.out))); (case side2 => exact HC1.out); rintro e w162 ⟨v685, rfl, ho0, hb⟩; refine ⟨_, rfl, ?_⟩; have HO686 := Az_ (Kd.R_lower ho0 (below_size (ubz_ HB.out))); replace HB := Az_ (btz_ (ubz_ HB.out) hb); (try clear hb); (try clear ho0)) | ((with_reducible refine gate_dst (N := 28) rfl ?_); (try (refine gate_guard (by rfl) ?_; dsimp only)); refine bxe_ (N := 28) (cs := #[.slice none 0 0]) (t := 30) ?_; intro gb687 hg w163 BK687 hb; have GW687 := gez_ hg (ubz_ HB.out); have GE687 := GW687; replace HO686 := Az_ (Kd.R_below (by exact urz_ HO686.out) hb); replace HB := Az_ (btz_ (ubz_ HB.out) hb); clear hb hg; obtain ⟨Ao164, co164, eo164⟩ := Kd.R_slice HO686.out; subst eo164; have hcz165_0 := cz_ (x := .slice none 0 0) BK687 0; have hfz165_0 := blk_frozen BK687.out 0) | ((with_reducible refine gate_callee (f := 17) rfl ?_); refine goesL_ (some 234) rfl rfl Tryd.func17 (w204_) rfl #[.agg #[.slice Ao164 t684.length co164]] rfl maz_ ?_; (with_reducible refine (impl_HarderPuzzle.calls kj54 _ _ t684 t688 t691 _ ?side1 ?side2 A158.out).mono ?_); (case side1 => refine (Kd.R_reads' (e := 40) (base := w.heap.size) (ok := fun k_ => True) (n := t684.length) (c := co164) ?_).2.2; exact (w51_)); (case side2 => exact (Kd.R_reads' HO686.out).2.1); rintro e w166 ⟨v689, rfl, ho0, hb⟩; refine ⟨_, rfl, ?_⟩; have HO690 := Az_ (Kd.R_lower (Kd.R_new' ho0 (Kd.R_lt (w51_))) (below_size (w129_))); replace HO686 := Az_ (rez_ (w51_) (Kd.R_base ho0) hb); replace BK687 := Az_ (kbz_ (g := gb687) (o := .cells #[.slice Ao164 t684.length co164] 30 (0, 0)) (by (with_reducible repeat (first | refine knz_ ?_ _ | refine kdz_ ?_ | refine kaz_ ?_ _)); refine blk_put (cs := #[.slice none 0 0]) ?_ 0 _ rfl; (with_reducible repeat (first | refine knz_ ?_ _ | refine kdz_ ?_ | refine kaz_ ?_ _)); exact BK687.out) hb); replace HB := Az_ (btz_ (w129_) hb); (try clear hb); (try clear ho0)) | ((with_reducible refine gate_dst (N := 29) rfl ?_); (try (refine gate_guard (by rfl) ?_; dsimp only)); refine bxe_ (N := 29) (cs := #[.slice none 0 0]) (t := 30) ?_; intro gb692 hg w167 BK692 hb; obtain ⟨NB687_692, NB692_687⟩ := nez_ BK687 hg; have GW692 : Aside0 (w.heap.size ≤ gb692) := gez_ hg (w129_); have GE692 := GW692; replace HO686 := Az_ (Kd.R_below (by exact urz_ HO686.out) hb); replace HO690 := Az_ (Kd.R_below (by exact urz_ HO690.out) hb); replace HB := Az_ (btz_ (w129_) hb); replace BK687 := Az_ (ukbz_ BK687.out hb); clear hb hg; obtain ⟨Ao168, co168, eo168⟩ := Kd.R_slice HO690.out; subst eo168; have hnb169 := NB692_687.out; have hnc169 := NB687_692.out; have hcz170_0 := cz_ (x := .slice none 0 0) BK692 0; have hfz170_0 := blk_frozen BK692.out 0; have hcz171_0 := cz_ (x := .slice Ao164 t684.length co164) BK687 0; have hfz171_0 := blk_frozen BK687.out 0) | ((with_reducible refine gate_callee (f := 18) rfl ?_); refine goesL_ (some 239) rfl rfl Tryd.func18 (w204_) rfl #[.agg #[.slice Ao164 t684.length co164]] rfl maz_ ?_; (with_reducible refine (spec_HarderPuzzle.calls kj54 _ _ t684 t693 t696 _ ?side1 ?side2 A159.out).mono ?_); (case side1 => refine (Kd.R_reads' (e := 40) (base := w.heap.size) (ok := fun k_ => (True ∧ some k_ ≠ (.slice Ao168 t688.length co168 : Value).ownBlock)) (n := t684.length) (c := co164) ?_).2.2; exact (w52_)); (case side2 => exact (Kd.R_reads' HO686.out).2.1); rintro e w172 ⟨v694, rfl, ho0, hb⟩; refine ⟨_, rfl, ?_⟩; have HO695 := Az_ (Kd.R_lower (Kd.R_new' (Kd.R_new' ho0 (Kd.R_lt (w52_))) (Kd.R_lt (w53_))) (below_size (w129_))); replace HO686 := Az_ (rez_ (w52_) (Kd.R_base ho0) hb); replace HO690 := Az_ (rez_ (w53_) (Kd.R_base ho0) hb); replace BK687 := Az_ (kbz_ (g := gb687) (o := .cells #[.slice Ao164 t684.length co164] 30 (0, 0)) (by (with_reducible repeat (first | refine knz_ ?_ _ | refine kdz_ ?_ | refine kaz_ ?_ _)); refine blk_far ?_ NB687_692.out _; (with_reducible repeat (first | refine knz_ ?_ _ | refine kdz_ ?_ | refine kaz_ ?_ _)); exact BK687.out) hb); replace BK692 := Az_ (kbz_ (g := gb692) (o := .cells #[.slice Ao168 t688.length co168] 30 (0, 0)) (by (with_reducible repeat (first | refine knz_ ?_ _ | refine kdz_ ?_ | refine kaz_ ?_ _)); refine blk_put (cs := #[.slice none 0 0]) ?_ 0 _ rfl; (with_reducible repeat (first | refine knz_ ?_ _ | refine kdz_ ?_ | refine kaz_ ?_ _)); exact BK692.out) hb); replace HB := Az_ (btz_ (w129_) hb); (try clear hb); (try clear ho0)) | ((with_reducible refine gate_dst (N := 31) rfl ?_); (try (refine gate_guard (by rfl) ?_; dsimp only)); refine bxe_ (N := 31) (cs := #[.slice none 0 0]) (t := 30) ?_; intro gb697 hg w173 BK697 hb; obtain ⟨NB687_697, NB697_687⟩ := nez_ BK687 hg; obtain ⟨NB692_697, NB697_692⟩ := nez_ BK692 hg; have GW697 : Aside0 (w.heap.size ≤ gb697) := gez_ hg (w129_); have GE697 := GW697; replace HO686 := Az_ (Kd.R_below (by exact urz_ HO686.out) hb); replace HO690 := Az_ (Kd.R_below (by exact urz_ HO690.out) hb); replace HO695 := Az_ (Kd.R_below (by exact urz_ HO695.out) hb); replace HB := Az_ (btz_ (w129_) hb); replace BK687 := Az_ (ukbz_ BK687.out hb); replace BK692 := Az_ (ukbz_ BK692.out hb); clear hb hg; obtain ⟨Ao174, co174, eo174⟩ := Kd.R_slice HO695.out; subst eo174; have hnb175 := NB697_687.out; have hnc175 := NB687_697.out; have hnb176 := NB697_692.out; have hnc176 := NB692_697.out; have hcz177_0 := cz_ (x := .slice none 0 0) BK697 0; have hfz177_0 := blk_frozen BK697.out 0; have hcz178_0 := cz_ (x := .slice Ao164 t684.length co164) BK687 0; have hfz178_0 := blk_frozen BK687.out 0) | ((with_reducible refine gate_callee (f := 19) rfl ?_); refine goesL_ (some 244) rfl rfl Tryd.func19 (w204_) rfl #[.agg #[.slice Ao164 t684.length co164]] rfl maz_ ?_; (with_reducible refine (impl_IsSolved.calls _ _ t684 t698 t699 _ ?side1 ?side2 A160.out).mono ?_); (case side1 => refine (Kd.R_reads' (e := 40) (base := w.heap.size) (ok := fun k_ => ((True ∧ some k_ ≠ (.slice Ao168 t688.length co168 : Value).ownBlock) ∧ some k_ ≠ (.slice Ao174 t693.length co174 : Value).ownBlock)) (n := t684.length) (c := co164) ?_).2.2; exact (w54_)); (case side2 => exact (Kd.R_reads' HO686.out).2.1); rintro e w179 ⟨rfl, hb⟩; refine ⟨_, rfl, ?_⟩; replace HO686 := Az_ (Kd.R_below (w54_) hb); replace HO690 := Az_ (Kd.R_below (by (with_reducible repeat (first | apply raz_ | apply rnz_ | apply rdz_)); exact (Kd.R_mono (Kd.R_far (p := ⟨gb697, 0, none⟩) (Kd.R_types HO690.out BK697.out (by decide)) (fun _ hk => hk.2) (.slice Ao174 t693.length co174)) (fun _ h_ => h_.1))) hb); replace HO695 := Az_ (Kd.R_below (by (with_reducible repeat (first | apply raz_ | apply rnz_ | apply rdz_)); exact (Kd.R_mono (Kd.R_far (p := ⟨gb697, 0, none⟩) (Kd.R_types HO695.out BK697.out (by decide)) (fun _ hk => hk.2) (.slice Ao174 t693.length co174)) (fun _ h_ => h_.1))) hb); replace BK687 := Az_ (kbz_ (g := gb687) (o := .cells #[.slice Ao164 t684.length co164] 30 (0, 0)) (by (with_reducible repeat (first | refine knz_ ?_ _ | refine kdz_ ?_ | refine kaz_ ?_ _)); refine blk_far ?_ NB687_697.out _; (with_reducible repeat (first | refine knz_ ?_ _ | refine kdz_ ?_ | refine kaz_ ?_ _)); exact BK687.out) hb); replace BK692 := Az_ (kbz_ (g := gb692) (o := .cells #[.slice Ao168 t688.length co168] 30 (0, 0)) (by (with_reducible repeat (first | refine knz_ ?_ _ | refine kdz_ ?_ | refine kaz_ ?_ _)); refine blk_far ?_ NB692_697.out _; (with_reducible repeat (first | refine knz_ ?_ _ | refine kdz_ ?_ | refine kaz_ ?_ _)); exact BK692.out) hb); replace BK697 := Az_ (kbz_ (g := gb697) (o := .cells #[.slice Ao174 t693.length co174] 30 (0, 0)) (by (with_reducible repeat (first | refine knz_ ?_ _ | refine kdz_ ?_ | refine kaz_ ?_ _)); refine blk_put (cs := #[.slice none 0 0]) ?_ 0 _ rfl; (with_reducible repeat (first | refine knz_ ?_ _ | refine kdz_ ?_ | refine kaz_ ?_ _)); exact BK697.out) hb); replace HB := Az_ (btz_ (w129_) hb); (try clear hb)))
     (try simp only [Act.put, List.setIfInBounds_toArray, List.set_cons_zero, List.set_cons_succ])
     go_cut [263] from 1 to 0 (fun v263 wc => ∃ (kq : Nat) (x263_160 : Bool), v263 = .bool x263_160 ∧ Aside0 (j4 kq l1 t691 x263_160 t684 t688 = some r) ∧ Aside0 (kq ≤ kj54) ∧ Aside0 (Kd.R k40 40 wc w.heap.size (fun k_ => some k_ ≠ ((.slice Ao168 t688.length co168) : Value).ownBlock) (.slice Ao164 t684.length co164) t684) ∧ Aside0 (Kd.R k40 40 wc w.heap.size (fun k_ => some k_ ≠ ((.slice Ao164 t684.length co164) : Value).ownBlock) (.slice Ao168 t688.length co168) t688) ∧ Aside0 (wc.heap[gb687]? = some (.cells #[(.slice Ao164 t684.length co164)] 30 (0, 0))) ∧ Aside0 (wc.heap[gb692]? = some (.cells #[(.slice Ao168 t688.length co168)] 30 (0, 0))) ∧ Aside0 (Below w.heap.size w wc))
     case first => as_aux_lemma =>
      have H := HC161.out
      clear HC161
      by_cases c180 : (t691 != t696) = true
      ·rw [if_pos c180] at H
       exact (laws_FnBooksHidden.j4_no _ _ _ _ _ _ hrT H).elim
      rw [if_neg c180] at H
      obtain rfl : t691 = t696 := by simpa using c180
      clear c180
      replace H := bqz_ H; obtain ⟨t700, A181, H⟩ := H
      replace H : (if t700 = true then (if t699 = true then (j4 kj54 l1 t691 (t691 != t698) t684 t688) else (j4 kj54 l1 t691 (t691 != false) t684 t688)) else (j4 kj54 l1 t691 true t684 t688)) = some r := H
      by_cases c182 : t700 = true; rotate_left
      ·replace c182 := Bool.eq_false_iff.mpr c182
       subst c182
       have H1 : (j4 kj54 l1 t691 true t684 t688) = some r := by rw [if_neg (show ¬ (false = true) by decide)] at H; exact H
       clear H
       have H := H1
       exact (laws_FnBooksHidden.j4_no _ _ _ _ _ _ hrT H).elim
      subst c182
      rw [if_pos rfl] at H
      by_cases c183 : t699 = true
      ·subst c183
       rw [if_pos rfl] at H
       have H' := Az_ H
       clear H
       have hnb184 := NB692_687.out
       have hnc184 := NB687_692.out
       have hnb185 := NB692_697.out
       have hnc185 := NB697_692.out
       have hcz186_0 := cz_ (x := .slice Ao168 t688.length co168) BK692 0
       have hfz186_0 := blk_frozen BK692.out 0
       have hnb187 := NB697_687.out
       have hnc187 := NB687_697.out
       have hcz188_0 := cz_ (x := .slice Ao174 t693.length co174) BK697 0
       have hfz188_0 := blk_frozen BK697.out 0
       go_wp2_with ((go_at_call 8; (with_reducible refine (laws_xPuzzle.calls kj54 _ _ t688 _ _ t693 true _ ?side1 ?side2 ?side3 ?side4 A181.out).mono ?_); (case side1 => exact ucz_ ((Kd.R_reads' HO690.out).2.2)); (case side2 => exact (Kd.R_reads' HO690.out).2.1); (case side3 => exact ucz_ ((Kd.R_reads' HO695.out).2.2)); (case side4 => exact (Kd.R_reads' HO695.out).2.1); rintro e w189 ⟨rfl, hb⟩; have n0_ := Az_ (Kd.R_below (by exact urz_ HO686.out) hb); have n1_ := Az_ (Kd.R_below (by exact urz_ HO690.out) hb); have n2_ := Az_ (Kd.R_below (by exact urz_ HO695.out) hb); have n6_ := Az_ (btz_ (w129_) hb); clear HO686; clear HO690; clear HO695; clear HB; have HO686 := n0_; have HO690 := n1_; have HO695 := n2_; replace BK687 := Az_ (ukbz_ BK687.out hb); replace BK692 := Az_ (ukbz_ BK692.out hb); replace BK697 := Az_ (ukbz_ BK697.out hb); have HB := n6_; clear n0_ n1_ n2_ n6_; (try clear hb)))
       go_meet
       case rel => exact ⟨_, ((t691 != t698)), qaz_, H', ⟨by have := HJ7.out; have := HJ54.out; first | omega | exact Nat.le_refl _⟩, ⟨by (with_reducible repeat (first | apply raz_ | apply rnz_ | apply rdz_)); exact Kd.R_mono HO686.out (fun _ hk => hk.1.2)⟩, ⟨by (with_reducible repeat (first | apply raz_ | apply rnz_ | apply rdz_)); exact Kd.R_mono HO690.out (fun _ hk => hk.1.2)⟩, ⟨by (with_reducible repeat (first | refine knz_ ?_ _ | refine kdz_ ?_ | refine kaz_ ?_ _)); exact BK687.out⟩, ⟨by (with_reducible repeat (first | refine knz_ ?_ _ | refine kdz_ ?_ | refine kaz_ ?_ _)); exact BK692.out⟩, ⟨w129_⟩⟩
      replace c183 := Bool.eq_false_iff.mpr c183
      subst c183
      rw [if_neg nfz_] at H
      have H' := Az_ H
      clear H
      have hnb190 := NB692_687.out
      have hnc190 := NB687_692.out
      have hnb191 := NB692_697.out
      have hnc191 := NB697_692.out
      have hcz192_0 := cz_ (x := .slice Ao168 t688.length co168) BK692 0
      have hfz192_0 := blk_frozen BK692.out 0
      have hnb193 := NB697_687.out
      have hnc193 := NB687_697.out
      have hcz194_0 := cz_ (x := .slice Ao174 t693.length co174) BK697 0
      have hfz194_0 := blk_frozen BK697.out 0
      go_wp2_with ((go_at_call 8; (with_reducible refine (laws_xPuzzle.calls kj54 _ _ t688 _ _ t693 true _ ?side1 ?side2 ?side3 ?side4 A181.out).mono ?_); (case side1 => exact ucz_ ((Kd.R_reads' HO690.out).2.2)); (case side2 => exact (Kd.R_reads' HO690.out).2.1); (case side3 => exact ucz_ ((Kd.R_reads' HO695.out).2.2)); (case side4 => exact (Kd.R_reads' HO695.out).2.1); rintro e w195 ⟨rfl, hb⟩; have n0_ := Az_ (Kd.R_below (by exact urz_ HO686.out) hb); have n1_ := Az_ (Kd.R_below (by exact urz_ HO690.out) hb); have n2_ := Az_ (Kd.R_below (by exact urz_ HO695.out) hb); have n6_ := Az_ (btz_ (w129_) hb); clear HO686; clear HO690; clear HO695; clear HB; have HO686 := n0_; have HO690 := n1_; have HO695 := n2_; replace BK687 := Az_ (ukbz_ BK687.out hb); replace BK692 := Az_ (ukbz_ BK692.out hb); replace BK697 := Az_ (ukbz_ BK697.out hb); have HB := n6_; clear n0_ n1_ n2_ n6_; (try clear hb)))
      go_meet
      case rel => exact ⟨_, ((t691 != false)), qaz_, H', ⟨by have := HJ7.out; have := HJ54.out; first | omega | exact Nat.le_refl _⟩, ⟨by (with_reducible repeat (first | apply raz_ | apply rnz_ | apply rdz_)); exact Kd.R_mono HO686.out (fun _ hk => hk.1.2)⟩, ⟨by (with_reducible repeat (first | apply raz_ | apply rnz_ | apply rdz_)); exact Kd.R_mono HO690.out (fun _ hk => hk.1.2)⟩, ⟨by (with_reducible repeat (first | refine knz_ ?_ _ | refine kdz_ ?_ | refine kaz_ ?_ _)); exact BK687.out⟩, ⟨by (with_reducible repeat (first | refine knz_ ?_ _ | refine kdz_ ?_ | refine kaz_ ?_ _)); exact BK692.out⟩, ⟨w129_⟩⟩
     case rest => as_aux_lemma =>
      clear HC161
      clear hcz165_0 hcz170_0 hcz171_0 hcz177_0 hcz178_0 hfz165_0 hfz170_0 hfz171_0 hfz177_0 hfz178_0
      obtain ⟨kq, x263_160, rfl, HA, HJ160, HO_688000, HO_693000, BK687, BK692, HB⟩ := hcut
      cases kq with
      | zero => exact absurd HA.out (by simp [j4])
      | succ kj160 =>
       have H := HA.out
       clear HA
       simp only [j4] at H
       by_cases c202 : x263_160 = true
       ·subst c202
        rw [if_pos rfl] at H
        exact absurd ((Option.some.inj H).trans hrT) (by decide)
       replace c202 := Bool.eq_false_iff.mpr c202
       subst c202
       rw [if_neg nfz_] at H
       have HC203 := Az_ H
       clear H
       go_upto_if 264 with (fail)
       go_cut [] from 1 to 0 (fun wc => ∃ (kq : Nat), Aside0 (j5 kq l1 = some r) ∧ Aside0 (kq ≤ kj160) ∧ Aside0 (Below w.heap.size w wc))
       case first => as_aux_lemma =>
        have H := HC203.out
        clear HC203
        by_cases c204 : t691 = true; rotate_left
        ·replace c204 := Bool.eq_false_iff.mpr c204
         subst c204
         rw [if_neg nfz_] at H
         have H' := Az_ H
         clear H
         go_wp2
         go_meet
         case rel => exact ⟨_, H', ⟨by have := HJ7.out; have := HJ54.out; have := HJ160.out; first | omega | exact Nat.le_refl _⟩, ⟨w129_⟩⟩
        subst c204
        rw [if_pos rfl] at H
        replace H := bqz_ H; obtain ⟨⟨t701, t704⟩, A205, H⟩ := H
        replace H := bqz_ H; obtain ⟨⟨t705, t708⟩, A206, H⟩ := H
        replace H := bqz_ H; obtain ⟨⟨t709, t712⟩, A207, H⟩ := H
        replace H : (if t704 = true then (if t708 = true then ((laws_xBooks.f kj160 t701 t705).bind fun t713 => (if t713 = true then (if t712 = true then (if (t709.length : Int) = 0 then (if (t688.length : Int) > (t684.length : Int) then (some false) else (j5 kj160 l1)) else (some false)) else (some false)) else (some false))) else (some false)) else (some false)) = some r := H
        by_cases c208 : t704 = true; rotate_left
        ·replace c208 := Bool.eq_false_iff.mpr c208
         subst c208
         rw [if_neg nfz_] at H
         exact absurd ((Option.some.inj H).trans hrT) (by decide)
        subst c208
        rw [if_pos rfl] at H
        by_cases c209 : t708 = true; rotate_left
        ·replace c209 := Bool.eq_false_iff.mpr c209
         subst c209
         rw [if_neg nfz_] at H
         exact absurd ((Option.some.inj H).trans hrT) (by decide)
        subst c209
        rw [if_pos rfl] at H
        replace H := bqz_ H; obtain ⟨t713, A210, H⟩ := H
        replace H : (if t713 = true then (if t712 = true then (if (t709.length : Int) = 0 then (if (t688.length : Int) > (t684.length : Int) then (some false) else (j5 kj160 l1)) else (some false)) else (some false)) else (some false)) = some r := H
        by_cases c211 : t713 = true; rotate_left
        ·replace c211 := Bool.eq_false_iff.mpr c211
         subst c211
         rw [if_neg nfz_] at H
         exact absurd ((Option.some.inj H).trans hrT) (by decide)
        subst c211
        rw [if_pos rfl] at H
        by_cases c212 : t712 = true; rotate_left
        ·replace c212 := Bool.eq_false_iff.mpr c212
         subst c212
         rw [if_neg nfz_] at H
         exact absurd ((Option.some.inj H).trans hrT) (by decide)
        subst c212
        rw [if_pos rfl] at H
        by_cases c213 : (t709.length : Int) = 0; rotate_left
        ·rw [if_neg c213] at H
         have c213b0 : ((t709.length : Int) == 0) = false := beq_eq_false_iff_ne.mpr c213
         have c213b1 : ((t709.length : Int) != 0) = true := bne_iff_ne.mpr c213
         have c213b2 : ¬ (t709 = []) := fun h_ => c213 (by rw [h_]; rfl)
         (first | rw [c213b0] | (simp only [i64_w, i32_w]; rw [c213b0]) | skip)
         exact absurd ((Option.some.inj H).trans hrT) (by decide)
        rw [if_pos c213] at H
        have c213b0 : ((t709.length : Int) == 0) = true := beq_iff_eq.mpr c213
        have c213b1 : ((t709.length : Int) != 0) = false := bne_eq_false_iff_eq.mpr c213
        clear c213
        (first | rw [c213b0] | (simp only [i64_w, i32_w]; rw [c213b0]) | skip)
        by_cases c214 : (t688.length : Int) > (t684.length : Int)
        ·rw [if_pos c214] at H
         have c214b0 := decide_eq_true c214
         have c214b1 : decide (t684.length < t688.length) = true := decide_eq_true (Int.ofNat_lt.mp c214)
         clear c214
         exact absurd ((Option.some.inj H).trans hrT) (by decide)
        rw [if_neg c214] at H
        have c214b0 := decide_eq_false c214
        have c214b1 : decide (t684.length < t688.length) = false := decide_eq_false (fun h => c214 (Int.ofNat_lt.mpr h))
        clear c214
        have H' := Az_ H
        clear H
        have hnb227 := NB687_692.out
        have hnc227 := NB692_687.out
        have hcz228_0 := cz_ (x := .slice Ao164 t684.length co164) BK687 0
        have hfz228_0 := blk_frozen BK687.out 0
        go_wp2_with (first | ((with_reducible refine gate_callee (f := 20) rfl ?_); refine goesL_ (some 267) rfl rfl Tryd.func20 (w204_) rfl #[.agg #[.slice Ao164 t684.length co164]] rfl maz_ ?_; (with_reducible refine (impl_Solutions.calls _ _ t684 t701 true _ ?side1 ?side2 A205.out).mono ?_); (case side1 => exact ucz_ ((Kd.R_reads' HO_688000.out).2.2)); (case side2 => exact (Kd.R_reads' HO_688000.out).2.1); rintro e w229 ⟨v702, rfl, ho0, hb⟩; refine ⟨_, rfl, ?_⟩; have n0_ := Az_ (Kd.R_below (by exact urz_ HO_688000.out) hb); have n1_ := Az_ (Kd.R_below (by exact urz_ HO_693000.out) hb); have n2_ := Az_ (Kd.R_lower ho0 (below_size (w129_))); have n5_ := Az_ (btz_ (w129_) hb); clear HO_688000; clear HO_693000; clear HB; have HO_688000 := n0_; have HO_693000 := n1_; have HO703 := n2_; replace BK687 := Az_ (ukbz_ BK687.out hb); replace BK692 := Az_ (ukbz_ BK692.out hb); have HB := n5_; clear n0_ n1_ n2_ n5_; (try clear hb); (try clear ho0); have hcz230_0 := cz_ (x := .slice Ao168 t688.length co168) BK692 0; have hfz230_0 := blk_frozen BK692.out 0; clear A205) | ((with_reducible refine gate_callee (f := 20) rfl ?_); refine goesL_ (some 272) rfl rfl Tryd.func20 (w204_) rfl #[.agg #[.slice Ao168 t688.length co168]] rfl maz_ ?_; (with_reducible refine (impl_Solutions.calls _ _ t688 t705 true _ ?side1 ?side2 A206.out).mono ?_); (case side1 => exact ucz_ ((Kd.R_reads' HO_693000.out).2.2)); (case side2 => exact (Kd.R_reads' HO_693000.out).2.1); rintro e w231 ⟨v706, rfl, ho0, hb⟩; refine ⟨_, rfl, ?_⟩; have n0_ := Az_ (Kd.R_below (by exact urz_ HO_688000.out) hb); have n1_ := Az_ (Kd.R_below (by exact urz_ HO_693000.out) hb); have n2_ := Az_ (rez_ (by exact urz_ HO703.out) (Kd.R_base ho0) hb); have n3_ := Az_ (Kd.R_lower (Kd.R_new' ho0 (Kd.R_lt (by exact urz_ HO703.out))) (below_size (w129_))); have n6_ := Az_ (btz_ (w129_) hb); clear HO_688000; clear HO_693000; clear HO703; clear HB; have HO_688000 := n0_; have HO_693000 := n1_; have HO703 := n2_; have HO707 := n3_; replace BK687 := Az_ (ukbz_ BK687.out hb); replace BK692 := Az_ (ukbz_ BK692.out hb); have HB := n6_; clear n0_ n1_ n2_ n3_ n6_; (try clear hb); (try clear ho0); have hcz232_0 := cz_ (x := .slice Ao168 t688.length co168) BK692 0; have hfz232_0 := blk_frozen BK692.out 0) | ((with_reducible refine gate_callee (f := 21) rfl ?_); refine goesL_ (some 277) rfl rfl Tryd.func21 (w204_) rfl #[.agg #[.slice Ao168 t688.length co168]] rfl maz_ ?_; (with_reducible refine (impl_NeedlessClues.calls kj160 _ _ t688 t709 true _ ?side1 ?side2 A207.out).mono ?_); (case side1 => exact ucz_ ((Kd.R_reads' HO_693000.out).2.2)); (case side2 => exact (Kd.R_reads' HO_693000.out).2.1); rintro e w233 ⟨v710, rfl, ho0, hb⟩; refine ⟨_, rfl, ?_⟩; have n0_ := Az_ (Kd.R_below (by exact urz_ HO_688000.out) hb); have n1_ := Az_ (Kd.R_below (by exact urz_ HO_693000.out) hb); have n2_ := Az_ (Kd.R_below (by exact urz_ HO703.out) hb); have n3_ := Az_ (Kd.R_below (by exact urz_ HO707.out) hb); have n4_ := Az_ (Kd.R_lower ho0 (below_size (w129_))); have n7_ := Az_ (btz_ (w129_) hb); clear HO_688000; clear HO_693000; clear HO703; clear HO707; clear HB; have HO_688000 := n0_; have HO_693000 := n1_; have HO703 := n2_; have HO707 := n3_; have HO711 := n4_; replace BK687 := Az_ (ukbz_ BK687.out hb); replace BK692 := Az_ (ukbz_ BK692.out hb); have HB := n7_; clear n0_ n1_ n2_ n3_ n4_ n7_; (try clear hb); (try clear ho0); obtain ⟨Ao234, co234, eo234⟩ := Kd.R_slice HO703.out; subst eo234; obtain ⟨Ao235, co235, eo235⟩ := Kd.R_slice HO707.out; subst eo235) | (go_at_call 22; (with_reducible refine (laws_xBooks.calls kj160 _ _ t701 _ _ t705 true _ ?side1 ?side2 ?side3 ?side4 A210.out).mono ?_); (case side1 => exact ucz_ ((Kd.R_reads' HO703.out).2.2)); (case side2 => exact (Kd.R_reads' HO703.out).2.1); (case side3 => exact ucz_ ((Kd.R_reads' HO707.out).2.2)); (case side4 => exact (Kd.R_reads' HO707.out).2.1); rintro e w' ⟨rfl, ⟨nd, rfl⟩⟩; obtain ⟨Ao236, co236, eo236⟩ := Kd.R_slice HO711.out; subst eo236; have hcz237_0 := cz_ (x := .slice Ao168 t688.length co168) BK692 0; have hfz237_0 := blk_frozen BK692.out 0; have hcz238_0 := cz_ (x := .slice Ao164 t684.length co164) BK687 0; have hfz238_0 := blk_frozen BK687.out 0))
        go_meet
        case rel => exact ⟨_, H', ⟨by have := HJ7.out; have := HJ54.out; have := HJ160.out; first | omega | exact Nat.le_refl _⟩, ⟨w129_⟩⟩
       case rest => as_aux_lemma =>
        clear HC203
        obtain ⟨kq, HA, HJ202, HB⟩ := hcut
        cases kq with
        | zero => exact absurd HA.out (by simp [j5])
        | succ kj202 =>
         have H := HA.out
         clear HA
         simp only [j5] at H
         replace H := bqz_ H; obtain ⟨⟨t714, t717, t718, t719⟩, A281, H⟩ := H
         replace H := bqz_ H; obtain ⟨⟨t722, t725⟩, A282, H⟩ := H
         replace H := bqz_ H; obtain ⟨⟨t727, t730⟩, A283, H⟩ := H
         replace H := bqz_ H; obtain ⟨⟨t732, t735⟩, A284, H⟩ := H
         replace H := bqz_ H; obtain ⟨⟨t737, t740⟩, A285, H⟩ := H
         replace H := bqz_ H; obtain ⟨⟨t742, t745⟩, A286, H⟩ := H
         replace H := bqz_ H; obtain ⟨⟨t747, t748, t749, t750, t751⟩, A287, H⟩ := H
         replace H := bqz_ H; obtain ⟨⟨t754, t755⟩, A288, H⟩ := H
         replace H := bqz_ H; obtain ⟨⟨t756, t757⟩, A289, H⟩ := H
         replace H := bqz_ H; obtain ⟨⟨t758, t759, t760⟩, A290, H⟩ := H
         replace H := bqz_ H; obtain ⟨⟨t762, t763⟩, A291, H⟩ := H
         replace H : (if (t725 != t730) = true then (j6 kj202 t725 t735 t740 true t714 t717 t718 t719 t722 t732 t737) else ((laws_xPuzzle.f kj202 t722 t727).bind fun t765 => (if t765 = true then (if (t740 != t745) = true then (j6 kj202 t725 t735 t740 true t714 t717 t718 t719 t722 t732 t737) else ((laws_xPuzzle.f kj202 t737 t742).bind fun t766 => (if t766 = true then (if (t755 != t757) = true then (j6 kj202 t725 t735 t740 true t714 t717 t718 t719 t722 t732 t737) else (if (t754 != t756) = true then (j6 kj202 t725 t735 t740 true t714 t717 t718 t719 t722 t732 t737) else ((impl_IsClue.f kj202 t758 t759 t760).bind fun t767 => ((spec_IsClue.f kj202 t758 t759 t760).bind fun t768 => (if (t767 != t768) = true then (j6 kj202 t725 t735 t740 true t714 t717 t718 t719 t722 t732 t737) else (if t755 = true then ((impl_IsClue.f kj202 t747 t748 t749).bind fun t769 => (if t769 = true then ((impl_IsHidden.f t762 t763).bind fun t770 => ((spec_IsHidden.f t762 t763).bind fun t771 => (j6 kj202 t725 t735 t740 (t770 != t771) t714 t717 t718 t719 t722 t732 t737))) else (j6 kj202 t725 t735 t740 true t714 t717 t718 t719 t722 t732 t737))) else ((impl_IsHidden.f t762 t763).bind fun t772 => ((spec_IsHidden.f t762 t763).bind fun t773 => (j6 kj202 t725 t735 t740 (t772 != t773) t714 t717 t718 t719 t722 t732 t737))))))))) else (j6 kj202 t725 t735 t740 true t714 t717 t718 t719 t722 t732 t737)))) else (j6 kj202 t725 t735 t740 true t714 t717 t718 t719 t722 t732 t737)))) = some r := H
         have HC292 := Az_ H
         clear H
         go_upto_region 47 with (first | ((with_reducible refine gate_callee (f := 23) rfl ?_); refine goesL_ (some 312) rfl rfl Tryd.func23 (w204_) rfl #[.slice A1 l1.length c1] rfl maz_ ?_; (with_reducible refine (spec_DrawAddClue.calls kj202 _ _ l1 t714 t717 t718 t719 _ ?side1 ?side2 A281.out).mono ?_); (case side1 => exact ucz_ ((Kd.C_below HR1.out HB.out))); (case side2 => exact HC1.out); rintro e w293 ⟨v715, rfl, ho0, hb⟩; refine ⟨_, rfl, ?_⟩; have HO716 := Az_ (Kd.R_lower ho0 (below_size (ubz_ HB.out))); replace HB := Az_ (btz_ (ubz_ HB.out) hb); (try clear hb); (try clear ho0)) | ((with_reducible refine gate_dst (N := 41) rfl ?_); (try (refine gate_guard (by rfl) ?_; dsimp only)); refine bxe_ (N := 41) (cs := #[.slice none 0 0]) (t := 30) ?_; intro gb720 hg w294 BK720 hb; have GW720 := gez_ hg (ubz_ HB.out); have GE720 := GW720; replace HO716 := Az_ (Kd.R_below (w195_) hb); replace HB := Az_ (btz_ (ubz_ HB.out) hb); clear hb hg) | ((with_reducible refine gate_dst (N := 42) rfl ?_); (try (refine gate_guard (by rfl) ?_; dsimp only)); refine bxe_ (N := 42) (cs := #[.int .i64 0, .int .i64 0, .int .i64 0]) (t := 40) ?_; intro gb721 hg w295 BK721 hb; obtain ⟨NB720_721, NB721_720⟩ := nez_ BK720 hg; have GW721 : Aside0 (w.heap.size ≤ gb721) := gez_ hg (w129_); have GE721 := GW721; replace HO716 := Az_ (Kd.R_below (Kd.R_elderB (w195_) gb721 (Nat.le_of_eq hg.symm)) hb); replace HB := Az_ (btz_ (w129_) hb); replace BK720 := Az_ (ukbz_ BK720.out hb); clear hb hg; obtain ⟨Ao296, co296, eo296⟩ := Kd.R_slice HO716.out; subst eo296; have hnb297 := NB720_721.out; have hnc297 := NB721_720.out; have hcz298_0 := cz_ (x := .slice none 0 0) BK720 0; have hfz298_0 := blk_frozen BK720.out 0; have hcz299_0 := cz_ (x := .int .i64 0) BK721 0; have hcz299_1 := cz_ (x := .int .i64 0) BK721 1; have hcz299_2 := cz_ (x := .int .i64 0) BK721 2; have hfz299_0 := blk_frozen BK721.out 0; have hfz299_1 := blk_frozen BK721.out 1; have hfz299_2 := blk_frozen BK721.out 2) | ((with_reducible refine gate_callee (f := 24) rfl ?_); refine goesL_ (some 318) rfl rfl Tryd.func24 (w204_) rfl #[.agg #[.slice Ao296 t714.length co296], .agg #[.int .i64 t717, .int .i64 t718, .int .i64 t719]] rfl maz_ ?_; (with_reducible refine (impl_AddClue.calls kj202 _ _ t714 t717 t718 t719 t722 t725 _ ?side1 ?side2 A282.out).mono ?_); (case side1 => refine (Kd.R_reads' (e := 40) (base := w.heap.size) (ok := fun k_ => (True ∧ k_ ≠ gb721)) (n := t714.length) (c := co296) ?_).2.2; exact (w7_)); (case side2 => exact (Kd.R_reads' HO716.out).2.1); rintro e w300 ⟨v723, rfl, ho0, hb⟩; refine ⟨_, rfl, ?_⟩; have HO724 := Az_ (Kd.R_lower (Kd.R_newB (Kd.R_new' ho0 (Kd.R_lt (w7_))) (g := gb721) (o := .cells #[.int .i64 t717, .int .i64 t718, .int .i64 t719] 40 (0, 0)) (w2_)) (below_size (w129_))); replace HO716 := Az_ (rez_ (w7_) (Kd.R_base ho0) hb); replace BK720 := Az_ (kbz_ (g := gb720) (o := .cells #[.slice Ao296 t714.length co296] 30 (0, 0)) (by (with_reducible repeat (first | refine knz_ ?_ _ | refine kdz_ ?_ | refine kaz_ ?_ _)); refine blk_far ?_ NB720_721.out _; (with_reducible repeat (first | refine knz_ ?_ _ | refine kdz_ ?_ | refine kaz_ ?_ _)); refine blk_far ?_ NB720_721.out _; (with_reducible repeat (first | refine knz_ ?_ _ | refine kdz_ ?_ | refine kaz_ ?_ _)); refine blk_far ?_ NB720_721.out _; (with_reducible repeat (first | refine knz_ ?_ _ | refine kdz_ ?_ | refine kaz_ ?_ _)); refine blk_put (cs := #[.slice none 0 0]) ?_ 0 _ rfl; (with_reducible repeat (first | refine knz_ ?_ _ | refine kdz_ ?_ | refine kaz_ ?_ _)); exact BK720.out) hb); replace BK721 := Az_ (kbz_ (g := gb721) (o := .cells #[.int .i64 t717, .int .i64 t718, .int .i64 t719] 40 (0, 0)) (w2_) hb); replace HB := Az_ (btz_ (w129_) hb); (try clear hb); (try clear ho0)) | ((with_reducible refine gate_dst (N := 43) rfl ?_); (try (refine gate_guard (by rfl) ?_; dsimp only)); refine bxe_ (N := 43) (cs := #[.slice none 0 0]) (t := 30) ?_; intro gb726 hg w301 BK726 hb; obtain ⟨NB720_726, NB726_720⟩ := nez_ BK720 hg; obtain ⟨NB721_726, NB726_721⟩ := nez_ BK721 hg; have GW726 : Aside0 (w.heap.size ≤ gb726) := gez_ hg (w129_); have GE726 := GW726; replace HO716 := Az_ (Kd.R_below (w195_) hb); replace HO724 := Az_ (Kd.R_below (w196_) hb); replace HB := Az_ (btz_ (w129_) hb); replace BK720 := Az_ (ukbz_ BK720.out hb); replace BK721 := Az_ (ukbz_ BK721.out hb); clear hb hg; obtain ⟨Ao302, co302, eo302⟩ := Kd.R_slice HO724.out; subst eo302; have hnb303 := NB726_720.out; have hnc303 := NB720_726.out; have hnb304 := NB726_721.out; have hnc304 := NB721_726.out; have hcz305_0 := cz_ (x := .slice none 0 0) BK726 0; have hfz305_0 := blk_frozen BK726.out 0; have hcz306_0 := cz_ (x := .slice Ao296 t714.length co296) BK720 0; have hfz306_0 := blk_frozen BK720.out 0; have hcz307_0 := cz_ (x := .int .i64 t717) BK721 0; have hcz307_1 := cz_ (x := .int .i64 t718) BK721 1; have hcz307_2 := cz_ (x := .int .i64 t719) BK721 2; have hfz307_0 := blk_frozen BK721.out 0; have hfz307_1 := blk_frozen BK721.out 1; have hfz307_2 := blk_frozen BK721.out 2) | ((with_reducible refine gate_callee (f := 25) rfl ?_); refine goesL_ (some 324) rfl rfl Tryd.func25 (w204_) rfl #[.agg #[.slice Ao296 t714.length co296], .agg #[.int .i64 t717, .int .i64 t718, .int .i64 t719]] rfl maz_ ?_; (with_reducible refine (spec_AddClue.calls kj202 _ _ t714 t717 t718 t719 t727 t730 _ ?side1 ?side2 A283.out).mono ?_); (case side1 => refine (Kd.R_reads' (e := 40) (base := w.heap.size) (ok := fun k_ => ((True ∧ k_ ≠ gb721) ∧ some k_ ≠ (.slice Ao302 t722.length co302 : Value).ownBlock)) (n := t714.length) (c := co296) ?_).2.2; exact (w55_)); (case side2 => exact (Kd.R_reads' HO716.out).2.1); rintro e w308 ⟨v728, rfl, ho0, hb⟩; refine ⟨_, rfl, ?_⟩; have HO729 := Az_ (Kd.R_lower (Kd.R_newB (Kd.R_new' (Kd.R_new' ho0 (Kd.R_lt (w55_))) (Kd.R_lt (w56_))) (g := gb721) (o := .cells #[.int .i64 t717, .int .i64 t718, .int .i64 t719] 40 (0, 0)) (w90_)) (below_size (w129_))); replace HO716 := Az_ (rez_ (w55_) (Kd.R_base ho0) hb); replace HO724 := Az_ (rez_ (w56_) (Kd.R_base ho0) hb); replace BK720 := Az_ (kbz_ (g := gb720) (o := .cells #[.slice Ao296 t714.length co296] 30 (0, 0)) (by (with_reducible repeat (first | refine knz_ ?_ _ | refine kdz_ ?_ | refine kaz_ ?_ _)); refine blk_far ?_ NB720_726.out _; (with_reducible repeat (first | refine knz_ ?_ _ | refine kdz_ ?_ | refine kaz_ ?_ _)); exact BK720.out) hb); replace BK721 := Az_ (kbz_ (g := gb721) (o := .cells #[.int .i64 t717, .int .i64 t718, .int .i64 t719] 40 (0, 0)) (w90_) hb); replace BK726 := Az_ (kbz_ (g := gb726) (o := .cells #[.slice Ao302 t722.length co302] 30 (0, 0)) (by (with_reducible repeat (first | refine knz_ ?_ _ | refine kdz_ ?_ | refine kaz_ ?_ _)); refine blk_put (cs := #[.slice none 0 0]) ?_ 0 _ rfl; (with_reducible repeat (first | refine knz_ ?_ _ | refine kdz_ ?_ | refine kaz_ ?_ _)); exact BK726.out) hb); replace HB := Az_ (btz_ (w129_) hb); (try clear hb); (try clear ho0)) | ((with_reducible refine gate_dst (N := 45) rfl ?_); (try (refine gate_guard (by rfl) ?_; dsimp only)); refine bxe_ (N := 45) (cs := #[.slice none 0 0]) (t := 30) ?_; intro gb731 hg w309 BK731 hb; obtain ⟨NB720_731, NB731_720⟩ := nez_ BK720 hg; obtain ⟨NB721_731, NB731_721⟩ := nez_ BK721 hg; obtain ⟨NB726_731, NB731_726⟩ := nez_ BK726 hg; have GW731 : Aside0 (w.heap.size ≤ gb731) := gez_ hg (w129_); have GE731 := GW731; replace HO716 := Az_ (Kd.R_below (w195_) hb); replace HO724 := Az_ (Kd.R_below (w196_) hb); replace HO729 := Az_ (Kd.R_below (w197_) hb); replace HB := Az_ (btz_ (w129_) hb); replace BK720 := Az_ (ukbz_ BK720.out hb); replace BK721 := Az_ (ukbz_ BK721.out hb); replace BK726 := Az_ (ukbz_ BK726.out hb); clear hb hg; obtain ⟨Ao310, co310, eo310⟩ := Kd.R_slice HO729.out; subst eo310; have hnb311 := NB731_720.out; have hnc311 := NB720_731.out; have hnb312 := NB731_721.out; have hnc312 := NB721_731.out; have hnb313 := NB731_726.out; have hnc313 := NB726_731.out; have hcz314_0 := cz_ (x := .slice none 0 0) BK731 0; have hfz314_0 := blk_frozen BK731.out 0) | ((with_reducible refine gate_callee (f := 26) rfl ?_); refine goesL_ (some 329) rfl rfl Tryd.func26 (w204_) rfl #[.slice A1 l1.length c1] rfl maz_ ?_; (with_reducible refine (spec_DrawDropClue.calls kj202 _ _ l1 t732 t735 _ ?side1 ?side2 A284.out).mono ?_); (case side1 => exact Kd.C_below HR1.out (w129_)); (case side2 => exact HC1.out); rintro e w315 ⟨v733, rfl, ho0, hb⟩; refine ⟨_, rfl, ?_⟩; have HO734 := Az_ (Kd.R_lower (Kd.R_newB (Kd.R_new' (Kd.R_new' (Kd.R_new' ho0 (Kd.R_lt (w57_))) (Kd.R_lt (w58_))) (Kd.R_lt (w59_))) (g := gb721) (o := .cells #[.int .i64 t717, .int .i64 t718, .int .i64 t719] 40 (0, 0)) (w91_)) (below_size (w129_))); replace HO716 := Az_ (rez_ (w57_) (Kd.R_base ho0) hb); replace HO724 := Az_ (rez_ (w58_) (Kd.R_base ho0) hb); replace HO729 := Az_ (rez_ (w59_) (Kd.R_base ho0) hb); replace BK720 := Az_ (kbz_ (g := gb720) (o := .cells #[.slice Ao296 t714.length co296] 30 (0, 0)) (by (with_reducible repeat (first | refine knz_ ?_ _ | refine kdz_ ?_ | refine kaz_ ?_ _)); refine blk_far ?_ NB720_731.out _; (with_reducible repeat (first | refine knz_ ?_ _ | refine kdz_ ?_ | refine kaz_ ?_ _)); exact BK720.out) hb); replace BK721 := Az_ (kbz_ (g := gb721) (o := .cells #[.int .i64 t717, .int .i64 t718, .int .i64 t719] 40 (0, 0)) (w91_) hb); replace BK726 := Az_ (kbz_ (g := gb726) (o := .cells #[.slice Ao302 t722.length co302] 30 (0, 0)) (by (with_reducible repeat (first | refine knz_ ?_ _ | refine kdz_ ?_ | refine kaz_ ?_ _)); refine blk_far ?_ NB726_731.out _; (with_reducible repeat (first | refine knz_ ?_ _ | refine kdz_ ?_ | refine kaz_ ?_ _)); exact BK726.out) hb); replace BK731 := Az_ (kbz_ (g := gb731) (o := .cells #[.slice Ao310 t727.length co310] 30 (0, 0)) (by (with_reducible repeat (first | refine knz_ ?_ _ | refine kdz_ ?_ | refine kaz_ ?_ _)); refine blk_put (cs := #[.slice none 0 0]) ?_ 0 _ rfl; (with_reducible repeat (first | refine knz_ ?_ _ | refine kdz_ ?_ | refine kaz_ ?_ _)); exact BK731.out) hb); replace HB := Az_ (btz_ (w129_) hb); (try clear hb); (try clear ho0)) | ((with_reducible refine gate_dst (N := 47) rfl ?_); (try (refine gate_guard (by rfl) ?_; dsimp only)); refine bxe_ (N := 47) (cs := #[.slice none 0 0]) (t := 30) ?_; intro gb736 hg w316 BK736 hb; obtain ⟨NB720_736, NB736_720⟩ := nez_ BK720 hg; obtain ⟨NB721_736, NB736_721⟩ := nez_ BK721 hg; obtain ⟨NB726_736, NB736_726⟩ := nez_ BK726 hg; obtain ⟨NB731_736, NB736_731⟩ := nez_ BK731 hg; have GW736 : Aside0 (w.heap.size ≤ gb736) := gez_ hg (w129_); have GE736 := GW736; replace HO716 := Az_ (Kd.R_below (w195_) hb); replace HO724 := Az_ (Kd.R_below (w196_) hb); replace HO729 := Az_ (Kd.R_below (w197_) hb); replace HO734 := Az_ (Kd.R_below (w198_) hb); replace HB := Az_ (btz_ (w129_) hb); replace BK720 := Az_ (ukbz_ BK720.out hb); replace BK721 := Az_ (ukbz_ BK721.out hb); replace BK726 := Az_ (ukbz_ BK726.out hb); replace BK731 := Az_ (ukbz_ BK731.out hb); clear hb hg; obtain ⟨Ao317, co317, eo317⟩ := Kd.R_slice HO734.out; subst eo317; have hnb318 := NB736_720.out; have hnc318 := NB720_736.out; have hnb319 := NB736_721.out; have hnc319 := NB721_736.out; have hnb320 := NB736_726.out; have hnc320 := NB726_736.out; have hnb321 := NB736_731.out; have hnc321 := NB731_736.out; have hcz322_0 := cz_ (x := .slice none 0 0) BK736 0; have hfz322_0 := blk_frozen BK736.out 0) | ((with_reducible refine gate_callee (f := 27) rfl ?_); refine goesL_ (some 335) rfl rfl Tryd.func27 (w204_) rfl #[.agg #[.slice Ao317 t732.length co317], .int .i64 t735] rfl maz_ ?_; (with_reducible refine (impl_DropClue.calls _ _ t732 t735 t737 t740 _ ?side1 ?side2 A285.out).mono ?_); (case side1 => refine (Kd.R_reads' (e := 40) (base := w.heap.size) (ok := fun k_ => ((((True ∧ some k_ ≠ (.slice Ao296 t714.length co296 : Value).ownBlock) ∧ some k_ ≠ (.slice Ao302 t722.length co302 : Value).ownBlock) ∧ some k_ ≠ (.slice Ao310 t727.length co310 : Value).ownBlock) ∧ k_ ≠ gb721)) (n := t732.length) (c := co317) ?_).2.2; exact (w60_)); (case side2 => exact (Kd.R_reads' HO734.out).2.1); rintro e w323 ⟨v738, rfl, ho0, hb⟩; refine ⟨_, rfl, ?_⟩; have HO739 := Az_ (Kd.R_lower (Kd.R_newB (Kd.R_new' (Kd.R_new' (Kd.R_new' (Kd.R_new' ho0 (Kd.R_lt (w61_))) (Kd.R_lt (w62_))) (Kd.R_lt (w63_))) (Kd.R_lt (w60_))) (g := gb721) (o := .cells #[.int .i64 t717, .int .i64 t718, .int .i64 t719] 40 (0, 0)) (w92_)) (below_size (w129_))); replace HO716 := Az_ (rez_ (w61_) (Kd.R_base ho0) hb); replace HO724 := Az_ (rez_ (w62_) (Kd.R_base ho0) hb); replace HO729 := Az_ (rez_ (w63_) (Kd.R_base ho0) hb); replace HO734 := Az_ (rez_ (w60_) (Kd.R_base ho0) hb); replace BK720 := Az_ (kbz_ (g := gb720) (o := .cells #[.slice Ao296 t714.length co296] 30 (0, 0)) (by (with_reducible repeat (first | refine knz_ ?_ _ | refine kdz_ ?_ | refine kaz_ ?_ _)); refine blk_far ?_ NB720_736.out _; (with_reducible repeat (first | refine knz_ ?_ _ | refine kdz_ ?_ | refine kaz_ ?_ _)); exact BK720.out) hb); replace BK721 := Az_ (kbz_ (g := gb721) (o := .cells #[.int .i64 t717, .int .i64 t718, .int .i64 t719] 40 (0, 0)) (w92_) hb); replace BK726 := Az_ (kbz_ (g := gb726) (o := .cells #[.slice Ao302 t722.length co302] 30 (0, 0)) (by (with_reducible repeat (first | refine knz_ ?_ _ | refine kdz_ ?_ | refine kaz_ ?_ _)); refine blk_far ?_ NB726_736.out _; (with_reducible repeat (first | refine knz_ ?_ _ | refine kdz_ ?_ | refine kaz_ ?_ _)); exact BK726.out) hb); replace BK731 := Az_ (kbz_ (g := gb731) (o := .cells #[.slice Ao310 t727.length co310] 30 (0, 0)) (by (with_reducible repeat (first | refine knz_ ?_ _ | refine kdz_ ?_ | refine kaz_ ?_ _)); refine blk_far ?_ NB731_736.out _; (with_reducible repeat (first | refine knz_ ?_ _ | refine kdz_ ?_ | refine kaz_ ?_ _)); exact BK731.out) hb); replace BK736 := Az_ (kbz_ (g := gb736) (o := .cells #[.slice Ao317 t732.length co317] 30 (0, 0)) (by (with_reducible repeat (first | refine knz_ ?_ _ | refine kdz_ ?_ | refine kaz_ ?_ _)); refine blk_put (cs := #[.slice none 0 0]) ?_ 0 _ rfl; (with_reducible repeat (first | refine knz_ ?_ _ | refine kdz_ ?_ | refine kaz_ ?_ _)); exact BK736.out) hb); replace HB := Az_ (btz_ (w129_) hb); (try clear hb); (try clear ho0)) | ((with_reducible refine gate_dst (N := 49) rfl ?_); (try (refine gate_guard (by rfl) ?_; dsimp only)); refine bxe_ (N := 49) (cs := #[.slice none 0 0]) (t := 30) ?_; intro gb741 hg w324 BK741 hb; obtain ⟨NB720_741, NB741_720⟩ := nez_ BK720 hg; obtain ⟨NB721_741, NB741_721⟩ := nez_ BK721 hg; obtain ⟨NB726_741, NB741_726⟩ := nez_ BK726 hg; obtain ⟨NB731_741, NB741_731⟩ := nez_ BK731 hg; obtain ⟨NB736_741, NB741_736⟩ := nez_ BK736 hg; have GW741 : Aside0 (w.heap.size ≤ gb741) := gez_ hg (w129_); have GE741 := GW741; replace HO716 := Az_ (Kd.R_below (w195_) hb); replace HO724 := Az_ (Kd.R_below (w196_) hb); replace HO729 := Az_ (Kd.R_below (w197_) hb); replace HO734 := Az_ (Kd.R_below (w198_) hb); replace HO739 := Az_ (Kd.R_below (w199_) hb); replace HB := Az_ (btz_ (w129_) hb); replace BK720 := Az_ (ukbz_ BK720.out hb); replace BK721 := Az_ (ukbz_ BK721.out hb); replace BK726 := Az_ (ukbz_ BK726.out hb); replace BK731 := Az_ (ukbz_ BK731.out hb); replace BK736 := Az_ (ukbz_ BK736.out hb); clear hb hg; obtain ⟨Ao325, co325, eo325⟩ := Kd.R_slice HO739.out; subst eo325; have hnb326 := NB741_720.out; have hnc326 := NB720_741.out; have hnb327 := NB741_721.out; have hnc327 := NB721_741.out; have hnb328 := NB741_726.out; have hnc328 := NB726_741.out; have hnb329 := NB741_731.out; have hnc329 := NB731_741.out; have hnb330 := NB741_736.out; have hnc330 := NB736_741.out; have hcz331_0 := cz_ (x := .slice none 0 0) BK741 0; have hfz331_0 := blk_frozen BK741.out 0; have hcz332_0 := cz_ (x := .slice Ao317 t732.length co317) BK736 0; have hfz332_0 := blk_frozen BK736.out 0) | ((with_reducible refine gate_callee (f := 28) rfl ?_); refine goesL_ (some 341) rfl rfl Tryd.func28 (w204_) rfl #[.agg #[.slice Ao317 t732.length co317], .int .i64 t735] rfl maz_ ?_; (with_reducible refine (spec_DropClue.calls kj202 _ _ t732 t735 t742 t745 _ ?side1 ?side2 A286.out).mono ?_); (case side1 => refine (Kd.R_reads' (e := 40) (base := w.heap.size) (ok := fun k_ => (((((True ∧ some k_ ≠ (.slice Ao296 t714.length co296 : Value).ownBlock) ∧ some k_ ≠ (.slice Ao302 t722.length co302 : Value).ownBlock) ∧ some k_ ≠ (.slice Ao310 t727.length co310 : Value).ownBlock) ∧ k_ ≠ gb721) ∧ some k_ ≠ (.slice Ao325 t737.length co325 : Value).ownBlock)) (n := t732.length) (c := co317) ?_).2.2; exact (w64_)); (case side2 => exact (Kd.R_reads' HO734.out).2.1); rintro e w333 ⟨v743, rfl, ho0, hb⟩; refine ⟨_, rfl, ?_⟩; have HO744 := Az_ (Kd.R_lower (Kd.R_newB (Kd.R_new' (Kd.R_new' (Kd.R_new' (Kd.R_new' (Kd.R_new' ho0 (Kd.R_lt (w65_))) (Kd.R_lt (w66_))) (Kd.R_lt (w67_))) (Kd.R_lt (w64_))) (Kd.R_lt (w68_))) (g := gb721) (o := .cells #[.int .i64 t717, .int .i64 t718, .int .i64 t719] 40 (0, 0)) (w93_)) (below_size (w129_))); replace HO716 := Az_ (rez_ (w65_) (Kd.R_base ho0) hb); replace HO724 := Az_ (rez_ (w66_) (Kd.R_base ho0) hb); replace HO729 := Az_ (rez_ (w67_) (Kd.R_base ho0) hb); replace HO734 := Az_ (rez_ (w64_) (Kd.R_base ho0) hb); replace HO739 := Az_ (rez_ (w68_) (Kd.R_base ho0) hb); replace BK720 := Az_ (kbz_ (g := gb720) (o := .cells #[.slice Ao296 t714.length co296] 30 (0, 0)) (by (with_reducible repeat (first | refine knz_ ?_ _ | refine kdz_ ?_ | refine kaz_ ?_ _)); refine blk_far ?_ NB720_741.out _; (with_reducible repeat (first | refine knz_ ?_ _ | refine kdz_ ?_ | refine kaz_ ?_ _)); exact BK720.out) hb); replace BK721 := Az_ (kbz_ (g := gb721) (o := .cells #[.int .i64 t717, .int .i64 t718, .int .i64 t719] 40 (0, 0)) (w93_) hb); replace BK726 := Az_ (kbz_ (g := gb726) (o := .cells #[.slice Ao302 t722.length co302] 30 (0, 0)) (by (with_reducible repeat (first | refine knz_ ?_ _ | refine kdz_ ?_ | refine kaz_ ?_ _)); refine blk_far ?_ NB726_741.out _; (with_reducible repeat (first | refine knz_ ?_ _ | refine kdz_ ?_ | refine kaz_ ?_ _)); exact BK726.out) hb); replace BK731 := Az_ (kbz_ (g := gb731) (o := .cells #[.slice Ao310 t727.length co310] 30 (0, 0)) (by (with_reducible repeat (first | refine knz_ ?_ _ | refine kdz_ ?_ | refine kaz_ ?_ _)); refine blk_far ?_ NB731_741.out _; (with_reducible repeat (first | refine knz_ ?_ _ | refine kdz_ ?_ | refine kaz_ ?_ _)); exact BK731.out) hb); replace BK736 := Az_ (kbz_ (g := gb736) (o := .cells #[.slice Ao317 t732.length co317] 30 (0, 0)) (by (with_reducible repeat (first | refine knz_ ?_ _ | refine kdz_ ?_ | refine kaz_ ?_ _)); refine blk_far ?_ NB736_741.out _; (with_reducible repeat (first | refine knz_ ?_ _ | refine kdz_ ?_ | refine kaz_ ?_ _)); exact BK736.out) hb); replace BK741 := Az_ (kbz_ (g := gb741) (o := .cells #[.slice Ao325 t737.length co325] 30 (0, 0)) (by (with_reducible repeat (first | refine knz_ ?_ _ | refine kdz_ ?_ | refine kaz_ ?_ _)); refine blk_put (cs := #[.slice none 0 0]) ?_ 0 _ rfl; (with_reducible repeat (first | refine knz_ ?_ _ | refine kdz_ ?_ | refine kaz_ ?_ _)); exact BK741.out) hb); replace HB := Az_ (btz_ (w129_) hb); (try clear hb); (try clear ho0)) | ((with_reducible refine gate_dst (N := 51) rfl ?_); (try (refine gate_guard (by rfl) ?_; dsimp only)); refine bxe_ (N := 51) (cs := #[.slice none 0 0]) (t := 30) ?_; intro gb746 hg w334 BK746 hb; obtain ⟨NB720_746, NB746_720⟩ := nez_ BK720 hg; obtain ⟨NB721_746, NB746_721⟩ := nez_ BK721 hg; obtain ⟨NB726_746, NB746_726⟩ := nez_ BK726 hg; obtain ⟨NB731_746, NB746_731⟩ := nez_ BK731 hg; obtain ⟨NB736_746, NB746_736⟩ := nez_ BK736 hg; obtain ⟨NB741_746, NB746_741⟩ := nez_ BK741 hg; have GW746 : Aside0 (w.heap.size ≤ gb746) := gez_ hg (w129_); have GE746 := GW746; replace HO716 := Az_ (Kd.R_below (w195_) hb); replace HO724 := Az_ (Kd.R_below (w196_) hb); replace HO729 := Az_ (Kd.R_below (w197_) hb); replace HO734 := Az_ (Kd.R_below (w198_) hb); replace HO739 := Az_ (Kd.R_below (w199_) hb); replace HO744 := Az_ (Kd.R_below (w200_) hb); replace HB := Az_ (btz_ (w129_) hb); replace BK720 := Az_ (ukbz_ BK720.out hb); replace BK721 := Az_ (ukbz_ BK721.out hb); replace BK726 := Az_ (ukbz_ BK726.out hb); replace BK731 := Az_ (ukbz_ BK731.out hb); replace BK736 := Az_ (ukbz_ BK736.out hb); replace BK741 := Az_ (ukbz_ BK741.out hb); clear hb hg; obtain ⟨Ao335, co335, eo335⟩ := Kd.R_slice HO744.out; subst eo335; have hnb336 := NB746_720.out; have hnc336 := NB720_746.out; have hnb337 := NB746_721.out; have hnc337 := NB721_746.out; have hnb338 := NB746_726.out; have hnc338 := NB726_746.out; have hnb339 := NB746_731.out; have hnc339 := NB731_746.out; have hnb340 := NB746_736.out; have hnc340 := NB736_746.out; have hnb341 := NB746_741.out; have hnc341 := NB741_746.out; have hcz342_0 := cz_ (x := .slice none 0 0) BK746 0; have hfz342_0 := blk_frozen BK746.out 0) | ((with_reducible refine gate_callee (f := 29) rfl ?_); refine goesL_ (some 346) rfl rfl Tryd.func29 (w204_) rfl #[.slice A1 l1.length c1] rfl maz_ ?_; (with_reducible refine (spec_DrawDoesFit.calls kj202 _ _ l1 t747 t748 t749 t750 t751 _ ?side1 ?side2 A287.out).mono ?_); (case side1 => exact Kd.C_below HR1.out (w129_)); (case side2 => exact HC1.out); rintro e w343 ⟨rfl, hb⟩; refine ⟨_, rfl, ?_⟩; replace HO716 := Az_ (Kd.R_below (by (with_reducible repeat (first | apply raz_ | apply rnz_ | apply rdz_)); exact (Kd.R_mono (Kd.R_far (p := ⟨gb746, 0, none⟩) (Kd.R_types HO716.out BK746.out (by decide)) (fun _ hk => hk.2) (.slice Ao335 t742.length co335)) (fun _ h_ => h_.1))) hb); replace HO724 := Az_ (Kd.R_below (by (with_reducible repeat (first | apply raz_ | apply rnz_ | apply rdz_)); exact (Kd.R_mono (Kd.R_far (p := ⟨gb746, 0, none⟩) (Kd.R_types HO724.out BK746.out (by decide)) (fun _ hk => hk.2) (.slice Ao335 t742.length co335)) (fun _ h_ => h_.1))) hb); replace HO729 := Az_ (Kd.R_below (by (with_reducible repeat (first | apply raz_ | apply rnz_ | apply rdz_)); exact (Kd.R_mono (Kd.R_far (p := ⟨gb746, 0, none⟩) (Kd.R_types HO729.out BK746.out (by decide)) (fun _ hk => hk.2) (.slice Ao335 t742.length co335)) (fun _ h_ => h_.1))) hb); replace HO734 := Az_ (Kd.R_below (by (with_reducible repeat (first | apply raz_ | apply rnz_ | apply rdz_)); exact (Kd.R_mono (Kd.R_far (p := ⟨gb746, 0, none⟩) (Kd.R_types HO734.out BK746.out (by decide)) (fun _ hk => hk.2) (.slice Ao335 t742.length co335)) (fun _ h_ => h_.1))) hb); replace HO739 := Az_ (Kd.R_below (by (with_reducible repeat (first | apply raz_ | apply rnz_ | apply rdz_)); exact (Kd.R_mono (Kd.R_far (p := ⟨gb746, 0, none⟩) (Kd.R_types HO739.out BK746.out (by decide)) (fun _ hk => hk.2) (.slice Ao335 t742.length co335)) (fun _ h_ => h_.1))) hb); replace HO744 := Az_ (Kd.R_below (by (with_reducible repeat (first | apply raz_ | apply rnz_ | apply rdz_)); exact (Kd.R_mono (Kd.R_far (p := ⟨gb746, 0, none⟩) (Kd.R_types HO744.out BK746.out (by decide)) (fun _ hk => hk.2) (.slice Ao335 t742.length co335)) (fun _ h_ => h_.1))) hb); replace BK720 := Az_ (kbz_ (g := gb720) (o := .cells #[.slice Ao296 t714.length co296] 30 (0, 0)) (by (with_reducible repeat (first | refine knz_ ?_ _ | refine kdz_ ?_ | refine kaz_ ?_ _)); refine blk_far ?_ NB720_746.out _; (with_reducible repeat (first | refine knz_ ?_ _ | refine kdz_ ?_ | refine kaz_ ?_ _)); exact BK720.out) hb); replace BK721 := Az_ (kbz_ (g := gb721) (o := .cells #[.int .i64 t717, .int .i64 t718, .int .i64 t719] 40 (0, 0)) (by (with_reducible repeat (first | refine knz_ ?_ _ | refine kdz_ ?_ | refine kaz_ ?_ _)); refine blk_far ?_ NB721_746.out _; (with_reducible repeat (first | refine knz_ ?_ _ | refine kdz_ ?_ | refine kaz_ ?_ _)); exact BK721.out) hb); replace BK726 := Az_ (kbz_ (g := gb726) (o := .cells #[.slice Ao302 t722.length co302] 30 (0, 0)) (by (with_reducible repeat (first | refine knz_ ?_ _ | refine kdz_ ?_ | refine kaz_ ?_ _)); refine blk_far ?_ NB726_746.out _; (with_reducible repeat (first | refine knz_ ?_ _ | refine kdz_ ?_ | refine kaz_ ?_ _)); exact BK726.out) hb); replace BK731 := Az_ (kbz_ (g := gb731) (o := .cells #[.slice Ao310 t727.length co310] 30 (0, 0)) (by (with_reducible repeat (first | refine knz_ ?_ _ | refine kdz_ ?_ | refine kaz_ ?_ _)); refine blk_far ?_ NB731_746.out _; (with_reducible repeat (first | refine knz_ ?_ _ | refine kdz_ ?_ | refine kaz_ ?_ _)); exact BK731.out) hb); replace BK736 := Az_ (kbz_ (g := gb736) (o := .cells #[.slice Ao317 t732.length co317] 30 (0, 0)) (by (with_reducible repeat (first | refine knz_ ?_ _ | refine kdz_ ?_ | refine kaz_ ?_ _)); refine blk_far ?_ NB736_746.out _; (with_reducible repeat (first | refine knz_ ?_ _ | refine kdz_ ?_ | refine kaz_ ?_ _)); exact BK736.out) hb); replace BK741 := Az_ (kbz_ (g := gb741) (o := .cells #[.slice Ao325 t737.length co325] 30 (0, 0)) (by (with_reducible repeat (first | refine knz_ ?_ _ | refine kdz_ ?_ | refine kaz_ ?_ _)); refine blk_far ?_ NB741_746.out _; (with_reducible repeat (first | refine knz_ ?_ _ | refine kdz_ ?_ | refine kaz_ ?_ _)); exact BK741.out) hb); replace BK746 := Az_ (kbz_ (g := gb746) (o := .cells #[.slice Ao335 t742.length co335] 30 (0, 0)) (by (with_reducible repeat (first | refine knz_ ?_ _ | refine kdz_ ?_ | refine kaz_ ?_ _)); refine blk_put (cs := #[.slice none 0 0]) ?_ 0 _ rfl; (with_reducible repeat (first | refine knz_ ?_ _ | refine kdz_ ?_ | refine kaz_ ?_ _)); exact BK746.out) hb); replace HB := Az_ (btz_ (w129_) hb); (try clear hb)) | ((with_reducible refine gate_dst (N := 53) rfl ?_); (try (refine gate_guard (by rfl) ?_; dsimp only)); refine bxe_ (N := 53) (cs := #[.int .i64 0, .int .i64 0, .int .i64 0]) (t := 40) ?_; intro gb752 hg w344 BK752 hb; obtain ⟨NB720_752, NB752_720⟩ := nez_ BK720 hg; obtain ⟨NB721_752, NB752_721⟩ := nez_ BK721 hg; obtain ⟨NB726_752, NB752_726⟩ := nez_ BK726 hg; obtain ⟨NB731_752, NB752_731⟩ := nez_ BK731 hg; obtain ⟨NB736_752, NB752_736⟩ := nez_ BK736 hg; obtain ⟨NB741_752, NB752_741⟩ := nez_ BK741 hg; obtain ⟨NB746_752, NB752_746⟩ := nez_ BK746 hg; have GW752 : Aside0 (w.heap.size ≤ gb752) := gez_ hg (w129_); have GE752 := GW752; replace HO716 := Az_ (Kd.R_below (Kd.R_elderB (w195_) gb752 (Nat.le_of_eq hg.symm)) hb); replace HO724 := Az_ (Kd.R_below (Kd.R_elderB (w196_) gb752 (Nat.le_of_eq hg.symm)) hb); replace HO729 := Az_ (Kd.R_below (Kd.R_elderB (w197_) gb752 (Nat.le_of_eq hg.symm)) hb); replace HO734 := Az_ (Kd.R_below (Kd.R_elderB (w198_) gb752 (Nat.le_of_eq hg.symm)) hb); replace HO739 := Az_ (Kd.R_below (Kd.R_elderB (w199_) gb752 (Nat.le_of_eq hg.symm)) hb); replace HO744 := Az_ (Kd.R_below (Kd.R_elderB (w200_) gb752 (Nat.le_of_eq hg.symm)) hb); replace HB := Az_ (btz_ (w129_) hb); replace BK720 := Az_ (ukbz_ BK720.out hb); replace BK721 := Az_ (ukbz_ BK721.out hb); replace BK726 := Az_ (ukbz_ BK726.out hb); replace BK731 := Az_ (ukbz_ BK731.out hb); replace BK736 := Az_ (ukbz_ BK736.out hb); replace BK741 := Az_ (ukbz_ BK741.out hb); replace BK746 := Az_ (ukbz_ BK746.out hb); clear hb hg) | ((with_reducible refine gate_dst (N := 54) rfl ?_); (try (refine gate_guard (by rfl) ?_; dsimp only)); refine bxe_ (N := 54) (cs := #[.int .i64 0, .int .i64 0]) (t := 25) ?_; intro gb753 hg w345 BK753 hb; obtain ⟨NB720_753, NB753_720⟩ := nez_ BK720 hg; obtain ⟨NB721_753, NB753_721⟩ := nez_ BK721 hg; obtain ⟨NB726_753, NB753_726⟩ := nez_ BK726 hg; obtain ⟨NB731_753, NB753_731⟩ := nez_ BK731 hg; obtain ⟨NB736_753, NB753_736⟩ := nez_ BK736 hg; obtain ⟨NB741_753, NB753_741⟩ := nez_ BK741 hg; obtain ⟨NB746_753, NB753_746⟩ := nez_ BK746 hg; obtain ⟨NB752_753, NB753_752⟩ := nez_ BK752 hg; have GW753 : Aside0 (w.heap.size ≤ gb753) := gez_ hg (w129_); have GE753 := GW753; replace HO716 := Az_ (Kd.R_below (w195_) hb); replace HO724 := Az_ (Kd.R_below (w196_) hb); replace HO729 := Az_ (Kd.R_below (w197_) hb); replace HO734 := Az_ (Kd.R_below (w198_) hb); replace HO739 := Az_ (Kd.R_below (w199_) hb); replace HO744 := Az_ (Kd.R_below (w200_) hb); replace HB := Az_ (btz_ (w129_) hb); replace BK720 := Az_ (ukbz_ BK720.out hb); replace BK721 := Az_ (ukbz_ BK721.out hb); replace BK726 := Az_ (ukbz_ BK726.out hb); replace BK731 := Az_ (ukbz_ BK731.out hb); replace BK736 := Az_ (ukbz_ BK736.out hb); replace BK741 := Az_ (ukbz_ BK741.out hb); replace BK746 := Az_ (ukbz_ BK746.out hb); replace BK752 := Az_ (ukbz_ BK752.out hb); clear hb hg; have hnb346 := NB752_720.out; have hnc346 := NB720_752.out; have hnb347 := NB752_721.out; have hnc347 := NB721_752.out; have hnb348 := NB752_726.out; have hnc348 := NB726_752.out; have hnb349 := NB752_731.out; have hnc349 := NB731_752.out; have hnb350 := NB752_736.out; have hnc350 := NB736_752.out; have hnb351 := NB752_741.out; have hnc351 := NB741_752.out; have hnb352 := NB752_746.out; have hnc352 := NB746_752.out; have hnb353 := NB752_753.out; have hnc353 := NB753_752.out; have hcz354_0 := cz_ (x := .int .i64 0) BK752 0; have hcz354_1 := cz_ (x := .int .i64 0) BK752 1; have hcz354_2 := cz_ (x := .int .i64 0) BK752 2; have hfz354_0 := blk_frozen BK752.out 0; have hfz354_1 := blk_frozen BK752.out 1; have hfz354_2 := blk_frozen BK752.out 2; have hnb355 := NB753_720.out; have hnc355 := NB720_753.out; have hnb356 := NB753_721.out; have hnc356 := NB721_753.out; have hnb357 := NB753_726.out; have hnc357 := NB726_753.out; have hnb358 := NB753_731.out; have hnc358 := NB731_753.out; have hnb359 := NB753_736.out; have hnc359 := NB736_753.out; have hnb360 := NB753_741.out; have hnc360 := NB741_753.out; have hnb361 := NB753_746.out; have hnc361 := NB746_753.out; have hcz362_0 := cz_ (x := .int .i64 0) BK753 0; have hcz362_1 := cz_ (x := .int .i64 0) BK753 1; have hfz362_0 := blk_frozen BK753.out 0; have hfz362_1 := blk_frozen BK753.out 1) | ((with_reducible refine gate_callee (f := 13) rfl ?_); refine goesL_ (some 352) rfl rfl Tryd.func13 (w204_) rfl #[.agg #[.int .i64 t747, .int .i64 t748, .int .i64 t749], .agg #[.int .i64 t750, .int .i64 t751]] rfl maz_ ?_; (with_reducible refine (impl_DoesFit.calls kj202 t747 t748 t749 t750 t751 t754 t755 _ A288.out).mono ?_); rintro e w363 ⟨rfl, hb⟩; refine ⟨_, rfl, ?_⟩; replace HO716 := Az_ (Kd.R_below (by (with_reducible repeat (first | apply raz_ | apply rnz_ | apply rdz_)); exact (Kd.R_mono (Kd.R_mono (Kd.R_far (p := ⟨gb753, 1, none⟩) (Kd.R_far (p := ⟨gb753, 0, none⟩) (Kd.R_far (p := ⟨gb752, 2, none⟩) (Kd.R_far (p := ⟨gb752, 1, none⟩) (Kd.R_far (p := ⟨gb752, 0, none⟩) (Kd.R_types (Kd.R_mono HO716.out (fun k_ hk => (⟨hk, hk.2⟩ : _ ∧ k_ ≠ gb752))) BK753.out (by decide)) (fun _ hk => hk.1.2) (.int .i64 t747)) (fun _ hk => hk.1.2) (.int .i64 t748)) (fun _ hk => hk.1.2) (.int .i64 t749)) (fun _ hk => hk.2) (.int .i64 t750)) (fun _ hk => hk.2) (.int .i64 t751)) (fun _ h_ => h_.1)) (fun _ h_ => h_.1))) hb); replace HO724 := Az_ (Kd.R_below (by (with_reducible repeat (first | apply raz_ | apply rnz_ | apply rdz_)); exact (Kd.R_mono (Kd.R_mono (Kd.R_far (p := ⟨gb753, 1, none⟩) (Kd.R_far (p := ⟨gb753, 0, none⟩) (Kd.R_far (p := ⟨gb752, 2, none⟩) (Kd.R_far (p := ⟨gb752, 1, none⟩) (Kd.R_far (p := ⟨gb752, 0, none⟩) (Kd.R_types (Kd.R_mono HO724.out (fun k_ hk => (⟨hk, hk.2⟩ : _ ∧ k_ ≠ gb752))) BK753.out (by decide)) (fun _ hk => hk.1.2) (.int .i64 t747)) (fun _ hk => hk.1.2) (.int .i64 t748)) (fun _ hk => hk.1.2) (.int .i64 t749)) (fun _ hk => hk.2) (.int .i64 t750)) (fun _ hk => hk.2) (.int .i64 t751)) (fun _ h_ => h_.1)) (fun _ h_ => h_.1))) hb); replace HO729 := Az_ (Kd.R_below (by (with_reducible repeat (first | apply raz_ | apply rnz_ | apply rdz_)); exact (Kd.R_mono (Kd.R_mono (Kd.R_far (p := ⟨gb753, 1, none⟩) (Kd.R_far (p := ⟨gb753, 0, none⟩) (Kd.R_far (p := ⟨gb752, 2, none⟩) (Kd.R_far (p := ⟨gb752, 1, none⟩) (Kd.R_far (p := ⟨gb752, 0, none⟩) (Kd.R_types (Kd.R_mono HO729.out (fun k_ hk => (⟨hk, hk.2⟩ : _ ∧ k_ ≠ gb752))) BK753.out (by decide)) (fun _ hk => hk.1.2) (.int .i64 t747)) (fun _ hk => hk.1.2) (.int .i64 t748)) (fun _ hk => hk.1.2) (.int .i64 t749)) (fun _ hk => hk.2) (.int .i64 t750)) (fun _ hk => hk.2) (.int .i64 t751)) (fun _ h_ => h_.1)) (fun _ h_ => h_.1))) hb); replace HO734 := Az_ (Kd.R_below (by (with_reducible repeat (first | apply raz_ | apply rnz_ | apply rdz_)); exact (Kd.R_mono (Kd.R_mono (Kd.R_far (p := ⟨gb753, 1, none⟩) (Kd.R_far (p := ⟨gb753, 0, none⟩) (Kd.R_far (p := ⟨gb752, 2, none⟩) (Kd.R_far (p := ⟨gb752, 1, none⟩) (Kd.R_far (p := ⟨gb752, 0, none⟩) (Kd.R_types (Kd.R_mono HO734.out (fun k_ hk => (⟨hk, hk.2⟩ : _ ∧ k_ ≠ gb752))) BK753.out (by decide)) (fun _ hk => hk.1.2) (.int .i64 t747)) (fun _ hk => hk.1.2) (.int .i64 t748)) (fun _ hk => hk.1.2) (.int .i64 t749)) (fun _ hk => hk.2) (.int .i64 t750)) (fun _ hk => hk.2) (.int .i64 t751)) (fun _ h_ => h_.1)) (fun _ h_ => h_.1))) hb); replace HO739 := Az_ (Kd.R_below (by (with_reducible repeat (first | apply raz_ | apply rnz_ | apply rdz_)); exact (Kd.R_mono (Kd.R_mono (Kd.R_far (p := ⟨gb753, 1, none⟩) (Kd.R_far (p := ⟨gb753, 0, none⟩) (Kd.R_far (p := ⟨gb752, 2, none⟩) (Kd.R_far (p := ⟨gb752, 1, none⟩) (Kd.R_far (p := ⟨gb752, 0, none⟩) (Kd.R_types (Kd.R_mono HO739.out (fun k_ hk => (⟨hk, hk.2⟩ : _ ∧ k_ ≠ gb752))) BK753.out (by decide)) (fun _ hk => hk.1.2) (.int .i64 t747)) (fun _ hk => hk.1.2) (.int .i64 t748)) (fun _ hk => hk.1.2) (.int .i64 t749)) (fun _ hk => hk.2) (.int .i64 t750)) (fun _ hk => hk.2) (.int .i64 t751)) (fun _ h_ => h_.1)) (fun _ h_ => h_.1))) hb); replace HO744 := Az_ (Kd.R_below (by (with_reducible repeat (first | apply raz_ | apply rnz_ | apply rdz_)); exact (Kd.R_mono (Kd.R_mono (Kd.R_far (p := ⟨gb753, 1, none⟩) (Kd.R_far (p := ⟨gb753, 0, none⟩) (Kd.R_far (p := ⟨gb752, 2, none⟩) (Kd.R_far (p := ⟨gb752, 1, none⟩) (Kd.R_far (p := ⟨gb752, 0, none⟩) (Kd.R_types (Kd.R_mono HO744.out (fun k_ hk => (⟨hk, hk.2⟩ : _ ∧ k_ ≠ gb752))) BK753.out (by decide)) (fun _ hk => hk.1.2) (.int .i64 t747)) (fun _ hk => hk.1.2) (.int .i64 t748)) (fun _ hk => hk.1.2) (.int .i64 t749)) (fun _ hk => hk.2) (.int .i64 t750)) (fun _ hk => hk.2) (.int .i64 t751)) (fun _ h_ => h_.1)) (fun _ h_ => h_.1))) hb); replace BK720 := Az_ (kbz_ (g := gb720) (o := .cells #[.slice Ao296 t714.length co296] 30 (0, 0)) (by (with_reducible repeat (first | refine knz_ ?_ _ | refine kdz_ ?_ | refine kaz_ ?_ _)); refine blk_far ?_ NB720_753.out _; (with_reducible repeat (first | refine knz_ ?_ _ | refine kdz_ ?_ | refine kaz_ ?_ _)); refine blk_far ?_ NB720_753.out _; (with_reducible repeat (first | refine knz_ ?_ _ | refine kdz_ ?_ | refine kaz_ ?_ _)); refine blk_far ?_ NB720_752.out _; (with_reducible repeat (first | refine knz_ ?_ _ | refine kdz_ ?_ | refine kaz_ ?_ _)); refine blk_far ?_ NB720_752.out _; (with_reducible repeat (first | refine knz_ ?_ _ | refine kdz_ ?_ | refine kaz_ ?_ _)); refine blk_far ?_ NB720_752.out _; (with_reducible repeat (first | refine knz_ ?_ _ | refine kdz_ ?_ | refine kaz_ ?_ _)); exact BK720.out) hb); replace BK721 := Az_ (kbz_ (g := gb721) (o := .cells #[.int .i64 t717, .int .i64 t718, .int .i64 t719] 40 (0, 0)) (by (with_reducible repeat (first | refine knz_ ?_ _ | refine kdz_ ?_ | refine kaz_ ?_ _)); refine blk_far ?_ NB721_753.out _; (with_reducible repeat (first | refine knz_ ?_ _ | refine kdz_ ?_ | refine kaz_ ?_ _)); refine blk_far ?_ NB721_753.out _; (with_reducible repeat (first | refine knz_ ?_ _ | refine kdz_ ?_ | refine kaz_ ?_ _)); refine blk_far ?_ NB721_752.out _; (with_reducible repeat (first | refine knz_ ?_ _ | refine kdz_ ?_ | refine kaz_ ?_ _)); refine blk_far ?_ NB721_752.out _; (with_reducible repeat (first | refine knz_ ?_ _ | refine kdz_ ?_ | refine kaz_ ?_ _)); refine blk_far ?_ NB721_752.out _; (with_reducible repeat (first | refine knz_ ?_ _ | refine kdz_ ?_ | refine kaz_ ?_ _)); exact BK721.out) hb); replace BK726 := Az_ (kbz_ (g := gb726) (o := .cells #[.slice Ao302 t722.length co302] 30 (0, 0)) (by (with_reducible repeat (first | refine knz_ ?_ _ | refine kdz_ ?_ | refine kaz_ ?_ _)); refine blk_far ?_ NB726_753.out _; (with_reducible repeat (first | refine knz_ ?_ _ | refine kdz_ ?_ | refine kaz_ ?_ _)); refine blk_far ?_ NB726_753.out _; (with_reducible repeat (first | refine knz_ ?_ _ | refine kdz_ ?_ | refine kaz_ ?_ _)); refine blk_far ?_ NB726_752.out _; (with_reducible repeat (first | refine knz_ ?_ _ | refine kdz_ ?_ | refine kaz_ ?_ _)); refine blk_far ?_ NB726_752.out _; (with_reducible repeat (first | refine knz_ ?_ _ | refine kdz_ ?_ | refine kaz_ ?_ _)); refine blk_far ?_ NB726_752.out _; (with_reducible repeat (first | refine knz_ ?_ _ | refine kdz_ ?_ | refine kaz_ ?_ _)); exact BK726.out) hb); replace BK731 := Az_ (kbz_ (g := gb731) (o := .cells #[.slice Ao310 t727.length co310] 30 (0, 0)) (by (with_reducible repeat (first | refine knz_ ?_ _ | refine kdz_ ?_ | refine kaz_ ?_ _)); refine blk_far ?_ NB731_753.out _; (with_reducible repeat (first | refine knz_ ?_ _ | refine kdz_ ?_ | refine kaz_ ?_ _)); refine blk_far ?_ NB731_753.out _; (with_reducible repeat (first | refine knz_ ?_ _ | refine kdz_ ?_ | refine kaz_ ?_ _)); refine blk_far ?_ NB731_752.out _; (with_reducible repeat (first | refine knz_ ?_ _ | refine kdz_ ?_ | refine kaz_ ?_ _)); refine blk_far ?_ NB731_752.out _; (with_reducible repeat (first | refine knz_ ?_ _ | refine kdz_ ?_ | refine kaz_ ?_ _)); refine blk_far ?_ NB731_752.out _; (with_reducible repeat (first | refine knz_ ?_ _ | refine kdz_ ?_ | refine kaz_ ?_ _)); exact BK731.out) hb); replace BK736 := Az_ (kbz_ (g := gb736) (o := .cells #[.slice Ao317 t732.length co317] 30 (0, 0)) (by (with_reducible repeat (first | refine knz_ ?_ _ | refine kdz_ ?_ | refine kaz_ ?_ _)); refine blk_far ?_ NB736_753.out _; (with_reducible repeat (first | refine knz_ ?_ _ | refine kdz_ ?_ | refine kaz_ ?_ _)); refine blk_far ?_ NB736_753.out _; (with_reducible repeat (first | refine knz_ ?_ _ | refine kdz_ ?_ | refine kaz_ ?_ _)); refine blk_far ?_ NB736_752.out _; (with_reducible repeat (first | refine knz_ ?_ _ | refine kdz_ ?_ | refine kaz_ ?_ _)); refine blk_far ?_ NB736_752.out _; (with_reducible repeat (first | refine knz_ ?_ _ | refine kdz_ ?_ | refine kaz_ ?_ _)); refine blk_far ?_ NB736_752.out _; (with_reducible repeat (first | refine knz_ ?_ _ | refine kdz_ ?_ | refine kaz_ ?_ _)); exact BK736.out) hb); replace BK741 := Az_ (kbz_ (g := gb741) (o := .cells #[.slice Ao325 t737.length co325] 30 (0, 0)) (by (with_reducible repeat (first | refine knz_ ?_ _ | refine kdz_ ?_ | refine kaz_ ?_ _)); refine blk_far ?_ NB741_753.out _; (with_reducible repeat (first | refine knz_ ?_ _ | refine kdz_ ?_ | refine kaz_ ?_ _)); refine blk_far ?_ NB741_753.out _; (with_reducible repeat (first | refine knz_ ?_ _ | refine kdz_ ?_ | refine kaz_ ?_ _)); refine blk_far ?_ NB741_752.out _; (with_reducible repeat (first | refine knz_ ?_ _ | refine kdz_ ?_ | refine kaz_ ?_ _)); refine blk_far ?_ NB741_752.out _; (with_reducible repeat (first | refine knz_ ?_ _ | refine kdz_ ?_ | refine kaz_ ?_ _)); refine blk_far ?_ NB741_752.out _; (with_reducible repeat (first | refine knz_ ?_ _ | refine kdz_ ?_ | refine kaz_ ?_ _)); exact BK741.out) hb); replace BK746 := Az_ (kbz_ (g := gb746) (o := .cells #[.slice Ao335 t742.length co335] 30 (0, 0)) (by (with_reducible repeat (first | refine knz_ ?_ _ | refine kdz_ ?_ | refine kaz_ ?_ _)); refine blk_far ?_ NB746_753.out _; (with_reducible repeat (first | refine knz_ ?_ _ | refine kdz_ ?_ | refine kaz_ ?_ _)); refine blk_far ?_ NB746_753.out _; (with_reducible repeat (first | refine knz_ ?_ _ | refine kdz_ ?_ | refine kaz_ ?_ _)); refine blk_far ?_ NB746_752.out _; (with_reducible repeat (first | refine knz_ ?_ _ | refine kdz_ ?_ | refine kaz_ ?_ _)); refine blk_far ?_ NB746_752.out _; (with_reducible repeat (first | refine knz_ ?_ _ | refine kdz_ ?_ | refine kaz_ ?_ _)); refine blk_far ?_ NB746_752.out _; (with_reducible repeat (first | refine knz_ ?_ _ | refine kdz_ ?_ | refine kaz_ ?_ _)); exact BK746.out) hb); replace BK752 := Az_ (kbz_ (g := gb752) (o := .cells #[.int .i64 t747, .int .i64 t748, .int .i64 t749] 40 (0, 0)) (by (with_reducible repeat (first | refine knz_ ?_ _ | refine kdz_ ?_ | refine kaz_ ?_ _)); refine blk_far ?_ NB752_753.out _; (with_reducible repeat (first | refine knz_ ?_ _ | refine kdz_ ?_ | refine kaz_ ?_ _)); refine blk_far ?_ NB752_753.out _; (with_reducible repeat (first | refine knz_ ?_ _ | refine kdz_ ?_ | refine kaz_ ?_ _)); refine blk_put (cs := #[.int .i64 t747, .int .i64 t748, .int .i64 0]) ?_ 2 _ rfl; (with_reducible repeat (first | refine knz_ ?_ _ | refine kdz_ ?_ | refine kaz_ ?_ _)); refine blk_put (cs := #[.int .i64 t747, .int .i64 0, .int .i64 0]) ?_ 1 _ rfl; (with_reducible repeat (first | refine knz_ ?_ _ | refine kdz_ ?_ | refine kaz_ ?_ _)); refine blk_put (cs := #[.int .i64 0, .int .i64 0, .int .i64 0]) ?_ 0 _ rfl; (with_reducible repeat (first | refine knz_ ?_ _ | refine kdz_ ?_ | refine kaz_ ?_ _)); exact BK752.out) hb); replace BK753 := Az_ (kbz_ (g := gb753) (o := .cells #[.int .i64 t750, .int .i64 t751] 25 (0, 0)) (by (with_reducible repeat (first | refine knz_ ?_ _ | refine kdz_ ?_ | refine kaz_ ?_ _)); refine blk_put (cs := #[.int .i64 t750, .int .i64 0]) ?_ 1 _ rfl; (with_reducible repeat (first | refine knz_ ?_ _ | refine kdz_ ?_ | refine kaz_ ?_ _)); refine blk_put (cs := #[.int .i64 0, .int .i64 0]) ?_ 0 _ rfl; (with_reducible repeat (first | refine knz_ ?_ _ | refine kdz_ ?_ | refine kaz_ ?_ _)); refine blk_far ?_ NB753_752.out _; (with_reducible repeat (first | refine knz_ ?_ _ | refine kdz_ ?_ | refine kaz_ ?_ _)); refine blk_far ?_ NB753_752.out _; (with_reducible repeat (first | refine knz_ ?_ _ | refine kdz_ ?_ | refine kaz_ ?_ _)); refine blk_far ?_ NB753_752.out _; (with_reducible repeat (first | refine knz_ ?_ _ | refine kdz_ ?_ | refine kaz_ ?_ _)); exact BK753.out) hb); replace HB := Az_ (btz_ (w129_) hb); (try clear hb); have hcz364_0 := cz_ (x := .int .i64 t747) BK752 0; have hcz364_1 := cz_ (x := .int .i64 t748) BK752 1; have hcz364_2 := cz_ (x := .int .i64 t749) BK752 2; have hfz364_0 := blk_frozen BK752.out 0; have hfz364_1 := blk_frozen BK752.out 1; have hfz364_2 := blk_frozen BK752.out 2; have hcz365_0 := cz_ (x := .int .i64 t750) BK753 0; have hcz365_1 := cz_ (x := .int .i64 t751) BK753 1; have hfz365_0 := blk_frozen BK753.out 0; have hfz365_1 := blk_frozen BK753.out 1) | ((with_reducible refine gate_callee (f := 30) rfl ?_); refine goesL_ (some 358) rfl rfl Tryd.func30 (w204_) rfl #[.agg #[.int .i64 t747, .int .i64 t748, .int .i64 t749], .agg #[.int .i64 t750, .int .i64 t751]] rfl maz_ ?_; (with_reducible refine (spec_DoesFit.calls kj202 t747 t748 t749 t750 t751 t756 t757 _ A289.out).mono ?_); rintro e w366 ⟨rfl, hb⟩; refine ⟨_, rfl, ?_⟩; have n0_ := Az_ (Kd.R_below (w195_) hb); have n1_ := Az_ (Kd.R_below (w196_) hb); have n2_ := Az_ (Kd.R_below (w197_) hb); have n3_ := Az_ (Kd.R_below (w198_) hb); have n4_ := Az_ (Kd.R_below (w199_) hb); have n5_ := Az_ (Kd.R_below (w200_) hb); have n15_ := Az_ (btz_ (w129_) hb); clear HO716; clear HO724; clear HO729; clear HO734; clear HO739; clear HO744; clear HB; have HO716 := n0_; have HO724 := n1_; have HO729 := n2_; have HO734 := n3_; have HO739 := n4_; have HO744 := n5_; replace BK720 := Az_ (ukbz_ BK720.out hb); replace BK721 := Az_ (ukbz_ BK721.out hb); replace BK726 := Az_ (ukbz_ BK726.out hb); replace BK731 := Az_ (ukbz_ BK731.out hb); replace BK736 := Az_ (ukbz_ BK736.out hb); replace BK741 := Az_ (ukbz_ BK741.out hb); replace BK746 := Az_ (ukbz_ BK746.out hb); replace BK752 := Az_ (ukbz_ BK752.out hb); replace BK753 := Az_ (ukbz_ BK753.out hb); have HB := n15_; clear n0_ n1_ n2_ n3_ n4_ n5_ n15_; (try clear hb)) | ((with_reducible refine gate_callee (f := 31) rfl ?_); refine goesL_ (some 362) rfl rfl Tryd.func31 (w204_) rfl #[.slice A1 l1.length c1] rfl maz_ ?_; (with_reducible refine (spec_DrawIsClue.calls kj202 _ _ l1 t758 t759 t760 _ ?side1 ?side2 A290.out).mono ?_); (case side1 => exact ucz_ ((Kd.C_below HR1.out HB.out))); (case side2 => exact HC1.out); rintro e w367 ⟨rfl, hb⟩; refine ⟨_, rfl, ?_⟩; have n0_ := Az_ (Kd.R_below (w195_) hb); have n1_ := Az_ (Kd.R_below (w196_) hb); have n2_ := Az_ (Kd.R_below (w197_) hb); have n3_ := Az_ (Kd.R_below (w198_) hb); have n4_ := Az_ (Kd.R_below (w199_) hb); have n5_ := Az_ (Kd.R_below (w200_) hb); have n15_ := Az_ (btz_ (w129_) hb); clear HO716; clear HO724; clear HO729; clear HO734; clear HO739; clear HO744; clear HB; have HO716 := n0_; have HO724 := n1_; have HO729 := n2_; have HO734 := n3_; have HO739 := n4_; have HO744 := n5_; replace BK720 := Az_ (ukbz_ BK720.out hb); replace BK721 := Az_ (ukbz_ BK721.out hb); replace BK726 := Az_ (ukbz_ BK726.out hb); replace BK731 := Az_ (ukbz_ BK731.out hb); replace BK736 := Az_ (ukbz_ BK736.out hb); replace BK741 := Az_ (ukbz_ BK741.out hb); replace BK746 := Az_ (ukbz_ BK746.out hb); replace BK752 := Az_ (ukbz_ BK752.out hb); replace BK753 := Az_ (ukbz_ BK753.out hb); have HB := n15_; clear n0_ n1_ n2_ n3_ n4_ n5_ n15_; (try clear hb)) | ((with_reducible refine gate_dst (N := 59) rfl ?_); (try (refine gate_guard (by rfl) ?_; dsimp only)); refine bxe_ (N := 59) (cs := #[.int .i64 0, .int .i64 0, .int .i64 0]) (t := 40) ?_; intro gb761 hg w368 BK761 hb; obtain ⟨NB720_761, NB761_720⟩ := nez_ BK720 hg; obtain ⟨NB721_761, NB761_721⟩ := nez_ BK721 hg; obtain ⟨NB726_761, NB761_726⟩ := nez_ BK726 hg; obtain ⟨NB731_761, NB761_731⟩ := nez_ BK731 hg; obtain ⟨NB736_761, NB761_736⟩ := nez_ BK736 hg; obtain ⟨NB741_761, NB761_741⟩ := nez_ BK741 hg; obtain ⟨NB746_761, NB761_746⟩ := nez_ BK746 hg; obtain ⟨NB752_761, NB761_752⟩ := nez_ BK752 hg; obtain ⟨NB753_761, NB761_753⟩ := nez_ BK753 hg; have GW761 : Aside0 (w.heap.size ≤ gb761) := gez_ hg (w129_); have GE761 := GW761; replace HO716 := Az_ (Kd.R_below (Kd.R_elderB (w195_) gb761 (Nat.le_of_eq hg.symm)) hb); replace HO724 := Az_ (Kd.R_below (Kd.R_elderB (w196_) gb761 (Nat.le_of_eq hg.symm)) hb); replace HO729 := Az_ (Kd.R_below (Kd.R_elderB (w197_) gb761 (Nat.le_of_eq hg.symm)) hb); replace HO734 := Az_ (Kd.R_below (Kd.R_elderB (w198_) gb761 (Nat.le_of_eq hg.symm)) hb); replace HO739 := Az_ (Kd.R_below (Kd.R_elderB (w199_) gb761 (Nat.le_of_eq hg.symm)) hb); replace HO744 := Az_ (Kd.R_below (Kd.R_elderB (w200_) gb761 (Nat.le_of_eq hg.symm)) hb); replace HB := Az_ (btz_ (w129_) hb); replace BK720 := Az_ (ukbz_ BK720.out hb); replace BK721 := Az_ (ukbz_ BK721.out hb); replace BK726 := Az_ (ukbz_ BK726.out hb); replace BK731 := Az_ (ukbz_ BK731.out hb); replace BK736 := Az_ (ukbz_ BK736.out hb); replace BK741 := Az_ (ukbz_ BK741.out hb); replace BK746 := Az_ (ukbz_ BK746.out hb); replace BK752 := Az_ (ukbz_ BK752.out hb); replace BK753 := Az_ (ukbz_ BK753.out hb); clear hb hg; have hnb369 := NB761_720.out; have hnc369 := NB720_761.out; have hnb370 := NB761_721.out; have hnc370 := NB721_761.out; have hnb371 := NB761_726.out; have hnc371 := NB726_761.out; have hnb372 := NB761_731.out; have hnc372 := NB731_761.out; have hnb373 := NB761_736.out; have hnc373 := NB736_761.out; have hnb374 := NB761_741.out; have hnc374 := NB741_761.out; have hnb375 := NB761_746.out; have hnc375 := NB746_761.out; have hnb376 := NB761_752.out; have hnc376 := NB752_761.out; have hnb377 := NB761_753.out; have hnc377 := NB753_761.out; have hcz378_0 := cz_ (x := .int .i64 0) BK761 0; have hcz378_1 := cz_ (x := .int .i64 0) BK761 1; have hcz378_2 := cz_ (x := .int .i64 0) BK761 2; have hfz378_0 := blk_frozen BK761.out 0; have hfz378_1 := blk_frozen BK761.out 1; have hfz378_2 := blk_frozen BK761.out 2) | ((with_reducible refine gate_callee (f := 32) rfl ?_); refine goesL_ (some 364) rfl rfl Tryd.func32 (w204_) rfl #[.slice A1 l1.length c1] rfl maz_ ?_; (with_reducible refine (spec_DrawIsHidden.calls _ _ l1 t762 t763 _ ?side1 ?side2 A291.out).mono ?_); (case side1 => exact Kd.C_below HR1.out (w129_)); (case side2 => exact HC1.out); rintro e w379 ⟨rfl, hb⟩; refine ⟨_, rfl, ?_⟩; replace HO716 := Az_ (Kd.R_below (by (with_reducible repeat (first | apply raz_ | apply rnz_ | apply rdz_)); exact (Kd.R_mono (Kd.R_far (p := ⟨gb761, 2, none⟩) (Kd.R_far (p := ⟨gb761, 1, none⟩) (Kd.R_far (p := ⟨gb761, 0, none⟩) (Kd.R_mono HO716.out (fun k_ hk => (⟨hk, hk.2⟩ : _ ∧ k_ ≠ gb761))) (fun _ hk => hk.2) (.int .i64 t758)) (fun _ hk => hk.2) (.int .i64 t759)) (fun _ hk => hk.2) (.int .i64 t760)) (fun _ h_ => h_.1))) hb); replace HO724 := Az_ (Kd.R_below (by (with_reducible repeat (first | apply raz_ | apply rnz_ | apply rdz_)); exact (Kd.R_mono (Kd.R_far (p := ⟨gb761, 2, none⟩) (Kd.R_far (p := ⟨gb761, 1, none⟩) (Kd.R_far (p := ⟨gb761, 0, none⟩) (Kd.R_mono HO724.out (fun k_ hk => (⟨hk, hk.2⟩ : _ ∧ k_ ≠ gb761))) (fun _ hk => hk.2) (.int .i64 t758)) (fun _ hk => hk.2) (.int .i64 t759)) (fun _ hk => hk.2) (.int .i64 t760)) (fun _ h_ => h_.1))) hb); replace HO729 := Az_ (Kd.R_below (by (with_reducible repeat (first | apply raz_ | apply rnz_ | apply rdz_)); exact (Kd.R_mono (Kd.R_far (p := ⟨gb761, 2, none⟩) (Kd.R_far (p := ⟨gb761, 1, none⟩) (Kd.R_far (p := ⟨gb761, 0, none⟩) (Kd.R_mono HO729.out (fun k_ hk => (⟨hk, hk.2⟩ : _ ∧ k_ ≠ gb761))) (fun _ hk => hk.2) (.int .i64 t758)) (fun _ hk => hk.2) (.int .i64 t759)) (fun _ hk => hk.2) (.int .i64 t760)) (fun _ h_ => h_.1))) hb); replace HO734 := Az_ (Kd.R_below (by (with_reducible repeat (first | apply raz_ | apply rnz_ | apply rdz_)); exact (Kd.R_mono (Kd.R_far (p := ⟨gb761, 2, none⟩) (Kd.R_far (p := ⟨gb761, 1, none⟩) (Kd.R_far (p := ⟨gb761, 0, none⟩) (Kd.R_mono HO734.out (fun k_ hk => (⟨hk, hk.2⟩ : _ ∧ k_ ≠ gb761))) (fun _ hk => hk.2) (.int .i64 t758)) (fun _ hk => hk.2) (.int .i64 t759)) (fun _ hk => hk.2) (.int .i64 t760)) (fun _ h_ => h_.1))) hb); replace HO739 := Az_ (Kd.R_below (by (with_reducible repeat (first | apply raz_ | apply rnz_ | apply rdz_)); exact (Kd.R_mono (Kd.R_far (p := ⟨gb761, 2, none⟩) (Kd.R_far (p := ⟨gb761, 1, none⟩) (Kd.R_far (p := ⟨gb761, 0, none⟩) (Kd.R_mono HO739.out (fun k_ hk => (⟨hk, hk.2⟩ : _ ∧ k_ ≠ gb761))) (fun _ hk => hk.2) (.int .i64 t758)) (fun _ hk => hk.2) (.int .i64 t759)) (fun _ hk => hk.2) (.int .i64 t760)) (fun _ h_ => h_.1))) hb); replace HO744 := Az_ (Kd.R_below (by (with_reducible repeat (first | apply raz_ | apply rnz_ | apply rdz_)); exact (Kd.R_mono (Kd.R_far (p := ⟨gb761, 2, none⟩) (Kd.R_far (p := ⟨gb761, 1, none⟩) (Kd.R_far (p := ⟨gb761, 0, none⟩) (Kd.R_mono HO744.out (fun k_ hk => (⟨hk, hk.2⟩ : _ ∧ k_ ≠ gb761))) (fun _ hk => hk.2) (.int .i64 t758)) (fun _ hk => hk.2) (.int .i64 t759)) (fun _ hk => hk.2) (.int .i64 t760)) (fun _ h_ => h_.1))) hb); replace BK720 := Az_ (kbz_ (g := gb720) (o := .cells #[.slice Ao296 t714.length co296] 30 (0, 0)) (by (with_reducible repeat (first | refine knz_ ?_ _ | refine kdz_ ?_ | refine kaz_ ?_ _)); refine blk_far ?_ NB720_761.out _; (with_reducible repeat (first | refine knz_ ?_ _ | refine kdz_ ?_ | refine kaz_ ?_ _)); refine blk_far ?_ NB720_761.out _; (with_reducible repeat (first | refine knz_ ?_ _ | refine kdz_ ?_ | refine kaz_ ?_ _)); refine blk_far ?_ NB720_761.out _; (with_reducible repeat (first | refine knz_ ?_ _ | refine kdz_ ?_ | refine kaz_ ?_ _)); exact BK720.out) hb); replace BK721 := Az_ (kbz_ (g := gb721) (o := .cells #[.int .i64 t717, .int .i64 t718, .int .i64 t719] 40 (0, 0)) (by (with_reducible repeat (first | refine knz_ ?_ _ | refine kdz_ ?_ | refine kaz_ ?_ _)); refine blk_far ?_ NB721_761.out _; (with_reducible repeat (first | refine knz_ ?_ _ | refine kdz_ ?_ | refine kaz_ ?_ _)); refine blk_far ?_ NB721_761.out _; (with_reducible repeat (first | refine knz_ ?_ _ | refine kdz_ ?_ | refine kaz_ ?_ _)); refine blk_far ?_ NB721_761.out _; (with_reducible repeat (first | refine knz_ ?_ _ | refine kdz_ ?_ | refine kaz_ ?_ _)); exact BK721.out) hb); replace BK726 := Az_ (kbz_ (g := gb726) (o := .cells #[.slice Ao302 t722.length co302] 30 (0, 0)) (by (with_reducible repeat (first | refine knz_ ?_ _ | refine kdz_ ?_ | refine kaz_ ?_ _)); refine blk_far ?_ NB726_761.out _; (with_reducible repeat (first | refine knz_ ?_ _ | refine kdz_ ?_ | refine kaz_ ?_ _)); refine blk_far ?_ NB726_761.out _; (with_reducible repeat (first | refine knz_ ?_ _ | refine kdz_ ?_ | refine kaz_ ?_ _)); refine blk_far ?_ NB726_761.out _; (with_reducible repeat (first | refine knz_ ?_ _ | refine kdz_ ?_ | refine kaz_ ?_ _)); exact BK726.out) hb); replace BK731 := Az_ (kbz_ (g := gb731) (o := .cells #[.slice Ao310 t727.length co310] 30 (0, 0)) (by (with_reducible repeat (first | refine knz_ ?_ _ | refine kdz_ ?_ | refine kaz_ ?_ _)); refine blk_far ?_ NB731_761.out _; (with_reducible repeat (first | refine knz_ ?_ _ | refine kdz_ ?_ | refine kaz_ ?_ _)); refine blk_far ?_ NB731_761.out _; (with_reducible repeat (first | refine knz_ ?_ _ | refine kdz_ ?_ | refine kaz_ ?_ _)); refine blk_far ?_ NB731_761.out _; (with_reducible repeat (first | refine knz_ ?_ _ | refine kdz_ ?_ | refine kaz_ ?_ _)); exact BK731.out) hb); replace BK736 := Az_ (kbz_ (g := gb736) (o := .cells #[.slice Ao317 t732.length co317] 30 (0, 0)) (by (with_reducible repeat (first | refine knz_ ?_ _ | refine kdz_ ?_ | refine kaz_ ?_ _)); refine blk_far ?_ NB736_761.out _; (with_reducible repeat (first | refine knz_ ?_ _ | refine kdz_ ?_ | refine kaz_ ?_ _)); refine blk_far ?_ NB736_761.out _; (with_reducible repeat (first | refine knz_ ?_ _ | refine kdz_ ?_ | refine kaz_ ?_ _)); refine blk_far ?_ NB736_761.out _; (with_reducible repeat (first | refine knz_ ?_ _ | refine kdz_ ?_ | refine kaz_ ?_ _)); exact BK736.out) hb); replace BK741 := Az_ (kbz_ (g := gb741) (o := .cells #[.slice Ao325 t737.length co325] 30 (0, 0)) (by (with_reducible repeat (first | refine knz_ ?_ _ | refine kdz_ ?_ | refine kaz_ ?_ _)); refine blk_far ?_ NB741_761.out _; (with_reducible repeat (first | refine knz_ ?_ _ | refine kdz_ ?_ | refine kaz_ ?_ _)); refine blk_far ?_ NB741_761.out _; (with_reducible repeat (first | refine knz_ ?_ _ | refine kdz_ ?_ | refine kaz_ ?_ _)); refine blk_far ?_ NB741_761.out _; (with_reducible repeat (first | refine knz_ ?_ _ | refine kdz_ ?_ | refine kaz_ ?_ _)); exact BK741.out) hb); replace BK746 := Az_ (kbz_ (g := gb746) (o := .cells #[.slice Ao335 t742.length co335] 30 (0, 0)) (by (with_reducible repeat (first | refine knz_ ?_ _ | refine kdz_ ?_ | refine kaz_ ?_ _)); refine blk_far ?_ NB746_761.out _; (with_reducible repeat (first | refine knz_ ?_ _ | refine kdz_ ?_ | refine kaz_ ?_ _)); refine blk_far ?_ NB746_761.out _; (with_reducible repeat (first | refine knz_ ?_ _ | refine kdz_ ?_ | refine kaz_ ?_ _)); refine blk_far ?_ NB746_761.out _; (with_reducible repeat (first | refine knz_ ?_ _ | refine kdz_ ?_ | refine kaz_ ?_ _)); exact BK746.out) hb); replace BK752 := Az_ (kbz_ (g := gb752) (o := .cells #[.int .i64 t747, .int .i64 t748, .int .i64 t749] 40 (0, 0)) (by (with_reducible repeat (first | refine knz_ ?_ _ | refine kdz_ ?_ | refine kaz_ ?_ _)); refine blk_far ?_ NB752_761.out _; (with_reducible repeat (first | refine knz_ ?_ _ | refine kdz_ ?_ | refine kaz_ ?_ _)); refine blk_far ?_ NB752_761.out _; (with_reducible repeat (first | refine knz_ ?_ _ | refine kdz_ ?_ | refine kaz_ ?_ _)); refine blk_far ?_ NB752_761.out _; (with_reducible repeat (first | refine knz_ ?_ _ | refine kdz_ ?_ | refine kaz_ ?_ _)); exact BK752.out) hb); replace BK753 := Az_ (kbz_ (g := gb753) (o := .cells #[.int .i64 t750, .int .i64 t751] 25 (0, 0)) (by (with_reducible repeat (first | refine knz_ ?_ _ | refine kdz_ ?_ | refine kaz_ ?_ _)); refine blk_far ?_ NB753_761.out _; (with_reducible repeat (first | refine knz_ ?_ _ | refine kdz_ ?_ | refine kaz_ ?_ _)); refine blk_far ?_ NB753_761.out _; (with_reducible repeat (first | refine knz_ ?_ _ | refine kdz_ ?_ | refine kaz_ ?_ _)); refine blk_far ?_ NB753_761.out _; (with_reducible repeat (first | refine knz_ ?_ _ | refine kdz_ ?_ | refine kaz_ ?_ _)); exact BK753.out) hb); replace BK761 := Az_ (kbz_ (g := gb761) (o := .cells #[.int .i64 t758, .int .i64 t759, .int .i64 t760] 40 (0, 0)) (by (with_reducible repeat (first | refine knz_ ?_ _ | refine kdz_ ?_ | refine kaz_ ?_ _)); refine blk_put (cs := #[.int .i64 t758, .int .i64 t759, .int .i64 0]) ?_ 2 _ rfl; (with_reducible repeat (first | refine knz_ ?_ _ | refine kdz_ ?_ | refine kaz_ ?_ _)); refine blk_put (cs := #[.int .i64 t758, .int .i64 0, .int .i64 0]) ?_ 1 _ rfl; (with_reducible repeat (first | refine knz_ ?_ _ | refine kdz_ ?_ | refine kaz_ ?_ _)); refine blk_put (cs := #[.int .i64 0, .int .i64 0, .int .i64 0]) ?_ 0 _ rfl; (with_reducible repeat (first | refine knz_ ?_ _ | refine kdz_ ?_ | refine kaz_ ?_ _)); exact BK761.out) hb); replace HB := Az_ (btz_ (w129_) hb); (try clear hb)) | ((with_reducible refine gate_dst (N := 60) rfl ?_); (try (refine gate_guard (by rfl) ?_; dsimp only)); refine bxe_ (N := 60) (cs := #[.int .i64 0, .int .i64 0]) (t := 25) ?_; intro gb764 hg w380 BK764 hb; obtain ⟨NB720_764, NB764_720⟩ := nez_ BK720 hg; obtain ⟨NB721_764, NB764_721⟩ := nez_ BK721 hg; obtain ⟨NB726_764, NB764_726⟩ := nez_ BK726 hg; obtain ⟨NB731_764, NB764_731⟩ := nez_ BK731 hg; obtain ⟨NB736_764, NB764_736⟩ := nez_ BK736 hg; obtain ⟨NB741_764, NB764_741⟩ := nez_ BK741 hg; obtain ⟨NB746_764, NB764_746⟩ := nez_ BK746 hg; obtain ⟨NB752_764, NB764_752⟩ := nez_ BK752 hg; obtain ⟨NB753_764, NB764_753⟩ := nez_ BK753 hg; obtain ⟨NB761_764, NB764_761⟩ := nez_ BK761 hg; have GW764 : Aside0 (w.heap.size ≤ gb764) := gez_ hg (w129_); have GE764 := GW764; replace HO716 := Az_ (Kd.R_below (w195_) hb); replace HO724 := Az_ (Kd.R_below (w196_) hb); replace HO729 := Az_ (Kd.R_below (w197_) hb); replace HO734 := Az_ (Kd.R_below (w198_) hb); replace HO739 := Az_ (Kd.R_below (w199_) hb); replace HO744 := Az_ (Kd.R_below (w200_) hb); replace HB := Az_ (btz_ (w129_) hb); replace BK720 := Az_ (ukbz_ BK720.out hb); replace BK721 := Az_ (ukbz_ BK721.out hb); replace BK726 := Az_ (ukbz_ BK726.out hb); replace BK731 := Az_ (ukbz_ BK731.out hb); replace BK736 := Az_ (ukbz_ BK736.out hb); replace BK741 := Az_ (ukbz_ BK741.out hb); replace BK746 := Az_ (ukbz_ BK746.out hb); replace BK752 := Az_ (ukbz_ BK752.out hb); replace BK753 := Az_ (ukbz_ BK753.out hb); replace BK761 := Az_ (ukbz_ BK761.out hb); clear hb hg; have hnb381 := NB764_720.out; have hnc381 := NB720_764.out; have hnb382 := NB764_721.out; have hnc382 := NB721_764.out; have hnb383 := NB764_726.out; have hnc383 := NB726_764.out; have hnb384 := NB764_731.out; have hnc384 := NB731_764.out; have hnb385 := NB764_736.out; have hnc385 := NB736_764.out; have hnb386 := NB764_741.out; have hnc386 := NB741_764.out; have hnb387 := NB764_746.out; have hnc387 := NB746_764.out; have hnb388 := NB764_752.out; have hnc388 := NB752_764.out; have hnb389 := NB764_753.out; have hnc389 := NB753_764.out; have hnb390 := NB764_761.out; have hnc390 := NB761_764.out; have hcz391_0 := cz_ (x := .int .i64 0) BK764 0; have hcz391_1 := cz_ (x := .int .i64 0) BK764 1; have hfz391_0 := blk_frozen BK764.out 0; have hfz391_1 := blk_frozen BK764.out 1))
         (try simp only [Act.put, List.setIfInBounds_toArray, List.set_cons_zero, List.set_cons_succ])
         go_cut [416] from 1 to 0 (fun v416 wc => ∃ (kq : Nat) (x416_291 : Bool), v416 = .bool x416_291 ∧ Aside0 (j6 kq t725 t735 t740 x416_291 t714 t717 t718 t719 t722 t732 t737 = some r) ∧ Aside0 (kq ≤ kj202) ∧ Aside0 (Kd.R k40 40 wc w.heap.size (fun k_ => some k_ ≠ ((.slice Ao302 t722.length co302) : Value).ownBlock ∧ some k_ ≠ ((.slice Ao317 t732.length co317) : Value).ownBlock ∧ some k_ ≠ ((.slice Ao325 t737.length co325) : Value).ownBlock ∧ k_ ≠ gb721) (.slice Ao296 t714.length co296) t714) ∧ Aside0 (Kd.R k40 40 wc w.heap.size (fun k_ => some k_ ≠ ((.slice Ao296 t714.length co296) : Value).ownBlock ∧ some k_ ≠ ((.slice Ao317 t732.length co317) : Value).ownBlock ∧ some k_ ≠ ((.slice Ao325 t737.length co325) : Value).ownBlock ∧ k_ ≠ gb721) (.slice Ao302 t722.length co302) t722) ∧ Aside0 (Kd.R k40 40 wc w.heap.size (fun k_ => some k_ ≠ ((.slice Ao296 t714.length co296) : Value).ownBlock ∧ some k_ ≠ ((.slice Ao302 t722.length co302) : Value).ownBlock ∧ some k_ ≠ ((.slice Ao325 t737.length co325) : Value).ownBlock ∧ k_ ≠ gb721) (.slice Ao317 t732.length co317) t732) ∧ Aside0 (Kd.R k40 40 wc w.heap.size (fun k_ => some k_ ≠ ((.slice Ao296 t714.length co296) : Value).ownBlock ∧ some k_ ≠ ((.slice Ao302 t722.length co302) : Value).ownBlock ∧ some k_ ≠ ((.slice Ao317 t732.length co317) : Value).ownBlock ∧ k_ ≠ gb721) (.slice Ao325 t737.length co325) t737) ∧ Aside0 (wc.heap[gb720]? = some (.cells #[(.slice Ao296 t714.length co296)] 30 (0, 0))) ∧ Aside0 (wc.heap[gb721]? = some (.cells #[.int .i64 t717, .int .i64 t718, .int .i64 t719] 40 (0, 0))) ∧ Aside0 (wc.heap[gb726]? = some (.cells #[(.slice Ao302 t722.length co302)] 30 (0, 0))) ∧ Aside0 (wc.heap[gb736]? = some (.cells #[(.slice Ao317 t732.length co317)] 30 (0, 0))) ∧ Aside0 (wc.heap[gb741]? = some (.cells #[(.slice Ao325 t737.length co325)] 30 (0, 0))) ∧ Aside0 (Below w.heap.size w wc))
         case first => as_aux_lemma =>
          have H := HC292.out
          clear HC292
          by_cases c392 : (t725 != t730) = true
          ·rw [if_pos c392] at H
           exact (laws_FnBooksHidden.j6_no _ _ _ _ _ _ _ _ _ _ _ _ hrT H).elim
          rw [if_neg c392] at H
          obtain rfl : t725 = t730 := by simpa using c392
          clear c392
          replace H := bqz_ H; obtain ⟨t765, A395, H⟩ := H
          replace H : (if t765 = true then (if (t740 != t745) = true then (j6 kj202 t725 t735 t740 true t714 t717 t718 t719 t722 t732 t737) else ((laws_xPuzzle.f kj202 t737 t742).bind fun t766 => (if t766 = true then (if (t755 != t757) = true then (j6 kj202 t725 t735 t740 true t714 t717 t718 t719 t722 t732 t737) else (if (t754 != t756) = true then (j6 kj202 t725 t735 t740 true t714 t717 t718 t719 t722 t732 t737) else ((impl_IsClue.f kj202 t758 t759 t760).bind fun t767 => ((spec_IsClue.f kj202 t758 t759 t760).bind fun t768 => (if (t767 != t768) = true then (j6 kj202 t725 t735 t740 true t714 t717 t718 t719 t722 t732 t737) else (if t755 = true then ((impl_IsClue.f kj202 t747 t748 t749).bind fun t769 => (if t769 = true then ((impl_IsHidden.f t762 t763).bind fun t770 => ((spec_IsHidden.f t762 t763).bind fun t771 => (j6 kj202 t725 t735 t740 (t770 != t771) t714 t717 t718 t719 t722 t732 t737))) else (j6 kj202 t725 t735 t740 true t714 t717 t718 t719 t722 t732 t737))) else ((impl_IsHidden.f t762 t763).bind fun t772 => ((spec_IsHidden.f t762 t763).bind fun t773 => (j6 kj202 t725 t735 t740 (t772 != t773) t714 t717 t718 t719 t722 t732 t737))))))))) else (j6 kj202 t725 t735 t740 true t714 t717 t718 t719 t722 t732 t737)))) else (j6 kj202 t725 t735 t740 true t714 t717 t718 t719 t722 t732 t737)) = some r := H
          by_cases c396 : t765 = true; rotate_left
          ·replace c396 := Bool.eq_false_iff.mpr c396
           subst c396
           have H1 : (j6 kj202 t725 t735 t740 true t714 t717 t718 t719 t722 t732 t737) = some r := by rw [if_neg (show ¬ (false = true) by decide)] at H; exact H
           clear H
           have H := H1
           exact (laws_FnBooksHidden.j6_no _ _ _ _ _ _ _ _ _ _ _ _ hrT H).elim
          subst c396
          rw [if_pos rfl] at H
          by_cases c397 : (t740 != t745) = true
          ·rw [if_pos c397] at H
           exact (laws_FnBooksHidden.j6_no _ _ _ _ _ _ _ _ _ _ _ _ hrT H).elim
          rw [if_neg c397] at H
          obtain rfl : t740 = t745 := by simpa using c397
          clear c397
          replace H := bqz_ H; obtain ⟨t766, A401, H⟩ := H
          replace H : (if t766 = true then (if (t755 != t757) = true then (j6 kj202 t725 t735 t740 true t714 t717 t718 t719 t722 t732 t737) else (if (t754 != t756) = true then (j6 kj202 t725 t735 t740 true t714 t717 t718 t719 t722 t732 t737) else ((impl_IsClue.f kj202 t758 t759 t760).bind fun t767 => ((spec_IsClue.f kj202 t758 t759 t760).bind fun t768 => (if (t767 != t768) = true then (j6 kj202 t725 t735 t740 true t714 t717 t718 t719 t722 t732 t737) else (if t755 = true then ((impl_IsClue.f kj202 t747 t748 t749).bind fun t769 => (if t769 = true then ((impl_IsHidden.f t762 t763).bind fun t770 => ((spec_IsHidden.f t762 t763).bind fun t771 => (j6 kj202 t725 t735 t740 (t770 != t771) t714 t717 t718 t719 t722 t732 t737))) else (j6 kj202 t725 t735 t740 true t714 t717 t718 t719 t722 t732 t737))) else ((impl_IsHidden.f t762 t763).bind fun t772 => ((spec_IsHidden.f t762 t763).bind fun t773 => (j6 kj202 t725 t735 t740 (t772 != t773) t714 t717 t718 t719 t722 t732 t737))))))))) else (j6 kj202 t725 t735 t740 true t714 t717 t718 t719 t722 t732 t737)) = some r := H
          by_cases c402 : t766 = true; rotate_left
          ·replace c402 := Bool.eq_false_iff.mpr c402
           subst c402
           have H1 : (j6 kj202 t725 t735 t740 true t714 t717 t718 t719 t722 t732 t737) = some r := by rw [if_neg (show ¬ (false = true) by decide)] at H; exact H
           clear H
           have H := H1
           exact (laws_FnBooksHidden.j6_no _ _ _ _ _ _ _ _ _ _ _ _ hrT H).elim
          subst c402
          rw [if_pos rfl] at H
          by_cases c403 : (t755 != t757) = true
          ·rw [if_pos c403] at H
           exact (laws_FnBooksHidden.j6_no _ _ _ _ _ _ _ _ _ _ _ _ hrT H).elim
          rw [if_neg c403] at H
          obtain rfl : t755 = t757 := by simpa using c403
          clear c403
          by_cases c408 : (t754 != t756) = true
          ·rw [if_pos c408] at H
           exact (laws_FnBooksHidden.j6_no _ _ _ _ _ _ _ _ _ _ _ _ hrT H).elim
          rw [if_neg c408] at H
          obtain rfl : t754 = t756 := by simpa using c408
          clear c408
          replace H := bqz_ H; obtain ⟨t767, A413, H⟩ := H
          replace H := bqz_ H; obtain ⟨t768, A414, H⟩ := H
          replace H : (if (t767 != t768) = true then (j6 kj202 t725 t735 t740 true t714 t717 t718 t719 t722 t732 t737) else (if t755 = true then ((impl_IsClue.f kj202 t747 t748 t749).bind fun t769 => (if t769 = true then ((impl_IsHidden.f t762 t763).bind fun t770 => ((spec_IsHidden.f t762 t763).bind fun t771 => (j6 kj202 t725 t735 t740 (t770 != t771) t714 t717 t718 t719 t722 t732 t737))) else (j6 kj202 t725 t735 t740 true t714 t717 t718 t719 t722 t732 t737))) else ((impl_IsHidden.f t762 t763).bind fun t772 => ((spec_IsHidden.f t762 t763).bind fun t773 => (j6 kj202 t725 t735 t740 (t772 != t773) t714 t717 t718 t719 t722 t732 t737))))) = some r := H
          by_cases c415 : (t767 != t768) = true
          ·rw [if_pos c415] at H
           exact (laws_FnBooksHidden.j6_no _ _ _ _ _ _ _ _ _ _ _ _ hrT H).elim
          rw [if_neg c415] at H
          obtain rfl : t767 = t768 := by simpa using c415
          clear c415
          by_cases c422 : t755 = true; rotate_left
          ·replace c422 := Bool.eq_false_iff.mpr c422
           subst c422
           rw [if_neg nfz_] at H
           replace H := bqz_ H; obtain ⟨t772, A443, H⟩ := H
           replace H := bqz_ H; obtain ⟨t773, A444, H⟩ := H
           replace H : (j6 kj202 t725 t735 t740 (t772 != t773) t714 t717 t718 t719 t722 t732 t737) = some r := H
           have H' := Az_ H
           clear H
           try go_wp2
           have n0_ : Aside0 (Kd.R k40 40 ((w380.setCell ⟨gb764, 0, none⟩ (.int .i64 t762)).setCell ⟨gb764, 1, none⟩ (.int .i64 t763)) w.heap.size (fun k_ => some k_ ≠ (.slice Ao302 t722.length co302 : Value).ownBlock ∧ some k_ ≠ (.slice Ao310 t727.length co310 : Value).ownBlock ∧ some k_ ≠ (.slice Ao317 t732.length co317 : Value).ownBlock ∧ some k_ ≠ (.slice Ao325 t737.length co325 : Value).ownBlock ∧ some k_ ≠ (.slice Ao335 t742.length co335 : Value).ownBlock ∧ k_ ≠ gb721 ∧ k_ ≠ gb752 ∧ k_ ≠ gb761) (.slice Ao296 t714.length co296) t714) := ⟨w11_⟩
           have n1_ : Aside0 (Kd.R k40 40 ((w380.setCell ⟨gb764, 0, none⟩ (.int .i64 t762)).setCell ⟨gb764, 1, none⟩ (.int .i64 t763)) w.heap.size (fun k_ => some k_ ≠ (.slice Ao296 t714.length co296 : Value).ownBlock ∧ some k_ ≠ (.slice Ao310 t727.length co310 : Value).ownBlock ∧ some k_ ≠ (.slice Ao317 t732.length co317 : Value).ownBlock ∧ some k_ ≠ (.slice Ao325 t737.length co325 : Value).ownBlock ∧ some k_ ≠ (.slice Ao335 t742.length co335 : Value).ownBlock ∧ k_ ≠ gb721 ∧ k_ ≠ gb752 ∧ k_ ≠ gb761) (.slice Ao302 t722.length co302) t722) := ⟨w12_⟩
           have n2_ : Aside0 (Kd.R k40 40 ((w380.setCell ⟨gb764, 0, none⟩ (.int .i64 t762)).setCell ⟨gb764, 1, none⟩ (.int .i64 t763)) w.heap.size (fun k_ => some k_ ≠ (.slice Ao296 t714.length co296 : Value).ownBlock ∧ some k_ ≠ (.slice Ao302 t722.length co302 : Value).ownBlock ∧ some k_ ≠ (.slice Ao317 t732.length co317 : Value).ownBlock ∧ some k_ ≠ (.slice Ao325 t737.length co325 : Value).ownBlock ∧ some k_ ≠ (.slice Ao335 t742.length co335 : Value).ownBlock ∧ k_ ≠ gb721 ∧ k_ ≠ gb752 ∧ k_ ≠ gb761) (.slice Ao310 t727.length co310) t727) := ⟨w13_⟩
           have n3_ : Aside0 (Kd.R k40 40 ((w380.setCell ⟨gb764, 0, none⟩ (.int .i64 t762)).setCell ⟨gb764, 1, none⟩ (.int .i64 t763)) w.heap.size (fun k_ => some k_ ≠ (.slice Ao296 t714.length co296 : Value).ownBlock ∧ some k_ ≠ (.slice Ao302 t722.length co302 : Value).ownBlock ∧ some k_ ≠ (.slice Ao310 t727.length co310 : Value).ownBlock ∧ some k_ ≠ (.slice Ao325 t737.length co325 : Value).ownBlock ∧ some k_ ≠ (.slice Ao335 t742.length co335 : Value).ownBlock ∧ k_ ≠ gb721 ∧ k_ ≠ gb752 ∧ k_ ≠ gb761) (.slice Ao317 t732.length co317) t732) := ⟨w14_⟩
           have n4_ : Aside0 (Kd.R k40 40 ((w380.setCell ⟨gb764, 0, none⟩ (.int .i64 t762)).setCell ⟨gb764, 1, none⟩ (.int .i64 t763)) w.heap.size (fun k_ => some k_ ≠ (.slice Ao296 t714.length co296 : Value).ownBlock ∧ some k_ ≠ (.slice Ao302 t722.length co302 : Value).ownBlock ∧ some k_ ≠ (.slice Ao310 t727.length co310 : Value).ownBlock ∧ some k_ ≠ (.slice Ao317 t732.length co317 : Value).ownBlock ∧ some k_ ≠ (.slice Ao335 t742.length co335 : Value).ownBlock ∧ k_ ≠ gb721 ∧ k_ ≠ gb752 ∧ k_ ≠ gb761) (.slice Ao325 t737.length co325) t737) := ⟨w15_⟩
           have n5_ : Aside0 (Kd.R k40 40 ((w380.setCell ⟨gb764, 0, none⟩ (.int .i64 t762)).setCell ⟨gb764, 1, none⟩ (.int .i64 t763)) w.heap.size (fun k_ => some k_ ≠ (.slice Ao296 t714.length co296 : Value).ownBlock ∧ some k_ ≠ (.slice Ao302 t722.length co302 : Value).ownBlock ∧ some k_ ≠ (.slice Ao310 t727.length co310 : Value).ownBlock ∧ some k_ ≠ (.slice Ao317 t732.length co317 : Value).ownBlock ∧ some k_ ≠ (.slice Ao325 t737.length co325 : Value).ownBlock ∧ k_ ≠ gb721 ∧ k_ ≠ gb752 ∧ k_ ≠ gb761) (.slice Ao335 t742.length co335) t742) := ⟨w16_⟩
           have n6_ : Aside0 (((w380.setCell ⟨gb764, 0, none⟩ (.int .i64 t762)).setCell ⟨gb764, 1, none⟩ (.int .i64 t763)).heap[gb720]? = some (.cells #[.slice Ao296 t714.length co296] 30 (0, 0))) := ⟨w21_⟩
           have n7_ : Aside0 (((w380.setCell ⟨gb764, 0, none⟩ (.int .i64 t762)).setCell ⟨gb764, 1, none⟩ (.int .i64 t763)).heap[gb721]? = some (.cells #[.int .i64 t717, .int .i64 t718, .int .i64 t719] 40 (0, 0))) := ⟨w22_⟩
           have n8_ : Aside0 (((w380.setCell ⟨gb764, 0, none⟩ (.int .i64 t762)).setCell ⟨gb764, 1, none⟩ (.int .i64 t763)).heap[gb726]? = some (.cells #[.slice Ao302 t722.length co302] 30 (0, 0))) := ⟨w23_⟩
           have n9_ : Aside0 (((w380.setCell ⟨gb764, 0, none⟩ (.int .i64 t762)).setCell ⟨gb764, 1, none⟩ (.int .i64 t763)).heap[gb731]? = some (.cells #[.slice Ao310 t727.length co310] 30 (0, 0))) := ⟨w24_⟩
           have n10_ : Aside0 (((w380.setCell ⟨gb764, 0, none⟩ (.int .i64 t762)).setCell ⟨gb764, 1, none⟩ (.int .i64 t763)).heap[gb736]? = some (.cells #[.slice Ao317 t732.length co317] 30 (0, 0))) := ⟨w25_⟩
           have n11_ : Aside0 (((w380.setCell ⟨gb764, 0, none⟩ (.int .i64 t762)).setCell ⟨gb764, 1, none⟩ (.int .i64 t763)).heap[gb741]? = some (.cells #[.slice Ao325 t737.length co325] 30 (0, 0))) := ⟨w26_⟩
           have n12_ : Aside0 (((w380.setCell ⟨gb764, 0, none⟩ (.int .i64 t762)).setCell ⟨gb764, 1, none⟩ (.int .i64 t763)).heap[gb746]? = some (.cells #[.slice Ao335 t742.length co335] 30 (0, 0))) := ⟨w27_⟩
           have n13_ : Aside0 (((w380.setCell ⟨gb764, 0, none⟩ (.int .i64 t762)).setCell ⟨gb764, 1, none⟩ (.int .i64 t763)).heap[gb752]? = some (.cells #[.int .i64 t747, .int .i64 t748, .int .i64 t749] 40 (0, 0))) := ⟨w28_⟩
           have n14_ : Aside0 (((w380.setCell ⟨gb764, 0, none⟩ (.int .i64 t762)).setCell ⟨gb764, 1, none⟩ (.int .i64 t763)).heap[gb753]? = some (.cells #[.int .i64 t750, .int .i64 t751] 25 (0, 0))) := ⟨w29_⟩
           have n15_ : Aside0 (((w380.setCell ⟨gb764, 0, none⟩ (.int .i64 t762)).setCell ⟨gb764, 1, none⟩ (.int .i64 t763)).heap[gb761]? = some (.cells #[.int .i64 t758, .int .i64 t759, .int .i64 t760] 40 (0, 0))) := ⟨w30_⟩
           have n16_ : Aside0 (((w380.setCell ⟨gb764, 0, none⟩ (.int .i64 t762)).setCell ⟨gb764, 1, none⟩ (.int .i64 t763)).heap[gb764]? = some (.cells #[.int .i64 t762, .int .i64 t763] 25 (0, 0))) := ⟨w18_⟩
           have n17_ : Aside0 (Below w.heap.size w ((w380.setCell ⟨gb764, 0, none⟩ (.int .i64 t762)).setCell ⟨gb764, 1, none⟩ (.int .i64 t763))) := ⟨w129_⟩
           clear HO716
           clear HO724
           clear HO729
           clear HO734
           clear HO739
           clear HO744
           clear BK720
           clear BK721
           clear BK726
           clear BK731
           clear BK736
           clear BK741
           clear BK746
           clear BK752
           clear BK753
           clear BK761
           clear BK764
           clear HB
           generalize ((w380.setCell ⟨gb764, 0, none⟩ (.int .i64 t762)).setCell ⟨gb764, 1, none⟩ (.int .i64 t763)) = w445 at n0_ n1_ n2_ n3_ n4_ n5_ n6_ n7_ n8_ n9_ n10_ n11_ n12_ n13_ n14_ n15_ n16_ n17_ ⊢
           have HO716 := n0_
           have HO724 := n1_
           have HO729 := n2_
           have HO734 := n3_
           have HO739 := n4_
           have HO744 := n5_
           have BK720 := n6_
           have BK721 := n7_
           have BK726 := n8_
           have BK731 := n9_
           have BK736 := n10_
           have BK741 := n11_
           have BK746 := n12_
           have BK752 := n13_
           have BK753 := n14_
           have BK761 := n15_
           have BK764 := n16_
           have HB := n17_
           clear n0_ n1_ n2_ n3_ n4_ n5_ n6_ n7_ n8_ n9_ n10_ n11_ n12_ n13_ n14_ n15_ n16_ n17_
           replace HO716 := Az_ (rdz_ HO716.out)
           replace HO724 := Az_ (rdz_ HO724.out)
           replace HO729 := Az_ (rdz_ HO729.out)
           replace HO734 := Az_ (rdz_ HO734.out)
           replace HO739 := Az_ (rdz_ HO739.out)
           replace HO744 := Az_ (rdz_ HO744.out)
           replace BK720 := Az_ (kdz_ BK720.out)
           replace BK721 := Az_ (kdz_ BK721.out)
           replace BK726 := Az_ (kdz_ BK726.out)
           replace BK731 := Az_ (kdz_ BK731.out)
           replace BK736 := Az_ (kdz_ BK736.out)
           replace BK741 := Az_ (kdz_ BK741.out)
           replace BK746 := Az_ (kdz_ BK746.out)
           replace BK752 := Az_ (kdz_ BK752.out)
           replace BK753 := Az_ (kdz_ BK753.out)
           replace BK761 := Az_ (kdz_ BK761.out)
           replace BK764 := Az_ (kdz_ BK764.out)
           replace HB := Az_ (bdz_ HB.out)
           as_aux_lemma =>
            refine start_ (n := 52) (S := fun w' => w'.cell? ⟨gb726, 0, none⟩ = some (.slice Ao302 t722.length co302) ∧ w'.cell? ⟨gb731, 0, none⟩ = some (.slice Ao310 t727.length co310) ∧ w'.cell? ⟨gb741, 0, none⟩ = some (.slice Ao325 t737.length co325) ∧ w'.cell? ⟨gb746, 0, none⟩ = some (.slice Ao335 t742.length co335) ∧ w'.cell? ⟨gb761, 0, none⟩ = some (.int .i64 t758) ∧ w'.cell? ⟨gb761, 1, none⟩ = some (.int .i64 t759) ∧ w'.cell? ⟨gb761, 2, none⟩ = some (.int .i64 t760) ∧ w'.cell? ⟨gb764, 0, none⟩ = some (.int .i64 t762) ∧ w'.cell? ⟨gb764, 1, none⟩ = some (.int .i64 t763)) (ds := []) #[false, false, false, false, false, false, false, false, false, false, false, false, false, false, false, false, false, false, false, false, false, false, false, false, false, false, false, false, false, false, false, false, false, false, false, false, false, false, false, false, false, false, false, false, false, false, false, false, false, false, false, false] (w204_) rfl rfl ⟨(blk_cell BK726.out 0).trans rfl, (blk_cell BK731.out 0).trans rfl, (blk_cell BK741.out 0).trans rfl, (blk_cell BK746.out 0).trans rfl, (blk_cell BK761.out 0).trans rfl, (blk_cell BK761.out 1).trans rfl, (blk_cell BK761.out 2).trans rfl, (blk_cell BK764.out 0).trans rfl, (blk_cell BK764.out 1).trans rfl⟩ (fun hHeld => ?_); refine with_tabW laws_FnBooksHidden.tab47 laws_FnBooksHidden.bits47 (fun HT_ HW_ => ?_)
            generalize w445.drew = w446 at HO716 HO724 HO729 HO734 HO739 HO744 BK720 BK721 BK726 BK731 BK736 BK741 BK746 BK752 BK753 BK761 BK764 HB hHeld ⊢
            refine pz_ 0 365 [1,51] ?_
            refine pz_ 1 366 [2,50] ?_
            refine pz_ 2 367 [3,49] ?_
            refine pz_ 3 368 [4,48] ?_
            refine take_ (i := 4) (N := some 369) (v := ?_) (a' := ?_) (mz_ [5,47]) rfl rfl (take_ofW HT_.out HW_.out (w204_)) (fun _ _ _ h => h) (Or.inl ⟨by rfl, ?_⟩) hHeld ?_ ?_
            rotate_left
            ·rintro w' ⟨s0, s1, s2, s3, s4, s5, s6, s7, s8⟩
             go_simp
             with_reducible rfl
            rotate_left
            ·simp only [Act.put, usz_, utz_, uvz_, i64_w, i32_w]
             rfl
            refine take_ (i := 5) (N := some 370) (v := ?_) (a' := ?_) (mz_ [6,46]) rfl rfl (take_ofW HT_.out HW_.out (w204_)) (fun _ _ _ h => h) (Or.inl ⟨by rfl, ?_⟩) hHeld ?_ ?_
            rotate_left
            ·rintro w' ⟨s0, s1, s2, s3, s4, s5, s6, s7, s8⟩
             go_simp
             with_reducible rfl
            rotate_left
            ·simp only [Act.put, usz_, utz_, uvz_, i64_w, i32_w]
             rfl
            refine one_ (i := 6) (N := some 371) (mz_ [7,45]) rfl rfl (one_of HT_.out (w204_)) (by decide) (fun K hK => ?_)
            refine goes_ Tryd.func8 (w204_) rfl #[.agg #[.slice Ao302 t722.length co302], .agg #[.slice Ao310 t727.length co310]] (by rfl) rfl rfl maz_ ?_
            with_reducible refine (laws_xPuzzle.calls kj202 _ _ t722 _ _ t727 true _ ?side1 ?side2 ?side3 ?side4 A395.out).mono ?_
            (case side1 => repeat (first | exact (Kd.R_reads' HO724.out).2.2 | (with_reducible refine Kd.C_alloc ?_ _) | (with_reducible refine Kd.C_drewN ?_ _) | (with_reducible refine Kd.C_drew ?_)))
            (case side2 => exact (Kd.R_reads' HO724.out).2.1)
            (case side3 => repeat (first | exact (Kd.R_reads' HO729.out).2.2 | (with_reducible refine Kd.C_alloc ?_ _) | (with_reducible refine Kd.C_drewN ?_ _) | (with_reducible refine Kd.C_drew ?_)))
            (case side4 => exact (Kd.R_reads' HO729.out).2.1)
            rintro e w447 ⟨rfl, hb⟩
            refine ⟨_, rfl, ?_⟩
            have n0_ := Az_ (Kd.R_below (w195_) hb)
            have n1_ := Az_ (Kd.R_below (w196_) hb)
            have n2_ := Az_ (Kd.R_below (w197_) hb)
            have n3_ := Az_ (Kd.R_below (w198_) hb)
            have n4_ := Az_ (Kd.R_below (w199_) hb)
            have n5_ := Az_ (Kd.R_below (w200_) hb)
            have n17_ := Az_ (btz_ (w129_) hb)
            clear HO716 HO724 HO729 HO734 HO739 HO744 HB
            have HO716 := n0_
            have HO724 := n1_
            have HO729 := n2_
            have HO734 := n3_
            have HO739 := n4_
            have HO744 := n5_
            replace BK720 := Az_ (ukbz_ BK720.out hb)
            replace BK721 := Az_ (ukbz_ BK721.out hb)
            replace BK726 := Az_ (ukbz_ BK726.out hb)
            replace BK731 := Az_ (ukbz_ BK731.out hb)
            replace BK736 := Az_ (ukbz_ BK736.out hb)
            replace BK741 := Az_ (ukbz_ BK741.out hb)
            replace BK746 := Az_ (ukbz_ BK746.out hb)
            replace BK752 := Az_ (ukbz_ BK752.out hb)
            replace BK753 := Az_ (ukbz_ BK753.out hb)
            replace BK761 := Az_ (ukbz_ BK761.out hb)
            replace BK764 := Az_ (ukbz_ BK764.out hb)
            have HB := n17_
            clear n0_ n1_ n2_ n3_ n4_ n5_ n17_
            clear hb
            refine hK.out _ _ ⟨(blk_cell BK726.out 0).trans rfl, (blk_cell BK731.out 0).trans rfl, (blk_cell BK741.out 0).trans rfl, (blk_cell BK746.out 0).trans rfl, (blk_cell BK761.out 0).trans rfl, (blk_cell BK761.out 1).trans rfl, (blk_cell BK761.out 2).trans rfl, (blk_cell BK764.out 0).trans rfl, (blk_cell BK764.out 1).trans rfl⟩ (fun hHeld => ?_)
            clear hK K
            refine nz_ 371 ?_
            refine pz_ 7 372 [8,44] ?_
            refine pz_ 8 373 [9,43] ?_
            refine pz_ 9 374 [10,42] ?_
            refine pz_ 10 375 [11,41] ?_
            refine pz_ 11 376 [12,40] ?_
            refine pz_ 12 377 [13,39] ?_
            refine pz_ 13 378 [14,38] ?_
            refine pz_ 14 379 [15,37] ?_
            refine take_ (i := 15) (N := some 380) (v := ?_) (a' := ?_) (mz_ [16,36]) rfl rfl (take_ofW HT_.out HW_.out (w204_)) (fun _ _ _ h => h) (Or.inl ⟨by rfl, ?_⟩) hHeld ?_ ?_
            rotate_left
            ·rintro w' ⟨s0, s1, s2, s3, s4, s5, s6, s7, s8⟩
             go_simp
             with_reducible rfl
            rotate_left
            ·simp only [Act.put, usz_, utz_, uvz_, i64_w, i32_w]
             rfl
            refine take_ (i := 16) (N := some 381) (v := ?_) (a' := ?_) (mz_ [17,35]) rfl rfl (take_ofW HT_.out HW_.out (w204_)) (fun _ _ _ h => h) (Or.inl ⟨by rfl, ?_⟩) hHeld ?_ ?_
            rotate_left
            ·rintro w' ⟨s0, s1, s2, s3, s4, s5, s6, s7, s8⟩
             go_simp
             with_reducible rfl
            rotate_left
            ·simp only [Act.put, usz_, utz_, uvz_, i64_w, i32_w]
             rfl
            refine one_ (i := 17) (N := some 382) (mz_ [18,34]) rfl rfl (one_of HT_.out (w204_)) (by decide) (fun K hK => ?_)
            refine goes_ Tryd.func8 (w204_) rfl #[.agg #[.slice Ao325 t737.length co325], .agg #[.slice Ao335 t742.length co335]] (by rfl) rfl rfl maz_ ?_
            with_reducible refine (laws_xPuzzle.calls kj202 _ _ t737 _ _ t742 true _ ?side1 ?side2 ?side3 ?side4 A401.out).mono ?_
            (case side1 => repeat (first | exact (Kd.R_reads' HO739.out).2.2 | (with_reducible refine Kd.C_alloc ?_ _) | (with_reducible refine Kd.C_drewN ?_ _) | (with_reducible refine Kd.C_drew ?_)))
            (case side2 => exact (Kd.R_reads' HO739.out).2.1)
            (case side3 => repeat (first | exact (Kd.R_reads' HO744.out).2.2 | (with_reducible refine Kd.C_alloc ?_ _) | (with_reducible refine Kd.C_drewN ?_ _) | (with_reducible refine Kd.C_drew ?_)))
            (case side4 => exact (Kd.R_reads' HO744.out).2.1)
            rintro e w448 ⟨rfl, hb⟩
            refine ⟨_, rfl, ?_⟩
            have n0_ := Az_ (Kd.R_below (w195_) hb)
            have n1_ := Az_ (Kd.R_below (w196_) hb)
            have n2_ := Az_ (Kd.R_below (w197_) hb)
            have n3_ := Az_ (Kd.R_below (w198_) hb)
            have n4_ := Az_ (Kd.R_below (w199_) hb)
            have n5_ := Az_ (Kd.R_below (w200_) hb)
            have n17_ := Az_ (btz_ (w129_) hb)
            clear HO716 HO724 HO729 HO734 HO739 HO744 HB
            have HO716 := n0_
            have HO724 := n1_
            have HO729 := n2_
            have HO734 := n3_
            have HO739 := n4_
            have HO744 := n5_
            replace BK720 := Az_ (ukbz_ BK720.out hb)
            replace BK721 := Az_ (ukbz_ BK721.out hb)
            replace BK726 := Az_ (ukbz_ BK726.out hb)
            replace BK731 := Az_ (ukbz_ BK731.out hb)
            replace BK736 := Az_ (ukbz_ BK736.out hb)
            replace BK741 := Az_ (ukbz_ BK741.out hb)
            replace BK746 := Az_ (ukbz_ BK746.out hb)
            replace BK752 := Az_ (ukbz_ BK752.out hb)
            replace BK753 := Az_ (ukbz_ BK753.out hb)
            replace BK761 := Az_ (ukbz_ BK761.out hb)
            replace BK764 := Az_ (ukbz_ BK764.out hb)
            have HB := n17_
            clear n0_ n1_ n2_ n3_ n4_ n5_ n17_
            clear hb
            refine hK.out _ _ ⟨(blk_cell BK726.out 0).trans rfl, (blk_cell BK731.out 0).trans rfl, (blk_cell BK741.out 0).trans rfl, (blk_cell BK746.out 0).trans rfl, (blk_cell BK761.out 0).trans rfl, (blk_cell BK761.out 1).trans rfl, (blk_cell BK761.out 2).trans rfl, (blk_cell BK764.out 0).trans rfl, (blk_cell BK764.out 1).trans rfl⟩ (fun hHeld => ?_)
            clear hK K
            refine nz_ 382 ?_
            refine pz_ 18 383 [19,33] ?_
            refine pz_ 19 384 [20,32] ?_
            refine pz_ 20 385 [21,31] ?_
            refine pz_ 21 386 [22,30] ?_
            refine pz_ 22 387 [23,29] ?_
            refine pz_ 23 388 [24,28] ?_
            refine pz_ 24 389 [25,27] ?_
            refine pz_ 25 390 [26,26] ?_
            refine pz_ 26 391 [27,25] ?_
            refine pz_ 27 392 [28,24] ?_
            refine pz_ 28 393 [29,23] ?_
            refine pz_ 29 394 [30,22] ?_
            refine pz_ 30 395 [31,21] ?_
            refine take_ (i := 31) (N := some 396) (v := ?_) (a' := ?_) (mz_ [32,20]) rfl rfl (take_ofW HT_.out HW_.out (w204_)) (fun _ _ _ h => h) (Or.inl ⟨by rfl, ?_⟩) hHeld ?_ ?_
            rotate_left
            ·rintro w' ⟨s0, s1, s2, s3, s4, s5, s6, s7, s8⟩
             go_simp
             with_reducible rfl
            rotate_left
            ·simp only [Act.put, usz_, utz_, uvz_, i64_w, i32_w]
             rfl
            refine take_ (i := 33) (N := some 398) (v := ?_) (a' := ?_) (mz_ [32,1,1,18]) rfl rfl (take_ofW HT_.out HW_.out (w204_)) (fun _ _ _ h => h) (Or.inl ⟨by rfl, ?_⟩) hHeld ?_ ?_
            rotate_left
            ·rintro w' ⟨s0, s1, s2, s3, s4, s5, s6, s7, s8⟩
             go_simp
             with_reducible rfl
            rotate_left
            ·simp only [Act.put, usz_, utz_, uvz_, i64_w, i32_w]
             rfl
            refine one_ (i := 32) (N := some 397) (mz_ [34,18]) rfl rfl (one_of HT_.out (w204_)) (by decide) (fun K hK => ?_)
            refine goes_ Tryd.func33 (w204_) rfl #[.agg #[.int .i64 t758, .int .i64 t759, .int .i64 t760]] (by rfl) rfl rfl maz_ ?_
            with_reducible refine (impl_IsClue.calls kj202 t758 t759 t760 t767 _ A413.out).mono ?_
            rintro e w449 ⟨rfl, hb⟩
            refine ⟨_, rfl, ?_⟩
            have n0_ := Az_ (Kd.R_below (w195_) hb)
            have n1_ := Az_ (Kd.R_below (w196_) hb)
            have n2_ := Az_ (Kd.R_below (w197_) hb)
            have n3_ := Az_ (Kd.R_below (w198_) hb)
            have n4_ := Az_ (Kd.R_below (w199_) hb)
            have n5_ := Az_ (Kd.R_below (w200_) hb)
            have n17_ := Az_ (btz_ (w129_) hb)
            clear HO716 HO724 HO729 HO734 HO739 HO744 HB
            have HO716 := n0_
            have HO724 := n1_
            have HO729 := n2_
            have HO734 := n3_
            have HO739 := n4_
            have HO744 := n5_
            replace BK720 := Az_ (ukbz_ BK720.out hb)
            replace BK721 := Az_ (ukbz_ BK721.out hb)
            replace BK726 := Az_ (ukbz_ BK726.out hb)
            replace BK731 := Az_ (ukbz_ BK731.out hb)
            replace BK736 := Az_ (ukbz_ BK736.out hb)
            replace BK741 := Az_ (ukbz_ BK741.out hb)
            replace BK746 := Az_ (ukbz_ BK746.out hb)
            replace BK752 := Az_ (ukbz_ BK752.out hb)
            replace BK753 := Az_ (ukbz_ BK753.out hb)
            replace BK761 := Az_ (ukbz_ BK761.out hb)
            replace BK764 := Az_ (ukbz_ BK764.out hb)
            have HB := n17_
            clear n0_ n1_ n2_ n3_ n4_ n5_ n17_
            clear hb
            refine hK.out _ _ ⟨(blk_cell BK726.out 0).trans rfl, (blk_cell BK731.out 0).trans rfl, (blk_cell BK741.out 0).trans rfl, (blk_cell BK746.out 0).trans rfl, (blk_cell BK761.out 0).trans rfl, (blk_cell BK761.out 1).trans rfl, (blk_cell BK761.out 2).trans rfl, (blk_cell BK764.out 0).trans rfl, (blk_cell BK764.out 1).trans rfl⟩ (fun hHeld => ?_)
            clear hK K
            refine nz_ 397 ?_
            refine one_ (i := 34) (N := some 399) (mz_ [35,17]) rfl rfl (one_of HT_.out (w204_)) (by decide) (fun K hK => ?_)
            refine goes_ Tryd.func34 (w204_) rfl #[.agg #[.int .i64 t758, .int .i64 t759, .int .i64 t760]] (by rfl) rfl rfl maz_ ?_
            with_reducible refine (spec_IsClue.calls kj202 t758 t759 t760 t767 _ A414.out).mono ?_
            rintro e w450 ⟨rfl, hb⟩
            refine ⟨_, rfl, ?_⟩
            have n0_ := Az_ (Kd.R_below (w195_) hb)
            have n1_ := Az_ (Kd.R_below (w196_) hb)
            have n2_ := Az_ (Kd.R_below (w197_) hb)
            have n3_ := Az_ (Kd.R_below (w198_) hb)
            have n4_ := Az_ (Kd.R_below (w199_) hb)
            have n5_ := Az_ (Kd.R_below (w200_) hb)
            have n17_ := Az_ (btz_ (w129_) hb)
            clear HO716 HO724 HO729 HO734 HO739 HO744 HB
            have HO716 := n0_
            have HO724 := n1_
            have HO729 := n2_
            have HO734 := n3_
            have HO739 := n4_
            have HO744 := n5_
            replace BK720 := Az_ (ukbz_ BK720.out hb)
            replace BK721 := Az_ (ukbz_ BK721.out hb)
            replace BK726 := Az_ (ukbz_ BK726.out hb)
            replace BK731 := Az_ (ukbz_ BK731.out hb)
            replace BK736 := Az_ (ukbz_ BK736.out hb)
            replace BK741 := Az_ (ukbz_ BK741.out hb)
            replace BK746 := Az_ (ukbz_ BK746.out hb)
            replace BK752 := Az_ (ukbz_ BK752.out hb)
            replace BK753 := Az_ (ukbz_ BK753.out hb)
            replace BK761 := Az_ (ukbz_ BK761.out hb)
            replace BK764 := Az_ (ukbz_ BK764.out hb)
            have HB := n17_
            clear n0_ n1_ n2_ n3_ n4_ n5_ n17_
            clear hb
            refine hK.out _ _ ⟨(blk_cell BK726.out 0).trans rfl, (blk_cell BK731.out 0).trans rfl, (blk_cell BK741.out 0).trans rfl, (blk_cell BK746.out 0).trans rfl, (blk_cell BK761.out 0).trans rfl, (blk_cell BK761.out 1).trans rfl, (blk_cell BK761.out 2).trans rfl, (blk_cell BK764.out 0).trans rfl, (blk_cell BK764.out 1).trans rfl⟩ (fun hHeld => ?_)
            clear hK K
            refine nz_ 399 ?_
            refine pz_ 35 400 [36,16] ?_
            refine pz_ 36 401 [37,15] ?_
            refine pz_ 37 402 [38,14] ?_
            refine pz_ 38 403 [39,13] ?_
            refine pz_ 39 404 [40,12] ?_
            refine qz_ 40 405 [41,11] ?_
            refine qz_ 41 406 [42,10] ?_
            refine qz_ 42 407 [43,9] ?_
            refine pz_ 43 408 [44,8] ?_
            refine pz_ 44 409 [45,7] ?_
            refine pz_ 45 410 [46,6] ?_
            refine take_ (i := 46) (N := some 411) (v := ?_) (a' := ?_) (mz_ [47,5]) rfl rfl (take_ofW HT_.out HW_.out (w204_)) (fun _ _ _ h => h) (Or.inl ⟨by rfl, ?_⟩) hHeld ?_ ?_
            rotate_left
            ·rintro w' ⟨s0, s1, s2, s3, s4, s5, s6, s7, s8⟩
             go_simp
             with_reducible rfl
            rotate_left
            ·simp only [Act.put, usz_, utz_, uvz_, i64_w, i32_w]
             rfl
            refine take_ (i := 48) (N := some 413) (v := ?_) (a' := ?_) (mz_ [47,1,1,3]) rfl rfl (take_ofW HT_.out HW_.out (w204_)) (fun _ _ _ h => h) (Or.inl ⟨by rfl, ?_⟩) hHeld ?_ ?_
            rotate_left
            ·rintro w' ⟨s0, s1, s2, s3, s4, s5, s6, s7, s8⟩
             go_simp
             with_reducible rfl
            rotate_left
            ·simp only [Act.put, usz_, utz_, uvz_, i64_w, i32_w]
             rfl
            refine one_ (i := 47) (N := some 412) (mz_ [49,3]) rfl rfl (one_of HT_.out (w204_)) (by decide) (fun K hK => ?_)
            refine goes_ Tryd.func9 (w204_) rfl #[.agg #[.int .i64 t762, .int .i64 t763]] (by rfl) rfl rfl maz_ ?_
            with_reducible refine (impl_IsHidden.calls t762 t763 t772 _ A443.out).mono ?_
            rintro e w451 ⟨rfl, hb⟩
            refine ⟨_, rfl, ?_⟩
            have n0_ := Az_ (Kd.R_below (w195_) hb)
            have n1_ := Az_ (Kd.R_below (w196_) hb)
            have n2_ := Az_ (Kd.R_below (w197_) hb)
            have n3_ := Az_ (Kd.R_below (w198_) hb)
            have n4_ := Az_ (Kd.R_below (w199_) hb)
            have n5_ := Az_ (Kd.R_below (w200_) hb)
            have n17_ := Az_ (btz_ (w129_) hb)
            clear HO716 HO724 HO729 HO734 HO739 HO744 HB
            have HO716 := n0_
            have HO724 := n1_
            have HO729 := n2_
            have HO734 := n3_
            have HO739 := n4_
            have HO744 := n5_
            replace BK720 := Az_ (ukbz_ BK720.out hb)
            replace BK721 := Az_ (ukbz_ BK721.out hb)
            replace BK726 := Az_ (ukbz_ BK726.out hb)
            replace BK731 := Az_ (ukbz_ BK731.out hb)
            replace BK736 := Az_ (ukbz_ BK736.out hb)
            replace BK741 := Az_ (ukbz_ BK741.out hb)
            replace BK746 := Az_ (ukbz_ BK746.out hb)
            replace BK752 := Az_ (ukbz_ BK752.out hb)
            replace BK753 := Az_ (ukbz_ BK753.out hb)
            replace BK761 := Az_ (ukbz_ BK761.out hb)
            replace BK764 := Az_ (ukbz_ BK764.out hb)
            have HB := n17_
            clear n0_ n1_ n2_ n3_ n4_ n5_ n17_
            clear hb
            refine hK.out _ _ ⟨(blk_cell BK726.out 0).trans rfl, (blk_cell BK731.out 0).trans rfl, (blk_cell BK741.out 0).trans rfl, (blk_cell BK746.out 0).trans rfl, (blk_cell BK761.out 0).trans rfl, (blk_cell BK761.out 1).trans rfl, (blk_cell BK761.out 2).trans rfl, (blk_cell BK764.out 0).trans rfl, (blk_cell BK764.out 1).trans rfl⟩ (fun hHeld => ?_)
            clear hK K
            refine nz_ 412 ?_
            refine one_ (i := 49) (N := some 414) (mz_ [50,2]) rfl rfl (one_of HT_.out (w204_)) (by decide) (fun K hK => ?_)
            refine goes_ Tryd.func10 (w204_) rfl #[.agg #[.int .i64 t762, .int .i64 t763]] (by rfl) rfl rfl maz_ ?_
            with_reducible refine (spec_IsHidden.calls t762 t763 t773 _ A444.out).mono ?_
            rintro e w452 ⟨rfl, hb⟩
            refine ⟨_, rfl, ?_⟩
            have n0_ := Az_ (Kd.R_below (w195_) hb)
            have n1_ := Az_ (Kd.R_below (w196_) hb)
            have n2_ := Az_ (Kd.R_below (w197_) hb)
            have n3_ := Az_ (Kd.R_below (w198_) hb)
            have n4_ := Az_ (Kd.R_below (w199_) hb)
            have n5_ := Az_ (Kd.R_below (w200_) hb)
            have n17_ := Az_ (btz_ (w129_) hb)
            clear HO716 HO724 HO729 HO734 HO739 HO744 HB
            have HO716 := n0_
            have HO724 := n1_
            have HO729 := n2_
            have HO734 := n3_
            have HO739 := n4_
            have HO744 := n5_
            replace BK720 := Az_ (ukbz_ BK720.out hb)
            replace BK721 := Az_ (ukbz_ BK721.out hb)
            replace BK726 := Az_ (ukbz_ BK726.out hb)
            replace BK731 := Az_ (ukbz_ BK731.out hb)
            replace BK736 := Az_ (ukbz_ BK736.out hb)
            replace BK741 := Az_ (ukbz_ BK741.out hb)
            replace BK746 := Az_ (ukbz_ BK746.out hb)
            replace BK752 := Az_ (ukbz_ BK752.out hb)
            replace BK753 := Az_ (ukbz_ BK753.out hb)
            replace BK761 := Az_ (ukbz_ BK761.out hb)
            replace BK764 := Az_ (ukbz_ BK764.out hb)
            have HB := n17_
            clear n0_ n1_ n2_ n3_ n4_ n5_ n17_
            clear hb
            refine hK.out _ _ ⟨(blk_cell BK726.out 0).trans rfl, (blk_cell BK731.out 0).trans rfl, (blk_cell BK741.out 0).trans rfl, (blk_cell BK746.out 0).trans rfl, (blk_cell BK761.out 0).trans rfl, (blk_cell BK761.out 1).trans rfl, (blk_cell BK761.out 2).trans rfl, (blk_cell BK764.out 0).trans rfl, (blk_cell BK764.out 1).trans rfl⟩ (fun hHeld => ?_)
            clear hK K
            refine nz_ 414 ?_
            refine pz_ 50 415 [51,1] ?_
            refine pz_ 51 416 [52] ?_
            refine done_ (done_of HT_.out (w204_)) ?_
            try go_wp2
            go_meet
            case rel => exact ⟨_, ((t772 != t773)), qaz_, H', ⟨by have := HJ7.out; have := HJ54.out; have := HJ160.out; have := HJ202.out; first | omega | exact Nat.le_refl _⟩, ⟨w118_⟩, ⟨w119_⟩, ⟨w122_⟩, ⟨w123_⟩, ⟨by (with_reducible repeat (first | refine knz_ ?_ _ | refine kdz_ ?_ | refine kaz_ ?_ _)); exact BK720.out⟩, ⟨by (with_reducible repeat (first | refine knz_ ?_ _ | refine kdz_ ?_ | refine kaz_ ?_ _)); exact BK721.out⟩, ⟨by (with_reducible repeat (first | refine knz_ ?_ _ | refine kdz_ ?_ | refine kaz_ ?_ _)); exact BK726.out⟩, ⟨w163_⟩, ⟨w164_⟩, ⟨w129_⟩⟩
          subst c422
          rw [if_pos rfl] at H
          replace H := bqz_ H; obtain ⟨t769, A423, H⟩ := H
          replace H : (if t769 = true then ((impl_IsHidden.f t762 t763).bind fun t770 => ((spec_IsHidden.f t762 t763).bind fun t771 => (j6 kj202 t725 t735 t740 (t770 != t771) t714 t717 t718 t719 t722 t732 t737))) else (j6 kj202 t725 t735 t740 true t714 t717 t718 t719 t722 t732 t737)) = some r := H
          by_cases c424 : t769 = true; rotate_left
          ·replace c424 := Bool.eq_false_iff.mpr c424
           subst c424
           have H1 : (j6 kj202 t725 t735 t740 true t714 t717 t718 t719 t722 t732 t737) = some r := by rw [if_neg (show ¬ (false = true) by decide)] at H; exact H
           clear H
           have H := H1
           exact (laws_FnBooksHidden.j6_no _ _ _ _ _ _ _ _ _ _ _ _ hrT H).elim
          subst c424
          rw [if_pos rfl] at H
          replace H := bqz_ H; obtain ⟨t770, A425, H⟩ := H
          replace H := bqz_ H; obtain ⟨t771, A426, H⟩ := H
          replace H : (j6 kj202 t725 t735 t740 (t770 != t771) t714 t717 t718 t719 t722 t732 t737) = some r := H
          have H' := Az_ H
          clear H
          try go_wp2
          have n0_ : Aside0 (Kd.R k40 40 ((w380.setCell ⟨gb764, 0, none⟩ (.int .i64 t762)).setCell ⟨gb764, 1, none⟩ (.int .i64 t763)) w.heap.size (fun k_ => some k_ ≠ (.slice Ao302 t722.length co302 : Value).ownBlock ∧ some k_ ≠ (.slice Ao310 t727.length co310 : Value).ownBlock ∧ some k_ ≠ (.slice Ao317 t732.length co317 : Value).ownBlock ∧ some k_ ≠ (.slice Ao325 t737.length co325 : Value).ownBlock ∧ some k_ ≠ (.slice Ao335 t742.length co335 : Value).ownBlock ∧ k_ ≠ gb721 ∧ k_ ≠ gb752 ∧ k_ ≠ gb761) (.slice Ao296 t714.length co296) t714) := ⟨w11_⟩
          have n1_ : Aside0 (Kd.R k40 40 ((w380.setCell ⟨gb764, 0, none⟩ (.int .i64 t762)).setCell ⟨gb764, 1, none⟩ (.int .i64 t763)) w.heap.size (fun k_ => some k_ ≠ (.slice Ao296 t714.length co296 : Value).ownBlock ∧ some k_ ≠ (.slice Ao310 t727.length co310 : Value).ownBlock ∧ some k_ ≠ (.slice Ao317 t732.length co317 : Value).ownBlock ∧ some k_ ≠ (.slice Ao325 t737.length co325 : Value).ownBlock ∧ some k_ ≠ (.slice Ao335 t742.length co335 : Value).ownBlock ∧ k_ ≠ gb721 ∧ k_ ≠ gb752 ∧ k_ ≠ gb761) (.slice Ao302 t722.length co302) t722) := ⟨w12_⟩
          have n2_ : Aside0 (Kd.R k40 40 ((w380.setCell ⟨gb764, 0, none⟩ (.int .i64 t762)).setCell ⟨gb764, 1, none⟩ (.int .i64 t763)) w.heap.size (fun k_ => some k_ ≠ (.slice Ao296 t714.length co296 : Value).ownBlock ∧ some k_ ≠ (.slice Ao302 t722.length co302 : Value).ownBlock ∧ some k_ ≠ (.slice Ao317 t732.length co317 : Value).ownBlock ∧ some k_ ≠ (.slice Ao325 t737.length co325 : Value).ownBlock ∧ some k_ ≠ (.slice Ao335 t742.length co335 : Value).ownBlock ∧ k_ ≠ gb721 ∧ k_ ≠ gb752 ∧ k_ ≠ gb761) (.slice Ao310 t727.length co310) t727) := ⟨w13_⟩
          have n3_ : Aside0 (Kd.R k40 40 ((w380.setCell ⟨gb764, 0, none⟩ (.int .i64 t762)).setCell ⟨gb764, 1, none⟩ (.int .i64 t763)) w.heap.size (fun k_ => some k_ ≠ (.slice Ao296 t714.length co296 : Value).ownBlock ∧ some k_ ≠ (.slice Ao302 t722.length co302 : Value).ownBlock ∧ some k_ ≠ (.slice Ao310 t727.length co310 : Value).ownBlock ∧ some k_ ≠ (.slice Ao325 t737.length co325 : Value).ownBlock ∧ some k_ ≠ (.slice Ao335 t742.length co335 : Value).ownBlock ∧ k_ ≠ gb721 ∧ k_ ≠ gb752 ∧ k_ ≠ gb761) (.slice Ao317 t732.length co317) t732) := ⟨w14_⟩
          have n4_ : Aside0 (Kd.R k40 40 ((w380.setCell ⟨gb764, 0, none⟩ (.int .i64 t762)).setCell ⟨gb764, 1, none⟩ (.int .i64 t763)) w.heap.size (fun k_ => some k_ ≠ (.slice Ao296 t714.length co296 : Value).ownBlock ∧ some k_ ≠ (.slice Ao302 t722.length co302 : Value).ownBlock ∧ some k_ ≠ (.slice Ao310 t727.length co310 : Value).ownBlock ∧ some k_ ≠ (.slice Ao317 t732.length co317 : Value).ownBlock ∧ some k_ ≠ (.slice Ao335 t742.length co335 : Value).ownBlock ∧ k_ ≠ gb721 ∧ k_ ≠ gb752 ∧ k_ ≠ gb761) (.slice Ao325 t737.length co325) t737) := ⟨w15_⟩
          have n5_ : Aside0 (Kd.R k40 40 ((w380.setCell ⟨gb764, 0, none⟩ (.int .i64 t762)).setCell ⟨gb764, 1, none⟩ (.int .i64 t763)) w.heap.size (fun k_ => some k_ ≠ (.slice Ao296 t714.length co296 : Value).ownBlock ∧ some k_ ≠ (.slice Ao302 t722.length co302 : Value).ownBlock ∧ some k_ ≠ (.slice Ao310 t727.length co310 : Value).ownBlock ∧ some k_ ≠ (.slice Ao317 t732.length co317 : Value).ownBlock ∧ some k_ ≠ (.slice Ao325 t737.length co325 : Value).ownBlock ∧ k_ ≠ gb721 ∧ k_ ≠ gb752 ∧ k_ ≠ gb761) (.slice Ao335 t742.length co335) t742) := ⟨w16_⟩
          have n6_ : Aside0 (((w380.setCell ⟨gb764, 0, none⟩ (.int .i64 t762)).setCell ⟨gb764, 1, none⟩ (.int .i64 t763)).heap[gb720]? = some (.cells #[.slice Ao296 t714.length co296] 30 (0, 0))) := ⟨w21_⟩
          have n7_ : Aside0 (((w380.setCell ⟨gb764, 0, none⟩ (.int .i64 t762)).setCell ⟨gb764, 1, none⟩ (.int .i64 t763)).heap[gb721]? = some (.cells #[.int .i64 t717, .int .i64 t718, .int .i64 t719] 40 (0, 0))) := ⟨w22_⟩
          have n8_ : Aside0 (((w380.setCell ⟨gb764, 0, none⟩ (.int .i64 t762)).setCell ⟨gb764, 1, none⟩ (.int .i64 t763)).heap[gb726]? = some (.cells #[.slice Ao302 t722.length co302] 30 (0, 0))) := ⟨w23_⟩
          have n9_ : Aside0 (((w380.setCell ⟨gb764, 0, none⟩ (.int .i64 t762)).setCell ⟨gb764, 1, none⟩ (.int .i64 t763)).heap[gb731]? = some (.cells #[.slice Ao310 t727.length co310] 30 (0, 0))) := ⟨w24_⟩
          have n10_ : Aside0 (((w380.setCell ⟨gb764, 0, none⟩ (.int .i64 t762)).setCell ⟨gb764, 1, none⟩ (.int .i64 t763)).heap[gb736]? = some (.cells #[.slice Ao317 t732.length co317] 30 (0, 0))) := ⟨w25_⟩
          have n11_ : Aside0 (((w380.setCell ⟨gb764, 0, none⟩ (.int .i64 t762)).setCell ⟨gb764, 1, none⟩ (.int .i64 t763)).heap[gb741]? = some (.cells #[.slice Ao325 t737.length co325] 30 (0, 0))) := ⟨w26_⟩
          have n12_ : Aside0 (((w380.setCell ⟨gb764, 0, none⟩ (.int .i64 t762)).setCell ⟨gb764, 1, none⟩ (.int .i64 t763)).heap[gb746]? = some (.cells #[.slice Ao335 t742.length co335] 30 (0, 0))) := ⟨w27_⟩
          have n13_ : Aside0 (((w380.setCell ⟨gb764, 0, none⟩ (.int .i64 t762)).setCell ⟨gb764, 1, none⟩ (.int .i64 t763)).heap[gb752]? = some (.cells #[.int .i64 t747, .int .i64 t748, .int .i64 t749] 40 (0, 0))) := ⟨w28_⟩
          have n14_ : Aside0 (((w380.setCell ⟨gb764, 0, none⟩ (.int .i64 t762)).setCell ⟨gb764, 1, none⟩ (.int .i64 t763)).heap[gb753]? = some (.cells #[.int .i64 t750, .int .i64 t751] 25 (0, 0))) := ⟨w29_⟩
          have n15_ : Aside0 (((w380.setCell ⟨gb764, 0, none⟩ (.int .i64 t762)).setCell ⟨gb764, 1, none⟩ (.int .i64 t763)).heap[gb761]? = some (.cells #[.int .i64 t758, .int .i64 t759, .int .i64 t760] 40 (0, 0))) := ⟨w30_⟩
          have n16_ : Aside0 (((w380.setCell ⟨gb764, 0, none⟩ (.int .i64 t762)).setCell ⟨gb764, 1, none⟩ (.int .i64 t763)).heap[gb764]? = some (.cells #[.int .i64 t762, .int .i64 t763] 25 (0, 0))) := ⟨w18_⟩
          have n17_ : Aside0 (Below w.heap.size w ((w380.setCell ⟨gb764, 0, none⟩ (.int .i64 t762)).setCell ⟨gb764, 1, none⟩ (.int .i64 t763))) := ⟨w129_⟩
          clear HO716
          clear HO724
          clear HO729
          clear HO734
          clear HO739
          clear HO744
          clear BK720
          clear BK721
          clear BK726
          clear BK731
          clear BK736
          clear BK741
          clear BK746
          clear BK752
          clear BK753
          clear BK761
          clear BK764
          clear HB
          generalize ((w380.setCell ⟨gb764, 0, none⟩ (.int .i64 t762)).setCell ⟨gb764, 1, none⟩ (.int .i64 t763)) = w427 at n0_ n1_ n2_ n3_ n4_ n5_ n6_ n7_ n8_ n9_ n10_ n11_ n12_ n13_ n14_ n15_ n16_ n17_ ⊢
          have HO716 := n0_
          have HO724 := n1_
          have HO729 := n2_
          have HO734 := n3_
          have HO739 := n4_
          have HO744 := n5_
          have BK720 := n6_
          have BK721 := n7_
          have BK726 := n8_
          have BK731 := n9_
          have BK736 := n10_
          have BK741 := n11_
          have BK746 := n12_
          have BK752 := n13_
          have BK753 := n14_
          have BK761 := n15_
          have BK764 := n16_
          have HB := n17_
          clear n0_ n1_ n2_ n3_ n4_ n5_ n6_ n7_ n8_ n9_ n10_ n11_ n12_ n13_ n14_ n15_ n16_ n17_
          replace HO716 := Az_ (rdz_ HO716.out)
          replace HO724 := Az_ (rdz_ HO724.out)
          replace HO729 := Az_ (rdz_ HO729.out)
          replace HO734 := Az_ (rdz_ HO734.out)
          replace HO739 := Az_ (rdz_ HO739.out)
          replace HO744 := Az_ (rdz_ HO744.out)
          replace BK720 := Az_ (kdz_ BK720.out)
          replace BK721 := Az_ (kdz_ BK721.out)
          replace BK726 := Az_ (kdz_ BK726.out)
          replace BK731 := Az_ (kdz_ BK731.out)
          replace BK736 := Az_ (kdz_ BK736.out)
          replace BK741 := Az_ (kdz_ BK741.out)
          replace BK746 := Az_ (kdz_ BK746.out)
          replace BK752 := Az_ (kdz_ BK752.out)
          replace BK753 := Az_ (kdz_ BK753.out)
          replace BK761 := Az_ (kdz_ BK761.out)
          replace BK764 := Az_ (kdz_ BK764.out)
          replace HB := Az_ (bdz_ HB.out)
          as_aux_lemma =>
           refine start_ (n := 52) (S := fun w' => w'.cell? ⟨gb726, 0, none⟩ = some (.slice Ao302 t722.length co302) ∧ w'.cell? ⟨gb731, 0, none⟩ = some (.slice Ao310 t727.length co310) ∧ w'.cell? ⟨gb741, 0, none⟩ = some (.slice Ao325 t737.length co325) ∧ w'.cell? ⟨gb746, 0, none⟩ = some (.slice Ao335 t742.length co335) ∧ w'.cell? ⟨gb761, 0, none⟩ = some (.int .i64 t758) ∧ w'.cell? ⟨gb761, 1, none⟩ = some (.int .i64 t759) ∧ w'.cell? ⟨gb761, 2, none⟩ = some (.int .i64 t760) ∧ w'.cell? ⟨gb752, 0, none⟩ = some (.int .i64 t747) ∧ w'.cell? ⟨gb752, 1, none⟩ = some (.int .i64 t748) ∧ w'.cell? ⟨gb752, 2, none⟩ = some (.int .i64 t749) ∧ w'.cell? ⟨gb764, 0, none⟩ = some (.int .i64 t762) ∧ w'.cell? ⟨gb764, 1, none⟩ = some (.int .i64 t763)) (ds := []) #[false, false, false, false, false, false, false, false, false, false, false, false, false, false, false, false, false, false, false, false, false, false, false, false, false, false, false, false, false, false, false, false, false, false, false, false, false, false, false, false, false, false, false, false, false, false, false, false, false, false, false, false] (w204_) rfl rfl ⟨(blk_cell BK726.out 0).trans rfl, (blk_cell BK731.out 0).trans rfl, (blk_cell BK741.out 0).trans rfl, (blk_cell BK746.out 0).trans rfl, (blk_cell BK761.out 0).trans rfl, (blk_cell BK761.out 1).trans rfl, (blk_cell BK761.out 2).trans rfl, (blk_cell BK752.out 0).trans rfl, (blk_cell BK752.out 1).trans rfl, (blk_cell BK752.out 2).trans rfl, (blk_cell BK764.out 0).trans rfl, (blk_cell BK764.out 1).trans rfl⟩ (fun hHeld => ?_); refine with_tabW laws_FnBooksHidden.tab47 laws_FnBooksHidden.bits47 (fun HT_ HW_ => ?_)
           generalize w427.drew = w428 at HO716 HO724 HO729 HO734 HO739 HO744 BK720 BK721 BK726 BK731 BK736 BK741 BK746 BK752 BK753 BK761 BK764 HB hHeld ⊢
           refine pz_ 0 365 [1,51] ?_
           refine pz_ 1 366 [2,50] ?_
           refine pz_ 2 367 [3,49] ?_
           refine pz_ 3 368 [4,48] ?_
           refine take_ (i := 4) (N := some 369) (v := ?_) (a' := ?_) (mz_ [5,47]) rfl rfl (take_ofW HT_.out HW_.out (w204_)) (fun _ _ _ h => h) (Or.inl ⟨by rfl, ?_⟩) hHeld ?_ ?_
           rotate_left
           ·rintro w' ⟨s0, s1, s2, s3, s4, s5, s6, s7, s8, s9, s10, s11⟩
            go_simp
            with_reducible rfl
           rotate_left
           ·simp only [Act.put, usz_, utz_, uvz_, i64_w, i32_w]
            rfl
           refine take_ (i := 5) (N := some 370) (v := ?_) (a' := ?_) (mz_ [6,46]) rfl rfl (take_ofW HT_.out HW_.out (w204_)) (fun _ _ _ h => h) (Or.inl ⟨by rfl, ?_⟩) hHeld ?_ ?_
           rotate_left
           ·rintro w' ⟨s0, s1, s2, s3, s4, s5, s6, s7, s8, s9, s10, s11⟩
            go_simp
            with_reducible rfl
           rotate_left
           ·simp only [Act.put, usz_, utz_, uvz_, i64_w, i32_w]
            rfl
           refine one_ (i := 6) (N := some 371) (mz_ [7,45]) rfl rfl (one_of HT_.out (w204_)) (by decide) (fun K hK => ?_)
           refine goes_ Tryd.func8 (w204_) rfl #[.agg #[.slice Ao302 t722.length co302], .agg #[.slice Ao310 t727.length co310]] (by rfl) rfl rfl maz_ ?_
           with_reducible refine (laws_xPuzzle.calls kj202 _ _ t722 _ _ t727 true _ ?side1 ?side2 ?side3 ?side4 A395.out).mono ?_
           (case side1 => repeat (first | exact (Kd.R_reads' HO724.out).2.2 | (with_reducible refine Kd.C_alloc ?_ _) | (with_reducible refine Kd.C_drewN ?_ _) | (with_reducible refine Kd.C_drew ?_)))
           (case side2 => exact (Kd.R_reads' HO724.out).2.1)
           (case side3 => repeat (first | exact (Kd.R_reads' HO729.out).2.2 | (with_reducible refine Kd.C_alloc ?_ _) | (with_reducible refine Kd.C_drewN ?_ _) | (with_reducible refine Kd.C_drew ?_)))
           (case side4 => exact (Kd.R_reads' HO729.out).2.1)
           rintro e w429 ⟨rfl, hb⟩
           refine ⟨_, rfl, ?_⟩
           have n0_ := Az_ (Kd.R_below (w195_) hb)
           have n1_ := Az_ (Kd.R_below (w196_) hb)
           have n2_ := Az_ (Kd.R_below (w197_) hb)
           have n3_ := Az_ (Kd.R_below (w198_) hb)
           have n4_ := Az_ (Kd.R_below (w199_) hb)
           have n5_ := Az_ (Kd.R_below (w200_) hb)
           have n17_ := Az_ (btz_ (w129_) hb)
           clear HO716 HO724 HO729 HO734 HO739 HO744 HB
           have HO716 := n0_
           have HO724 := n1_
           have HO729 := n2_
           have HO734 := n3_
           have HO739 := n4_
           have HO744 := n5_
           replace BK720 := Az_ (ukbz_ BK720.out hb)
           replace BK721 := Az_ (ukbz_ BK721.out hb)
           replace BK726 := Az_ (ukbz_ BK726.out hb)
           replace BK731 := Az_ (ukbz_ BK731.out hb)
           replace BK736 := Az_ (ukbz_ BK736.out hb)
           replace BK741 := Az_ (ukbz_ BK741.out hb)
           replace BK746 := Az_ (ukbz_ BK746.out hb)
           replace BK752 := Az_ (ukbz_ BK752.out hb)
           replace BK753 := Az_ (ukbz_ BK753.out hb)
           replace BK761 := Az_ (ukbz_ BK761.out hb)
           replace BK764 := Az_ (ukbz_ BK764.out hb)
           have HB := n17_
           clear n0_ n1_ n2_ n3_ n4_ n5_ n17_
           clear hb
           refine hK.out _ _ ⟨(blk_cell BK726.out 0).trans rfl, (blk_cell BK731.out 0).trans rfl, (blk_cell BK741.out 0).trans rfl, (blk_cell BK746.out 0).trans rfl, (blk_cell BK761.out 0).trans rfl, (blk_cell BK761.out 1).trans rfl, (blk_cell BK761.out 2).trans rfl, (blk_cell BK752.out 0).trans rfl, (blk_cell BK752.out 1).trans rfl, (blk_cell BK752.out 2).trans rfl, (blk_cell BK764.out 0).trans rfl, (blk_cell BK764.out 1).trans rfl⟩ (fun hHeld => ?_)
           clear hK K
           refine nz_ 371 ?_
           refine pz_ 7 372 [8,44] ?_
           refine pz_ 8 373 [9,43] ?_
           refine pz_ 9 374 [10,42] ?_
           refine pz_ 10 375 [11,41] ?_
           refine pz_ 11 376 [12,40] ?_
           refine pz_ 12 377 [13,39] ?_
           refine pz_ 13 378 [14,38] ?_
           refine pz_ 14 379 [15,37] ?_
           refine take_ (i := 15) (N := some 380) (v := ?_) (a' := ?_) (mz_ [16,36]) rfl rfl (take_ofW HT_.out HW_.out (w204_)) (fun _ _ _ h => h) (Or.inl ⟨by rfl, ?_⟩) hHeld ?_ ?_
           rotate_left
           ·rintro w' ⟨s0, s1, s2, s3, s4, s5, s6, s7, s8, s9, s10, s11⟩
            go_simp
            with_reducible rfl
           rotate_left
           ·simp only [Act.put, usz_, utz_, uvz_, i64_w, i32_w]
            rfl
           refine take_ (i := 16) (N := some 381) (v := ?_) (a' := ?_) (mz_ [17,35]) rfl rfl (take_ofW HT_.out HW_.out (w204_)) (fun _ _ _ h => h) (Or.inl ⟨by rfl, ?_⟩) hHeld ?_ ?_
           rotate_left
           ·rintro w' ⟨s0, s1, s2, s3, s4, s5, s6, s7, s8, s9, s10, s11⟩
            go_simp
            with_reducible rfl
           rotate_left
           ·simp only [Act.put, usz_, utz_, uvz_, i64_w, i32_w]
            rfl
           refine one_ (i := 17) (N := some 382) (mz_ [18,34]) rfl rfl (one_of HT_.out (w204_)) (by decide) (fun K hK => ?_)
           refine goes_ Tryd.func8 (w204_) rfl #[.agg #[.slice Ao325 t737.length co325], .agg #[.slice Ao335 t742.length co335]] (by rfl) rfl rfl maz_ ?_
           with_reducible refine (laws_xPuzzle.calls kj202 _ _ t737 _ _ t742 true _ ?side1 ?side2 ?side3 ?side4 A401.out).mono ?_
           (case side1 => repeat (first | exact (Kd.R_reads' HO739.out).2.2 | (with_reducible refine Kd.C_alloc ?_ _) | (with_reducible refine Kd.C_drewN ?_ _) | (with_reducible refine Kd.C_drew ?_)))
           (case side2 => exact (Kd.R_reads' HO739.out).2.1)
           (case side3 => repeat (first | exact (Kd.R_reads' HO744.out).2.2 | (with_reducible refine Kd.C_alloc ?_ _) | (with_reducible refine Kd.C_drewN ?_ _) | (with_reducible refine Kd.C_drew ?_)))
           (case side4 => exact (Kd.R_reads' HO744.out).2.1)
           rintro e w430 ⟨rfl, hb⟩
           refine ⟨_, rfl, ?_⟩
           have n0_ := Az_ (Kd.R_below (w195_) hb)
           have n1_ := Az_ (Kd.R_below (w196_) hb)
           have n2_ := Az_ (Kd.R_below (w197_) hb)
           have n3_ := Az_ (Kd.R_below (w198_) hb)
           have n4_ := Az_ (Kd.R_below (w199_) hb)
           have n5_ := Az_ (Kd.R_below (w200_) hb)
           have n17_ := Az_ (btz_ (w129_) hb)
           clear HO716 HO724 HO729 HO734 HO739 HO744 HB
           have HO716 := n0_
           have HO724 := n1_
           have HO729 := n2_
           have HO734 := n3_
           have HO739 := n4_
           have HO744 := n5_
           replace BK720 := Az_ (ukbz_ BK720.out hb)
           replace BK721 := Az_ (ukbz_ BK721.out hb)
           replace BK726 := Az_ (ukbz_ BK726.out hb)
           replace BK731 := Az_ (ukbz_ BK731.out hb)
           replace BK736 := Az_ (ukbz_ BK736.out hb)
           replace BK741 := Az_ (ukbz_ BK741.out hb)
           replace BK746 := Az_ (ukbz_ BK746.out hb)
           replace BK752 := Az_ (ukbz_ BK752.out hb)
           replace BK753 := Az_ (ukbz_ BK753.out hb)
           replace BK761 := Az_ (ukbz_ BK761.out hb)
           replace BK764 := Az_ (ukbz_ BK764.out hb)
           have HB := n17_
           clear n0_ n1_ n2_ n3_ n4_ n5_ n17_
           clear hb
           refine hK.out _ _ ⟨(blk_cell BK726.out 0).trans rfl, (blk_cell BK731.out 0).trans rfl, (blk_cell BK741.out 0).trans rfl, (blk_cell BK746.out 0).trans rfl, (blk_cell BK761.out 0).trans rfl, (blk_cell BK761.out 1).trans rfl, (blk_cell BK761.out 2).trans rfl, (blk_cell BK752.out 0).trans rfl, (blk_cell BK752.out 1).trans rfl, (blk_cell BK752.out 2).trans rfl, (blk_cell BK764.out 0).trans rfl, (blk_cell BK764.out 1).trans rfl⟩ (fun hHeld => ?_)
           clear hK K
           refine nz_ 382 ?_
           refine pz_ 18 383 [19,33] ?_
           refine pz_ 19 384 [20,32] ?_
           refine pz_ 20 385 [21,31] ?_
           refine pz_ 21 386 [22,30] ?_
           refine pz_ 22 387 [23,29] ?_
           refine pz_ 23 388 [24,28] ?_
           refine pz_ 24 389 [25,27] ?_
           refine pz_ 25 390 [26,26] ?_
           refine pz_ 26 391 [27,25] ?_
           refine pz_ 27 392 [28,24] ?_
           refine pz_ 28 393 [29,23] ?_
           refine pz_ 29 394 [30,22] ?_
           refine pz_ 30 395 [31,21] ?_
           refine take_ (i := 31) (N := some 396) (v := ?_) (a' := ?_) (mz_ [32,20]) rfl rfl (take_ofW HT_.out HW_.out (w204_)) (fun _ _ _ h => h) (Or.inl ⟨by rfl, ?_⟩) hHeld ?_ ?_
           rotate_left
           ·rintro w' ⟨s0, s1, s2, s3, s4, s5, s6, s7, s8, s9, s10, s11⟩
            go_simp
            with_reducible rfl
           rotate_left
           ·simp only [Act.put, usz_, utz_, uvz_, i64_w, i32_w]
            rfl
           refine take_ (i := 33) (N := some 398) (v := ?_) (a' := ?_) (mz_ [32,1,1,18]) rfl rfl (take_ofW HT_.out HW_.out (w204_)) (fun _ _ _ h => h) (Or.inl ⟨by rfl, ?_⟩) hHeld ?_ ?_
           rotate_left
           ·rintro w' ⟨s0, s1, s2, s3, s4, s5, s6, s7, s8, s9, s10, s11⟩
            go_simp
            with_reducible rfl
           rotate_left
           ·simp only [Act.put, usz_, utz_, uvz_, i64_w, i32_w]
            rfl
           refine one_ (i := 32) (N := some 397) (mz_ [34,18]) rfl rfl (one_of HT_.out (w204_)) (by decide) (fun K hK => ?_)
           refine goes_ Tryd.func33 (w204_) rfl #[.agg #[.int .i64 t758, .int .i64 t759, .int .i64 t760]] (by rfl) rfl rfl maz_ ?_
           with_reducible refine (impl_IsClue.calls kj202 t758 t759 t760 t767 _ A413.out).mono ?_
           rintro e w431 ⟨rfl, hb⟩
           refine ⟨_, rfl, ?_⟩
           have n0_ := Az_ (Kd.R_below (w195_) hb)
           have n1_ := Az_ (Kd.R_below (w196_) hb)
           have n2_ := Az_ (Kd.R_below (w197_) hb)
           have n3_ := Az_ (Kd.R_below (w198_) hb)
           have n4_ := Az_ (Kd.R_below (w199_) hb)
           have n5_ := Az_ (Kd.R_below (w200_) hb)
           have n17_ := Az_ (btz_ (w129_) hb)
           clear HO716 HO724 HO729 HO734 HO739 HO744 HB
           have HO716 := n0_
           have HO724 := n1_
           have HO729 := n2_
           have HO734 := n3_
           have HO739 := n4_
           have HO744 := n5_
           replace BK720 := Az_ (ukbz_ BK720.out hb)
           replace BK721 := Az_ (ukbz_ BK721.out hb)
           replace BK726 := Az_ (ukbz_ BK726.out hb)
           replace BK731 := Az_ (ukbz_ BK731.out hb)
           replace BK736 := Az_ (ukbz_ BK736.out hb)
           replace BK741 := Az_ (ukbz_ BK741.out hb)
           replace BK746 := Az_ (ukbz_ BK746.out hb)
           replace BK752 := Az_ (ukbz_ BK752.out hb)
           replace BK753 := Az_ (ukbz_ BK753.out hb)
           replace BK761 := Az_ (ukbz_ BK761.out hb)
           replace BK764 := Az_ (ukbz_ BK764.out hb)
           have HB := n17_
           clear n0_ n1_ n2_ n3_ n4_ n5_ n17_
           clear hb
           refine hK.out _ _ ⟨(blk_cell BK726.out 0).trans rfl, (blk_cell BK731.out 0).trans rfl, (blk_cell BK741.out 0).trans rfl, (blk_cell BK746.out 0).trans rfl, (blk_cell BK761.out 0).trans rfl, (blk_cell BK761.out 1).trans rfl, (blk_cell BK761.out 2).trans rfl, (blk_cell BK752.out 0).trans rfl, (blk_cell BK752.out 1).trans rfl, (blk_cell BK752.out 2).trans rfl, (blk_cell BK764.out 0).trans rfl, (blk_cell BK764.out 1).trans rfl⟩ (fun hHeld => ?_)
           clear hK K
           refine nz_ 397 ?_
           refine one_ (i := 34) (N := some 399) (mz_ [35,17]) rfl rfl (one_of HT_.out (w204_)) (by decide) (fun K hK => ?_)
           refine goes_ Tryd.func34 (w204_) rfl #[.agg #[.int .i64 t758, .int .i64 t759, .int .i64 t760]] (by rfl) rfl rfl maz_ ?_
           with_reducible refine (spec_IsClue.calls kj202 t758 t759 t760 t767 _ A414.out).mono ?_
           rintro e w432 ⟨rfl, hb⟩
           refine ⟨_, rfl, ?_⟩
           have n0_ := Az_ (Kd.R_below (w195_) hb)
           have n1_ := Az_ (Kd.R_below (w196_) hb)
           have n2_ := Az_ (Kd.R_below (w197_) hb)
           have n3_ := Az_ (Kd.R_below (w198_) hb)
           have n4_ := Az_ (Kd.R_below (w199_) hb)
           have n5_ := Az_ (Kd.R_below (w200_) hb)
           have n17_ := Az_ (btz_ (w129_) hb)
           clear HO716 HO724 HO729 HO734 HO739 HO744 HB
           have HO716 := n0_
           have HO724 := n1_
           have HO729 := n2_
           have HO734 := n3_
           have HO739 := n4_
           have HO744 := n5_
           replace BK720 := Az_ (ukbz_ BK720.out hb)
           replace BK721 := Az_ (ukbz_ BK721.out hb)
           replace BK726 := Az_ (ukbz_ BK726.out hb)
           replace BK731 := Az_ (ukbz_ BK731.out hb)
           replace BK736 := Az_ (ukbz_ BK736.out hb)
           replace BK741 := Az_ (ukbz_ BK741.out hb)
           replace BK746 := Az_ (ukbz_ BK746.out hb)
           replace BK752 := Az_ (ukbz_ BK752.out hb)
           replace BK753 := Az_ (ukbz_ BK753.out hb)
           replace BK761 := Az_ (ukbz_ BK761.out hb)
           replace BK764 := Az_ (ukbz_ BK764.out hb)
           have HB := n17_
           clear n0_ n1_ n2_ n3_ n4_ n5_ n17_
           clear hb
           refine hK.out _ _ ⟨(blk_cell BK726.out 0).trans rfl, (blk_cell BK731.out 0).trans rfl, (blk_cell BK741.out 0).trans rfl, (blk_cell BK746.out 0).trans rfl, (blk_cell BK761.out 0).trans rfl, (blk_cell BK761.out 1).trans rfl, (blk_cell BK761.out 2).trans rfl, (blk_cell BK752.out 0).trans rfl, (blk_cell BK752.out 1).trans rfl, (blk_cell BK752.out 2).trans rfl, (blk_cell BK764.out 0).trans rfl, (blk_cell BK764.out 1).trans rfl⟩ (fun hHeld => ?_)
           clear hK K
           refine nz_ 399 ?_
           refine pz_ 35 400 [36,16] ?_
           refine pz_ 36 401 [37,15] ?_
           refine pz_ 37 402 [38,14] ?_
           refine pz_ 38 403 [39,13] ?_
           refine pz_ 39 404 [40,12] ?_
           refine take_ (i := 40) (N := some 405) (v := ?_) (a' := ?_) (mz_ [41,11]) rfl rfl (take_ofW HT_.out HW_.out (w204_)) (fun _ _ _ h => h) (Or.inl ⟨by rfl, ?_⟩) hHeld ?_ ?_
           rotate_left
           ·rintro w' ⟨s0, s1, s2, s3, s4, s5, s6, s7, s8, s9, s10, s11⟩
            go_simp
            with_reducible rfl
           rotate_left
           ·simp only [Act.put, usz_, utz_, uvz_, i64_w, i32_w]
            rfl
           refine one_ (i := 41) (N := some 406) (mz_ [42,10]) rfl rfl (one_of HT_.out (w204_)) (by decide) (fun K hK => ?_)
           refine goes_ Tryd.func33 (w204_) rfl #[.agg #[.int .i64 t747, .int .i64 t748, .int .i64 t749]] (by rfl) rfl rfl maz_ ?_
           with_reducible refine (impl_IsClue.calls kj202 t747 t748 t749 true _ A423.out).mono ?_
           rintro e w433 ⟨rfl, hb⟩
           refine ⟨_, rfl, ?_⟩
           have n0_ := Az_ (Kd.R_below (w195_) hb)
           have n1_ := Az_ (Kd.R_below (w196_) hb)
           have n2_ := Az_ (Kd.R_below (w197_) hb)
           have n3_ := Az_ (Kd.R_below (w198_) hb)
           have n4_ := Az_ (Kd.R_below (w199_) hb)
           have n5_ := Az_ (Kd.R_below (w200_) hb)
           have n17_ := Az_ (btz_ (w129_) hb)
           clear HO716 HO724 HO729 HO734 HO739 HO744 HB
           have HO716 := n0_
           have HO724 := n1_
           have HO729 := n2_
           have HO734 := n3_
           have HO739 := n4_
           have HO744 := n5_
           replace BK720 := Az_ (ukbz_ BK720.out hb)
           replace BK721 := Az_ (ukbz_ BK721.out hb)
           replace BK726 := Az_ (ukbz_ BK726.out hb)
           replace BK731 := Az_ (ukbz_ BK731.out hb)
           replace BK736 := Az_ (ukbz_ BK736.out hb)
           replace BK741 := Az_ (ukbz_ BK741.out hb)
           replace BK746 := Az_ (ukbz_ BK746.out hb)
           replace BK752 := Az_ (ukbz_ BK752.out hb)
           replace BK753 := Az_ (ukbz_ BK753.out hb)
           replace BK761 := Az_ (ukbz_ BK761.out hb)
           replace BK764 := Az_ (ukbz_ BK764.out hb)
           have HB := n17_
           clear n0_ n1_ n2_ n3_ n4_ n5_ n17_
           clear hb
           refine hK.out _ _ ⟨(blk_cell BK726.out 0).trans rfl, (blk_cell BK731.out 0).trans rfl, (blk_cell BK741.out 0).trans rfl, (blk_cell BK746.out 0).trans rfl, (blk_cell BK761.out 0).trans rfl, (blk_cell BK761.out 1).trans rfl, (blk_cell BK761.out 2).trans rfl, (blk_cell BK752.out 0).trans rfl, (blk_cell BK752.out 1).trans rfl, (blk_cell BK752.out 2).trans rfl, (blk_cell BK764.out 0).trans rfl, (blk_cell BK764.out 1).trans rfl⟩ (fun hHeld => ?_)
           clear hK K
           refine nz_ 406 ?_
           refine pz_ 42 407 [43,9] ?_
           refine pz_ 43 408 [44,8] ?_
           refine pz_ 44 409 [45,7] ?_
           refine pz_ 45 410 [46,6] ?_
           refine take_ (i := 46) (N := some 411) (v := ?_) (a' := ?_) (mz_ [47,5]) rfl rfl (take_ofW HT_.out HW_.out (w204_)) (fun _ _ _ h => h) (Or.inl ⟨by rfl, ?_⟩) hHeld ?_ ?_
           rotate_left
           ·rintro w' ⟨s0, s1, s2, s3, s4, s5, s6, s7, s8, s9, s10, s11⟩
            go_simp
            with_reducible rfl
           rotate_left
           ·simp only [Act.put, usz_, utz_, uvz_, i64_w, i32_w]
            rfl
           refine take_ (i := 48) (N := some 413) (v := ?_) (a' := ?_) (mz_ [47,1,1,3]) rfl rfl (take_ofW HT_.out HW_.out (w204_)) (fun _ _ _ h => h) (Or.inl ⟨by rfl, ?_⟩) hHeld ?_ ?_
           rotate_left
           ·rintro w' ⟨s0, s1, s2, s3, s4, s5, s6, s7, s8, s9, s10, s11⟩
            go_simp
            with_reducible rfl
           rotate_left
           ·simp only [Act.put, usz_, utz_, uvz_, i64_w, i32_w]
            rfl
           refine one_ (i := 47) (N := some 412) (mz_ [49,3]) rfl rfl (one_of HT_.out (w204_)) (by decide) (fun K hK => ?_)
           refine goes_ Tryd.func9 (w204_) rfl #[.agg #[.int .i64 t762, .int .i64 t763]] (by rfl) rfl rfl maz_ ?_
           with_reducible refine (impl_IsHidden.calls t762 t763 t770 _ A425.out).mono ?_
           rintro e w434 ⟨rfl, hb⟩
           refine ⟨_, rfl, ?_⟩
           have n0_ := Az_ (Kd.R_below (w195_) hb)
           have n1_ := Az_ (Kd.R_below (w196_) hb)
           have n2_ := Az_ (Kd.R_below (w197_) hb)
           have n3_ := Az_ (Kd.R_below (w198_) hb)
           have n4_ := Az_ (Kd.R_below (w199_) hb)
           have n5_ := Az_ (Kd.R_below (w200_) hb)
           have n17_ := Az_ (btz_ (w129_) hb)
           clear HO716 HO724 HO729 HO734 HO739 HO744 HB
           have HO716 := n0_
           have HO724 := n1_
           have HO729 := n2_
           have HO734 := n3_
           have HO739 := n4_
           have HO744 := n5_
           replace BK720 := Az_ (ukbz_ BK720.out hb)
           replace BK721 := Az_ (ukbz_ BK721.out hb)
           replace BK726 := Az_ (ukbz_ BK726.out hb)
           replace BK731 := Az_ (ukbz_ BK731.out hb)
           replace BK736 := Az_ (ukbz_ BK736.out hb)
           replace BK741 := Az_ (ukbz_ BK741.out hb)
           replace BK746 := Az_ (ukbz_ BK746.out hb)
           replace BK752 := Az_ (ukbz_ BK752.out hb)
           replace BK753 := Az_ (ukbz_ BK753.out hb)
           replace BK761 := Az_ (ukbz_ BK761.out hb)
           replace BK764 := Az_ (ukbz_ BK764.out hb)
           have HB := n17_
           clear n0_ n1_ n2_ n3_ n4_ n5_ n17_
           clear hb
           refine hK.out _ _ ⟨(blk_cell BK726.out 0).trans rfl, (blk_cell BK731.out 0).trans rfl, (blk_cell BK741.out 0).trans rfl, (blk_cell BK746.out 0).trans rfl, (blk_cell BK761.out 0).trans rfl, (blk_cell BK761.out 1).trans rfl, (blk_cell BK761.out 2).trans rfl, (blk_cell BK752.out 0).trans rfl, (blk_cell BK752.out 1).trans rfl, (blk_cell BK752.out 2).trans rfl, (blk_cell BK764.out 0).trans rfl, (blk_cell BK764.out 1).trans rfl⟩ (fun hHeld => ?_)
           clear hK K
           refine nz_ 412 ?_
           refine one_ (i := 49) (N := some 414) (mz_ [50,2]) rfl rfl (one_of HT_.out (w204_)) (by decide) (fun K hK => ?_)
           refine goes_ Tryd.func10 (w204_) rfl #[.agg #[.int .i64 t762, .int .i64 t763]] (by rfl) rfl rfl maz_ ?_
           with_reducible refine (spec_IsHidden.calls t762 t763 t771 _ A426.out).mono ?_
           rintro e w435 ⟨rfl, hb⟩
           refine ⟨_, rfl, ?_⟩
           have n0_ := Az_ (Kd.R_below (w195_) hb)
           have n1_ := Az_ (Kd.R_below (w196_) hb)
           have n2_ := Az_ (Kd.R_below (w197_) hb)
           have n3_ := Az_ (Kd.R_below (w198_) hb)
           have n4_ := Az_ (Kd.R_below (w199_) hb)
           have n5_ := Az_ (Kd.R_below (w200_) hb)
           have n17_ := Az_ (btz_ (w129_) hb)
           clear HO716 HO724 HO729 HO734 HO739 HO744 HB
           have HO716 := n0_
           have HO724 := n1_
           have HO729 := n2_
           have HO734 := n3_
           have HO739 := n4_
           have HO744 := n5_
           replace BK720 := Az_ (ukbz_ BK720.out hb)
           replace BK721 := Az_ (ukbz_ BK721.out hb)
           replace BK726 := Az_ (ukbz_ BK726.out hb)
           replace BK731 := Az_ (ukbz_ BK731.out hb)
           replace BK736 := Az_ (ukbz_ BK736.out hb)
           replace BK741 := Az_ (ukbz_ BK741.out hb)
           replace BK746 := Az_ (ukbz_ BK746.out hb)
           replace BK752 := Az_ (ukbz_ BK752.out hb)
           replace BK753 := Az_ (ukbz_ BK753.out hb)
           replace BK761 := Az_ (ukbz_ BK761.out hb)
           replace BK764 := Az_ (ukbz_ BK764.out hb)
           have HB := n17_
           clear n0_ n1_ n2_ n3_ n4_ n5_ n17_
           clear hb
           refine hK.out _ _ ⟨(blk_cell BK726.out 0).trans rfl, (blk_cell BK731.out 0).trans rfl, (blk_cell BK741.out 0).trans rfl, (blk_cell BK746.out 0).trans rfl, (blk_cell BK761.out 0).trans rfl, (blk_cell BK761.out 1).trans rfl, (blk_cell BK761.out 2).trans rfl, (blk_cell BK752.out 0).trans rfl, (blk_cell BK752.out 1).trans rfl, (blk_cell BK752.out 2).trans rfl, (blk_cell BK764.out 0).trans rfl, (blk_cell BK764.out 1).trans rfl⟩ (fun hHeld => ?_)
           clear hK K
           refine nz_ 414 ?_
           refine pz_ 50 415 [51,1] ?_
           refine pz_ 51 416 [52] ?_
           refine done_ (done_of HT_.out (w204_)) ?_
           try go_wp2
           go_meet
           case rel => exact ⟨_, ((t770 != t771)), qaz_, H', ⟨by have := HJ7.out; have := HJ54.out; have := HJ160.out; have := HJ202.out; first | omega | exact Nat.le_refl _⟩, ⟨w118_⟩, ⟨w119_⟩, ⟨w122_⟩, ⟨w123_⟩, ⟨by (with_reducible repeat (first | refine knz_ ?_ _ | refine kdz_ ?_ | refine kaz_ ?_ _)); exact BK720.out⟩, ⟨by (with_reducible repeat (first | refine knz_ ?_ _ | refine kdz_ ?_ | refine kaz_ ?_ _)); exact BK721.out⟩, ⟨by (with_reducible repeat (first | refine knz_ ?_ _ | refine kdz_ ?_ | refine kaz_ ?_ _)); exact BK726.out⟩, ⟨w163_⟩, ⟨w164_⟩, ⟨w129_⟩⟩
         case rest => as_aux_lemma =>
          clear HC292
          obtain ⟨kq, x416_291, rfl, HA, HJ291, HO_721000, HO_727000, HO_737000, HO_742000, BK720, BK721, BK726, BK736, BK741, HB⟩ := hcut
          cases kq with
          | zero => exact absurd HA.out (by simp [j6])
          | succ kj291 =>
           have H := HA.out
           clear HA
           simp only [j6] at H
           by_cases c460 : x416_291 = true
           ·subst c460
            rw [if_pos rfl] at H
            exact absurd ((Option.some.inj H).trans hrT) (by decide)
           replace c460 := Bool.eq_false_iff.mpr c460
           subst c460
           rw [if_neg nfz_] at H
           have HC461 := Az_ H
           clear H
           go_upto_if 417 with (fail)
           go_cut [] from 1 to 0 (fun wc => ∃ (kq : Nat), Aside0 (j7 kq t735 t740 t732 t737 = some r) ∧ Aside0 (kq ≤ kj291) ∧ Aside0 (Kd.R k40 40 wc w.heap.size (fun k_ => some k_ ≠ ((.slice Ao325 t737.length co325) : Value).ownBlock) (.slice Ao317 t732.length co317) t732) ∧ Aside0 (Kd.R k40 40 wc w.heap.size (fun k_ => some k_ ≠ ((.slice Ao317 t732.length co317) : Value).ownBlock) (.slice Ao325 t737.length co325) t737) ∧ Aside0 (wc.heap[gb736]? = some (.cells #[(.slice Ao317 t732.length co317)] 30 (0, 0))) ∧ Aside0 (wc.heap[gb741]? = some (.cells #[(.slice Ao325 t737.length co325)] 30 (0, 0))) ∧ Aside0 (Below w.heap.size w wc))
           case first => as_aux_lemma =>
            have H := HC461.out
            clear HC461
            by_cases c462 : t725 = true; rotate_left
            ·replace c462 := Bool.eq_false_iff.mpr c462
             subst c462
             rw [if_neg nfz_] at H
             have H' := Az_ H
             clear H
             go_wp2
             go_meet
             case rel => exact ⟨_, H', ⟨w140_⟩, ⟨w141_⟩, ⟨w142_⟩, ⟨w163_⟩, ⟨w164_⟩, ⟨w129_⟩⟩
            subst c462
            rw [if_pos rfl] at H
            replace H := bqz_ H; obtain ⟨⟨t774, t777⟩, A463, H⟩ := H
            replace H : (if t777 = true then ((laws_xPuzzle.f kj291 t774 t714).bind fun t779 => (if t779 = true then (if 0 ≤ (t714.length : Int) then (if (t714.length : Int) < (t722.length : Int) then (if (!(((rd_T40 t722 (t714.length : Int)).f0) == t717) || (!(((rd_T40 t722 (t714.length : Int)).f1) == t718) || (!(((rd_T40 t722 (t714.length : Int)).f2) == t719)))) = true then (some false) else (j7 kj291 t735 t740 t732 t737)) else (none)) else (none)) else (some false))) else (some false)) = some r := H
            by_cases c464 : t777 = true; rotate_left
            ·replace c464 := Bool.eq_false_iff.mpr c464
             subst c464
             rw [if_neg nfz_] at H
             exact absurd ((Option.some.inj H).trans hrT) (by decide)
            subst c464
            rw [if_pos rfl] at H
            replace H := bqz_ H; obtain ⟨t779, A465, H⟩ := H
            replace H : (if t779 = true then (if 0 ≤ (t714.length : Int) then (if (t714.length : Int) < (t722.length : Int) then (if (!(((rd_T40 t722 (t714.length : Int)).f0) == t717) || (!(((rd_T40 t722 (t714.length : Int)).f1) == t718) || (!(((rd_T40 t722 (t714.length : Int)).f2) == t719)))) = true then (some false) else (j7 kj291 t735 t740 t732 t737)) else (none)) else (none)) else (some false)) = some r := H
            by_cases c466 : t779 = true; rotate_left
            ·replace c466 := Bool.eq_false_iff.mpr c466
             subst c466
             rw [if_neg nfz_] at H
             exact absurd ((Option.some.inj H).trans hrT) (by decide)
            subst c466
            rw [if_pos rfl] at H
            by_cases c467 : 0 ≤ (t714.length : Int); rotate_left
            ·rw [if_neg c467] at H
             exact absurd H (by simp)
            rw [if_pos c467] at H
            have c467b0 := decide_eq_true c467
            have c467b1 : decide (0 ≤ t714.length) = true := decide_eq_true (by omega)
            clear c467
            (first | rw [c467b0] | (simp only [i64_w, i32_w]; rw [c467b0]) | skip)
            by_cases c468 : (t714.length : Int) < (t722.length : Int); rotate_left
            ·rw [if_neg c468] at H
             exact absurd H (by simp)
            rw [if_pos c468] at H
            have c468b0 := decide_eq_true c468
            have c468b1 : decide (t714.length < t722.length) = true := decide_eq_true (Int.ofNat_lt.mp c468)
            clear c468
            by_cases c469 : (!(((rd_T40 t722 (t714.length : Int)).f0) == t717) || (!(((rd_T40 t722 (t714.length : Int)).f1) == t718) || (!(((rd_T40 t722 (t714.length : Int)).f2) == t719)))) = true
            ·rw [if_pos c469] at H
             have c469b0 : (!(((rd_T40 t722 (t714.length : Int)).f0) == t717) || (!(((rd_T40 t722 (t714.length : Int)).f1) == t718) || (!(((rd_T40 t722 (t714.length : Int)).f2) == t719)))) = true := c469
             clear c469
             exact absurd ((Option.some.inj H).trans hrT) (by decide)
            rw [if_neg c469] at H
            have c469b0 : (!(((rd_T40 t722 (t714.length : Int)).f0) == t717) || (!(((rd_T40 t722 (t714.length : Int)).f1) == t718) || (!(((rd_T40 t722 (t714.length : Int)).f2) == t719)))) = false := by simpa using c469
            clear c469
            have H' := Az_ H
            clear H
            have hnb491 := NB726_720.out
            have hnc491 := NB720_726.out
            have hnb492 := NB726_721.out
            have hnc492 := NB721_726.out
            have hnb493 := NB726_736.out
            have hnc493 := NB736_726.out
            have hnb494 := NB726_741.out
            have hnc494 := NB741_726.out
            have hcz495_0 := cz_ (x := .slice Ao302 t722.length co302) BK726 0
            have hfz495_0 := blk_frozen BK726.out 0
            have hnb496 := NB720_721.out
            have hnc496 := NB721_720.out
            have hnb497 := NB720_736.out
            have hnc497 := NB736_720.out
            have hnb498 := NB720_741.out
            have hnc498 := NB741_720.out
            have hcz499_0 := cz_ (x := .slice Ao296 t714.length co296) BK720 0
            have hfz499_0 := blk_frozen BK720.out 0
            try go_wp2_with (first | ((with_reducible refine gate_callee (f := 27) rfl ?_); refine goesL_ (some 423) rfl rfl Tryd.func27 (w204_) rfl #[.agg #[.slice Ao302 t722.length co302], .int .i64 (t714.length : Int)] rfl maz_ ?_; (with_reducible refine (impl_DropClue.calls _ _ t722 (t714.length : Int) t774 true _ ?side1 ?side2 A463.out).mono ?_); (case side1 => exact ucz_ ((Kd.R_reads' HO_727000.out).2.2)); (case side2 => exact (Kd.R_reads' HO_727000.out).2.1); rintro e w500 ⟨v775, rfl, ho0, hb⟩; refine ⟨_, rfl, ?_⟩; have n0_ := Az_ (rez_ (by exact urz_ HO_721000.out) (Kd.R_base ho0) hb); have n1_ := Az_ (rez_ (by exact urz_ HO_727000.out) (Kd.R_base ho0) hb); have n2_ := Az_ (rez_ (w175_) (Kd.R_base ho0) hb); have n3_ := Az_ (rez_ (w176_) (Kd.R_base ho0) hb); have n4_ := Az_ (Kd.R_lower (Kd.R_newB (Kd.R_new' (Kd.R_new' (Kd.R_new' (Kd.R_new' ho0 (Kd.R_lt (by exact urz_ HO_721000.out))) (Kd.R_lt (by exact urz_ HO_727000.out))) (Kd.R_lt (w175_))) (Kd.R_lt (w176_))) (g := gb721) (o := .cells #[.int .i64 t717, .int .i64 t718, .int .i64 t719] 40 (0, 0)) (by exact ukz_ BK721.out)) (below_size (w129_))); have n10_ := Az_ (btz_ (w129_) hb); clear HO_721000; clear HO_727000; clear HO_737000; clear HO_742000; clear HB; have HO_721000 := n0_; have HO_727000 := n1_; have HO_737000 := n2_; have HO_742000 := n3_; have HO776 := n4_; replace BK720 := Az_ (ukbz_ BK720.out hb); replace BK721 := Az_ (ukbz_ BK721.out hb); replace BK726 := Az_ (ukbz_ BK726.out hb); replace BK736 := Az_ (ukbz_ BK736.out hb); replace BK741 := Az_ (ukbz_ BK741.out hb); have HB := n10_; clear n0_ n1_ n2_ n3_ n4_ n10_; (try clear hb); (try clear ho0)) | ((with_reducible refine gate_dst (N := 61) rfl ?_); (try (refine gate_guard (by rfl) ?_; dsimp only)); refine bxe_ (N := 61) (cs := #[.slice none 0 0]) (t := 30) ?_; intro gb778 hg w501 BK778 hb; obtain ⟨NB720_778, NB778_720⟩ := nez_ BK720 hg; obtain ⟨NB721_778, NB778_721⟩ := nez_ BK721 hg; obtain ⟨NB726_778, NB778_726⟩ := nez_ BK726 hg; obtain ⟨NB736_778, NB778_736⟩ := nez_ BK736 hg; obtain ⟨NB741_778, NB778_741⟩ := nez_ BK741 hg; have GW778 : Aside0 (w.heap.size ≤ gb778) := gez_ hg (w129_); have GE778 := GW778; replace HO_721000 := Az_ (Kd.R_below (by exact urz_ HO_721000.out) hb); replace HO_727000 := Az_ (Kd.R_below (by exact urz_ HO_727000.out) hb); replace HO_737000 := Az_ (Kd.R_below (w175_) hb); replace HO_742000 := Az_ (Kd.R_below (w176_) hb); replace HO776 := Az_ (Kd.R_below (by exact urz_ HO776.out) hb); replace HB := Az_ (btz_ (w129_) hb); replace BK720 := Az_ (ukbz_ BK720.out hb); replace BK721 := Az_ (ukbz_ BK721.out hb); replace BK726 := Az_ (ukbz_ BK726.out hb); replace BK736 := Az_ (ukbz_ BK736.out hb); replace BK741 := Az_ (ukbz_ BK741.out hb); clear hb hg; obtain ⟨Ao502, co502, eo502⟩ := Kd.R_slice HO776.out; subst eo502; have hnb503 := NB778_720.out; have hnc503 := NB720_778.out; have hnb504 := NB778_721.out; have hnc504 := NB721_778.out; have hnb505 := NB778_726.out; have hnc505 := NB726_778.out; have hnb506 := NB778_736.out; have hnc506 := NB736_778.out; have hnb507 := NB778_741.out; have hnc507 := NB741_778.out; have hcz508_0 := cz_ (x := .slice none 0 0) BK778 0; have hfz508_0 := blk_frozen BK778.out 0))
            have n0_ : Aside0 (Kd.R k40 40 (w501.setCell ⟨gb778, 0, none⟩ (.slice Ao502 t774.length co502)) w.heap.size (fun k_ => some k_ ≠ (.slice Ao302 t722.length co302 : Value).ownBlock ∧ some k_ ≠ (.slice Ao317 t732.length co317 : Value).ownBlock ∧ some k_ ≠ (.slice Ao325 t737.length co325 : Value).ownBlock ∧ some k_ ≠ (.slice Ao502 t774.length co502 : Value).ownBlock ∧ k_ ≠ gb721) (.slice Ao296 t714.length co296) t714) := ⟨by (with_reducible repeat (first | apply raz_ | apply rnz_ | apply rdz_)); exact Kd.R_mono (Kd.R_far (p := ⟨gb778, 0, none⟩) (Kd.R_types HO_721000.out BK778.out (by decide)) (fun _ hk => hk.2) (.slice Ao502 t774.length co502)) (fun _ hk => ⟨hk.1.1.1, ⟨hk.1.1.2.1, ⟨hk.1.1.2.2.1, ⟨hk.1.2, hk.1.1.2.2.2⟩⟩⟩⟩)⟩
            have n1_ : Aside0 (Kd.R k40 40 (w501.setCell ⟨gb778, 0, none⟩ (.slice Ao502 t774.length co502)) w.heap.size (fun k_ => some k_ ≠ (.slice Ao296 t714.length co296 : Value).ownBlock ∧ some k_ ≠ (.slice Ao317 t732.length co317 : Value).ownBlock ∧ some k_ ≠ (.slice Ao325 t737.length co325 : Value).ownBlock ∧ some k_ ≠ (.slice Ao502 t774.length co502 : Value).ownBlock ∧ k_ ≠ gb721) (.slice Ao302 t722.length co302) t722) := ⟨by (with_reducible repeat (first | apply raz_ | apply rnz_ | apply rdz_)); exact Kd.R_mono (Kd.R_far (p := ⟨gb778, 0, none⟩) (Kd.R_types HO_727000.out BK778.out (by decide)) (fun _ hk => hk.2) (.slice Ao502 t774.length co502)) (fun _ hk => ⟨hk.1.1.1, ⟨hk.1.1.2.1, ⟨hk.1.1.2.2.1, ⟨hk.1.2, hk.1.1.2.2.2⟩⟩⟩⟩)⟩
            have n2_ : Aside0 (Kd.R k40 40 (w501.setCell ⟨gb778, 0, none⟩ (.slice Ao502 t774.length co502)) w.heap.size (fun k_ => some k_ ≠ (.slice Ao296 t714.length co296 : Value).ownBlock ∧ some k_ ≠ (.slice Ao302 t722.length co302 : Value).ownBlock ∧ some k_ ≠ (.slice Ao325 t737.length co325 : Value).ownBlock ∧ some k_ ≠ (.slice Ao502 t774.length co502 : Value).ownBlock ∧ k_ ≠ gb721) (.slice Ao317 t732.length co317) t732) := ⟨by (with_reducible repeat (first | apply raz_ | apply rnz_ | apply rdz_)); exact Kd.R_mono (Kd.R_far (p := ⟨gb778, 0, none⟩) (Kd.R_types HO_737000.out BK778.out (by decide)) (fun _ hk => hk.2) (.slice Ao502 t774.length co502)) (fun _ hk => ⟨hk.1.1.1, ⟨hk.1.1.2.1, ⟨hk.1.1.2.2.1, ⟨hk.1.2, hk.1.1.2.2.2⟩⟩⟩⟩)⟩
            have n3_ : Aside0 (Kd.R k40 40 (w501.setCell ⟨gb778, 0, none⟩ (.slice Ao502 t774.length co502)) w.heap.size (fun k_ => some k_ ≠ (.slice Ao296 t714.length co296 : Value).ownBlock ∧ some k_ ≠ (.slice Ao302 t722.length co302 : Value).ownBlock ∧ some k_ ≠ (.slice Ao317 t732.length co317 : Value).ownBlock ∧ some k_ ≠ (.slice Ao502 t774.length co502 : Value).ownBlock ∧ k_ ≠ gb721) (.slice Ao325 t737.length co325) t737) := ⟨by (with_reducible repeat (first | apply raz_ | apply rnz_ | apply rdz_)); exact Kd.R_mono (Kd.R_far (p := ⟨gb778, 0, none⟩) (Kd.R_types HO_742000.out BK778.out (by decide)) (fun _ hk => hk.2) (.slice Ao502 t774.length co502)) (fun _ hk => ⟨hk.1.1.1, ⟨hk.1.1.2.1, ⟨hk.1.1.2.2.1, ⟨hk.1.2, hk.1.1.2.2.2⟩⟩⟩⟩)⟩
            have n4_ : Aside0 (Kd.R k40 40 (w501.setCell ⟨gb778, 0, none⟩ (.slice Ao502 t774.length co502)) w.heap.size (fun k_ => some k_ ≠ (.slice Ao296 t714.length co296 : Value).ownBlock ∧ some k_ ≠ (.slice Ao302 t722.length co302 : Value).ownBlock ∧ some k_ ≠ (.slice Ao317 t732.length co317 : Value).ownBlock ∧ some k_ ≠ (.slice Ao325 t737.length co325 : Value).ownBlock ∧ k_ ≠ gb721) (.slice Ao502 t774.length co502) t774) := ⟨by (with_reducible repeat (first | apply raz_ | apply rnz_ | apply rdz_)); exact Kd.R_mono (Kd.R_far (p := ⟨gb778, 0, none⟩) (Kd.R_types HO776.out BK778.out (by decide)) (fun _ hk => hk.2) (.slice Ao502 t774.length co502)) (fun _ hk => ⟨hk.1.1.1.1.1.2, ⟨hk.1.1.1.1.2, ⟨hk.1.1.1.2, ⟨hk.1.1.2, hk.1.2⟩⟩⟩⟩)⟩
            have n5_ : Aside0 ((w501.setCell ⟨gb778, 0, none⟩ (.slice Ao502 t774.length co502)).heap[gb720]? = some (.cells #[.slice Ao296 t714.length co296] 30 (0, 0))) := ⟨by (with_reducible repeat (first | refine knz_ ?_ _ | refine kdz_ ?_ | refine kaz_ ?_ _)); refine blk_far ?_ NB720_778.out _; (with_reducible repeat (first | refine knz_ ?_ _ | refine kdz_ ?_ | refine kaz_ ?_ _)); exact BK720.out⟩
            have n6_ : Aside0 ((w501.setCell ⟨gb778, 0, none⟩ (.slice Ao502 t774.length co502)).heap[gb721]? = some (.cells #[.int .i64 t717, .int .i64 t718, .int .i64 t719] 40 (0, 0))) := ⟨by (with_reducible repeat (first | refine knz_ ?_ _ | refine kdz_ ?_ | refine kaz_ ?_ _)); refine blk_far ?_ NB721_778.out _; (with_reducible repeat (first | refine knz_ ?_ _ | refine kdz_ ?_ | refine kaz_ ?_ _)); exact BK721.out⟩
            have n7_ : Aside0 ((w501.setCell ⟨gb778, 0, none⟩ (.slice Ao502 t774.length co502)).heap[gb726]? = some (.cells #[.slice Ao302 t722.length co302] 30 (0, 0))) := ⟨by (with_reducible repeat (first | refine knz_ ?_ _ | refine kdz_ ?_ | refine kaz_ ?_ _)); refine blk_far ?_ NB726_778.out _; (with_reducible repeat (first | refine knz_ ?_ _ | refine kdz_ ?_ | refine kaz_ ?_ _)); exact BK726.out⟩
            have n8_ : Aside0 ((w501.setCell ⟨gb778, 0, none⟩ (.slice Ao502 t774.length co502)).heap[gb736]? = some (.cells #[.slice Ao317 t732.length co317] 30 (0, 0))) := ⟨by (with_reducible repeat (first | refine knz_ ?_ _ | refine kdz_ ?_ | refine kaz_ ?_ _)); refine blk_far ?_ NB736_778.out _; (with_reducible repeat (first | refine knz_ ?_ _ | refine kdz_ ?_ | refine kaz_ ?_ _)); exact BK736.out⟩
            have n9_ : Aside0 ((w501.setCell ⟨gb778, 0, none⟩ (.slice Ao502 t774.length co502)).heap[gb741]? = some (.cells #[.slice Ao325 t737.length co325] 30 (0, 0))) := ⟨by (with_reducible repeat (first | refine knz_ ?_ _ | refine kdz_ ?_ | refine kaz_ ?_ _)); refine blk_far ?_ NB741_778.out _; (with_reducible repeat (first | refine knz_ ?_ _ | refine kdz_ ?_ | refine kaz_ ?_ _)); exact BK741.out⟩
            have n10_ : Aside0 ((w501.setCell ⟨gb778, 0, none⟩ (.slice Ao502 t774.length co502)).heap[gb778]? = some (.cells #[.slice Ao502 t774.length co502] 30 (0, 0))) := ⟨by (with_reducible repeat (first | refine knz_ ?_ _ | refine kdz_ ?_ | refine kaz_ ?_ _)); refine blk_put (cs := #[.slice none 0 0]) ?_ 0 _ rfl; (with_reducible repeat (first | refine knz_ ?_ _ | refine kdz_ ?_ | refine kaz_ ?_ _)); exact BK778.out⟩
            have n11_ : Aside0 (Below w.heap.size w (w501.setCell ⟨gb778, 0, none⟩ (.slice Ao502 t774.length co502))) := ⟨w129_⟩
            clear HO_721000
            clear HO_727000
            clear HO_737000
            clear HO_742000
            clear HO776
            clear BK720
            clear BK721
            clear BK726
            clear BK736
            clear BK741
            clear BK778
            clear HB
            generalize (w501.setCell ⟨gb778, 0, none⟩ (.slice Ao502 t774.length co502)) = w509 at n0_ n1_ n2_ n3_ n4_ n5_ n6_ n7_ n8_ n9_ n10_ n11_ ⊢
            have HO_721000 := n0_
            have HO_727000 := n1_
            have HO_737000 := n2_
            have HO_742000 := n3_
            have HO776 := n4_
            have BK720 := n5_
            have BK721 := n6_
            have BK726 := n7_
            have BK736 := n8_
            have BK741 := n9_
            have BK778 := n10_
            have HB := n11_
            clear n0_ n1_ n2_ n3_ n4_ n5_ n6_ n7_ n8_ n9_ n10_ n11_
            replace HO_721000 := Az_ (rdz_ HO_721000.out)
            replace HO_727000 := Az_ (rdz_ HO_727000.out)
            replace HO_737000 := Az_ (rdz_ HO_737000.out)
            replace HO_742000 := Az_ (rdz_ HO_742000.out)
            replace HO776 := Az_ (rdz_ HO776.out)
            replace BK720 := Az_ (kdz_ BK720.out)
            replace BK721 := Az_ (kdz_ BK721.out)
            replace BK726 := Az_ (kdz_ BK726.out)
            replace BK736 := Az_ (kdz_ BK736.out)
            replace BK741 := Az_ (kdz_ BK741.out)
            replace BK778 := Az_ (kdz_ BK778.out)
            replace HB := Az_ (bdz_ HB.out)
            have p780 : 0 ≤ ((t714.length : Int) : Int) := od_
            have q780 : (t714.length : Int) < (t722.length : Int) := od_
            obtain ⟨ad780, e780, hx780_0, hx780_1, hx780_2⟩ := at_T40 (Kd.R_reads' HO_727000.out).2.2 (t714.length : Int) p780 q780
            cases e780
            (try simp only [Go.IntWalk.toNatUp] at hx780_0)
            (try simp only [Go.IntWalk.toNatUp] at hx780_1)
            (try simp only [Go.IntWalk.toNatUp] at hx780_2)
            replace p780 := eq_true p780
            replace q780 := eq_true q780
            as_aux_lemma =>
             refine start_ (n := 19) (S := fun w' => w'.cell? ⟨gb778, 0, none⟩ = some (.slice Ao502 t774.length co502) ∧ w'.cell? ⟨gb720, 0, none⟩ = some (.slice Ao296 t714.length co296) ∧ w'.cell? ⟨gb726, 0, none⟩ = some (.slice (some ad780) t722.length co302) ∧ w'.cell? ⟨gb721, 0, none⟩ = some (.int .i64 t717) ∧ w'.cell? ⟨gb721, 1, none⟩ = some (.int .i64 t718) ∧ w'.cell? ⟨gb721, 2, none⟩ = some (.int .i64 t719) ∧ w'.cell? (ad780.add (t714.length * 3)) = some (.int .i64 ((rd_T40 t722 (t714.length : Int)).f0)) ∧ w'.cell? ⟨(ad780.add (t714.length * 3)).block, (ad780.add (t714.length * 3)).off + 1, none⟩ = some (.int .i64 ((rd_T40 t722 (t714.length : Int)).f1)) ∧ w'.cell? ⟨(ad780.add (t714.length * 3)).block, (ad780.add (t714.length * 3)).off + 2, none⟩ = some (.int .i64 ((rd_T40 t722 (t714.length : Int)).f2))) (ds := []) #[false, false, false, false, false, false, false, false, false, false, false, false, false, false, false, false, false, false, false] (w204_) rfl rfl ⟨(blk_cell BK778.out 0).trans rfl, (blk_cell BK720.out 0).trans rfl, (blk_cell BK726.out 0).trans rfl, (blk_cell BK721.out 0).trans rfl, (blk_cell BK721.out 1).trans rfl, (blk_cell BK721.out 2).trans rfl, hx780_0, hx780_1, hx780_2⟩ (fun hHeld => ?_); refine with_tabW laws_FnBooksHidden.tab51 laws_FnBooksHidden.bits51 (fun HT_ HW_ => ?_)
             generalize w509.drew = w510 at HO_721000 HO_727000 HO_737000 HO_742000 HO776 BK720 BK721 BK726 BK736 BK741 BK778 HB hx780_0 hx780_1 hx780_2 hHeld ⊢
             refine pz_ 0 426 [1,18] ?_
             refine pz_ 1 427 [2,17] ?_
             refine pz_ 2 428 [3,16] ?_
             refine take_ (i := 3) (N := some 429) (v := ?_) (a' := ?_) (mz_ [4,15]) rfl rfl (take_ofW HT_.out HW_.out (w204_)) (fun _ _ _ h => h) (Or.inl ⟨by rfl, ?_⟩) hHeld ?_ ?_
             rotate_left
             ·rintro w' ⟨s0, s1, s2, s3, s4, s5, s6, s7, s8⟩
              go_simp
              with_reducible rfl
             rotate_left
             ·simp only [Act.put, usz_, utz_, uvz_, i64_w, i32_w]
              rfl
             refine take_ (i := 4) (N := some 430) (v := ?_) (a' := ?_) (mz_ [5,14]) rfl rfl (take_ofW HT_.out HW_.out (w204_)) (fun _ _ _ h => h) (Or.inl ⟨by rfl, ?_⟩) hHeld ?_ ?_
             rotate_left
             ·rintro w' ⟨s0, s1, s2, s3, s4, s5, s6, s7, s8⟩
              go_simp
              with_reducible rfl
             rotate_left
             ·simp only [Act.put, usz_, utz_, uvz_, i64_w, i32_w]
              rfl
             refine one_ (i := 5) (N := some 431) (mz_ [6,13]) rfl rfl (one_of HT_.out (w204_)) (by decide) (fun K hK => ?_)
             refine goes_ Tryd.func8 (w204_) rfl #[.agg #[.slice Ao502 t774.length co502], .agg #[.slice Ao296 t714.length co296]] (by rfl) rfl rfl maz_ ?_
             with_reducible refine (laws_xPuzzle.calls kj291 _ _ t774 _ _ t714 true _ ?side1 ?side2 ?side3 ?side4 A465.out).mono ?_
             (case side1 => repeat (first | exact (Kd.R_reads' HO776.out).2.2 | (with_reducible refine Kd.C_alloc ?_ _) | (with_reducible refine Kd.C_drewN ?_ _) | (with_reducible refine Kd.C_drew ?_)))
             (case side2 => exact (Kd.R_reads' HO776.out).2.1)
             (case side3 => repeat (first | exact (Kd.R_reads' HO_721000.out).2.2 | (with_reducible refine Kd.C_alloc ?_ _) | (with_reducible refine Kd.C_drewN ?_ _) | (with_reducible refine Kd.C_drew ?_)))
             (case side4 => exact (Kd.R_reads' HO_721000.out).2.1)
             rintro e w511 ⟨rfl, hb⟩
             have HS6_ := (hb.cell (World.block_lt_of_cell? _ _ (hHeld.2.2.2.2.2.2.1))).trans (hHeld.2.2.2.2.2.2.1)
             have HS7_ := (hb.cell (World.block_lt_of_cell? _ _ (hHeld.2.2.2.2.2.2.2.1))).trans (hHeld.2.2.2.2.2.2.2.1)
             have HS8_ := (hb.cell (World.block_lt_of_cell? _ _ (hHeld.2.2.2.2.2.2.2.2))).trans (hHeld.2.2.2.2.2.2.2.2)
             refine ⟨_, rfl, ?_⟩
             have n0_ := Az_ (Kd.R_below (by exact urz_ HO_721000.out) hb)
             have n1_ := Az_ (Kd.R_below (by exact urz_ HO_727000.out) hb)
             have n2_ := Az_ (Kd.R_below (w175_) hb)
             have n3_ := Az_ (Kd.R_below (w176_) hb)
             have n4_ := Az_ (Kd.R_below (by exact urz_ HO776.out) hb)
             have n11_ := Az_ (btz_ (w129_) hb)
             clear HO_721000 HO_727000 HO_737000 HO_742000 HO776 HB
             have HO_721000 := n0_
             have HO_727000 := n1_
             have HO_737000 := n2_
             have HO_742000 := n3_
             have HO776 := n4_
             replace BK720 := Az_ (ukbz_ BK720.out hb)
             replace BK721 := Az_ (ukbz_ BK721.out hb)
             replace BK726 := Az_ (ukbz_ BK726.out hb)
             replace BK736 := Az_ (ukbz_ BK736.out hb)
             replace BK741 := Az_ (ukbz_ BK741.out hb)
             replace BK778 := Az_ (ukbz_ BK778.out hb)
             have HB := n11_
             clear n0_ n1_ n2_ n3_ n4_ n11_
             clear hb
             refine hK.out _ _ ⟨(blk_cell BK778.out 0).trans rfl, (blk_cell BK720.out 0).trans rfl, (blk_cell BK726.out 0).trans rfl, (blk_cell BK721.out 0).trans rfl, (blk_cell BK721.out 1).trans rfl, (blk_cell BK721.out 2).trans rfl, HS6_, HS7_, HS8_⟩ (fun hHeld => ?_)
             clear hK K
             refine nz_ 431 ?_
             refine pz_ 6 432 [7,12] ?_
             refine pz_ 7 433 [8,11] ?_
             refine pz_ 8 434 [9,10] ?_
             refine pz_ 9 435 [10,9] ?_
             refine pz_ 11 437 [10,1,1,7] ?_
             refine take_ (i := 10) (N := some 436) (v := ?_) (a' := ?_) (mz_ [12,7]) rfl rfl (take_ofW HT_.out HW_.out (w204_)) (fun _ _ _ h => h) (Or.inl ⟨by rfl, ?_⟩) hHeld ?_ ?_
             rotate_left
             ·rintro w' ⟨s0, s1, s2, s3, s4, s5, s6, s7, s8⟩
              go_simp
              with_reducible rfl
             rotate_left
             ·simp only [Act.put, usz_, utz_, uvz_, i64_w, i32_w]
              rfl
             refine take_ (i := 12) (N := some 438) (v := ?_) (a' := ?_) (mz_ [13,6]) rfl rfl (take_ofW HT_.out HW_.out (w204_)) (fun _ _ _ h => h) (Or.inl ⟨by rfl, ?_⟩) hHeld ?_ ?_
             rotate_left
             ·rintro w' ⟨s0, s1, s2, s3, s4, s5, s6, s7, s8⟩
              go_simp
              with_reducible rfl
             rotate_left
             ·simp only [Act.put, usz_, utz_, uvz_, i64_w, i32_w]
              rfl
             refine pz_ 13 439 [14,5] ?_
             refine pz_ 14 440 [15,4] ?_
             refine take_ (i := 15) (N := some 441) (v := ?_) (a' := ?_) (mz_ [16,3]) rfl rfl (take_ofW HT_.out HW_.out (w204_)) (fun _ _ _ h => h) (Or.inl ⟨by rfl, ?_⟩) hHeld ?_ ?_
             rotate_left
             ·rintro w' ⟨s0, s1, s2, s3, s4, s5, s6, s7, s8⟩
              go_simp
              with_reducible rfl
             rotate_left
             ·simp only [Act.put, usz_, utz_, uvz_, i64_w, i32_w]
              rfl
             refine take_ (i := 16) (N := some 442) (v := ?_) (a' := ?_) (mz_ [17,2]) rfl rfl (take_ofW HT_.out HW_.out (w204_)) (fun _ _ _ h => h) (Or.inl ⟨by rfl, ?_⟩) hHeld ?_ ?_
             rotate_left
             ·rintro w' ⟨s0, s1, s2, s3, s4, s5, s6, s7, s8⟩
              go_simp
              with_reducible rfl
             rotate_left
             ·simp only [Act.put, usz_, utz_, uvz_, i64_w, i32_w]
              rfl
             refine pz_ 17 443 [18,1] ?_
             refine pz_ 18 444 [19] ?_
             refine done_ (done_of HT_.out (w204_)) ?_
             try go_wp2
             go_meet
             case rel => exact ⟨_, H', ⟨w140_⟩, ⟨w141_⟩, ⟨w142_⟩, ⟨w163_⟩, ⟨w164_⟩, ⟨w129_⟩⟩
           case rest => as_aux_lemma =>
            clear HC461
            obtain ⟨kq, HA, HJ460, HO_737000, HO_742000, BK736, BK741, HB⟩ := hcut
            cases kq with
            | zero => exact absurd HA.out (by simp [j7])
            | succ kj460 =>
             have H := HA.out
             clear HA
             simp only [j7] at H
             have HC553 := Az_ H
             clear H
             go_upto_region 53 with (fail)
             go_cut [453] from 1 to 0 (fun v453 wc => ∃ (kq : Nat) (x453_552 : Bool), v453 = .bool x453_552 ∧ Aside0 (j8 kq t735 x453_552 t732 t737 = some r) ∧ Aside0 (kq ≤ kj460) ∧ Aside0 (Kd.R k40 40 wc w.heap.size (fun k_ => some k_ ≠ ((.slice Ao325 t737.length co325) : Value).ownBlock) (.slice Ao317 t732.length co317) t732) ∧ Aside0 (Kd.R k40 40 wc w.heap.size (fun k_ => some k_ ≠ ((.slice Ao317 t732.length co317) : Value).ownBlock) (.slice Ao325 t737.length co325) t737) ∧ Aside0 (wc.heap[gb736]? = some (.cells #[(.slice Ao317 t732.length co317)] 30 (0, 0))) ∧ Aside0 (wc.heap[gb741]? = some (.cells #[(.slice Ao325 t737.length co325)] 30 (0, 0))) ∧ Aside0 (Below w.heap.size w wc))
             case first => as_aux_lemma =>
              have H := HC553.out
              clear HC553
              by_cases c554 : t740 = true; rotate_left
              ·replace c554 := Bool.eq_false_iff.mpr c554
               subst c554
               rw [if_neg nfz_] at H
               have H' := Az_ H
               clear H
               go_wp2
               go_meet
               case rel => exact ⟨_, (false), qaz_, H', ⟨w127_⟩, ⟨by (with_reducible repeat (first | apply raz_ | apply rnz_ | apply rdz_)); exact HO_737000.out⟩, ⟨by (with_reducible repeat (first | apply raz_ | apply rnz_ | apply rdz_)); exact HO_742000.out⟩, ⟨w163_⟩, ⟨w164_⟩, ⟨w129_⟩⟩
              subst c554
              rw [if_pos rfl] at H
              have H' := Az_ H
              clear H
              have hnb555 := NB736_741.out
              have hnc555 := NB741_736.out
              have hcz556_0 := cz_ (x := .slice Ao317 t732.length co317) BK736 0
              have hfz556_0 := blk_frozen BK736.out 0
              go_wp2
              go_meet
              case rel => exact ⟨_, ((t735 == (wrap64 ((t732.length : Int) - 1)))), qaz_, H', ⟨w127_⟩, ⟨by (with_reducible repeat (first | apply raz_ | apply rnz_ | apply rdz_)); exact HO_737000.out⟩, ⟨by (with_reducible repeat (first | apply raz_ | apply rnz_ | apply rdz_)); exact HO_742000.out⟩, ⟨w163_⟩, ⟨w164_⟩, ⟨w129_⟩⟩
             case rest => as_aux_lemma =>
              clear HC553
              obtain ⟨kq, x453_552, rfl, HA, HJ552, HO_737000, HO_742000, BK736, BK741, HB⟩ := hcut
              cases kq with
              | zero => exact absurd HA.out (by simp [j8])
              | succ kj552 =>
               have H := HA.out
               clear HA
               simp only [j8] at H
               by_cases c557 : x453_552 = true; rotate_left
               ·replace c557 := Bool.eq_false_iff.mpr c557
                subst c557
                rw [if_neg nfz_] at H
                obtain rfl := Option.some.inj H; clear hrT
                go_wp2
                go_ret
                exact ⟨w166_, w129_⟩
               subst c557
               rw [if_pos rfl] at H
               by_cases c558 : 0 ≤ t735; rotate_left
               ·rw [if_neg c558] at H
                exact absurd H (by simp)
               rw [if_pos c558] at H
               have c558b0 := decide_eq_true c558
               clear c558
               by_cases c559 : t735 < (t732.length : Int); rotate_left
               ·rw [if_neg c559] at H
                exact absurd H (by simp)
               rw [if_pos c559] at H
               have c559b0 := decide_eq_true c559
               clear c559
               replace H := bqz_ H; obtain ⟨⟨t782, t785⟩, A560, H⟩ := H
               replace H : (if t785 = true then ((laws_xPuzzle.f kj552 t782 t732).bind fun t787 => (some t787)) else (some false)) = some r := H
               by_cases c561 : t785 = true; rotate_left
               ·replace c561 := Bool.eq_false_iff.mpr c561
                subst c561
                rw [if_neg nfz_] at H
                exact absurd ((Option.some.inj H).trans hrT) (by decide)
               subst c561
               rw [if_pos rfl] at H
               replace H := bqz_ H; obtain ⟨t787, A562, H⟩ := H
               replace H : (some t787) = some r := H
               obtain rfl := Option.some.inj H; clear hrT
               try go_wp2
               replace HO_737000 := Az_ (rdz_ HO_737000.out)
               replace HO_742000 := Az_ (rdz_ HO_742000.out)
               replace BK736 := Az_ (kdz_ BK736.out)
               replace BK741 := Az_ (kdz_ BK741.out)
               replace HB := Az_ (bdz_ HB.out)
               have p781 : 0 ≤ (t735 : Int) := od_
               have q781 : t735 < (t732.length : Int) := od_
               obtain ⟨ad781, e781, hx781_0, hx781_1, hx781_2⟩ := at_T40 (Kd.R_reads' HO_737000.out).2.2 t735 p781 q781
               cases e781
               replace p781 := eq_true p781
               replace q781 := eq_true q781
               refine start_ (n := 13) (S := fun w' => w'.cell? ⟨gb741, 0, none⟩ = some (.slice Ao325 t737.length co325) ∧ w'.cell? ⟨gb736, 0, none⟩ = some (.slice (some ad781) t732.length co317) ∧ w'.cell? (ad781.add ((t735).toNat * 3)) = some (.int .i64 ((rd_T40 t732 t735).f0)) ∧ w'.cell? ⟨(ad781.add ((t735).toNat * 3)).block, (ad781.add ((t735).toNat * 3)).off + 1, none⟩ = some (.int .i64 ((rd_T40 t732 t735).f1)) ∧ w'.cell? ⟨(ad781.add ((t735).toNat * 3)).block, (ad781.add ((t735).toNat * 3)).off + 2, none⟩ = some (.int .i64 ((rd_T40 t732 t735).f2))) (ds := []) #[false, false, false, false, false, false, false, false, false, false, false, false, false] (w204_) rfl rfl ⟨(blk_cell BK741.out 0).trans rfl, (blk_cell BK736.out 0).trans rfl, hx781_0, hx781_1, hx781_2⟩ (fun hHeld => ?_); refine with_tabW laws_FnBooksHidden.tab54 laws_FnBooksHidden.bits54 (fun HT_ HW_ => ?_)
               generalize wc.drew = w563 at HO_737000 HO_742000 BK736 BK741 HB hx781_0 hx781_1 hx781_2 hHeld ⊢
               refine pz_ 1 456 [0,1,1,11] ?_
               refine pz_ 3 458 [0,1,1,1,1,9] ?_
               refine take_ (i := 0) (N := some 455) (v := ?_) (a' := ?_) (mz_ [2,1,1,9]) rfl rfl (take_ofW HT_.out HW_.out (w204_)) (fun _ _ _ h => h) (Or.inl ⟨by rfl, ?_⟩) hHeld ?_ ?_
               rotate_left
               ·rintro w' ⟨s0, s1, s2, s3, s4⟩
                go_simp
                with_reducible rfl
               rotate_left
               ·simp only [Act.put, usz_, utz_, uvz_, i64_w, i32_w]
                rfl
               refine take_ (i := 2) (N := some 457) (v := ?_) (a' := ?_) (mz_ [4,9]) rfl rfl (take_ofW HT_.out HW_.out (w204_)) (fun _ _ _ h => h) (Or.inl ⟨by rfl, ?_⟩) hHeld ?_ ?_
               rotate_left
               ·rintro w' ⟨s0, s1, s2, s3, s4⟩
                go_simp
                with_reducible rfl
               rotate_left
               ·simp only [Act.put, usz_, utz_, uvz_, i64_w, i32_w]
                rfl
               refine pz_ 4 459 [5,8] ?_
               refine take_ (i := 5) (N := some 460) (v := ?_) (a' := ?_) (mz_ [6,7]) rfl rfl (take_ofW HT_.out HW_.out (w204_)) (fun _ _ _ h => h) (Or.inl ⟨by rfl, ?_⟩) hHeld ?_ ?_
               rotate_left
               ·rintro w' ⟨s0, s1, s2, s3, s4⟩
                go_simp
                with_reducible rfl
               rotate_left
               ·simp only [Act.put, usz_, utz_, uvz_, i64_w, i32_w]
                rfl
               refine join_ (σ := Value × Nat) 2 #[true, true, true, true, true, true, true, true, true, true, true, false, false] (fun s_ => [(461, .tuple #[.agg #[s_.1], .bool true]), (63, .pointer (some ⟨s_.2, 0, none⟩)), (454, .tuple #[.agg #[s_.1], .bool true]), (462, .agg #[s_.1]), (463, .bool true)]) (fun s_ w' => (w'.cell? ⟨gb741, 0, none⟩ = some (.slice Ao325 t737.length co325) ∧ w'.cell? ⟨gb736, 0, none⟩ = some (.slice (some ad781) t732.length co317) ∧ w'.cell? (ad781.add ((t735).toNat * 3)) = some (.int .i64 ((rd_T40 t732 t735).f0)) ∧ w'.cell? ⟨(ad781.add ((t735).toNat * 3)).block, (ad781.add ((t735).toNat * 3)).off + 1, none⟩ = some (.int .i64 ((rd_T40 t732 t735).f1)) ∧ w'.cell? ⟨(ad781.add ((t735).toNat * 3)).block, (ad781.add ((t735).toNat * 3)).off + 2, none⟩ = some (.int .i64 ((rd_T40 t732 t735).f2))) ∧ (Kd.R k40 40 w' w.heap.size (fun k_ => some k_ ≠ (.slice (some ad781) t732.length co317 : Value).ownBlock ∧ some k_ ≠ (.slice Ao325 t737.length co325 : Value).ownBlock) s_.1 t782) ∧ (Kd.R k40 40 w' w.heap.size (fun k_ => some k_ ≠ (s_.1 : Value).ownBlock ∧ some k_ ≠ (.slice Ao325 t737.length co325 : Value).ownBlock) (.slice (some ad781) t732.length co317) t732) ∧ (Kd.R k40 40 w' w.heap.size (fun k_ => some k_ ≠ (s_.1 : Value).ownBlock ∧ some k_ ≠ (.slice (some ad781) t732.length co317 : Value).ownBlock) (.slice Ao325 t737.length co325) t737) ∧ (w'.heap[gb736]? = some (.cells #[.slice (some ad781) t732.length co317] 30 (0, 0))) ∧ (w'.heap[gb741]? = some (.cells #[.slice Ao325 t737.length co325] 30 (0, 0))) ∧ (w'.heap[s_.2]? = some (.cells #[.slice none 0 0] 30 (0, 0))) ∧ (w.heap.size ≤ s_.2) ∧ (w.heap.size ≤ s_.2) ∧ (gb736 ≠ s_.2) ∧ (s_.2 ≠ gb736) ∧ (gb741 ≠ s_.2) ∧ (s_.2 ≠ gb741) ∧ (Below w.heap.size w w')) ?_ ?_
               rotate_left
               ·intro hCont
                refine two_ (i := 6) (j := 10) (Ni := some 461) (Nj := some 63) (mz_ [7,6]) #[true, true, true, true, true, true, false, false, false, false, true, false, false] rfl rfl rfl rfl (two_of HT_.out (w204_)) (by decide) (by decide) (fun K hK => ?_) (fun K hK => ?_)
                ·skip
                 refine goes_ Tryd.func24 (w204_) rfl #[.agg #[.slice Ao325 t737.length co325], .agg #[.int .i64 ((rd_T40 t732 t735).f0), .int .i64 ((rd_T40 t732 t735).f1), .int .i64 ((rd_T40 t732 t735).f2)]] (by rfl) rfl rfl maz_ ?_
                 with_reducible refine (impl_AddClue.calls kj552 _ _ t737 ((rd_T40 t732 t735).f0) ((rd_T40 t732 t735).f1) ((rd_T40 t732 t735).f2) t782 true _ ?side1 ?side2 A560.out).mono ?_
                 (case side1 => repeat (first | exact (Kd.R_reads' HO_742000.out).2.2 | (with_reducible refine Kd.C_alloc ?_ _) | (with_reducible refine Kd.C_drewN ?_ _) | (with_reducible refine Kd.C_drew ?_)))
                 (case side2 => exact (Kd.R_reads' HO_742000.out).2.1)
                 rintro e w564 ⟨v783, rfl, ho0, hb⟩
                 have HS2_ := (hb.cell (World.block_lt_of_cell? _ _ (hHeld.2.2.1))).trans (hHeld.2.2.1)
                 have HS3_ := (hb.cell (World.block_lt_of_cell? _ _ (hHeld.2.2.2.1))).trans (hHeld.2.2.2.1)
                 have HS4_ := (hb.cell (World.block_lt_of_cell? _ _ (hHeld.2.2.2.2))).trans (hHeld.2.2.2.2)
                 refine ⟨_, rfl, ?_⟩
                 have n0_ := Az_ (rez_ (w175_) (Kd.R_base ho0) hb)
                 have n1_ := Az_ (rez_ (w176_) (Kd.R_base ho0) hb)
                 have n2_ := Az_ (Kd.R_lower (Kd.R_new' (Kd.R_new' ho0 (Kd.R_lt (w175_))) (Kd.R_lt (w176_))) (below_size (w129_)))
                 have n5_ := Az_ (btz_ (w129_) hb)
                 clear HO_737000 HO_742000 HB
                 have HO_737000 := n0_
                 have HO_742000 := n1_
                 have HO784 := n2_
                 replace BK736 := Az_ (ukbz_ BK736.out hb)
                 replace BK741 := Az_ (ukbz_ BK741.out hb)
                 have HB := n5_
                 clear n0_ n1_ n2_ n5_
                 clear hb
                 clear ho0
                 refine hK.out _ _ ⟨(blk_cell BK741.out 0).trans rfl, (blk_cell BK736.out 0).trans rfl, HS2_, HS3_, HS4_⟩ (fun hHeld => ?_)
                 clear hK K
                 refine nz_ 461 ?_
                 refine pz_ 7 454 [8,5] ?_
                 refine pz_ 8 462 [9,4] ?_
                 refine pz_ 9 463 [10,3] ?_
                 refine one_ (i := 10) (N := some 63) (mz_ [11,2]) rfl rfl (one_of HT_.out (w204_)) (by decide) (fun K hK => ?_)
                 refine box_step ?hg (N := 63) ?hd (cs := #[.slice none 0 0]) (t := 30) ?hr ?_; (case hd => rfl); (case hg => rfl); (case hr => first | (go_simp; done) | (go_simp; rfl))
                 intro gb786 hg w565 hbox hb
                 have HS2_ := (hb.cell (World.block_lt_of_cell? _ _ (hHeld.2.2.1))).trans (hHeld.2.2.1)
                 have HS3_ := (hb.cell (World.block_lt_of_cell? _ _ (hHeld.2.2.2.1))).trans (hHeld.2.2.2.1)
                 have HS4_ := (hb.cell (World.block_lt_of_cell? _ _ (hHeld.2.2.2.2))).trans (hHeld.2.2.2.2)
                 have n0_ := Az_ (Kd.R_below (w175_) hb)
                 have n1_ := Az_ (Kd.R_below (w176_) hb)
                 have n2_ := Az_ (Kd.R_below (by exact urz_ HO784.out) hb)
                 have n5_ := Az_ (btz_ (w129_) hb)
                 have n6_ := Az_ (hbox)
                 have n7_ := Az_ ((by rw [hg]; exact (below_size (w129_)) : w.heap.size ≤ gb786))
                 have n8_ := Az_ ((by rw [hg]; exact (below_size (w129_)) : w.heap.size ≤ gb786))
                 have n9_ := Az_ ((by rw [hg]; exact Nat.ne_of_lt (uklz_ BK736.out) : gb736 ≠ gb786))
                 have n10_ := Az_ ((by rw [hg]; exact Nat.ne_of_gt (uklz_ BK736.out) : gb786 ≠ gb736))
                 have n11_ := Az_ ((by rw [hg]; exact Nat.ne_of_lt (uklz_ BK741.out) : gb741 ≠ gb786))
                 have n12_ := Az_ ((by rw [hg]; exact Nat.ne_of_gt (uklz_ BK741.out) : gb786 ≠ gb741))
                 clear HO_737000 HO_742000 HO784 HB
                 have HO_737000 := n0_
                 have HO_742000 := n1_
                 have HO784 := n2_
                 replace BK736 := Az_ (ukbz_ BK736.out hb)
                 replace BK741 := Az_ (ukbz_ BK741.out hb)
                 have HB := n5_
                 have BK786 := n6_
                 have GW786 := n7_
                 have GE786 := n8_
                 have NB736_786 := n9_
                 have NB786_736 := n10_
                 have NB741_786 := n11_
                 have NB786_741 := n12_
                 clear n0_ n1_ n2_ n5_ n6_ n7_ n8_ n9_ n10_ n11_ n12_ hb hbox hg
                 refine hK.out _ _ ⟨(blk_cell BK741.out 0).trans rfl, (blk_cell BK736.out 0).trans rfl, HS2_, HS3_, HS4_⟩ (fun hHeld => ?_)
                 clear hK K
                 refine nz_ 63 ?_
                 exact norm_ (w165_) (hCont (v783, gb786) _ ⟨hHeld, (w138_), (w135_), (w136_), (by exact ukz_ BK736.out), (by exact ukz_ BK741.out), (by exact ukz_ BK786.out), GW786.out, GE786.out, NB736_786.out, NB786_736.out, NB741_786.out, NB786_741.out, (w129_)⟩)
                ·skip
                 refine box_step ?hg (N := 63) ?hd (cs := #[.slice none 0 0]) (t := 30) ?hr ?_; (case hd => rfl); (case hg => rfl); (case hr => first | (go_simp; done) | (go_simp; rfl))
                 intro gb786 hg w564 hbox hb
                 have HS2_ := (hb.cell (World.block_lt_of_cell? _ _ (hHeld.2.2.1))).trans (hHeld.2.2.1)
                 have HS3_ := (hb.cell (World.block_lt_of_cell? _ _ (hHeld.2.2.2.1))).trans (hHeld.2.2.2.1)
                 have HS4_ := (hb.cell (World.block_lt_of_cell? _ _ (hHeld.2.2.2.2))).trans (hHeld.2.2.2.2)
                 have n0_ := Az_ (Kd.R_below (w175_) hb)
                 have n1_ := Az_ (Kd.R_below (w176_) hb)
                 have n4_ := Az_ (btz_ (w129_) hb)
                 have n5_ := Az_ (hbox)
                 have n6_ := Az_ ((by rw [hg]; exact (below_size (w129_)) : w.heap.size ≤ gb786))
                 have n7_ := Az_ ((by rw [hg]; exact (below_size (w129_)) : w.heap.size ≤ gb786))
                 have n8_ := Az_ ((by rw [hg]; exact Nat.ne_of_lt (uklz_ BK736.out) : gb736 ≠ gb786))
                 have n9_ := Az_ ((by rw [hg]; exact Nat.ne_of_gt (uklz_ BK736.out) : gb786 ≠ gb736))
                 have n10_ := Az_ ((by rw [hg]; exact Nat.ne_of_lt (uklz_ BK741.out) : gb741 ≠ gb786))
                 have n11_ := Az_ ((by rw [hg]; exact Nat.ne_of_gt (uklz_ BK741.out) : gb786 ≠ gb741))
                 clear HO_737000 HO_742000 HB
                 have HO_737000 := n0_
                 have HO_742000 := n1_
                 replace BK736 := Az_ (ukbz_ BK736.out hb)
                 replace BK741 := Az_ (ukbz_ BK741.out hb)
                 have HB := n4_
                 have BK786 := n5_
                 have GW786 := n6_
                 have GE786 := n7_
                 have NB736_786 := n8_
                 have NB786_736 := n9_
                 have NB741_786 := n10_
                 have NB786_741 := n11_
                 clear n0_ n1_ n4_ n5_ n6_ n7_ n8_ n9_ n10_ n11_ hb hbox hg
                 refine hK.out _ _ ⟨(blk_cell BK741.out 0).trans rfl, (blk_cell BK736.out 0).trans rfl, HS2_, HS3_, HS4_⟩ (fun hHeld => ?_)
                 clear hK K
                 refine nz_ 63 ?_
                 refine one_ (i := 6) (N := some 461) (mz_ [7,3,1,2]) rfl rfl (one_of HT_.out (w204_)) (by decide) (fun K hK => ?_)
                 refine goes_ Tryd.func24 (w204_) rfl #[.agg #[.slice Ao325 t737.length co325], .agg #[.int .i64 ((rd_T40 t732 t735).f0), .int .i64 ((rd_T40 t732 t735).f1), .int .i64 ((rd_T40 t732 t735).f2)]] (by rfl) rfl rfl maz_ ?_
                 with_reducible refine (impl_AddClue.calls kj552 _ _ t737 ((rd_T40 t732 t735).f0) ((rd_T40 t732 t735).f1) ((rd_T40 t732 t735).f2) t782 true _ ?side1 ?side2 A560.out).mono ?_
                 (case side1 => repeat (first | exact (Kd.R_reads' HO_742000.out).2.2 | (with_reducible refine Kd.C_alloc ?_ _) | (with_reducible refine Kd.C_drewN ?_ _) | (with_reducible refine Kd.C_drew ?_)))
                 (case side2 => exact (Kd.R_reads' HO_742000.out).2.1)
                 rintro e w565 ⟨v783, rfl, ho0, hb⟩
                 have HS2_ := (hb.cell (World.block_lt_of_cell? _ _ (hHeld.2.2.1))).trans (hHeld.2.2.1)
                 have HS3_ := (hb.cell (World.block_lt_of_cell? _ _ (hHeld.2.2.2.1))).trans (hHeld.2.2.2.1)
                 have HS4_ := (hb.cell (World.block_lt_of_cell? _ _ (hHeld.2.2.2.2))).trans (hHeld.2.2.2.2)
                 refine ⟨_, rfl, ?_⟩
                 have n0_ := Az_ (rez_ (w175_) (Kd.R_base ho0) hb)
                 have n1_ := Az_ (rez_ (w176_) (Kd.R_base ho0) hb)
                 have n2_ := Az_ (Kd.R_lower (Kd.R_new' (Kd.R_new' ho0 (Kd.R_lt (w175_))) (Kd.R_lt (w176_))) (below_size (w129_)))
                 have n6_ := Az_ (btz_ (w129_) hb)
                 clear HO_737000 HO_742000 HB
                 have HO_737000 := n0_
                 have HO_742000 := n1_
                 have HO784 := n2_
                 replace BK736 := Az_ (ukbz_ BK736.out hb)
                 replace BK741 := Az_ (ukbz_ BK741.out hb)
                 replace BK786 := Az_ (ukbz_ BK786.out hb)
                 have HB := n6_
                 clear n0_ n1_ n2_ n6_
                 clear hb
                 clear ho0
                 refine hK.out _ _ ⟨(blk_cell BK741.out 0).trans rfl, (blk_cell BK736.out 0).trans rfl, HS2_, HS3_, HS4_⟩ (fun hHeld => ?_)
                 clear hK K
                 refine nz_ 461 ?_
                 refine pz_ 7 454 [8,2,1,2] ?_
                 refine pz_ 8 462 [9,1,1,2] ?_
                 refine pz_ 9 463 [11,2] ?_
                 exact norm_ (w165_) (hCont (v783, gb786) _ ⟨hHeld, (w138_), (w135_), (w136_), (by exact ukz_ BK736.out), (by exact ukz_ BK741.out), (by exact ukz_ BK786.out), GW786.out, GE786.out, NB736_786.out, NB786_736.out, NB741_786.out, NB786_741.out, (w129_)⟩)
               rintro ⟨v783, gb786⟩ w566 ⟨hS_, h0_, h1_, h2_, h3_, h4_, h5_, h6_, h7_, h8_, h9_, h10_, h11_, h12_⟩
               have n0_ : Aside0 (Kd.R k40 40 w566 w.heap.size (fun k_ => some k_ ≠ (.slice (some ad781) t732.length co317 : Value).ownBlock ∧ some k_ ≠ (.slice Ao325 t737.length co325 : Value).ownBlock) v783 t782) := ⟨h0_⟩
               have n1_ : Aside0 (Kd.R k40 40 w566 w.heap.size (fun k_ => some k_ ≠ (v783 : Value).ownBlock ∧ some k_ ≠ (.slice Ao325 t737.length co325 : Value).ownBlock) (.slice (some ad781) t732.length co317) t732) := ⟨h1_⟩
               have n2_ : Aside0 (Kd.R k40 40 w566 w.heap.size (fun k_ => some k_ ≠ (v783 : Value).ownBlock ∧ some k_ ≠ (.slice (some ad781) t732.length co317 : Value).ownBlock) (.slice Ao325 t737.length co325) t737) := ⟨h2_⟩
               have n3_ : Aside0 (w566.heap[gb736]? = some (.cells #[.slice (some ad781) t732.length co317] 30 (0, 0))) := ⟨h3_⟩
               have n4_ : Aside0 (w566.heap[gb741]? = some (.cells #[.slice Ao325 t737.length co325] 30 (0, 0))) := ⟨h4_⟩
               have n5_ : Aside0 (w566.heap[gb786]? = some (.cells #[.slice none 0 0] 30 (0, 0))) := ⟨h5_⟩
               have n6_ : Aside0 (w.heap.size ≤ gb786) := ⟨h6_⟩
               have n7_ : Aside0 (w.heap.size ≤ gb786) := ⟨h7_⟩
               have n8_ : Aside0 (gb736 ≠ gb786) := ⟨h8_⟩
               have n9_ : Aside0 (gb786 ≠ gb736) := ⟨h9_⟩
               have n10_ : Aside0 (gb741 ≠ gb786) := ⟨h10_⟩
               have n11_ : Aside0 (gb786 ≠ gb741) := ⟨h11_⟩
               have n12_ : Aside0 (Below w.heap.size w w566) := ⟨h12_⟩
               clear HO_737000 HO_742000 BK736 BK741 HB h0_ h1_ h2_ h3_ h4_ h5_ h6_ h7_ h8_ h9_ h10_ h11_ h12_
               have HO784 := n0_
               have HO_737000 := n1_
               have HO_742000 := n2_
               have BK736 := n3_
               have BK741 := n4_
               have BK786 := n5_
               have GW786 := n6_
               have GE786 := n7_
               have NB736_786 := n8_
               have NB786_736 := n9_
               have NB741_786 := n10_
               have NB786_741 := n11_
               have HB := n12_
               clear n0_ n1_ n2_ n3_ n4_ n5_ n6_ n7_ n8_ n9_ n10_ n11_ n12_
               have hHeld : w566.cell? ⟨gb741, 0, none⟩ = some (.slice Ao325 t737.length co325) ∧ w566.cell? ⟨gb736, 0, none⟩ = some (.slice (some ad781) t732.length co317) ∧ w566.cell? (ad781.add ((t735).toNat * 3)) = some (.int .i64 ((rd_T40 t732 t735).f0)) ∧ w566.cell? ⟨(ad781.add ((t735).toNat * 3)).block, (ad781.add ((t735).toNat * 3)).off + 1, none⟩ = some (.int .i64 ((rd_T40 t732 t735).f1)) ∧ w566.cell? ⟨(ad781.add ((t735).toNat * 3)).block, (ad781.add ((t735).toNat * 3)).off + 2, none⟩ = some (.int .i64 ((rd_T40 t732 t735).f2)) := hS_
               obtain ⟨Ao567, co567, eo567⟩ := Kd.R_slice HO784.out
               (first | subst eo567 | (injection eo567 with f1_ f2_ f3_; have f4_ := f1_.symm; have f5_ := f3_.symm; clear f1_ f2_ f3_; subst f4_; subst f5_))
               refine norm_ (a' := ?_) ?_ ?_
               rotate_left
               ·simp only [putAll, Act.put, List.setIfInBounds_toArray, List.set_cons_zero, List.set_cons_succ]
                rfl
               refine one_ (i := 11) (N := none) (mz_ [12,1]) rfl rfl (one_of HT_.out (w204_)) (by decide) (fun K hK => ?_)
               have hs568 : w566.cell? ⟨gb786, 0, none⟩ = some (.slice none 0 0) := (blk_cell BK786.out 0).trans rfl
               have hfs568 := blk_frozen BK786.out 0
               have hns568_0 := NB736_786.out
               have hns568_1 := NB741_786.out
               have hms568_0 := NB786_736.out
               have hms568_1 := NB786_741.out
               refine skip_ (w1 := ?_) (by rfl) rfl ?_ ?_
               rotate_left
               ·go_simp
                rfl
               refine hK.out _ _ ⟨((cell_far (p := ⟨gb786, _, none⟩) NB741_786.out _).trans (hHeld.1)), ((cell_far (p := ⟨gb786, _, none⟩) NB736_786.out _).trans (hHeld.2.1)), ((cell_far (p := ⟨gb786, _, none⟩) (w4_) _).trans (hHeld.2.2.1)), ((cell_far (p := ⟨gb786, _, none⟩) (w4_) _).trans (hHeld.2.2.2.1)), ((cell_far (p := ⟨gb786, _, none⟩) (w4_) _).trans (hHeld.2.2.2.2))⟩ (fun hHeld => ?_)
               clear hK K
               refine pz_ 12 64 [13] ?_
               refine done_ (done_of HT_.out (w204_)) ?_
               have hnb569 := NB786_736.out
               have hnc569 := NB736_786.out
               have hnb570 := NB786_741.out
               have hnc570 := NB741_786.out
               have hcz571_0 := cz_ (x := .slice none 0 0) BK786 0
               have hfz571_0 := blk_frozen BK786.out 0
               have hnb572 := NB736_741.out
               have hnc572 := NB741_736.out
               have hcz573_0 := cz_ (x := .slice (some ad781) t732.length co317) BK736 0
               have hfz573_0 := blk_frozen BK736.out 0
               try go_wp2_with ((go_at_call 8; (with_reducible refine (laws_xPuzzle.calls kj552 _ _ t782 _ _ t732 t787 _ ?side1 ?side2 ?side3 ?side4 A562.out).mono ?_); (case side1 => refine (Kd.R_reads' (e := 40) (base := w.heap.size) (ok := fun k_ => (some k_ ≠ (.slice (some ad781) t732.length co317 : Value).ownBlock ∧ some k_ ≠ (.slice Ao325 t737.length co325 : Value).ownBlock)) (n := t782.length) (c := co567) ?_).2.2; exact (w69_)); (case side2 => exact (Kd.R_reads' HO784.out).2.1); (case side3 => refine (Kd.R_reads' (e := 40) (base := w.heap.size) (ok := fun k_ => (some k_ ≠ (.slice Ao567 t782.length co567 : Value).ownBlock ∧ some k_ ≠ (.slice Ao325 t737.length co325 : Value).ownBlock)) (n := t732.length) (c := co317) ?_).2.2; exact (w39_)); (case side4 => exact (Kd.R_reads' HO_737000.out).2.1); rintro e w574 ⟨rfl, hb⟩; replace HO_737000 := Az_ (Kd.R_below (w39_) hb); replace HO_742000 := Az_ (Kd.R_below (by (with_reducible repeat (first | apply raz_ | apply rnz_ | apply rdz_)); exact (Kd.R_mono (Kd.R_far (p := ⟨gb786, 0, none⟩) (Kd.R_types HO_742000.out BK786.out (by decide)) (fun _ hk => hk.2) (.slice Ao567 t782.length co567)) (fun _ h_ => h_.1))) hb); replace HO784 := Az_ (Kd.R_below (w69_) hb); replace BK736 := Az_ (kbz_ (g := gb736) (o := .cells #[.slice (some ad781) t732.length co317] 30 (0, 0)) (by (with_reducible repeat (first | refine knz_ ?_ _ | refine kdz_ ?_ | refine kaz_ ?_ _)); refine blk_far ?_ NB736_786.out _; (with_reducible repeat (first | refine knz_ ?_ _ | refine kdz_ ?_ | refine kaz_ ?_ _)); exact BK736.out) hb); replace BK741 := Az_ (kbz_ (g := gb741) (o := .cells #[.slice Ao325 t737.length co325] 30 (0, 0)) (by (with_reducible repeat (first | refine knz_ ?_ _ | refine kdz_ ?_ | refine kaz_ ?_ _)); refine blk_far ?_ NB741_786.out _; (with_reducible repeat (first | refine knz_ ?_ _ | refine kdz_ ?_ | refine kaz_ ?_ _)); exact BK741.out) hb); replace BK786 := Az_ (kbz_ (g := gb786) (o := .cells #[.slice Ao567 t782.length co567] 30 (0, 0)) (by (with_reducible repeat (first | refine knz_ ?_ _ | refine kdz_ ?_ | refine kaz_ ?_ _)); refine blk_put (cs := #[.slice none 0 0]) ?_ 0 _ rfl; (with_reducible repeat (first | refine knz_ ?_ _ | refine kdz_ ?_ | refine kaz_ ?_ _)); exact BK786.out) hb); replace HB := Az_ (btz_ (w129_) hb); (try clear hb)))
               go_ret
               exact ⟨w166_, w129_⟩
end Go.Proofs.YtodacdcbeleleaaDoor.P
