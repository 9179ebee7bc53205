/- Lean functions with the answers of the program's Go functions, and for each the proof that the Go code comes to these answers; no condition. -/
import Derived.Test.YtppbpefehpbejaaDoorZim25
import Derived.Test.YtppbpefehpbejaaDoorZim21
import Derived.Test.YtppbpefehpbejaaDoorZim22
import Derived.Test.YtppbpefehpbejaaDoorZim23
import Derived.Test.YtppbpefehpbejaaDoorZim24
namespace Go.Proofs.YtppbpefehpbejaaDoor.P
open Go.RowKit Go.Proofs.YtppbpefehpbejaaDoorW.PrintWords Go.Proofs.YtppbpefehpbejaaDoorW.PrintLast Go.Proofs.YtppbpefehpbejaaDoorW.PrintMore
attribute [local go_sem] max2_int min2_int max_two min_two max_three min_three max_four min_four   -- for this text's walks alone
set_option linter.unusedVariables false
set_option linter.unusedSimpArgs false

attribute [local go_sem high] eqA100
set_option maxHeartbeats 8000000 in
set_option maxRecDepth 100000 in
theorem laws_FnIndexesMoved.calls (k : Nat) (A0 : Option Addr) (c0 : Nat) (l0 : List Int) (A1 : Option Addr) (c1 : Nat) (l1 : List Int) (r : Bool) (w : World) (hT : LibW w) (hr0 : Kd.C (Kd.int .u8) w A0 l0.length l0) (hc0 : l0.length ≤ c0) (hr1 : Kd.C (Kd.int .u8) w A1 l1.length l1) (hc1 : l1.length ≤ c1) (h : laws_FnIndexesMoved.f k l0 l1 = some r) (hrT : r = true) :
  Calls Tryd.prog 5 #[.slice A0 l0.length c0, .slice A1 l1.length c1] w fun e w' => e = .returned (.bool r) ∧ Below w.heap.size w w' := by
 have HTAB := Az_ hT
 clear hT
 have hu100 := Tryd.underlying100
 have HR0 := Az_ hr0
 have HC0 := Az_ hc0
 clear hr0 hc0
 have HR1 := Az_ hr1
 have HC1 := Az_ hc1
 clear hr1 hc1
 have HB := Az_ (Below.refl w.heap.size w)
 have H : ((laws_big.f l0 l1).bind fun t445 => (if t445 = true then (some true) else ((spec_DrawPutPages.f k l0).bind fun bt446 => ((impl_PutPages.f k bt446.1 bt446.2.1 bt446.2.2).bind fun bt451 => ((spec_PutPages.f k bt446.1 bt446.2.1 bt446.2.2).bind fun bt455 => ((impl_TakePages.f k bt446.1 bt446.2.1 bt446.2.2).bind fun bt459 => ((spec_TakePages.f k bt446.1 bt446.2.1 bt446.2.2).bind fun bt463 => ((impl_NearestIndexed.f k bt446.1 bt446.2.1).bind fun bt467 => ((spec_NearestIndexed.f k bt446.1 bt446.2.1).bind fun bt469 => ((impl_HasIndexed.f k bt446.1 bt446.2.1).bind fun bt471 => ((spec_HasIndexed.f k bt446.1 bt446.2.1).bind fun bt473 => (if (bt451.2 != bt455.2) = true then (j0 k l1 bt446.1 bt446.2.1 bt446.2.2 bt451.1 bt451.2 bt459.1 bt459.2 bt467.1 bt467.2 bt471.1 true) else ((laws_fRanges.f k bt451.1 bt455.1).bind fun t475 => (if t475 = true then (if (bt459.2 != bt463.2) = true then (j0 k l1 bt446.1 bt446.2.1 bt446.2.2 bt451.1 bt451.2 bt459.1 bt459.2 bt467.1 bt467.2 bt471.1 true) else ((laws_fRanges.f k bt459.1 bt463.1).bind fun t476 => (if t476 = true then (if (bt467.2 != bt469.2) = true then (j0 k l1 bt446.1 bt446.2.1 bt446.2.2 bt451.1 bt451.2 bt459.1 bt459.2 bt467.1 bt467.2 bt471.1 true) else (if bt467.1 = bt469.1 then (if (bt471.2 != bt473.2) = true then (j0 k l1 bt446.1 bt446.2.1 bt446.2.2 bt451.1 bt451.2 bt459.1 bt459.2 bt467.1 bt467.2 bt471.1 true) else (if (bt471.1 != bt473.1) = true then (j0 k l1 bt446.1 bt446.2.1 bt446.2.2 bt451.1 bt451.2 bt459.1 bt459.2 bt467.1 bt467.2 bt471.1 true) else (if bt471.2 = true then (if (bt467.2 != (decide ((bt446.1.length : Int) > 0))) = true then (j0 k l1 bt446.1 bt446.2.1 bt446.2.2 bt451.1 bt451.2 bt459.1 bt459.2 bt467.1 bt467.2 bt471.1 true) else (if bt451.2 = true then (if bt459.2 = true then (j0 k l1 bt446.1 bt446.2.1 bt446.2.2 bt451.1 bt451.2 bt459.1 bt459.2 bt467.1 bt467.2 bt471.1 (!bt471.2)) else (j0 k l1 bt446.1 bt446.2.1 bt446.2.2 bt451.1 bt451.2 bt459.1 bt459.2 bt467.1 bt467.2 bt471.1 true)) else (if bt459.2 = true then (j0 k l1 bt446.1 bt446.2.1 bt446.2.2 bt451.1 bt451.2 bt459.1 bt459.2 bt467.1 bt467.2 bt471.1 (!bt471.2)) else (j0 k l1 bt446.1 bt446.2.1 bt446.2.2 bt451.1 bt451.2 bt459.1 bt459.2 bt467.1 bt467.2 bt471.1 false)))) else (if (bt467.2 != false) = true then (j0 k l1 bt446.1 bt446.2.1 bt446.2.2 bt451.1 bt451.2 bt459.1 bt459.2 bt467.1 bt467.2 bt471.1 true) else (if bt451.2 = true then (if bt459.2 = true then (j0 k l1 bt446.1 bt446.2.1 bt446.2.2 bt451.1 bt451.2 bt459.1 bt459.2 bt467.1 bt467.2 bt471.1 (!bt471.2)) else (j0 k l1 bt446.1 bt446.2.1 bt446.2.2 bt451.1 bt451.2 bt459.1 bt459.2 bt467.1 bt467.2 bt471.1 true)) else (if bt459.2 = true then (j0 k l1 bt446.1 bt446.2.1 bt446.2.2 bt451.1 bt451.2 bt459.1 bt459.2 bt467.1 bt467.2 bt471.1 (!bt471.2)) else (j0 k l1 bt446.1 bt446.2.1 bt446.2.2 bt451.1 bt451.2 bt459.1 bt459.2 bt467.1 bt467.2 bt471.1 false))))))) else (j0 k l1 bt446.1 bt446.2.1 bt446.2.2 bt451.1 bt451.2 bt459.1 bt459.2 bt467.1 bt467.2 bt471.1 true))) else (j0 k l1 bt446.1 bt446.2.1 bt446.2.2 bt451.1 bt451.2 bt459.1 bt459.2 bt467.1 bt467.2 bt471.1 true)))) else (j0 k l1 bt446.1 bt446.2.1 bt446.2.2 bt451.1 bt451.2 bt459.1 bt459.2 bt467.1 bt467.2 bt471.1 true))))))))))))))) = some r := h
 clear h
 replace H := bqz_ H; obtain ⟨t445, A3, H⟩ := H
 replace H : (if t445 = true then (some true) else ((spec_DrawPutPages.f k l0).bind fun bt446 => ((impl_PutPages.f k bt446.1 bt446.2.1 bt446.2.2).bind fun bt451 => ((spec_PutPages.f k bt446.1 bt446.2.1 bt446.2.2).bind fun bt455 => ((impl_TakePages.f k bt446.1 bt446.2.1 bt446.2.2).bind fun bt459 => ((spec_TakePages.f k bt446.1 bt446.2.1 bt446.2.2).bind fun bt463 => ((impl_NearestIndexed.f k bt446.1 bt446.2.1).bind fun bt467 => ((spec_NearestIndexed.f k bt446.1 bt446.2.1).bind fun bt469 => ((impl_HasIndexed.f k bt446.1 bt446.2.1).bind fun bt471 => ((spec_HasIndexed.f k bt446.1 bt446.2.1).bind fun bt473 => (if (bt451.2 != bt455.2) = true then (j0 k l1 bt446.1 bt446.2.1 bt446.2.2 bt451.1 bt451.2 bt459.1 bt459.2 bt467.1 bt467.2 bt471.1 true) else ((laws_fRanges.f k bt451.1 bt455.1).bind fun t475 => (if t475 = true then (if (bt459.2 != bt463.2) = true then (j0 k l1 bt446.1 bt446.2.1 bt446.2.2 bt451.1 bt451.2 bt459.1 bt459.2 bt467.1 bt467.2 bt471.1 true) else ((laws_fRanges.f k bt459.1 bt463.1).bind fun t476 => (if t476 = true then (if (bt467.2 != bt469.2) = true then (j0 k l1 bt446.1 bt446.2.1 bt446.2.2 bt451.1 bt451.2 bt459.1 bt459.2 bt467.1 bt467.2 bt471.1 true) else (if bt467.1 = bt469.1 then (if (bt471.2 != bt473.2) = true then (j0 k l1 bt446.1 bt446.2.1 bt446.2.2 bt451.1 bt451.2 bt459.1 bt459.2 bt467.1 bt467.2 bt471.1 true) else (if (bt471.1 != bt473.1) = true then (j0 k l1 bt446.1 bt446.2.1 bt446.2.2 bt451.1 bt451.2 bt459.1 bt459.2 bt467.1 bt467.2 bt471.1 true) else (if bt471.2 = true then (if (bt467.2 != (decide ((bt446.1.length : Int) > 0))) = true then (j0 k l1 bt446.1 bt446.2.1 bt446.2.2 bt451.1 bt451.2 bt459.1 bt459.2 bt467.1 bt467.2 bt471.1 true) else (if bt451.2 = true then (if bt459.2 = true then (j0 k l1 bt446.1 bt446.2.1 bt446.2.2 bt451.1 bt451.2 bt459.1 bt459.2 bt467.1 bt467.2 bt471.1 (!bt471.2)) else (j0 k l1 bt446.1 bt446.2.1 bt446.2.2 bt451.1 bt451.2 bt459.1 bt459.2 bt467.1 bt467.2 bt471.1 true)) else (if bt459.2 = true then (j0 k l1 bt446.1 bt446.2.1 bt446.2.2 bt451.1 bt451.2 bt459.1 bt459.2 bt467.1 bt467.2 bt471.1 (!bt471.2)) else (j0 k l1 bt446.1 bt446.2.1 bt446.2.2 bt451.1 bt451.2 bt459.1 bt459.2 bt467.1 bt467.2 bt471.1 false)))) else (if (bt467.2 != false) = true then (j0 k l1 bt446.1 bt446.2.1 bt446.2.2 bt451.1 bt451.2 bt459.1 bt459.2 bt467.1 bt467.2 bt471.1 true) else (if bt451.2 = true then (if bt459.2 = true then (j0 k l1 bt446.1 bt446.2.1 bt446.2.2 bt451.1 bt451.2 bt459.1 bt459.2 bt467.1 bt467.2 bt471.1 (!bt471.2)) else (j0 k l1 bt446.1 bt446.2.1 bt446.2.2 bt451.1 bt451.2 bt459.1 bt459.2 bt467.1 bt467.2 bt471.1 true)) else (if bt459.2 = true then (j0 k l1 bt446.1 bt446.2.1 bt446.2.2 bt451.1 bt451.2 bt459.1 bt459.2 bt467.1 bt467.2 bt471.1 (!bt471.2)) else (j0 k l1 bt446.1 bt446.2.1 bt446.2.2 bt451.1 bt451.2 bt459.1 bt459.2 bt467.1 bt467.2 bt471.1 false))))))) else (j0 k l1 bt446.1 bt446.2.1 bt446.2.2 bt451.1 bt451.2 bt459.1 bt459.2 bt467.1 bt467.2 bt471.1 true))) else (j0 k l1 bt446.1 bt446.2.1 bt446.2.2 bt451.1 bt451.2 bt459.1 bt459.2 bt467.1 bt467.2 bt471.1 true)))) else (j0 k l1 bt446.1 bt446.2.1 bt446.2.2 bt451.1 bt451.2 bt459.1 bt459.2 bt467.1 bt467.2 bt471.1 true)))))))))))))) = some r := H
 by_cases c4 : t445 = true
 ·subst c4
  rw [if_pos rfl] at H
  obtain rfl := Option.some.inj H; clear hrT
  go_enter Tryd.func5, Tryd.ntmps5
  (try simp only [List.append_eq, List.append, List.cons_append, List.nil_append])
  go_wp2_with (first | (go_at_call 6; (with_reducible refine (laws_big.calls _ _ l0 _ _ l1 true _ ?side1 ?side2 ?side3 ?side4 A3.out).mono ?_); (case side1 => exact ucz_ (HR0.out)); (case side2 => exact HC0.out); (case side3 => exact ucz_ (HR1.out)); (case side4 => exact HC1.out); rintro e w' ⟨rfl, ⟨nd, rfl⟩⟩; (try first | exact ⟨rfl, _, World.drewN_drewN _ _ _⟩ | exact ⟨rfl, _, Eq.trans (World.drewN_drewN _ _ _) (congrArg (World.drewN _) (Nat.add_assoc _ _ _))⟩)))
  go_ret
  exact ⟨w116_, w160_⟩
 replace c4 := Bool.eq_false_iff.mpr c4
 subst c4
 rw [if_neg nfz_] at H
 replace H := bqz_ H; obtain ⟨⟨t446, t447, t448⟩, A5, H⟩ := H
 replace H := bqz_ H; obtain ⟨⟨t451, t452⟩, A6, H⟩ := H
 replace H := bqz_ H; obtain ⟨⟨t455, t456⟩, A7, H⟩ := H
 replace H := bqz_ H; obtain ⟨⟨t459, t460⟩, A8, H⟩ := H
 replace H := bqz_ H; obtain ⟨⟨t463, t464⟩, A9, H⟩ := H
 replace H := bqz_ H; obtain ⟨⟨t467, t468⟩, A10, H⟩ := H
 replace H := bqz_ H; obtain ⟨⟨t469, t470⟩, A11, H⟩ := H
 replace H := bqz_ H; obtain ⟨⟨t471, t472⟩, A12, H⟩ := H
 replace H := bqz_ H; obtain ⟨⟨t473, t474⟩, A13, H⟩ := H
 replace H : (if (t452 != t456) = true then (j0 k l1 t446 t447 t448 t451 t452 t459 t460 t467 t468 t471 true) else ((laws_fRanges.f k t451 t455).bind fun t475 => (if t475 = true then (if (t460 != t464) = true then (j0 k l1 t446 t447 t448 t451 t452 t459 t460 t467 t468 t471 true) else ((laws_fRanges.f k t459 t463).bind fun t476 => (if t476 = true then (if (t468 != t470) = true then (j0 k l1 t446 t447 t448 t451 t452 t459 t460 t467 t468 t471 true) else (if t467 = t469 then (if (t472 != t474) = true then (j0 k l1 t446 t447 t448 t451 t452 t459 t460 t467 t468 t471 true) else (if (t471 != t473) = true then (j0 k l1 t446 t447 t448 t451 t452 t459 t460 t467 t468 t471 true) else (if t472 = true then (if (t468 != (decide ((t446.length : Int) > 0))) = true then (j0 k l1 t446 t447 t448 t451 t452 t459 t460 t467 t468 t471 true) else (if t452 = true then (if t460 = true then (j0 k l1 t446 t447 t448 t451 t452 t459 t460 t467 t468 t471 (!t472)) else (j0 k l1 t446 t447 t448 t451 t452 t459 t460 t467 t468 t471 true)) else (if t460 = true then (j0 k l1 t446 t447 t448 t451 t452 t459 t460 t467 t468 t471 (!t472)) else (j0 k l1 t446 t447 t448 t451 t452 t459 t460 t467 t468 t471 false)))) else (if (t468 != false) = true then (j0 k l1 t446 t447 t448 t451 t452 t459 t460 t467 t468 t471 true) else (if t452 = true then (if t460 = true then (j0 k l1 t446 t447 t448 t451 t452 t459 t460 t467 t468 t471 (!t472)) else (j0 k l1 t446 t447 t448 t451 t452 t459 t460 t467 t468 t471 true)) else (if t460 = true then (j0 k l1 t446 t447 t448 t451 t452 t459 t460 t467 t468 t471 (!t472)) else (j0 k l1 t446 t447 t448 t451 t452 t459 t460 t467 t468 t471 false))))))) else (j0 k l1 t446 t447 t448 t451 t452 t459 t460 t467 t468 t471 true))) else (j0 k l1 t446 t447 t448 t451 t452 t459 t460 t467 t468 t471 true)))) else (j0 k l1 t446 t447 t448 t451 t452 t459 t460 t467 t468 t471 true)))) = some r := H
 have HC14 := Az_ H
 clear H
 go_enter Tryd.func5, Tryd.ntmps5
 (try simp only [List.append_eq, List.append, List.cons_append, List.nil_append])
 go_upto_region 12 with (first | (go_at_call 6; (with_reducible refine (laws_big.calls _ _ l0 _ _ l1 false _ ?side1 ?side2 ?side3 ?side4 A3.out).mono ?_); (case side1 => exact ucz_ (HR0.out)); (case side2 => exact HC0.out); (case side3 => exact ucz_ (HR1.out)); (case side4 => exact HC1.out); rintro e w' ⟨rfl, ⟨nd, rfl⟩⟩; (try first | exact ⟨rfl, _, World.drewN_drewN _ _ _⟩ | exact ⟨rfl, _, Eq.trans (World.drewN_drewN _ _ _) (congrArg (World.drewN _) (Nat.add_assoc _ _ _))⟩)) | (go_at_call 67; (with_reducible refine (spec_DrawPutPages.calls k _ _ l0 t446 t447 t448 _ ?side1 ?side2 A5.out).mono ?_); (case side1 => exact ucz_ (HR0.out)); (case side2 => exact HC0.out); rintro e w15 ⟨v449, rfl, ho0, hb⟩; have HO450 := Az_ (Kd.R_lower ho0 (below_size (ubz_ HB.out))); replace HB := Az_ (btz_ (ubz_ HB.out) hb); (try clear hb); (try clear ho0); obtain ⟨Ao16, co16, eo16⟩ := Kd.R_slice HO450.out; subst eo16) | (go_at_call 68; (with_reducible refine (impl_PutPages.calls k _ _ t446 t447 t448 t451 t452 _ ?side1 ?side2 A6.out).mono ?_); (case side1 => exact ucz_ ((Kd.R_reads' HO450.out).2.2)); (case side2 => exact (Kd.R_reads' HO450.out).2.1); rintro e w17 ⟨v453, rfl, ho0, hb⟩; have HO454 := Az_ (Kd.R_lower (Kd.R_new' ho0 (Kd.R_lt (w146_))) (below_size (ubz_ HB.out))); replace HO450 := Az_ (rez_ (w146_) (Kd.R_base ho0) hb); replace HB := Az_ (btz_ (ubz_ HB.out) hb); (try clear hb); (try clear ho0)) | (go_at_call 69; (with_reducible refine (spec_PutPages.calls k _ _ t446 t447 t448 t455 t456 _ ?side1 ?side2 A7.out).mono ?_); (case side1 => exact ucz_ ((Kd.R_reads' HO450.out).2.2)); (case side2 => exact (Kd.R_reads' HO450.out).2.1); rintro e w18 ⟨v457, rfl, ho0, hb⟩; have HO458 := Az_ (Kd.R_lower (Kd.R_new' (Kd.R_new' ho0 (Kd.R_lt (w146_))) (Kd.R_lt (w147_))) (below_size (ubz_ HB.out))); replace HO450 := Az_ (rez_ (w146_) (Kd.R_base ho0) hb); replace HO454 := Az_ (rez_ (w147_) (Kd.R_base ho0) hb); replace HB := Az_ (btz_ (ubz_ HB.out) hb); (try clear hb); (try clear ho0)) | (go_at_call 70; (with_reducible refine (impl_TakePages.calls k _ _ t446 t447 t448 t459 t460 _ ?side1 ?side2 A8.out).mono ?_); (case side1 => exact ucz_ ((Kd.R_reads' HO450.out).2.2)); (case side2 => exact (Kd.R_reads' HO450.out).2.1); rintro e w19 ⟨v461, rfl, ho0, hb⟩; have HO462 := Az_ (Kd.R_lower (Kd.R_new' (Kd.R_new' (Kd.R_new' ho0 (Kd.R_lt (w146_))) (Kd.R_lt (w147_))) (Kd.R_lt (w148_))) (below_size (ubz_ HB.out))); replace HO450 := Az_ (rez_ (w146_) (Kd.R_base ho0) hb); replace HO454 := Az_ (rez_ (w147_) (Kd.R_base ho0) hb); replace HO458 := Az_ (rez_ (w148_) (Kd.R_base ho0) hb); replace HB := Az_ (btz_ (ubz_ HB.out) hb); (try clear hb); (try clear ho0)) | (go_at_call 71; (with_reducible refine (spec_TakePages.calls k _ _ t446 t447 t448 t463 t464 _ ?side1 ?side2 A9.out).mono ?_); (case side1 => exact ucz_ ((Kd.R_reads' HO450.out).2.2)); (case side2 => exact (Kd.R_reads' HO450.out).2.1); rintro e w20 ⟨v465, rfl, ho0, hb⟩; have HO466 := Az_ (Kd.R_lower (Kd.R_new' (Kd.R_new' (Kd.R_new' (Kd.R_new' ho0 (Kd.R_lt (w146_))) (Kd.R_lt (w147_))) (Kd.R_lt (w148_))) (Kd.R_lt (by exact urz_ HO462.out))) (below_size (ubz_ HB.out))); replace HO450 := Az_ (rez_ (w146_) (Kd.R_base ho0) hb); replace HO454 := Az_ (rez_ (w147_) (Kd.R_base ho0) hb); replace HO458 := Az_ (rez_ (w148_) (Kd.R_base ho0) hb); replace HO462 := Az_ (rez_ (by exact urz_ HO462.out) (Kd.R_base ho0) hb); replace HB := Az_ (btz_ (ubz_ HB.out) hb); (try clear hb); (try clear ho0)) | (go_at_call 72; (with_reducible refine (impl_NearestIndexed.calls k _ _ t446 t447 t467 t468 _ ?side1 ?side2 A10.out).mono ?_); (case side1 => exact ucz_ ((Kd.R_reads' HO450.out).2.2)); (case side2 => exact (Kd.R_reads' HO450.out).2.1); rintro e w21 ⟨rfl, hb⟩; replace HO450 := Az_ (Kd.R_below (w146_) hb); replace HO454 := Az_ (Kd.R_below (w147_) hb); replace HO458 := Az_ (Kd.R_below (w148_) hb); replace HO462 := Az_ (Kd.R_below (by exact urz_ HO462.out) hb); replace HO466 := Az_ (Kd.R_below (by exact urz_ HO466.out) hb); replace HB := Az_ (btz_ (ubz_ HB.out) hb); (try clear hb)) | (go_at_call 73; (with_reducible refine (spec_NearestIndexed.calls k _ _ t446 t447 t469 t470 _ ?side1 ?side2 A11.out).mono ?_); (case side1 => exact ucz_ ((Kd.R_reads' HO450.out).2.2)); (case side2 => exact (Kd.R_reads' HO450.out).2.1); rintro e w22 ⟨rfl, hb⟩; replace HO450 := Az_ (Kd.R_below (w146_) hb); replace HO454 := Az_ (Kd.R_below (w147_) hb); replace HO458 := Az_ (Kd.R_below (w148_) hb); replace HO462 := Az_ (Kd.R_below (by exact urz_ HO462.out) hb); replace HO466 := Az_ (Kd.R_below (by exact urz_ HO466.out) hb); replace HB := Az_ (btz_ (ubz_ HB.out) hb); (try clear hb)) | (go_at_call 74; (with_reducible refine (impl_HasIndexed.calls k _ _ t446 t447 t471 t472 _ ?side1 ?side2 A12.out).mono ?_); (case side1 => exact ucz_ ((Kd.R_reads' HO450.out).2.2)); (case side2 => exact (Kd.R_reads' HO450.out).2.1); rintro e w23 ⟨rfl, hb⟩; replace HO450 := Az_ (Kd.R_below (w146_) hb); replace HO454 := Az_ (Kd.R_below (w147_) hb); replace HO458 := Az_ (Kd.R_below (w148_) hb); replace HO462 := Az_ (Kd.R_below (by exact urz_ HO462.out) hb); replace HO466 := Az_ (Kd.R_below (by exact urz_ HO466.out) hb); replace HB := Az_ (btz_ (ubz_ HB.out) hb); (try clear hb)) | (go_at_call 75; (with_reducible refine (spec_HasIndexed.calls k _ _ t446 t447 t473 t474 _ ?side1 ?side2 A13.out).mono ?_); (case side1 => exact ucz_ ((Kd.R_reads' HO450.out).2.2)); (case side2 => exact (Kd.R_reads' HO450.out).2.1); rintro e w24 ⟨rfl, hb⟩; replace HO450 := Az_ (Kd.R_below (w146_) hb); replace HO454 := Az_ (Kd.R_below (w147_) hb); replace HO458 := Az_ (Kd.R_below (w148_) hb); replace HO462 := Az_ (Kd.R_below (by exact urz_ HO462.out) hb); replace HO466 := Az_ (Kd.R_below (by exact urz_ HO466.out) hb); replace HB := Az_ (btz_ (ubz_ HB.out) hb); (try clear hb)))
 (try simp only [Act.put, List.setIfInBounds_toArray, List.set_cons_zero, List.set_cons_succ])
 go_cut [203] from 1 to 0 (fun v203 wc => ∃ (kq : Nat) (x203_13 : Bool), v203 = .bool x203_13 ∧ Aside0 (j0 kq l1 t446 t447 t448 t451 t452 t459 t460 t467 t468 t471 x203_13 = some r) ∧ Aside0 (kq ≤ k) ∧ Aside0 (Kd.R k100 100 wc w.heap.size (fun k_ => some k_ ≠ (v453 : Value).ownBlock ∧ some k_ ≠ (v461 : Value).ownBlock) (.slice Ao16 t446.length co16) t446) ∧ Aside0 (Kd.R k100 100 wc w.heap.size (fun k_ => some k_ ≠ ((.slice Ao16 t446.length co16) : Value).ownBlock ∧ some k_ ≠ (v461 : Value).ownBlock) v453 t451) ∧ Aside0 (Kd.R k100 100 wc w.heap.size (fun k_ => some k_ ≠ ((.slice Ao16 t446.length co16) : Value).ownBlock ∧ some k_ ≠ (v453 : Value).ownBlock) v461 t459) ∧ Aside0 (Below w.heap.size w wc))
 case first => as_aux_lemma =>
  have H := HC14.out
  clear HC14
  by_cases c25 : (t452 != t456) = true
  ·rw [if_pos c25] at H
   exact (laws_FnIndexesMoved.j0_no _ _ _ _ _ _ _ _ _ _ _ _ _ hrT H).elim
  rw [if_neg c25] at H
  obtain rfl : t452 = t456 := by simpa using c25
  clear c25
  replace H := bqz_ H; obtain ⟨t475, A26, H⟩ := H
  replace H : (if t475 = true then (if (t460 != t464) = true then (j0 k l1 t446 t447 t448 t451 t452 t459 t460 t467 t468 t471 true) else ((laws_fRanges.f k t459 t463).bind fun t476 => (if t476 = true then (if (t468 != t470) = true then (j0 k l1 t446 t447 t448 t451 t452 t459 t460 t467 t468 t471 true) else (if t467 = t469 then (if (t472 != t474) = true then (j0 k l1 t446 t447 t448 t451 t452 t459 t460 t467 t468 t471 true) else (if (t471 != t473) = true then (j0 k l1 t446 t447 t448 t451 t452 t459 t460 t467 t468 t471 true) else (if t472 = true then (if (t468 != (decide ((t446.length : Int) > 0))) = true then (j0 k l1 t446 t447 t448 t451 t452 t459 t460 t467 t468 t471 true) else (if t452 = true then (if t460 = true then (j0 k l1 t446 t447 t448 t451 t452 t459 t460 t467 t468 t471 (!t472)) else (j0 k l1 t446 t447 t448 t451 t452 t459 t460 t467 t468 t471 true)) else (if t460 = true then (j0 k l1 t446 t447 t448 t451 t452 t459 t460 t467 t468 t471 (!t472)) else (j0 k l1 t446 t447 t448 t451 t452 t459 t460 t467 t468 t471 false)))) else (if (t468 != false) = true then (j0 k l1 t446 t447 t448 t451 t452 t459 t460 t467 t468 t471 true) else (if t452 = true then (if t460 = true then (j0 k l1 t446 t447 t448 t451 t452 t459 t460 t467 t468 t471 (!t472)) else (j0 k l1 t446 t447 t448 t451 t452 t459 t460 t467 t468 t471 true)) else (if t460 = true then (j0 k l1 t446 t447 t448 t451 t452 t459 t460 t467 t468 t471 (!t472)) else (j0 k l1 t446 t447 t448 t451 t452 t459 t460 t467 t468 t471 false))))))) else (j0 k l1 t446 t447 t448 t451 t452 t459 t460 t467 t468 t471 true))) else (j0 k l1 t446 t447 t448 t451 t452 t459 t460 t467 t468 t471 true)))) else (j0 k l1 t446 t447 t448 t451 t452 t459 t460 t467 t468 t471 true)) = some r := H
  by_cases c27 : t475 = true; rotate_left
  ·replace c27 := Bool.eq_false_iff.mpr c27
   subst c27
   have H1 : (j0 k l1 t446 t447 t448 t451 t452 t459 t460 t467 t468 t471 true) = some r := by rw [if_neg (show ¬ (false = true) by decide)] at H; exact H
   clear H
   have H := H1
   exact (laws_FnIndexesMoved.j0_no _ _ _ _ _ _ _ _ _ _ _ _ _ hrT H).elim
  subst c27
  rw [if_pos rfl] at H
  by_cases c28 : (t460 != t464) = true
  ·rw [if_pos c28] at H
   exact (laws_FnIndexesMoved.j0_no _ _ _ _ _ _ _ _ _ _ _ _ _ hrT H).elim
  rw [if_neg c28] at H
  obtain rfl : t460 = t464 := by simpa using c28
  clear c28
  replace H := bqz_ H; obtain ⟨t476, A31, H⟩ := H
  replace H : (if t476 = true then (if (t468 != t470) = true then (j0 k l1 t446 t447 t448 t451 t452 t459 t460 t467 t468 t471 true) else (if t467 = t469 then (if (t472 != t474) = true then (j0 k l1 t446 t447 t448 t451 t452 t459 t460 t467 t468 t471 true) else (if (t471 != t473) = true then (j0 k l1 t446 t447 t448 t451 t452 t459 t460 t467 t468 t471 true) else (if t472 = true then (if (t468 != (decide ((t446.length : Int) > 0))) = true then (j0 k l1 t446 t447 t448 t451 t452 t459 t460 t467 t468 t471 true) else (if t452 = true then (if t460 = true then (j0 k l1 t446 t447 t448 t451 t452 t459 t460 t467 t468 t471 (!t472)) else (j0 k l1 t446 t447 t448 t451 t452 t459 t460 t467 t468 t471 true)) else (if t460 = true then (j0 k l1 t446 t447 t448 t451 t452 t459 t460 t467 t468 t471 (!t472)) else (j0 k l1 t446 t447 t448 t451 t452 t459 t460 t467 t468 t471 false)))) else (if (t468 != false) = true then (j0 k l1 t446 t447 t448 t451 t452 t459 t460 t467 t468 t471 true) else (if t452 = true then (if t460 = true then (j0 k l1 t446 t447 t448 t451 t452 t459 t460 t467 t468 t471 (!t472)) else (j0 k l1 t446 t447 t448 t451 t452 t459 t460 t467 t468 t471 true)) else (if t460 = true then (j0 k l1 t446 t447 t448 t451 t452 t459 t460 t467 t468 t471 (!t472)) else (j0 k l1 t446 t447 t448 t451 t452 t459 t460 t467 t468 t471 false))))))) else (j0 k l1 t446 t447 t448 t451 t452 t459 t460 t467 t468 t471 true))) else (j0 k l1 t446 t447 t448 t451 t452 t459 t460 t467 t468 t471 true)) = some r := H
  by_cases c32 : t476 = true; rotate_left
  ·replace c32 := Bool.eq_false_iff.mpr c32
   subst c32
   have H1 : (j0 k l1 t446 t447 t448 t451 t452 t459 t460 t467 t468 t471 true) = some r := by rw [if_neg (show ¬ (false = true) by decide)] at H; exact H
   clear H
   have H := H1
   exact (laws_FnIndexesMoved.j0_no _ _ _ _ _ _ _ _ _ _ _ _ _ hrT H).elim
  subst c32
  rw [if_pos rfl] at H
  by_cases c33 : (t468 != t470) = true
  ·rw [if_pos c33] at H
   exact (laws_FnIndexesMoved.j0_no _ _ _ _ _ _ _ _ _ _ _ _ _ hrT H).elim
  rw [if_neg c33] at H
  obtain rfl : t468 = t470 := by simpa using c33
  clear c33
  by_cases c38 : t467 = t469; rotate_left
  ·rw [if_neg c38] at H
   exact (laws_FnIndexesMoved.j0_no _ _ _ _ _ _ _ _ _ _ _ _ _ hrT H).elim
  rw [if_pos c38] at H
  subst c38
  by_cases c39 : (t472 != t474) = true
  ·rw [if_pos c39] at H
   exact (laws_FnIndexesMoved.j0_no _ _ _ _ _ _ _ _ _ _ _ _ _ hrT H).elim
  rw [if_neg c39] at H
  obtain rfl : t472 = t474 := by simpa using c39
  clear c39
  by_cases c44 : (t471 != t473) = true
  ·rw [if_pos c44] at H
   exact (laws_FnIndexesMoved.j0_no _ _ _ _ _ _ _ _ _ _ _ _ _ hrT H).elim
  rw [if_neg c44] at H
  obtain rfl : t471 = t473 := by simpa using c44
  clear c44
  by_cases c49 : t472 = true
  ·subst c49
   rw [if_pos rfl] at H
   by_cases c50 : (t468 != (decide ((t446.length : Int) > 0))) = true
   ·rw [if_pos c50] at H
    exact (laws_FnIndexesMoved.j0_no _ _ _ _ _ _ _ _ _ _ _ _ _ hrT H).elim
   rw [if_neg c50] at H
   have c50b0 : (t468 != (decide ((t446.length : Int) > 0))) = false := by simpa using c50
   have c50n : decide (0 < t446.length) = t468 := by have h_ := bne_eq_false_iff_eq.1 c50b0; rw [h_]; exact decide_eq_decide.2 (by omega)
   clear c50
   by_cases c55 : t452 = true
   ·subst c55
    rw [if_pos rfl] at H
    by_cases c56 : t460 = true; rotate_left
    ·replace c56 := Bool.eq_false_iff.mpr c56
     subst c56
     have H1 : (j0 k l1 t446 t447 t448 t451 true t459 false t467 t468 t471 true) = some r := by rw [if_neg (show ¬ (false = true) by decide)] at H; exact H
     clear H
     have H := H1
     exact (laws_FnIndexesMoved.j0_no _ _ _ _ _ _ _ _ _ _ _ _ _ hrT H).elim
    subst c56
    rw [if_pos rfl] at H
    have H' := Az_ H
    clear H
    obtain ⟨Ao57, co57, eo57⟩ := Kd.R_slice HO454.out
    subst eo57
    obtain ⟨Ao58, co58, eo58⟩ := Kd.R_slice HO458.out
    subst eo58
    go_wp2_with (first | (go_at_call 76; (with_reducible refine (laws_fRanges.calls k _ _ t451 _ _ t455 true _ ?side1 ?side2 ?side3 ?side4 A26.out).mono ?_); (case side1 => exact ucz_ ((Kd.R_reads' HO454.out).2.2)); (case side2 => exact (Kd.R_reads' HO454.out).2.1); (case side3 => exact ucz_ ((Kd.R_reads' HO458.out).2.2)); (case side4 => exact (Kd.R_reads' HO458.out).2.1); rintro e w' ⟨rfl, ⟨nd, rfl⟩⟩; (try first | exact ⟨rfl, _, World.drewN_drewN _ _ _⟩ | exact ⟨rfl, _, Eq.trans (World.drewN_drewN _ _ _) (congrArg (World.drewN _) (Nat.add_assoc _ _ _))⟩); obtain ⟨Ao59, co59, eo59⟩ := Kd.R_slice HO462.out; subst eo59; obtain ⟨Ao60, co60, eo60⟩ := Kd.R_slice HO466.out; subst eo60; clear A26) | (go_at_call 76; (with_reducible refine (laws_fRanges.calls k _ _ t459 _ _ t463 true _ ?side1 ?side2 ?side3 ?side4 A31.out).mono ?_); (case side1 => exact ucz_ ((Kd.R_reads' HO462.out).2.2)); (case side2 => exact (Kd.R_reads' HO462.out).2.1); (case side3 => exact ucz_ ((Kd.R_reads' HO466.out).2.2)); (case side4 => exact (Kd.R_reads' HO466.out).2.1); rintro e w' ⟨rfl, ⟨nd, rfl⟩⟩; (try first | exact ⟨rfl, _, World.drewN_drewN _ _ _⟩ | exact ⟨rfl, _, Eq.trans (World.drewN_drewN _ _ _) (congrArg (World.drewN _) (Nat.add_assoc _ _ _))⟩)))
    go_meet
    case rel => exact ⟨_, (!true), qaz_, H', ⟨w141_⟩, ⟨w83_⟩, ⟨w84_⟩, ⟨w82_⟩, ⟨w160_⟩⟩
   replace c55 := Bool.eq_false_iff.mpr c55
   subst c55
   rw [if_neg nfz_] at H
   by_cases c65 : t460 = true
   ·subst c65
    rw [if_pos rfl] at H
    have H' := Az_ H
    clear H
    obtain ⟨Ao66, co66, eo66⟩ := Kd.R_slice HO454.out
    subst eo66
    obtain ⟨Ao67, co67, eo67⟩ := Kd.R_slice HO458.out
    subst eo67
    go_wp2_with (first | (go_at_call 76; (with_reducible refine (laws_fRanges.calls k _ _ t451 _ _ t455 true _ ?side1 ?side2 ?side3 ?side4 A26.out).mono ?_); (case side1 => exact ucz_ ((Kd.R_reads' HO454.out).2.2)); (case side2 => exact (Kd.R_reads' HO454.out).2.1); (case side3 => exact ucz_ ((Kd.R_reads' HO458.out).2.2)); (case side4 => exact (Kd.R_reads' HO458.out).2.1); rintro e w' ⟨rfl, ⟨nd, rfl⟩⟩; (try first | exact ⟨rfl, _, World.drewN_drewN _ _ _⟩ | exact ⟨rfl, _, Eq.trans (World.drewN_drewN _ _ _) (congrArg (World.drewN _) (Nat.add_assoc _ _ _))⟩); obtain ⟨Ao68, co68, eo68⟩ := Kd.R_slice HO462.out; subst eo68; obtain ⟨Ao69, co69, eo69⟩ := Kd.R_slice HO466.out; subst eo69; clear A26) | (go_at_call 76; (with_reducible refine (laws_fRanges.calls k _ _ t459 _ _ t463 true _ ?side1 ?side2 ?side3 ?side4 A31.out).mono ?_); (case side1 => exact ucz_ ((Kd.R_reads' HO462.out).2.2)); (case side2 => exact (Kd.R_reads' HO462.out).2.1); (case side3 => exact ucz_ ((Kd.R_reads' HO466.out).2.2)); (case side4 => exact (Kd.R_reads' HO466.out).2.1); rintro e w' ⟨rfl, ⟨nd, rfl⟩⟩; (try first | exact ⟨rfl, _, World.drewN_drewN _ _ _⟩ | exact ⟨rfl, _, Eq.trans (World.drewN_drewN _ _ _) (congrArg (World.drewN _) (Nat.add_assoc _ _ _))⟩)))
    go_meet
    case rel => exact ⟨_, (!true), qaz_, H', ⟨w141_⟩, ⟨w83_⟩, ⟨w84_⟩, ⟨w82_⟩, ⟨w160_⟩⟩
   replace c65 := Bool.eq_false_iff.mpr c65
   subst c65
   rw [if_neg nfz_] at H
   have H' := Az_ H
   clear H
   obtain ⟨Ao70, co70, eo70⟩ := Kd.R_slice HO454.out
   subst eo70
   obtain ⟨Ao71, co71, eo71⟩ := Kd.R_slice HO458.out
   subst eo71
   go_wp2_with (first | (go_at_call 76; (with_reducible refine (laws_fRanges.calls k _ _ t451 _ _ t455 true _ ?side1 ?side2 ?side3 ?side4 A26.out).mono ?_); (case side1 => exact ucz_ ((Kd.R_reads' HO454.out).2.2)); (case side2 => exact (Kd.R_reads' HO454.out).2.1); (case side3 => exact ucz_ ((Kd.R_reads' HO458.out).2.2)); (case side4 => exact (Kd.R_reads' HO458.out).2.1); rintro e w' ⟨rfl, ⟨nd, rfl⟩⟩; (try first | exact ⟨rfl, _, World.drewN_drewN _ _ _⟩ | exact ⟨rfl, _, Eq.trans (World.drewN_drewN _ _ _) (congrArg (World.drewN _) (Nat.add_assoc _ _ _))⟩); obtain ⟨Ao72, co72, eo72⟩ := Kd.R_slice HO462.out; subst eo72; obtain ⟨Ao73, co73, eo73⟩ := Kd.R_slice HO466.out; subst eo73; clear A26) | (go_at_call 76; (with_reducible refine (laws_fRanges.calls k _ _ t459 _ _ t463 true _ ?side1 ?side2 ?side3 ?side4 A31.out).mono ?_); (case side1 => exact ucz_ ((Kd.R_reads' HO462.out).2.2)); (case side2 => exact (Kd.R_reads' HO462.out).2.1); (case side3 => exact ucz_ ((Kd.R_reads' HO466.out).2.2)); (case side4 => exact (Kd.R_reads' HO466.out).2.1); rintro e w' ⟨rfl, ⟨nd, rfl⟩⟩; (try first | exact ⟨rfl, _, World.drewN_drewN _ _ _⟩ | exact ⟨rfl, _, Eq.trans (World.drewN_drewN _ _ _) (congrArg (World.drewN _) (Nat.add_assoc _ _ _))⟩)))
   go_meet
   case rel => exact ⟨_, (false), qaz_, H', ⟨w141_⟩, ⟨w83_⟩, ⟨w84_⟩, ⟨w82_⟩, ⟨w160_⟩⟩
  replace c49 := Bool.eq_false_iff.mpr c49
  subst c49
  rw [if_neg nfz_] at H
  by_cases c74 : (t468 != false) = true
  ·rw [if_pos c74] at H
   exact (laws_FnIndexesMoved.j0_no _ _ _ _ _ _ _ _ _ _ _ _ _ hrT H).elim
  rw [if_neg c74] at H
  have c74b0 : (t468 != false) = false := by simpa using c74
  (try (have c74b1 : decide (t468 = false) = true := by simpa using c74))
  (try (have c74b2 : (t468 == false) = true := by simpa using c74))
  clear c74
  by_cases c79 : t452 = true
  ·subst c79
   rw [if_pos rfl] at H
   by_cases c80 : t460 = true; rotate_left
   ·replace c80 := Bool.eq_false_iff.mpr c80
    subst c80
    have H1 : (j0 k l1 t446 t447 t448 t451 true t459 false t467 t468 t471 true) = some r := by rw [if_neg (show ¬ (false = true) by decide)] at H; exact H
    clear H
    have H := H1
    exact (laws_FnIndexesMoved.j0_no _ _ _ _ _ _ _ _ _ _ _ _ _ hrT H).elim
   subst c80
   rw [if_pos rfl] at H
   have H' := Az_ H
   clear H
   obtain ⟨Ao81, co81, eo81⟩ := Kd.R_slice HO454.out
   subst eo81
   obtain ⟨Ao82, co82, eo82⟩ := Kd.R_slice HO458.out
   subst eo82
   go_wp2_with (first | (go_at_call 76; (with_reducible refine (laws_fRanges.calls k _ _ t451 _ _ t455 true _ ?side1 ?side2 ?side3 ?side4 A26.out).mono ?_); (case side1 => exact ucz_ ((Kd.R_reads' HO454.out).2.2)); (case side2 => exact (Kd.R_reads' HO454.out).2.1); (case side3 => exact ucz_ ((Kd.R_reads' HO458.out).2.2)); (case side4 => exact (Kd.R_reads' HO458.out).2.1); rintro e w' ⟨rfl, ⟨nd, rfl⟩⟩; (try first | exact ⟨rfl, _, World.drewN_drewN _ _ _⟩ | exact ⟨rfl, _, Eq.trans (World.drewN_drewN _ _ _) (congrArg (World.drewN _) (Nat.add_assoc _ _ _))⟩); obtain ⟨Ao83, co83, eo83⟩ := Kd.R_slice HO462.out; subst eo83; obtain ⟨Ao84, co84, eo84⟩ := Kd.R_slice HO466.out; subst eo84; clear A26) | (go_at_call 76; (with_reducible refine (laws_fRanges.calls k _ _ t459 _ _ t463 true _ ?side1 ?side2 ?side3 ?side4 A31.out).mono ?_); (case side1 => exact ucz_ ((Kd.R_reads' HO462.out).2.2)); (case side2 => exact (Kd.R_reads' HO462.out).2.1); (case side3 => exact ucz_ ((Kd.R_reads' HO466.out).2.2)); (case side4 => exact (Kd.R_reads' HO466.out).2.1); rintro e w' ⟨rfl, ⟨nd, rfl⟩⟩; (try first | exact ⟨rfl, _, World.drewN_drewN _ _ _⟩ | exact ⟨rfl, _, Eq.trans (World.drewN_drewN _ _ _) (congrArg (World.drewN _) (Nat.add_assoc _ _ _))⟩)))
   go_meet
   case rel => exact ⟨_, (!false), qaz_, H', ⟨w141_⟩, ⟨w83_⟩, ⟨w84_⟩, ⟨w82_⟩, ⟨w160_⟩⟩
  replace c79 := Bool.eq_false_iff.mpr c79
  subst c79
  rw [if_neg nfz_] at H
  by_cases c89 : t460 = true
  ·subst c89
   rw [if_pos rfl] at H
   have H' := Az_ H
   clear H
   obtain ⟨Ao90, co90, eo90⟩ := Kd.R_slice HO454.out
   subst eo90
   obtain ⟨Ao91, co91, eo91⟩ := Kd.R_slice HO458.out
   subst eo91
   go_wp2_with (first | (go_at_call 76; (with_reducible refine (laws_fRanges.calls k _ _ t451 _ _ t455 true _ ?side1 ?side2 ?side3 ?side4 A26.out).mono ?_); (case side1 => exact ucz_ ((Kd.R_reads' HO454.out).2.2)); (case side2 => exact (Kd.R_reads' HO454.out).2.1); (case side3 => exact ucz_ ((Kd.R_reads' HO458.out).2.2)); (case side4 => exact (Kd.R_reads' HO458.out).2.1); rintro e w' ⟨rfl, ⟨nd, rfl⟩⟩; (try first | exact ⟨rfl, _, World.drewN_drewN _ _ _⟩ | exact ⟨rfl, _, Eq.trans (World.drewN_drewN _ _ _) (congrArg (World.drewN _) (Nat.add_assoc _ _ _))⟩); obtain ⟨Ao92, co92, eo92⟩ := Kd.R_slice HO462.out; subst eo92; obtain ⟨Ao93, co93, eo93⟩ := Kd.R_slice HO466.out; subst eo93; clear A26) | (go_at_call 76; (with_reducible refine (laws_fRanges.calls k _ _ t459 _ _ t463 true _ ?side1 ?side2 ?side3 ?side4 A31.out).mono ?_); (case side1 => exact ucz_ ((Kd.R_reads' HO462.out).2.2)); (case side2 => exact (Kd.R_reads' HO462.out).2.1); (case side3 => exact ucz_ ((Kd.R_reads' HO466.out).2.2)); (case side4 => exact (Kd.R_reads' HO466.out).2.1); rintro e w' ⟨rfl, ⟨nd, rfl⟩⟩; (try first | exact ⟨rfl, _, World.drewN_drewN _ _ _⟩ | exact ⟨rfl, _, Eq.trans (World.drewN_drewN _ _ _) (congrArg (World.drewN _) (Nat.add_assoc _ _ _))⟩)))
   go_meet
   case rel => exact ⟨_, (!false), qaz_, H', ⟨w141_⟩, ⟨w83_⟩, ⟨w84_⟩, ⟨w82_⟩, ⟨w160_⟩⟩
  replace c89 := Bool.eq_false_iff.mpr c89
  subst c89
  rw [if_neg nfz_] at H
  have H' := Az_ H
  clear H
  obtain ⟨Ao94, co94, eo94⟩ := Kd.R_slice HO454.out
  subst eo94
  obtain ⟨Ao95, co95, eo95⟩ := Kd.R_slice HO458.out
  subst eo95
  go_wp2_with (first | (go_at_call 76; (with_reducible refine (laws_fRanges.calls k _ _ t451 _ _ t455 true _ ?side1 ?side2 ?side3 ?side4 A26.out).mono ?_); (case side1 => exact ucz_ ((Kd.R_reads' HO454.out).2.2)); (case side2 => exact (Kd.R_reads' HO454.out).2.1); (case side3 => exact ucz_ ((Kd.R_reads' HO458.out).2.2)); (case side4 => exact (Kd.R_reads' HO458.out).2.1); rintro e w' ⟨rfl, ⟨nd, rfl⟩⟩; (try first | exact ⟨rfl, _, World.drewN_drewN _ _ _⟩ | exact ⟨rfl, _, Eq.trans (World.drewN_drewN _ _ _) (congrArg (World.drewN _) (Nat.add_assoc _ _ _))⟩); obtain ⟨Ao96, co96, eo96⟩ := Kd.R_slice HO462.out; subst eo96; obtain ⟨Ao97, co97, eo97⟩ := Kd.R_slice HO466.out; subst eo97; clear A26) | (go_at_call 76; (with_reducible refine (laws_fRanges.calls k _ _ t459 _ _ t463 true _ ?side1 ?side2 ?side3 ?side4 A31.out).mono ?_); (case side1 => exact ucz_ ((Kd.R_reads' HO462.out).2.2)); (case side2 => exact (Kd.R_reads' HO462.out).2.1); (case side3 => exact ucz_ ((Kd.R_reads' HO466.out).2.2)); (case side4 => exact (Kd.R_reads' HO466.out).2.1); rintro e w' ⟨rfl, ⟨nd, rfl⟩⟩; (try first | exact ⟨rfl, _, World.drewN_drewN _ _ _⟩ | exact ⟨rfl, _, Eq.trans (World.drewN_drewN _ _ _) (congrArg (World.drewN _) (Nat.add_assoc _ _ _))⟩)))
  go_meet
  case rel => exact ⟨_, (false), qaz_, H', ⟨w141_⟩, ⟨w83_⟩, ⟨w84_⟩, ⟨w82_⟩, ⟨w160_⟩⟩
 case rest => as_aux_lemma =>
  clear HC14
  obtain ⟨kq, x203_13, rfl, HA, HJ13, HO_5, HO_8, HO_12, HB⟩ := hcut
  cases kq with
  | zero => exact absurd HA.out (by simp [j0])
  | succ kj13 =>
   have H := HA.out
   clear HA
   simp only [j0] at H
   by_cases c108 : x203_13 = true
   ·subst c108
    rw [if_pos rfl] at H
    exact absurd ((Option.some.inj H).trans hrT) (by decide)
   replace c108 := Bool.eq_false_iff.mpr c108
   subst c108
   rw [if_neg nfz_] at H
   have HC109 := Az_ H
   clear H
   go_upto_if 204 with (fail)
   go_cut [] from 1 to 0 (fun wc => ∃ (kq : Nat), Aside0 (j1 kq l1 t446 t447 t448 t459 t460 t467 t468 t471 = some r) ∧ Aside0 (kq ≤ kj13) ∧ Aside0 (Kd.R k100 100 wc w.heap.size (fun k_ => some k_ ≠ (v461 : Value).ownBlock) (.slice Ao16 t446.length co16) t446) ∧ Aside0 (Kd.R k100 100 wc w.heap.size (fun k_ => some k_ ≠ ((.slice Ao16 t446.length co16) : Value).ownBlock) v461 t459) ∧ Aside0 (Below w.heap.size w wc))
   case first => as_aux_lemma =>
    have H := HC109.out
    clear HC109
    by_cases c110 : t452 = true; rotate_left
    ·replace c110 := Bool.eq_false_iff.mpr c110
     subst c110
     rw [if_neg nfz_] at H
     have H' := Az_ H
     clear H
     go_wp2
     go_meet
     case rel => exact ⟨_, H', ⟨by have := HJ13.out; first | omega | exact Nat.le_refl _⟩, ⟨by (with_reducible repeat (first | apply raz_ | apply rnz_ | apply rdz_)); exact Kd.R_mono HO_5.out (fun _ hk => hk.2)⟩, ⟨by (with_reducible repeat (first | apply raz_ | apply rnz_ | apply rdz_)); exact Kd.R_mono HO_12.out (fun _ hk => hk.1)⟩, ⟨w160_⟩⟩
    subst c110
    rw [if_pos rfl] at H
    replace H := bqz_ H; obtain ⟨⟨t477, t478⟩, A111, H⟩ := H
    replace H := bqz_ H; obtain ⟨⟨t481, t482⟩, A112, H⟩ := H
    replace H := bqz_ H; obtain ⟨⟨t483, t484⟩, A113, H⟩ := H
    replace H : (if t478 = true then ((laws_fRanges.f kj13 t477 t446).bind fun t485 => (if t485 = true then (if t482 = true then (if t484 = true then (if t481 = t483 then (j1 kj13 l1 t446 t447 t448 t459 t460 t467 t468 t471) else (some false)) else (some false)) else (some false)) else (some false))) else (some false)) = some r := H
    by_cases c114 : t478 = true; rotate_left
    ·replace c114 := Bool.eq_false_iff.mpr c114
     subst c114
     rw [if_neg nfz_] at H
     exact absurd ((Option.some.inj H).trans hrT) (by decide)
    subst c114
    rw [if_pos rfl] at H
    replace H := bqz_ H; obtain ⟨t485, A115, H⟩ := H
    replace H : (if t485 = true then (if t482 = true then (if t484 = true then (if t481 = t483 then (j1 kj13 l1 t446 t447 t448 t459 t460 t467 t468 t471) else (some false)) else (some false)) else (some false)) else (some false)) = some r := H
    by_cases c116 : t485 = true; rotate_left
    ·replace c116 := Bool.eq_false_iff.mpr c116
     subst c116
     rw [if_neg nfz_] at H
     exact absurd ((Option.some.inj H).trans hrT) (by decide)
    subst c116
    rw [if_pos rfl] at H
    by_cases c117 : t482 = true; rotate_left
    ·replace c117 := Bool.eq_false_iff.mpr c117
     subst c117
     rw [if_neg nfz_] at H
     exact absurd ((Option.some.inj H).trans hrT) (by decide)
    subst c117
    rw [if_pos rfl] at H
    by_cases c118 : t484 = true; rotate_left
    ·replace c118 := Bool.eq_false_iff.mpr c118
     subst c118
     rw [if_neg nfz_] at H
     exact absurd ((Option.some.inj H).trans hrT) (by decide)
    subst c118
    rw [if_pos rfl] at H
    by_cases c119 : t481 = t483; rotate_left
    ·rw [if_neg c119] at H
     have c119b0 : (t481 == t483) = false := beq_eq_false_iff_ne.mpr c119
     have c119b1 : (t481 != t483) = true := bne_iff_ne.mpr c119
     (first | rw [c119b0] | (simp only [i64_w, i32_w]; rw [c119b0]) | skip)
     exact absurd ((Option.some.inj H).trans hrT) (by decide)
    rw [if_pos c119] at H
    subst c119
    have H' := Az_ H
    clear H
    obtain ⟨Ao120, co120, eo120⟩ := Kd.R_slice HO_8.out
    subst eo120
    go_wp2_with (first | (go_at_call 70; (with_reducible refine (impl_TakePages.calls kj13 _ _ t451 t447 t448 t477 true _ ?side1 ?side2 A111.out).mono ?_); (case side1 => exact ucz_ ((Kd.R_reads' HO_8.out).2.2)); (case side2 => exact (Kd.R_reads' HO_8.out).2.1); rintro e w121 ⟨v479, rfl, ho0, hb⟩; have HO480 := Az_ (Kd.R_lower (Kd.R_new' (Kd.R_new' (Kd.R_new' ho0 (Kd.R_lt (w159_))) (Kd.R_lt (by exact urz_ HO_8.out))) (Kd.R_lt (w149_))) (below_size (ubz_ HB.out))); replace HO_5 := Az_ (rez_ (w159_) (Kd.R_base ho0) hb); replace HO_8 := Az_ (rez_ (by exact urz_ HO_8.out) (Kd.R_base ho0) hb); replace HO_12 := Az_ (rez_ (w149_) (Kd.R_base ho0) hb); replace HB := Az_ (btz_ (ubz_ HB.out) hb); (try clear hb); (try clear ho0)) | (go_at_call 77; (with_reducible refine (impl_CountIndexed.calls kj13 _ _ t446 t481 true _ ?side1 ?side2 A112.out).mono ?_); (case side1 => exact ucz_ ((Kd.R_reads' HO_5.out).2.2)); (case side2 => exact (Kd.R_reads' HO_5.out).2.1); rintro e w122 ⟨rfl, hb⟩; replace HO_5 := Az_ (Kd.R_below (w159_) hb); replace HO_8 := Az_ (Kd.R_below (by exact urz_ HO_8.out) hb); replace HO_12 := Az_ (Kd.R_below (w149_) hb); replace HO480 := Az_ (Kd.R_below (by exact urz_ HO480.out) hb); replace HB := Az_ (btz_ (ubz_ HB.out) hb); (try clear hb); clear A112) | (go_at_call 77; (with_reducible refine (impl_CountIndexed.calls kj13 _ _ t451 t481 true _ ?side1 ?side2 A113.out).mono ?_); (case side1 => exact ucz_ ((Kd.R_reads' HO_8.out).2.2)); (case side2 => exact (Kd.R_reads' HO_8.out).2.1); rintro e w123 ⟨rfl, hb⟩; replace HO_5 := Az_ (Kd.R_below (w159_) hb); replace HO_8 := Az_ (Kd.R_below (by exact urz_ HO_8.out) hb); replace HO_12 := Az_ (Kd.R_below (w149_) hb); replace HO480 := Az_ (Kd.R_below (by exact urz_ HO480.out) hb); replace HB := Az_ (btz_ (ubz_ HB.out) hb); (try clear hb); obtain ⟨Ao124, co124, eo124⟩ := Kd.R_slice HO480.out; subst eo124) | (go_at_call 76; (with_reducible refine (laws_fRanges.calls kj13 _ _ t477 _ _ t446 true _ ?side1 ?side2 ?side3 ?side4 A115.out).mono ?_); (case side1 => exact ucz_ ((Kd.R_reads' HO480.out).2.2)); (case side2 => exact (Kd.R_reads' HO480.out).2.1); (case side3 => exact ucz_ ((Kd.R_reads' HO_5.out).2.2)); (case side4 => exact (Kd.R_reads' HO_5.out).2.1); rintro e w' ⟨rfl, ⟨nd, rfl⟩⟩; (try first | exact ⟨rfl, _, World.drewN_drewN _ _ _⟩ | exact ⟨rfl, _, Eq.trans (World.drewN_drewN _ _ _) (congrArg (World.drewN _) (Nat.add_assoc _ _ _))⟩)))
    go_meet
    case rel => exact ⟨_, H', ⟨by have := HJ13.out; first | omega | exact Nat.le_refl _⟩, ⟨by (with_reducible repeat (first | apply raz_ | apply rnz_ | apply rdz_)); exact Kd.R_mono HO_5.out (fun _ hk => hk.1.2)⟩, ⟨by (with_reducible repeat (first | apply raz_ | apply rnz_ | apply rdz_)); exact Kd.R_mono HO_12.out (fun _ hk => hk.1.1)⟩, ⟨w160_⟩⟩
   case rest => as_aux_lemma =>
    clear HC109
    obtain ⟨kq, HA, HJ108, HO_5, HO_12, HB⟩ := hcut
    cases kq with
    | zero => exact absurd HA.out (by simp [j1])
    | succ kj108 =>
     have H := HA.out
     clear HA
     simp only [j1] at H
     have HC149 := Az_ H
     clear H
     go_upto_if 243 with (fail)
     go_cut [] from 1 to 0 (fun wc => ∃ (kq : Nat), Aside0 (j2 kq l1 t446 t447 t467 t468 t471 = some r) ∧ Aside0 (kq ≤ kj108) ∧ Aside0 (Kd.R k100 100 wc w.heap.size (fun _ => True) (.slice Ao16 t446.length co16) t446) ∧ Aside0 (Below w.heap.size w wc))
     case first => as_aux_lemma =>
      have H := HC149.out
      clear HC149
      by_cases c150 : t460 = true; rotate_left
      ·replace c150 := Bool.eq_false_iff.mpr c150
       subst c150
       rw [if_neg nfz_] at H
       have H' := Az_ H
       clear H
       go_wp2
       go_meet
       case rel => exact ⟨_, H', ⟨w128_⟩, ⟨w102_⟩, ⟨w160_⟩⟩
      subst c150
      rw [if_pos rfl] at H
      replace H := bqz_ H; obtain ⟨⟨t486, t487⟩, A151, H⟩ := H
      replace H := bqz_ H; obtain ⟨⟨t488, t489⟩, A152, H⟩ := H
      replace H : (if t487 = true then (if t489 = true then (if t488 > t486 then (some false) else (if (wrap64 (t486 - t488)) > t448 then (some false) else (if t448 = 0 then ((laws_fRanges.f kj108 t459 t446).bind fun t490 => (if t490 = true then (j2 kj108 l1 t446 t447 t467 t468 t471) else (some false))) else (j2 kj108 l1 t446 t447 t467 t468 t471)))) else (some false)) else (some false)) = some r := H
      by_cases c153 : t487 = true; rotate_left
      ·replace c153 := Bool.eq_false_iff.mpr c153
       subst c153
       rw [if_neg nfz_] at H
       exact absurd ((Option.some.inj H).trans hrT) (by decide)
      subst c153
      rw [if_pos rfl] at H
      by_cases c154 : t489 = true; rotate_left
      ·replace c154 := Bool.eq_false_iff.mpr c154
       subst c154
       rw [if_neg nfz_] at H
       exact absurd ((Option.some.inj H).trans hrT) (by decide)
      subst c154
      rw [if_pos rfl] at H
      by_cases c155 : t488 > t486
      ·rw [if_pos c155] at H
       have c155b0 := decide_eq_true c155
       clear c155
       (first | rw [c155b0] | (simp only [i64_w, i32_w]; rw [c155b0]) | skip)
       exact absurd ((Option.some.inj H).trans hrT) (by decide)
      rw [if_neg c155] at H
      have c155b0 := decide_eq_false c155
      clear c155
      (first | rw [c155b0] | (simp only [i64_w, i32_w]; rw [c155b0]) | skip)
      by_cases c159 : (wrap64 (t486 - t488)) > t448
      ·rw [if_pos c159] at H
       have c159b0 := decide_eq_true c159
       clear c159
       exact absurd ((Option.some.inj H).trans hrT) (by decide)
      rw [if_neg c159] at H
      have c159b0 := decide_eq_false c159
      clear c159
      by_cases c163 : t448 = 0; rotate_left
      ·rw [if_neg c163] at H
       have c163b0 : (t448 == 0) = false := beq_eq_false_iff_ne.mpr c163
       have c163b1 : (t448 != 0) = true := bne_iff_ne.mpr c163
       have H' := Az_ H
       clear H
       go_wp2_with (first | (go_at_call 77; (with_reducible refine (impl_CountIndexed.calls kj108 _ _ t446 t486 true _ ?side1 ?side2 A151.out).mono ?_); (case side1 => exact ucz_ ((Kd.R_reads' HO_5.out).2.2)); (case side2 => exact (Kd.R_reads' HO_5.out).2.1); rintro e w172 ⟨rfl, hb⟩; replace HO_5 := Az_ (Kd.R_below (w159_) hb); replace HO_12 := Az_ (Kd.R_below (w149_) hb); replace HB := Az_ (btz_ (ubz_ HB.out) hb); (try clear hb); obtain ⟨Ao173, co173, eo173⟩ := Kd.R_slice HO_12.out; subst eo173; clear A151) | (go_at_call 77; (with_reducible refine (impl_CountIndexed.calls kj108 _ _ t459 t488 true _ ?side1 ?side2 A152.out).mono ?_); (case side1 => exact ucz_ ((Kd.R_reads' HO_12.out).2.2)); (case side2 => exact (Kd.R_reads' HO_12.out).2.1); rintro e w174 ⟨rfl, hb⟩; replace HO_5 := Az_ (Kd.R_below (w159_) hb); replace HO_12 := Az_ (Kd.R_below (w149_) hb); replace HB := Az_ (btz_ (ubz_ HB.out) hb); (try clear hb)))
       go_meet
       case rel => exact ⟨_, H', ⟨w128_⟩, ⟨w102_⟩, ⟨w160_⟩⟩
      rw [if_pos c163] at H
      have c163b0 : (t448 == 0) = true := beq_iff_eq.mpr c163
      have c163b1 : (t448 != 0) = false := bne_eq_false_iff_eq.mpr c163
      clear c163
      replace H := bqz_ H; obtain ⟨t490, A164, H⟩ := H
      replace H : (if t490 = true then (j2 kj108 l1 t446 t447 t467 t468 t471) else (some false)) = some r := H
      by_cases c165 : t490 = true; rotate_left
      ·replace c165 := Bool.eq_false_iff.mpr c165
       subst c165
       rw [if_neg nfz_] at H
       exact absurd ((Option.some.inj H).trans hrT) (by decide)
      subst c165
      rw [if_pos rfl] at H
      have H' := Az_ H
      clear H
      go_wp2_with (first | (go_at_call 77; (with_reducible refine (impl_CountIndexed.calls kj108 _ _ t446 t486 true _ ?side1 ?side2 A151.out).mono ?_); (case side1 => exact ucz_ ((Kd.R_reads' HO_5.out).2.2)); (case side2 => exact (Kd.R_reads' HO_5.out).2.1); rintro e w166 ⟨rfl, hb⟩; replace HO_5 := Az_ (Kd.R_below (w159_) hb); replace HO_12 := Az_ (Kd.R_below (w149_) hb); replace HB := Az_ (btz_ (ubz_ HB.out) hb); (try clear hb); obtain ⟨Ao167, co167, eo167⟩ := Kd.R_slice HO_12.out; subst eo167; clear A151) | (go_at_call 77; (with_reducible refine (impl_CountIndexed.calls kj108 _ _ t459 t488 true _ ?side1 ?side2 A152.out).mono ?_); (case side1 => exact ucz_ ((Kd.R_reads' HO_12.out).2.2)); (case side2 => exact (Kd.R_reads' HO_12.out).2.1); rintro e w168 ⟨rfl, hb⟩; replace HO_5 := Az_ (Kd.R_below (w159_) hb); replace HO_12 := Az_ (Kd.R_below (w149_) hb); replace HB := Az_ (btz_ (ubz_ HB.out) hb); (try clear hb)) | (go_at_call 76; (with_reducible refine (laws_fRanges.calls kj108 _ _ t459 _ _ t446 true _ ?side1 ?side2 ?side3 ?side4 A164.out).mono ?_); (case side1 => exact ucz_ ((Kd.R_reads' HO_12.out).2.2)); (case side2 => exact (Kd.R_reads' HO_12.out).2.1); (case side3 => exact ucz_ ((Kd.R_reads' HO_5.out).2.2)); (case side4 => exact (Kd.R_reads' HO_5.out).2.1); rintro e w' ⟨rfl, ⟨nd, rfl⟩⟩; (try first | exact ⟨rfl, _, World.drewN_drewN _ _ _⟩ | exact ⟨rfl, _, Eq.trans (World.drewN_drewN _ _ _) (congrArg (World.drewN _) (Nat.add_assoc _ _ _))⟩)))
      go_meet
      case rel => exact ⟨_, H', ⟨w128_⟩, ⟨w102_⟩, ⟨w160_⟩⟩
     case rest => as_aux_lemma =>
      clear HC149
      obtain ⟨kq, HA, HJ148, HO_5, HB⟩ := hcut
      cases kq with
      | zero => exact absurd HA.out (by simp [j2])
      | succ kj148 =>
       have H := HA.out
       clear HA
       simp only [j2] at H
       have HC181 := Az_ H
       clear H
       go_upto_if 282 with (fail)
       go_cut [] from 1 to 0 (fun wc => ∃ (kq : Nat), Aside0 (j8 kq l1 = some r) ∧ Aside0 (kq ≤ kj148) ∧ Aside0 (Below w.heap.size w wc))
       case first => as_aux_lemma =>
        have H := HC181.out
        clear HC181
        by_cases c182 : t468 = true; rotate_left
        ·replace c182 := Bool.eq_false_iff.mpr c182
         subst c182
         rw [if_neg nfz_] at H
         have H' := Az_ H
         clear H
         go_wp2
         go_meet
         case rel => exact ⟨_, H', ⟨w117_⟩, ⟨w160_⟩⟩
        subst c182
        rw [if_pos rfl] at H
        replace H := bqz_ H; obtain ⟨⟨t491, t492⟩, A183, H⟩ := H
        replace H : (if (wrap64 (t467 - t447)) < 0 then (j3 kj148 l1 t446 t447 t467 t471 t491 t492 (wrap64 (-(wrap64 (t467 - t447))))) else (j3 kj148 l1 t446 t447 t467 t471 t491 t492 (wrap64 (t467 - t447)))) = some r := H
        have HC184 := Az_ H
        clear H
        go_upto_if 293 with (first | (go_at_call 74; (with_reducible refine (impl_HasIndexed.calls kj148 _ _ t446 t467 t491 t492 _ ?side1 ?side2 A183.out).mono ?_); (case side1 => exact ucz_ ((Kd.R_reads' HO_5.out).2.2)); (case side2 => exact (Kd.R_reads' HO_5.out).2.1); rintro e w185 ⟨rfl, hb⟩; replace HO_5 := Az_ (Kd.R_below (w159_) hb); replace HB := Az_ (btz_ (ubz_ HB.out) hb); (try clear hb)))
        (try simp only [Act.put, List.setIfInBounds_toArray, List.set_cons_zero, List.set_cons_succ])
        (try simp only [i64_w, i32_w])
        generalize hfc186_ : decide ((wrap64 (t467 - t447)) < 0) = fc186_
        go_cut [36] from 1 to 0 (fun v36 wc => ∃ (kq : Nat) (x36_183 : Int), v36 = .int .i64 x36_183 ∧ Aside0 (j3 kq l1 t446 t447 t467 t471 t491 t492 x36_183 = some r) ∧ Aside0 (kq ≤ kj148) ∧ Aside0 (Kd.R k100 100 wc w.heap.size (fun _ => True) (.slice Ao16 t446.length co16) t446) ∧ Aside0 (Below w.heap.size w wc))
        case first => as_aux_lemma =>
         have H := HC184.out
         clear HC184
         by_cases c186 : (wrap64 (t467 - t447)) < 0; rotate_left
         ·rw [if_neg c186] at H
          have c186b0 := decide_eq_false c186
          clear c186
          obtain rfl : fc186_ = false := by rw [← hfc186_]; exact c186b0
          have H' := Az_ H
          clear H
          go_wp2
          go_meet
          case rel => exact ⟨_, (wrap64 (t467 - t447)), qaz_, H', ⟨w117_⟩, ⟨w127_⟩, ⟨w160_⟩⟩
         rw [if_pos c186] at H
         have c186b0 := decide_eq_true c186
         clear c186
         obtain rfl : fc186_ = true := by rw [← hfc186_]; exact c186b0
         have H' := Az_ H
         clear H
         go_wp2
         go_meet
         case rel => exact ⟨_, (wrap64 (-(wrap64 (t467 - t447)))), qaz_, H', ⟨w117_⟩, ⟨w127_⟩, ⟨w160_⟩⟩
        case rest => as_aux_lemma =>
         clear HC184
         obtain ⟨kq, x36_183, rfl, HA, HJ183, HO_5, HB⟩ := hcut
         cases kq with
         | zero => exact absurd HA.out (by simp [j3])
         | succ kj183 =>
          have H := HA.out
          clear HA
          simp only [j3] at H
          have HC187 := Az_ H
          clear H
          go_upto_region 30 with (fail)
          go_cut [307] from 1 to 0 (fun v307 wc => ∃ (kq : Nat) (x307_186 : Bool), v307 = .bool x307_186 ∧ Aside0 (j4 kq l1 t446 t447 t467 x36_183 x307_186 = some r) ∧ Aside0 (kq ≤ kj183) ∧ Aside0 (Kd.R k100 100 wc w.heap.size (fun _ => True) (.slice Ao16 t446.length co16) t446) ∧ Aside0 (Below w.heap.size w wc))
          case first => as_aux_lemma =>
           have H := HC187.out
           clear HC187
           by_cases c188 : t492 = true; rotate_left
           ·replace c188 := Bool.eq_false_iff.mpr c188
            subst c188
            have H1 : (j4 kj183 l1 t446 t447 t467 x36_183 true) = some r := by rw [if_neg (show ¬ (false = true) by decide)] at H; exact H
            clear H
            have H := H1
            exact (laws_FnIndexesMoved.j4_no _ _ _ _ _ _ _ hrT H).elim
           subst c188
           rw [if_pos rfl] at H
           by_cases c189 : t491 = true; rotate_left
           ·replace c189 := Bool.eq_false_iff.mpr c189
            subst c189
            have H1 : (j4 kj183 l1 t446 t447 t467 x36_183 true) = some r := by rw [if_neg (show ¬ (false = true) by decide)] at H; exact H
            clear H
            have H := H1
            exact (laws_FnIndexesMoved.j4_no _ _ _ _ _ _ _ hrT H).elim
           subst c189
           rw [if_pos rfl] at H
           have H' := Az_ H
           clear H
           go_wp2
           go_meet
           case rel => exact ⟨_, ((t471 != (x36_183 == 0))), qaz_, H', ⟨by have := HJ13.out; have := HJ108.out; have := HJ148.out; have := HJ183.out; first | omega | exact Nat.le_refl _⟩, ⟨w127_⟩, ⟨w160_⟩⟩
          case rest => as_aux_lemma =>
           clear HC187
           obtain ⟨kq, x307_186, rfl, HA, HJ186, HO_5, HB⟩ := hcut
           cases kq with
           | zero => exact absurd HA.out (by simp [j4])
           | succ kj186 =>
            have H := HA.out
            clear HA
            simp only [j4] at H
            by_cases c190 : x307_186 = true
            ·subst c190
             rw [if_pos rfl] at H
             exact absurd ((Option.some.inj H).trans hrT) (by decide)
            replace c190 := Bool.eq_false_iff.mpr c190
            subst c190
            rw [if_neg nfz_] at H
            have H' := Az_ H
            clear H
            go_wp2
            go_loopg [37] kj186 (fun kq v37 w' => ∃ (x37_6 : Int), v37 = .int .i64 x37_6 ∧ Aside0 (laws_FnIndexesMoved.l0 kq l1 t446 t447 t467 x36_183 x37_6 = some r) ∧ Aside0 (kq ≤ kj186) ∧ Aside0 (Kd.R k100 100 w' w.heap.size (fun _ => True) (.slice Ao16 t446.length co16) t446) ∧ Aside0 (Below w.heap.size w w'))
            case atStart => exact ⟨(wrap64 (t447 - x36_183)), qaz_, H', ⟨Nat.le_refl _⟩, ⟨w127_⟩, ⟨w160_⟩⟩
            case round =>
             clear H'
             obtain ⟨x37_6, rfl, HA, HK6, HO_5, HB⟩ := hrel
             cases gk with
             | zero => exact absurd HA.out (by simp [laws_FnIndexesMoved.l0])
             | succ k6 =>
              have H := HA.out
              clear HA
              simp only [laws_FnIndexesMoved.l0] at H
              have HC191 := Az_ H
              clear H
              go_upto_region 33 with (fail)
              go_cut [319] (fun v319 wc => ∃ (kq : Nat) (x319_190 : Bool), v319 = .bool x319_190 ∧ Aside0 (j6 kq l1 t446 t447 t467 x36_183 x37_6 x319_190 = some r) ∧ Aside0 (kq ≤ k6) ∧ Aside0 (Kd.R k100 100 wc w.heap.size (fun _ => True) (.slice Ao16 t446.length co16) t446) ∧ Aside0 (Below w.heap.size w wc))
              case first =>
               have H := HC191.out
               clear HC191
               by_cases c192 : x37_6 ≤ (wrap64 (t447 + x36_183)); rotate_left
               ·rw [if_neg c192] at H
                have c192b0 := decide_eq_false c192
                clear c192
                (first | rw [c192b0] | (simp only [i64_w, i32_w]; rw [c192b0]) | skip)
                have H' := Az_ H
                clear H
                go_wp2
                go_meet
                case rel => exact ⟨_, (false), qaz_, H', ⟨w77_⟩, ⟨w127_⟩, ⟨w160_⟩⟩
               rw [if_pos c192] at H
               have c192b0 := decide_eq_true c192
               clear c192
               (first | rw [c192b0] | (simp only [i64_w, i32_w]; rw [c192b0]) | skip)
               have H' := Az_ H
               clear H
               go_wp2
               go_meet
               case rel => exact ⟨_, (decide (x36_183 ≤ 40)), qaz_, H', ⟨w77_⟩, ⟨w127_⟩, ⟨w160_⟩⟩
              case rest =>
               clear HC191
               obtain ⟨kq, x319_190, rfl, HA, HJ190, HO_5, HB⟩ := hcut
               cases kq with
               | zero => exact absurd HA.out (by simp [j6])
               | succ kj190 =>
                have H := HA.out
                clear HA
                simp only [j6] at H
                by_cases c193 : x319_190 = true; rotate_left
                ·replace c193 := Bool.eq_false_iff.mpr c193
                 subst c193
                 rw [if_neg nfz_] at H
                 have H' := Az_ H
                 clear H
                 go_wp2
                 go_meet
                 case rel => exact ⟨_, H', ⟨w63_⟩, ⟨w160_⟩⟩
                subst c193
                rw [if_pos rfl] at H
                have HC194 := Az_ H
                clear H
                go_upto_region 35 with (fail)
                go_cut [327] (fun v327 wc => ∃ (kq : Nat) (x327_193 : Bool), v327 = .bool x327_193 ∧ Aside0 (j7 kq l1 t446 t447 t467 x36_183 x37_6 x327_193 = some r) ∧ Aside0 (kq ≤ kj190) ∧ Aside0 (Kd.R k100 100 wc w.heap.size (fun _ => True) (.slice Ao16 t446.length co16) t446) ∧ Aside0 (Below w.heap.size w wc))
                case first =>
                 have H := HC194.out
                 clear HC194
                 by_cases c195 : x37_6 < 1; rotate_left
                 ·rw [if_neg c195] at H
                  have c195b0 := decide_eq_false c195
                  clear c195
                  (first | rw [c195b0] | (simp only [i64_w, i32_w]; rw [c195b0]) | skip)
                  have H' := Az_ H
                  clear H
                  go_wp2
                  go_meet
                  case rel => exact ⟨_, (decide (x37_6 > 2000)), qaz_, H', ⟨w63_⟩, ⟨w127_⟩, ⟨w160_⟩⟩
                 rw [if_pos c195] at H
                 have c195b0 := decide_eq_true c195
                 clear c195
                 (first | rw [c195b0] | (simp only [i64_w, i32_w]; rw [c195b0]) | skip)
                 have H' := Az_ H
                 clear H
                 go_wp2
                 go_meet
                 case rel => exact ⟨_, (true), qaz_, H', ⟨w63_⟩, ⟨w127_⟩, ⟨w160_⟩⟩
                case rest =>
                 clear HC194
                 obtain ⟨kq, x327_193, rfl, HA, HJ193, HO_5, HB⟩ := hcut
                 cases kq with
                 | zero => exact absurd HA.out (by simp [j7])
                 | succ kj193 =>
                  have H := HA.out
                  clear HA
                  simp only [j7] at H
                  by_cases c196 : x327_193 = true
                  ·subst c196
                   rw [if_pos rfl] at H
                   have H' := Az_ H
                   clear H
                   go_wp2
                   go_roundg kj193
                   case measure => have := HJ13.out; have := HJ108.out; have := HJ148.out; have := HJ183.out; have := HJ186.out; have := HK6.out; have := HJ190.out; have := HJ193.out; omega
                   case rel => exact ⟨(wrap64 (x37_6 + 1)), qaz_, H', ⟨w66_⟩, ⟨w127_⟩, ⟨w160_⟩⟩
                  replace c196 := Bool.eq_false_iff.mpr c196
                  subst c196
                  rw [if_neg nfz_] at H
                  replace H := bqz_ H; obtain ⟨⟨t493, t494⟩, A197, H⟩ := H
                  replace H : (if t494 = true then (if t493 = true then (if x37_6 = t467 then (laws_FnIndexesMoved.l0 kj193 l1 t446 t447 t467 x36_183 (wrap64 (x37_6 + 1))) else (if x37_6 = (wrap64 (t447 + x36_183)) then (if t467 > x37_6 then (some false) else (laws_FnIndexesMoved.l0 kj193 l1 t446 t447 t467 x36_183 (wrap64 (x37_6 + 1)))) else (some false))) else (laws_FnIndexesMoved.l0 kj193 l1 t446 t447 t467 x36_183 (wrap64 (x37_6 + 1)))) else (some false)) = some r := H
                  by_cases c198 : t494 = true; rotate_left
                  ·replace c198 := Bool.eq_false_iff.mpr c198
                   subst c198
                   rw [if_neg nfz_] at H
                   exact absurd ((Option.some.inj H).trans hrT) (by decide)
                  subst c198
                  rw [if_pos rfl] at H
                  by_cases c199 : t493 = true; rotate_left
                  ·replace c199 := Bool.eq_false_iff.mpr c199
                   subst c199
                   rw [if_neg nfz_] at H
                   have H' := Az_ H
                   clear H
                   go_wp2_with (first | (go_at_call 74; (with_reducible refine (impl_HasIndexed.calls kj193 _ _ t446 x37_6 false true _ ?side1 ?side2 A197.out).mono ?_); (case side1 => exact ucz_ ((Kd.R_reads' HO_5.out).2.2)); (case side2 => exact (Kd.R_reads' HO_5.out).2.1); rintro e w207 ⟨rfl, hb⟩; replace HO_5 := Az_ (Kd.R_below (w159_) hb); replace HB := Az_ (btz_ (ubz_ HB.out) hb); (try clear hb)))
                   go_roundg kj193
                   case measure => have := HJ13.out; have := HJ108.out; have := HJ148.out; have := HJ183.out; have := HJ186.out; have := HK6.out; have := HJ190.out; have := HJ193.out; omega
                   case rel => exact ⟨(wrap64 (x37_6 + 1)), qaz_, H', ⟨w66_⟩, ⟨w127_⟩, ⟨w160_⟩⟩
                  subst c199
                  rw [if_pos rfl] at H
                  by_cases c200 : x37_6 = t467
                  ·rw [if_pos c200] at H
                   have c200b0 : (x37_6 == t467) = true := beq_iff_eq.mpr c200
                   have c200b1 : (x37_6 != t467) = false := bne_eq_false_iff_eq.mpr c200
                   clear c200
                   have H' := Az_ H
                   clear H
                   go_wp2_with (first | (go_at_call 74; (with_reducible refine (impl_HasIndexed.calls kj193 _ _ t446 x37_6 true true _ ?side1 ?side2 A197.out).mono ?_); (case side1 => exact ucz_ ((Kd.R_reads' HO_5.out).2.2)); (case side2 => exact (Kd.R_reads' HO_5.out).2.1); rintro e w201 ⟨rfl, hb⟩; replace HO_5 := Az_ (Kd.R_below (w159_) hb); replace HB := Az_ (btz_ (ubz_ HB.out) hb); (try clear hb)))
                   go_roundg kj193
                   case measure => have := HJ13.out; have := HJ108.out; have := HJ148.out; have := HJ183.out; have := HJ186.out; have := HK6.out; have := HJ190.out; have := HJ193.out; omega
                   case rel => exact ⟨(wrap64 (x37_6 + 1)), qaz_, H', ⟨w66_⟩, ⟨w127_⟩, ⟨w160_⟩⟩
                  rw [if_neg c200] at H
                  have c200b0 : (x37_6 == t467) = false := beq_eq_false_iff_ne.mpr c200
                  have c200b1 : (x37_6 != t467) = true := bne_iff_ne.mpr c200
                  by_cases c202 : x37_6 = (wrap64 (t447 + x36_183)); rotate_left
                  ·rw [if_neg c202] at H
                   have c202b0 : (x37_6 == (wrap64 (t447 + x36_183))) = false := beq_eq_false_iff_ne.mpr c202
                   have c202b1 : (x37_6 != (wrap64 (t447 + x36_183))) = true := bne_iff_ne.mpr c202
                   exact absurd ((Option.some.inj H).trans hrT) (by decide)
                  rw [if_pos c202] at H
                  have c202b0 : (x37_6 == (wrap64 (t447 + x36_183))) = true := beq_iff_eq.mpr c202
                  have c202b1 : (x37_6 != (wrap64 (t447 + x36_183))) = false := bne_eq_false_iff_eq.mpr c202
                  clear c202
                  by_cases c203 : t467 > x37_6
                  ·rw [if_pos c203] at H
                   have c203b0 := decide_eq_true c203
                   clear c203
                   exact absurd ((Option.some.inj H).trans hrT) (by decide)
                  rw [if_neg c203] at H
                  have c203b0 := decide_eq_false c203
                  clear c203
                  have H' := Az_ H
                  clear H
                  go_wp2_with (first | (go_at_call 74; (with_reducible refine (impl_HasIndexed.calls kj193 _ _ t446 x37_6 true true _ ?side1 ?side2 A197.out).mono ?_); (case side1 => exact ucz_ ((Kd.R_reads' HO_5.out).2.2)); (case side2 => exact (Kd.R_reads' HO_5.out).2.1); rintro e w205 ⟨rfl, hb⟩; replace HO_5 := Az_ (Kd.R_below (w159_) hb); replace HB := Az_ (btz_ (ubz_ HB.out) hb); (try clear hb)))
                  go_roundg kj193
                  case measure => have := HJ13.out; have := HJ108.out; have := HJ148.out; have := HJ183.out; have := HJ186.out; have := HK6.out; have := HJ190.out; have := HJ193.out; omega
                  case rel => exact ⟨(wrap64 (x37_6 + 1)), qaz_, H', ⟨w66_⟩, ⟨w127_⟩, ⟨w160_⟩⟩
       case rest => as_aux_lemma =>
        clear HC181
        obtain ⟨kq, HA, HJ180, HB⟩ := hcut
        cases kq with
        | zero => exact absurd HA.out (by simp [j8])
        | succ kj180 =>
         have H := HA.out
         clear HA
         simp only [j8] at H
         replace H := bqz_ H; obtain ⟨⟨t495, t496⟩, A209, H⟩ := H
         replace H := bqz_ H; obtain ⟨⟨t499, t500⟩, A210, H⟩ := H
         replace H := bqz_ H; obtain ⟨⟨t503, t504⟩, A211, H⟩ := H
         replace H := bqz_ H; obtain ⟨⟨t507, t508⟩, A212, H⟩ := H
         replace H := bqz_ H; obtain ⟨⟨t511, t512⟩, A213, H⟩ := H
         replace H := bqz_ H; obtain ⟨⟨t515, t516, t517⟩, A214, H⟩ := H
         replace H := bqz_ H; obtain ⟨⟨t519, t520, t521⟩, A215, H⟩ := H
         replace H := bqz_ H; obtain ⟨⟨t523, t524⟩, A216, H⟩ := H
         replace H := bqz_ H; obtain ⟨⟨t526, t527⟩, A217, H⟩ := H
         replace H := bqz_ H; obtain ⟨⟨t528, t529⟩, A218, H⟩ := H
         replace H := bqz_ H; obtain ⟨t530, A219, H⟩ := H
         replace H := bqz_ H; obtain ⟨⟨t531, t532, t533⟩, A220, H⟩ := H
         replace H := bqz_ H; obtain ⟨⟨t535, t536, t537⟩, A221, H⟩ := H
         replace H : (if (t500 != t504) = true then (j9 kj180 t495 t496 t499 t500 t507 t508 t517 t526 t527 t530 t533 true t515 t516 t523 t524 t531 t532) else ((laws_fRanges.f kj180 t499 t503).bind fun t539 => (if t539 = true then (if (t508 != t512) = true then (j9 kj180 t495 t496 t499 t500 t507 t508 t517 t526 t527 t530 t533 true t515 t516 t523 t524 t531 t532) else ((laws_fRanges.f kj180 t507 t511).bind fun t540 => (if t540 = true then (if (t517 != t521) = true then (j9 kj180 t495 t496 t499 t500 t507 t508 t517 t526 t527 t530 t533 true t515 t516 t523 t524 t531 t532) else (if (!(t515 == t519) || (!(t516 == t520))) = true then (j9 kj180 t495 t496 t499 t500 t507 t508 t517 t526 t527 t530 t533 true t515 t516 t523 t524 t531 t532) else (if (t527 != t529) = true then (j9 kj180 t495 t496 t499 t500 t507 t508 t517 t526 t527 t530 t533 true t515 t516 t523 t524 t531 t532) else (if t526.toList = t528.toList then (if (t533 != t537) = true then (j9 kj180 t495 t496 t499 t500 t507 t508 t517 t526 t527 t530 t533 true t515 t516 t523 t524 t531 t532) else (if (!(t531 == t535) || (!(t532 == t536))) = true then (j9 kj180 t495 t496 t499 t500 t507 t508 t517 t526 t527 t530 t533 true t515 t516 t523 t524 t531 t532) else (if t500 = true then (if t508 = true then (j9 kj180 t495 t496 t499 t500 t507 t508 t517 t526 t527 t530 t533 (t517 != (decide ((t495.length : Int) > 0))) t515 t516 t523 t524 t531 t532) else (j9 kj180 t495 t496 t499 t500 t507 t508 t517 t526 t527 t530 t533 true t515 t516 t523 t524 t531 t532)) else (if t508 = true then (j9 kj180 t495 t496 t499 t500 t507 t508 t517 t526 t527 t530 t533 (t517 != (decide ((t495.length : Int) > 0))) t515 t516 t523 t524 t531 t532) else (j9 kj180 t495 t496 t499 t500 t507 t508 t517 t526 t527 t530 t533 (t517 != false) t515 t516 t523 t524 t531 t532))))) else (j9 kj180 t495 t496 t499 t500 t507 t508 t517 t526 t527 t530 t533 true t515 t516 t523 t524 t531 t532))))) else (j9 kj180 t495 t496 t499 t500 t507 t508 t517 t526 t527 t530 t533 true t515 t516 t523 t524 t531 t532)))) else (j9 kj180 t495 t496 t499 t500 t507 t508 t517 t526 t527 t530 t533 true t515 t516 t523 t524 t531 t532)))) = some r := H
         have HC222 := Az_ H
         clear H
         go_upto_region 52 with (first | (go_at_call 78; (with_reducible refine (spec_DrawJoinGaps.calls kj180 _ _ l1 t495 t496 _ ?side1 ?side2 A209.out).mono ?_); (case side1 => exact ucz_ ((Kd.C_below HR1.out HB.out))); (case side2 => exact HC1.out); rintro e w223 ⟨v497, rfl, ho0, hb⟩; have HO498 := Az_ (Kd.R_lower ho0 (below_size (ubz_ HB.out))); replace HB := Az_ (btz_ (ubz_ HB.out) hb); (try clear hb); (try clear ho0); obtain ⟨Ao224, co224, eo224⟩ := Kd.R_slice HO498.out; subst eo224) | (go_at_call 79; (with_reducible refine (impl_JoinGaps.calls kj180 _ _ t495 t496 t499 t500 _ ?side1 ?side2 A210.out).mono ?_); (case side1 => exact ucz_ ((Kd.R_reads' HO498.out).2.2)); (case side2 => exact (Kd.R_reads' HO498.out).2.1); rintro e w225 ⟨v501, rfl, ho0, hb⟩; have HO502 := Az_ (Kd.R_lower (Kd.R_new' ho0 (Kd.R_lt (w150_))) (below_size (ubz_ HB.out))); replace HO498 := Az_ (rez_ (w150_) (Kd.R_base ho0) hb); replace HB := Az_ (btz_ (ubz_ HB.out) hb); (try clear hb); (try clear ho0)) | (go_at_call 80; (with_reducible refine (spec_JoinGaps.calls kj180 _ _ t495 t496 t503 t504 _ ?side1 ?side2 A211.out).mono ?_); (case side1 => exact ucz_ ((Kd.R_reads' HO498.out).2.2)); (case side2 => exact (Kd.R_reads' HO498.out).2.1); rintro e w226 ⟨v505, rfl, ho0, hb⟩; have HO506 := Az_ (Kd.R_lower (Kd.R_new' (Kd.R_new' ho0 (Kd.R_lt (w150_))) (Kd.R_lt (w151_))) (below_size (ubz_ HB.out))); replace HO498 := Az_ (rez_ (w150_) (Kd.R_base ho0) hb); replace HO502 := Az_ (rez_ (w151_) (Kd.R_base ho0) hb); replace HB := Az_ (btz_ (ubz_ HB.out) hb); (try clear hb); (try clear ho0)) | (go_at_call 81; (with_reducible refine (impl_GapsBetween.calls kj180 _ _ t495 t507 t508 _ ?side1 ?side2 A212.out).mono ?_); (case side1 => exact ucz_ ((Kd.R_reads' HO498.out).2.2)); (case side2 => exact (Kd.R_reads' HO498.out).2.1); rintro e w227 ⟨v509, rfl, ho0, hb⟩; have HO510 := Az_ (Kd.R_lower (Kd.R_new' (Kd.R_new' (Kd.R_new' ho0 (Kd.R_lt (w150_))) (Kd.R_lt (w151_))) (Kd.R_lt (w152_))) (below_size (ubz_ HB.out))); replace HO498 := Az_ (rez_ (w150_) (Kd.R_base ho0) hb); replace HO502 := Az_ (rez_ (w151_) (Kd.R_base ho0) hb); replace HO506 := Az_ (rez_ (w152_) (Kd.R_base ho0) hb); replace HB := Az_ (btz_ (ubz_ HB.out) hb); (try clear hb); (try clear ho0)) | (go_at_call 82; (with_reducible refine (spec_GapsBetween.calls kj180 _ _ t495 t511 t512 _ ?side1 ?side2 A213.out).mono ?_); (case side1 => exact ucz_ ((Kd.R_reads' HO498.out).2.2)); (case side2 => exact (Kd.R_reads' HO498.out).2.1); rintro e w228 ⟨v513, rfl, ho0, hb⟩; have HO514 := Az_ (Kd.R_lower (Kd.R_new' (Kd.R_new' (Kd.R_new' (Kd.R_new' ho0 (Kd.R_lt (w150_))) (Kd.R_lt (w151_))) (Kd.R_lt (w152_))) (Kd.R_lt (w153_))) (below_size (ubz_ HB.out))); replace HO498 := Az_ (rez_ (w150_) (Kd.R_base ho0) hb); replace HO502 := Az_ (rez_ (w151_) (Kd.R_base ho0) hb); replace HO506 := Az_ (rez_ (w152_) (Kd.R_base ho0) hb); replace HO510 := Az_ (rez_ (w153_) (Kd.R_base ho0) hb); replace HB := Az_ (btz_ (ubz_ HB.out) hb); (try clear hb); (try clear ho0)) | (go_at_call 83; (with_reducible refine (impl_LongestRange.calls kj180 _ _ t495 t515 t516 t517 _ ?side1 ?side2 A214.out).mono ?_); (case side1 => exact ucz_ ((Kd.R_reads' HO498.out).2.2)); (case side2 => exact (Kd.R_reads' HO498.out).2.1); rintro e w229 ⟨rfl, hb⟩; replace HO498 := Az_ (Kd.R_below (w150_) hb); replace HO502 := Az_ (Kd.R_below (w151_) hb); replace HO506 := Az_ (Kd.R_below (w152_) hb); replace HO510 := Az_ (Kd.R_below (w153_) hb); replace HO514 := Az_ (Kd.R_below (w154_) hb); replace HB := Az_ (btz_ (ubz_ HB.out) hb); (try clear hb)) | ((with_reducible refine gate_dst (N := 50) rfl ?_); (try (refine gate_guard (by rfl) ?_; dsimp only)); refine box_event ?hg (N := 50) ?hd (cs := #[.int .i64 0, .int .i64 0]) (t := 100) ?hr ?_; (case hd => rfl); (case hg => rfl); (case hr => first | (go_simp; done) | (go_simp; rfl)); intro gb518 hg w230 hbox hb; replace HO498 := Az_ (Kd.R_below (Kd.R_elderB (w150_) gb518 (Nat.le_of_eq hg.symm)) hb); replace HO502 := Az_ (Kd.R_below (Kd.R_elderB (w151_) gb518 (Nat.le_of_eq hg.symm)) hb); replace HO506 := Az_ (Kd.R_below (Kd.R_elderB (w152_) gb518 (Nat.le_of_eq hg.symm)) hb); replace HO510 := Az_ (Kd.R_below (Kd.R_elderB (w153_) gb518 (Nat.le_of_eq hg.symm)) hb); replace HO514 := Az_ (Kd.R_below (Kd.R_elderB (w154_) gb518 (Nat.le_of_eq hg.symm)) hb); have BK518 := Az_ (hbox); have GW518 := Az_ ((by rw [hg]; exact (below_size (ubz_ HB.out)) : w.heap.size ≤ gb518)); have GE518 := Az_ ((by rw [hg]; exact (below_size (ubz_ HB.out)) : w.heap.size ≤ gb518)); replace HB := Az_ (btz_ (ubz_ HB.out) hb); clear hb hbox hg; have hcz231_0 : w230.cell? ⟨gb518, 0, none⟩ = some (.int .i64 0) := (blk_cell BK518.out 0).trans rfl; have hcz231_1 : w230.cell? ⟨gb518, 1, none⟩ = some (.int .i64 0) := (blk_cell BK518.out 1).trans rfl; have hfz231_0 := blk_frozen BK518.out 0; have hfz231_1 := blk_frozen BK518.out 1) | (go_at_call 84; (with_reducible refine (spec_LongestRange.calls kj180 _ _ t495 t519 t520 t521 _ ?side1 ?side2 A215.out).mono ?_); (case side1 => refine (Kd.R_reads' (e := 100) (base := w.heap.size) (ok := fun k_ => (((((True ∧ some k_ ≠ (v501 : Value).ownBlock) ∧ some k_ ≠ (v505 : Value).ownBlock) ∧ some k_ ≠ (v509 : Value).ownBlock) ∧ some k_ ≠ (v513 : Value).ownBlock) ∧ k_ ≠ gb518)) (n := t495.length) (c := co224) ?_).2.2; exact (w41_)); (case side2 => exact (Kd.R_reads' HO498.out).2.1); rintro e w232 ⟨rfl, hb⟩; replace HO498 := Az_ (Kd.R_below (w41_) hb); replace HO502 := Az_ (Kd.R_below (by (with_reducible repeat (first | apply raz_ | apply rnz_ | apply rdz_)); exact (Kd.R_mono (Kd.R_far (p := ⟨gb518, 1, none⟩) (Kd.R_far (p := ⟨gb518, 0, none⟩) (Kd.R_mono HO502.out (fun k_ hk => (⟨hk, hk.2⟩ : _ ∧ k_ ≠ gb518))) (fun _ hk => hk.2) (.int .i64 t515)) (fun _ hk => hk.2) (.int .i64 t516)) (fun _ h_ => h_.1))) hb); replace HO506 := Az_ (Kd.R_below (by (with_reducible repeat (first | apply raz_ | apply rnz_ | apply rdz_)); exact (Kd.R_mono (Kd.R_far (p := ⟨gb518, 1, none⟩) (Kd.R_far (p := ⟨gb518, 0, none⟩) (Kd.R_mono HO506.out (fun k_ hk => (⟨hk, hk.2⟩ : _ ∧ k_ ≠ gb518))) (fun _ hk => hk.2) (.int .i64 t515)) (fun _ hk => hk.2) (.int .i64 t516)) (fun _ h_ => h_.1))) hb); replace HO510 := Az_ (Kd.R_below (by (with_reducible repeat (first | apply raz_ | apply rnz_ | apply rdz_)); exact (Kd.R_mono (Kd.R_far (p := ⟨gb518, 1, none⟩) (Kd.R_far (p := ⟨gb518, 0, none⟩) (Kd.R_mono HO510.out (fun k_ hk => (⟨hk, hk.2⟩ : _ ∧ k_ ≠ gb518))) (fun _ hk => hk.2) (.int .i64 t515)) (fun _ hk => hk.2) (.int .i64 t516)) (fun _ h_ => h_.1))) hb); replace HO514 := Az_ (Kd.R_below (by (with_reducible repeat (first | apply raz_ | apply rnz_ | apply rdz_)); exact (Kd.R_mono (Kd.R_far (p := ⟨gb518, 1, none⟩) (Kd.R_far (p := ⟨gb518, 0, none⟩) (Kd.R_mono HO514.out (fun k_ hk => (⟨hk, hk.2⟩ : _ ∧ k_ ≠ gb518))) (fun _ hk => hk.2) (.int .i64 t515)) (fun _ hk => hk.2) (.int .i64 t516)) (fun _ h_ => h_.1))) hb); replace BK518 := Az_ (kbz_ (g := gb518) (o := .cells #[.int .i64 t515, .int .i64 t516] 100 (0, 0)) (by (with_reducible repeat (first | refine knz_ ?_ _ | refine kdz_ ?_ | refine kaz_ ?_ _)); refine blk_put (cs := #[.int .i64 t515, .int .i64 0]) ?_ 1 _ rfl; (with_reducible repeat (first | refine knz_ ?_ _ | refine kdz_ ?_ | refine kaz_ ?_ _)); refine blk_put (cs := #[.int .i64 0, .int .i64 0]) ?_ 0 _ rfl; (with_reducible repeat (first | refine knz_ ?_ _ | refine kdz_ ?_ | refine kaz_ ?_ _)); exact BK518.out) hb); replace HB := Az_ (btz_ (w79_) hb); (try clear hb)) | ((with_reducible refine gate_dst (N := 52) rfl ?_); (try (refine gate_guard (by rfl) ?_; dsimp only)); refine box_event ?hg (N := 52) ?hd (cs := #[.int .i64 0, .int .i64 0]) (t := 100) ?hr ?_; (case hd => rfl); (case hg => rfl); (case hr => first | (go_simp; done) | (go_simp; rfl)); intro gb522 hg w233 hbox hb; have n0_ := Az_ (Kd.R_below (Kd.R_elderB (w150_) gb522 (Nat.le_of_eq hg.symm)) hb); have n1_ := Az_ (Kd.R_below (Kd.R_elderB (w151_) gb522 (Nat.le_of_eq hg.symm)) hb); have n2_ := Az_ (Kd.R_below (Kd.R_elderB (w152_) gb522 (Nat.le_of_eq hg.symm)) hb); have n3_ := Az_ (Kd.R_below (Kd.R_elderB (w153_) gb522 (Nat.le_of_eq hg.symm)) hb); have n4_ := Az_ (Kd.R_below (Kd.R_elderB (w154_) gb522 (Nat.le_of_eq hg.symm)) hb); have n6_ := Az_ (btz_ (w79_) hb); have n7_ := Az_ (hbox); have n8_ := Az_ ((by rw [hg]; exact (below_size (w79_)) : w.heap.size ≤ gb522)); have n9_ := Az_ ((by rw [hg]; exact (below_size (w79_)) : w.heap.size ≤ gb522)); have n10_ := Az_ ((by rw [hg]; exact Nat.ne_of_lt (uklz_ BK518.out) : gb518 ≠ gb522)); have n11_ := Az_ ((by rw [hg]; exact Nat.ne_of_gt (uklz_ BK518.out) : gb522 ≠ gb518)); clear HO498; clear HO502; clear HO506; clear HO510; clear HO514; clear HB; have HO498 := n0_; have HO502 := n1_; have HO506 := n2_; have HO510 := n3_; have HO514 := n4_; replace BK518 := Az_ (ukbz_ BK518.out hb); have HB := n6_; have BK522 := n7_; have GW522 := n8_; have GE522 := n9_; have NB518_522 := n10_; have NB522_518 := n11_; clear n0_ n1_ n2_ n3_ n4_ n6_ n7_ n8_ n9_ n10_ n11_; clear hb hbox hg; have hnb234 := NB522_518.out; have hnc234 := NB518_522.out; have hcz235_0 : w233.cell? ⟨gb522, 0, none⟩ = some (.int .i64 0) := (blk_cell BK522.out 0).trans rfl; have hcz235_1 : w233.cell? ⟨gb522, 1, none⟩ = some (.int .i64 0) := (blk_cell BK522.out 1).trans rfl; have hfz235_0 := blk_frozen BK522.out 0; have hfz235_1 := blk_frozen BK522.out 1) | (go_at_call 85; (with_reducible refine (spec_DrawShortRange.calls _ _ l1 t523 t524 _ ?side1 ?side2 A216.out).mono ?_); (case side1 => exact Kd.C_below HR1.out (w79_)); (case side2 => exact HC1.out); rintro e w236 ⟨rfl, hb⟩; replace HO498 := Az_ (Kd.R_below (by (with_reducible repeat (first | apply raz_ | apply rnz_ | apply rdz_)); exact (Kd.R_mono (Kd.R_far (p := ⟨gb522, 1, none⟩) (Kd.R_far (p := ⟨gb522, 0, none⟩) (Kd.R_mono HO498.out (fun k_ hk => (⟨hk, hk.2⟩ : _ ∧ k_ ≠ gb522))) (fun _ hk => hk.2) (.int .i64 t519)) (fun _ hk => hk.2) (.int .i64 t520)) (fun _ h_ => h_.1))) hb); replace HO502 := Az_ (Kd.R_below (by (with_reducible repeat (first | apply raz_ | apply rnz_ | apply rdz_)); exact (Kd.R_mono (Kd.R_far (p := ⟨gb522, 1, none⟩) (Kd.R_far (p := ⟨gb522, 0, none⟩) (Kd.R_mono HO502.out (fun k_ hk => (⟨hk, hk.2⟩ : _ ∧ k_ ≠ gb522))) (fun _ hk => hk.2) (.int .i64 t519)) (fun _ hk => hk.2) (.int .i64 t520)) (fun _ h_ => h_.1))) hb); replace HO506 := Az_ (Kd.R_below (by (with_reducible repeat (first | apply raz_ | apply rnz_ | apply rdz_)); exact (Kd.R_mono (Kd.R_far (p := ⟨gb522, 1, none⟩) (Kd.R_far (p := ⟨gb522, 0, none⟩) (Kd.R_mono HO506.out (fun k_ hk => (⟨hk, hk.2⟩ : _ ∧ k_ ≠ gb522))) (fun _ hk => hk.2) (.int .i64 t519)) (fun _ hk => hk.2) (.int .i64 t520)) (fun _ h_ => h_.1))) hb); replace HO510 := Az_ (Kd.R_below (by (with_reducible repeat (first | apply raz_ | apply rnz_ | apply rdz_)); exact (Kd.R_mono (Kd.R_far (p := ⟨gb522, 1, none⟩) (Kd.R_far (p := ⟨gb522, 0, none⟩) (Kd.R_mono HO510.out (fun k_ hk => (⟨hk, hk.2⟩ : _ ∧ k_ ≠ gb522))) (fun _ hk => hk.2) (.int .i64 t519)) (fun _ hk => hk.2) (.int .i64 t520)) (fun _ h_ => h_.1))) hb); replace HO514 := Az_ (Kd.R_below (by (with_reducible repeat (first | apply raz_ | apply rnz_ | apply rdz_)); exact (Kd.R_mono (Kd.R_far (p := ⟨gb522, 1, none⟩) (Kd.R_far (p := ⟨gb522, 0, none⟩) (Kd.R_mono HO514.out (fun k_ hk => (⟨hk, hk.2⟩ : _ ∧ k_ ≠ gb522))) (fun _ hk => hk.2) (.int .i64 t519)) (fun _ hk => hk.2) (.int .i64 t520)) (fun _ h_ => h_.1))) hb); replace BK518 := Az_ (kbz_ (g := gb518) (o := .cells #[.int .i64 t515, .int .i64 t516] 100 (0, 0)) (by (with_reducible repeat (first | refine knz_ ?_ _ | refine kdz_ ?_ | refine kaz_ ?_ _)); refine blk_far ?_ NB518_522.out _; (with_reducible repeat (first | refine knz_ ?_ _ | refine kdz_ ?_ | refine kaz_ ?_ _)); refine blk_far ?_ NB518_522.out _; (with_reducible repeat (first | refine knz_ ?_ _ | refine kdz_ ?_ | refine kaz_ ?_ _)); exact BK518.out) hb); replace BK522 := Az_ (kbz_ (g := gb522) (o := .cells #[.int .i64 t519, .int .i64 t520] 100 (0, 0)) (by (with_reducible repeat (first | refine knz_ ?_ _ | refine kdz_ ?_ | refine kaz_ ?_ _)); refine blk_put (cs := #[.int .i64 t519, .int .i64 0]) ?_ 1 _ rfl; (with_reducible repeat (first | refine knz_ ?_ _ | refine kdz_ ?_ | refine kaz_ ?_ _)); refine blk_put (cs := #[.int .i64 0, .int .i64 0]) ?_ 0 _ rfl; (with_reducible repeat (first | refine knz_ ?_ _ | refine kdz_ ?_ | refine kaz_ ?_ _)); exact BK522.out) hb); replace HB := Az_ (btz_ (w79_) hb); (try clear hb)) | ((with_reducible refine gate_dst (N := 54) rfl ?_); (try (refine gate_guard (by rfl) ?_; dsimp only)); refine box_event ?hg (N := 54) ?hd (cs := #[.int .i64 0, .int .i64 0]) (t := 100) ?hr ?_; (case hd => rfl); (case hg => rfl); (case hr => first | (go_simp; done) | (go_simp; rfl)); intro gb525 hg w237 hbox hb; have n0_ := Az_ (Kd.R_below (Kd.R_elderB (w150_) gb525 (Nat.le_of_eq hg.symm)) hb); have n1_ := Az_ (Kd.R_below (Kd.R_elderB (w151_) gb525 (Nat.le_of_eq hg.symm)) hb); have n2_ := Az_ (Kd.R_below (Kd.R_elderB (w152_) gb525 (Nat.le_of_eq hg.symm)) hb); have n3_ := Az_ (Kd.R_below (Kd.R_elderB (w153_) gb525 (Nat.le_of_eq hg.symm)) hb); have n4_ := Az_ (Kd.R_below (Kd.R_elderB (w154_) gb525 (Nat.le_of_eq hg.symm)) hb); have n7_ := Az_ (btz_ (w79_) hb); have n8_ := Az_ (hbox); have n9_ := Az_ ((by rw [hg]; exact (below_size (w79_)) : w.heap.size ≤ gb525)); have n10_ := Az_ ((by rw [hg]; exact (below_size (w79_)) : w.heap.size ≤ gb525)); have n11_ := Az_ ((by rw [hg]; exact Nat.ne_of_lt (uklz_ BK518.out) : gb518 ≠ gb525)); have n12_ := Az_ ((by rw [hg]; exact Nat.ne_of_gt (uklz_ BK518.out) : gb525 ≠ gb518)); have n13_ := Az_ ((by rw [hg]; exact Nat.ne_of_lt (uklz_ BK522.out) : gb522 ≠ gb525)); have n14_ := Az_ ((by rw [hg]; exact Nat.ne_of_gt (uklz_ BK522.out) : gb525 ≠ gb522)); clear HO498; clear HO502; clear HO506; clear HO510; clear HO514; clear HB; have HO498 := n0_; have HO502 := n1_; have HO506 := n2_; have HO510 := n3_; have HO514 := n4_; replace BK518 := Az_ (ukbz_ BK518.out hb); replace BK522 := Az_ (ukbz_ BK522.out hb); have HB := n7_; have BK525 := n8_; have GW525 := n9_; have GE525 := n10_; have NB518_525 := n11_; have NB525_518 := n12_; have NB522_525 := n13_; have NB525_522 := n14_; clear n0_ n1_ n2_ n3_ n4_ n7_ n8_ n9_ n10_ n11_ n12_ n13_ n14_; clear hb hbox hg; have hnb238 := NB525_518.out; have hnc238 := NB518_525.out; have hnb239 := NB525_522.out; have hnc239 := NB522_525.out; have hcz240_0 : w237.cell? ⟨gb525, 0, none⟩ = some (.int .i64 0) := (blk_cell BK525.out 0).trans rfl; have hcz240_1 : w237.cell? ⟨gb525, 1, none⟩ = some (.int .i64 0) := (blk_cell BK525.out 1).trans rfl; have hfz240_0 := blk_frozen BK525.out 0; have hfz240_1 := blk_frozen BK525.out 1) | (go_at_call 86; (with_reducible refine (impl_ShortRange.calls kj180 t523 t524 t526 t527 _ (libW_below HTAB.out (w79_)) A217.out).mono ?_); rintro e w241 ⟨rfl, hb⟩; replace HO498 := Az_ (Kd.R_below (by (with_reducible repeat (first | apply raz_ | apply rnz_ | apply rdz_)); exact (Kd.R_mono (Kd.R_far (p := ⟨gb525, 1, none⟩) (Kd.R_far (p := ⟨gb525, 0, none⟩) (Kd.R_mono HO498.out (fun k_ hk => (⟨hk, hk.2⟩ : _ ∧ k_ ≠ gb525))) (fun _ hk => hk.2) (.int .i64 t523)) (fun _ hk => hk.2) (.int .i64 t524)) (fun _ h_ => h_.1))) hb); replace HO502 := Az_ (Kd.R_below (by (with_reducible repeat (first | apply raz_ | apply rnz_ | apply rdz_)); exact (Kd.R_mono (Kd.R_far (p := ⟨gb525, 1, none⟩) (Kd.R_far (p := ⟨gb525, 0, none⟩) (Kd.R_mono HO502.out (fun k_ hk => (⟨hk, hk.2⟩ : _ ∧ k_ ≠ gb525))) (fun _ hk => hk.2) (.int .i64 t523)) (fun _ hk => hk.2) (.int .i64 t524)) (fun _ h_ => h_.1))) hb); replace HO506 := Az_ (Kd.R_below (by (with_reducible repeat (first | apply raz_ | apply rnz_ | apply rdz_)); exact (Kd.R_mono (Kd.R_far (p := ⟨gb525, 1, none⟩) (Kd.R_far (p := ⟨gb525, 0, none⟩) (Kd.R_mono HO506.out (fun k_ hk => (⟨hk, hk.2⟩ : _ ∧ k_ ≠ gb525))) (fun _ hk => hk.2) (.int .i64 t523)) (fun _ hk => hk.2) (.int .i64 t524)) (fun _ h_ => h_.1))) hb); replace HO510 := Az_ (Kd.R_below (by (with_reducible repeat (first | apply raz_ | apply rnz_ | apply rdz_)); exact (Kd.R_mono (Kd.R_far (p := ⟨gb525, 1, none⟩) (Kd.R_far (p := ⟨gb525, 0, none⟩) (Kd.R_mono HO510.out (fun k_ hk => (⟨hk, hk.2⟩ : _ ∧ k_ ≠ gb525))) (fun _ hk => hk.2) (.int .i64 t523)) (fun _ hk => hk.2) (.int .i64 t524)) (fun _ h_ => h_.1))) hb); replace HO514 := Az_ (Kd.R_below (by (with_reducible repeat (first | apply raz_ | apply rnz_ | apply rdz_)); exact (Kd.R_mono (Kd.R_far (p := ⟨gb525, 1, none⟩) (Kd.R_far (p := ⟨gb525, 0, none⟩) (Kd.R_mono HO514.out (fun k_ hk => (⟨hk, hk.2⟩ : _ ∧ k_ ≠ gb525))) (fun _ hk => hk.2) (.int .i64 t523)) (fun _ hk => hk.2) (.int .i64 t524)) (fun _ h_ => h_.1))) hb); replace BK518 := Az_ (kbz_ (g := gb518) (o := .cells #[.int .i64 t515, .int .i64 t516] 100 (0, 0)) (by (with_reducible repeat (first | refine knz_ ?_ _ | refine kdz_ ?_ | refine kaz_ ?_ _)); refine blk_far ?_ NB518_525.out _; (with_reducible repeat (first | refine knz_ ?_ _ | refine kdz_ ?_ | refine kaz_ ?_ _)); refine blk_far ?_ NB518_525.out _; (with_reducible repeat (first | refine knz_ ?_ _ | refine kdz_ ?_ | refine kaz_ ?_ _)); exact BK518.out) hb); replace BK522 := Az_ (kbz_ (g := gb522) (o := .cells #[.int .i64 t519, .int .i64 t520] 100 (0, 0)) (by (with_reducible repeat (first | refine knz_ ?_ _ | refine kdz_ ?_ | refine kaz_ ?_ _)); refine blk_far ?_ NB522_525.out _; (with_reducible repeat (first | refine knz_ ?_ _ | refine kdz_ ?_ | refine kaz_ ?_ _)); refine blk_far ?_ NB522_525.out _; (with_reducible repeat (first | refine knz_ ?_ _ | refine kdz_ ?_ | refine kaz_ ?_ _)); exact BK522.out) hb); replace BK525 := Az_ (kbz_ (g := gb525) (o := .cells #[.int .i64 t523, .int .i64 t524] 100 (0, 0)) (by (with_reducible repeat (first | refine knz_ ?_ _ | refine kdz_ ?_ | refine kaz_ ?_ _)); refine blk_put (cs := #[.int .i64 t523, .int .i64 0]) ?_ 1 _ rfl; (with_reducible repeat (first | refine knz_ ?_ _ | refine kdz_ ?_ | refine kaz_ ?_ _)); refine blk_put (cs := #[.int .i64 0, .int .i64 0]) ?_ 0 _ rfl; (with_reducible repeat (first | refine knz_ ?_ _ | refine kdz_ ?_ | refine kaz_ ?_ _)); exact BK525.out) hb); replace HB := Az_ (btz_ (w79_) hb); (try clear hb); have hcz242_0 : w241.cell? ⟨gb525, 0, none⟩ = some (.int .i64 t523) := (blk_cell BK525.out 0).trans rfl; have hcz242_1 : w241.cell? ⟨gb525, 1, none⟩ = some (.int .i64 t524) := (blk_cell BK525.out 1).trans rfl; have hfz242_0 := blk_frozen BK525.out 0; have hfz242_1 := blk_frozen BK525.out 1) | (go_at_call 87; (with_reducible refine (spec_ShortRange.calls kj180 t523 t524 t528 t529 _ A218.out).mono ?_); rintro e w243 ⟨rfl, hb⟩; have n0_ := Az_ (Kd.R_below (w150_) hb); have n1_ := Az_ (Kd.R_below (w151_) hb); have n2_ := Az_ (Kd.R_below (w152_) hb); have n3_ := Az_ (Kd.R_below (w153_) hb); have n4_ := Az_ (Kd.R_below (w154_) hb); have n8_ := Az_ (btz_ (w79_) hb); clear HO498; clear HO502; clear HO506; clear HO510; clear HO514; clear HB; have HO498 := n0_; have HO502 := n1_; have HO506 := n2_; have HO510 := n3_; have HO514 := n4_; replace BK518 := Az_ (ukbz_ BK518.out hb); replace BK522 := Az_ (ukbz_ BK522.out hb); replace BK525 := Az_ (ukbz_ BK525.out hb); have HB := n8_; clear n0_ n1_ n2_ n3_ n4_ n8_; (try clear hb)) | (go_at_call 88; (with_reducible refine (spec_DrawLongRange.calls kj180 _ _ l1 t530 _ ?side1 ?side2 A219.out).mono ?_); (case side1 => exact ucz_ ((Kd.C_below HR1.out HB.out))); (case side2 => exact HC1.out); rintro e w244 ⟨rfl, hb⟩; have n0_ := Az_ (Kd.R_below (w150_) hb); have n1_ := Az_ (Kd.R_below (w151_) hb); have n2_ := Az_ (Kd.R_below (w152_) hb); have n3_ := Az_ (Kd.R_below (w153_) hb); have n4_ := Az_ (Kd.R_below (w154_) hb); have n8_ := Az_ (btz_ (w79_) hb); clear HO498; clear HO502; clear HO506; clear HO510; clear HO514; clear HB; have HO498 := n0_; have HO502 := n1_; have HO506 := n2_; have HO510 := n3_; have HO514 := n4_; replace BK518 := Az_ (ukbz_ BK518.out hb); replace BK522 := Az_ (ukbz_ BK522.out hb); replace BK525 := Az_ (ukbz_ BK525.out hb); have HB := n8_; clear n0_ n1_ n2_ n3_ n4_ n8_; (try clear hb)) | (go_at_call 89; (with_reducible refine (impl_LongRange.calls kj180 t530 t531 t532 t533 _ (libW_below HTAB.out (w79_)) A220.out).mono ?_); rintro e w245 ⟨rfl, hb⟩; have n0_ := Az_ (Kd.R_below (w150_) hb); have n1_ := Az_ (Kd.R_below (w151_) hb); have n2_ := Az_ (Kd.R_below (w152_) hb); have n3_ := Az_ (Kd.R_below (w153_) hb); have n4_ := Az_ (Kd.R_below (w154_) hb); have n8_ := Az_ (btz_ (w79_) hb); clear HO498; clear HO502; clear HO506; clear HO510; clear HO514; clear HB; have HO498 := n0_; have HO502 := n1_; have HO506 := n2_; have HO510 := n3_; have HO514 := n4_; replace BK518 := Az_ (ukbz_ BK518.out hb); replace BK522 := Az_ (ukbz_ BK522.out hb); replace BK525 := Az_ (ukbz_ BK525.out hb); have HB := n8_; clear n0_ n1_ n2_ n3_ n4_ n8_; (try clear hb)) | ((with_reducible refine gate_dst (N := 60) rfl ?_); (try (refine gate_guard (by rfl) ?_; dsimp only)); refine box_event ?hg (N := 60) ?hd (cs := #[.int .i64 0, .int .i64 0]) (t := 100) ?hr ?_; (case hd => rfl); (case hg => rfl); (case hr => first | (go_simp; done) | (go_simp; rfl)); intro gb534 hg w246 hbox hb; have n0_ := Az_ (Kd.R_below (Kd.R_elderB (w150_) gb534 (Nat.le_of_eq hg.symm)) hb); have n1_ := Az_ (Kd.R_below (Kd.R_elderB (w151_) gb534 (Nat.le_of_eq hg.symm)) hb); have n2_ := Az_ (Kd.R_below (Kd.R_elderB (w152_) gb534 (Nat.le_of_eq hg.symm)) hb); have n3_ := Az_ (Kd.R_below (Kd.R_elderB (w153_) gb534 (Nat.le_of_eq hg.symm)) hb); have n4_ := Az_ (Kd.R_below (Kd.R_elderB (w154_) gb534 (Nat.le_of_eq hg.symm)) hb); have n8_ := Az_ (btz_ (w79_) hb); have n9_ := Az_ (hbox); have n10_ := Az_ ((by rw [hg]; exact (below_size (w79_)) : w.heap.size ≤ gb534)); have n11_ := Az_ ((by rw [hg]; exact (below_size (w79_)) : w.heap.size ≤ gb534)); have n12_ := Az_ ((by rw [hg]; exact Nat.ne_of_lt (uklz_ BK518.out) : gb518 ≠ gb534)); have n13_ := Az_ ((by rw [hg]; exact Nat.ne_of_gt (uklz_ BK518.out) : gb534 ≠ gb518)); have n14_ := Az_ ((by rw [hg]; exact Nat.ne_of_lt (uklz_ BK522.out) : gb522 ≠ gb534)); have n15_ := Az_ ((by rw [hg]; exact Nat.ne_of_gt (uklz_ BK522.out) : gb534 ≠ gb522)); have n16_ := Az_ ((by rw [hg]; exact Nat.ne_of_lt (uklz_ BK525.out) : gb525 ≠ gb534)); have n17_ := Az_ ((by rw [hg]; exact Nat.ne_of_gt (uklz_ BK525.out) : gb534 ≠ gb525)); clear HO498; clear HO502; clear HO506; clear HO510; clear HO514; clear HB; have HO498 := n0_; have HO502 := n1_; have HO506 := n2_; have HO510 := n3_; have HO514 := n4_; replace BK518 := Az_ (ukbz_ BK518.out hb); replace BK522 := Az_ (ukbz_ BK522.out hb); replace BK525 := Az_ (ukbz_ BK525.out hb); have HB := n8_; have BK534 := n9_; have GW534 := n10_; have GE534 := n11_; have NB518_534 := n12_; have NB534_518 := n13_; have NB522_534 := n14_; have NB534_522 := n15_; have NB525_534 := n16_; have NB534_525 := n17_; clear n0_ n1_ n2_ n3_ n4_ n8_ n9_ n10_ n11_ n12_ n13_ n14_ n15_ n16_ n17_; clear hb hbox hg; have hnb247 := NB534_518.out; have hnc247 := NB518_534.out; have hnb248 := NB534_522.out; have hnc248 := NB522_534.out; have hnb249 := NB534_525.out; have hnc249 := NB525_534.out; have hcz250_0 : w246.cell? ⟨gb534, 0, none⟩ = some (.int .i64 0) := (blk_cell BK534.out 0).trans rfl; have hcz250_1 : w246.cell? ⟨gb534, 1, none⟩ = some (.int .i64 0) := (blk_cell BK534.out 1).trans rfl; have hfz250_0 := blk_frozen BK534.out 0; have hfz250_1 := blk_frozen BK534.out 1) | (go_at_call 90; (with_reducible refine (spec_LongRange.calls kj180 t530 t535 t536 t537 _ A221.out).mono ?_); rintro e w251 ⟨rfl, hb⟩; replace HO498 := Az_ (Kd.R_below (by (with_reducible repeat (first | apply raz_ | apply rnz_ | apply rdz_)); exact (Kd.R_mono (Kd.R_far (p := ⟨gb534, 1, none⟩) (Kd.R_far (p := ⟨gb534, 0, none⟩) (Kd.R_mono HO498.out (fun k_ hk => (⟨hk, hk.2⟩ : _ ∧ k_ ≠ gb534))) (fun _ hk => hk.2) (.int .i64 t531)) (fun _ hk => hk.2) (.int .i64 t532)) (fun _ h_ => h_.1))) hb); replace HO502 := Az_ (Kd.R_below (by (with_reducible repeat (first | apply raz_ | apply rnz_ | apply rdz_)); exact (Kd.R_mono (Kd.R_far (p := ⟨gb534, 1, none⟩) (Kd.R_far (p := ⟨gb534, 0, none⟩) (Kd.R_mono HO502.out (fun k_ hk => (⟨hk, hk.2⟩ : _ ∧ k_ ≠ gb534))) (fun _ hk => hk.2) (.int .i64 t531)) (fun _ hk => hk.2) (.int .i64 t532)) (fun _ h_ => h_.1))) hb); replace HO506 := Az_ (Kd.R_below (by (with_reducible repeat (first | apply raz_ | apply rnz_ | apply rdz_)); exact (Kd.R_mono (Kd.R_far (p := ⟨gb534, 1, none⟩) (Kd.R_far (p := ⟨gb534, 0, none⟩) (Kd.R_mono HO506.out (fun k_ hk => (⟨hk, hk.2⟩ : _ ∧ k_ ≠ gb534))) (fun _ hk => hk.2) (.int .i64 t531)) (fun _ hk => hk.2) (.int .i64 t532)) (fun _ h_ => h_.1))) hb); replace HO510 := Az_ (Kd.R_below (by (with_reducible repeat (first | apply raz_ | apply rnz_ | apply rdz_)); exact (Kd.R_mono (Kd.R_far (p := ⟨gb534, 1, none⟩) (Kd.R_far (p := ⟨gb534, 0, none⟩) (Kd.R_mono HO510.out (fun k_ hk => (⟨hk, hk.2⟩ : _ ∧ k_ ≠ gb534))) (fun _ hk => hk.2) (.int .i64 t531)) (fun _ hk => hk.2) (.int .i64 t532)) (fun _ h_ => h_.1))) hb); replace HO514 := Az_ (Kd.R_below (by (with_reducible repeat (first | apply raz_ | apply rnz_ | apply rdz_)); exact (Kd.R_mono (Kd.R_far (p := ⟨gb534, 1, none⟩) (Kd.R_far (p := ⟨gb534, 0, none⟩) (Kd.R_mono HO514.out (fun k_ hk => (⟨hk, hk.2⟩ : _ ∧ k_ ≠ gb534))) (fun _ hk => hk.2) (.int .i64 t531)) (fun _ hk => hk.2) (.int .i64 t532)) (fun _ h_ => h_.1))) hb); replace BK518 := Az_ (kbz_ (g := gb518) (o := .cells #[.int .i64 t515, .int .i64 t516] 100 (0, 0)) (by (with_reducible repeat (first | refine knz_ ?_ _ | refine kdz_ ?_ | refine kaz_ ?_ _)); refine blk_far ?_ NB518_534.out _; (with_reducible repeat (first | refine knz_ ?_ _ | refine kdz_ ?_ | refine kaz_ ?_ _)); refine blk_far ?_ NB518_534.out _; (with_reducible repeat (first | refine knz_ ?_ _ | refine kdz_ ?_ | refine kaz_ ?_ _)); exact BK518.out) hb); replace BK522 := Az_ (kbz_ (g := gb522) (o := .cells #[.int .i64 t519, .int .i64 t520] 100 (0, 0)) (by (with_reducible repeat (first | refine knz_ ?_ _ | refine kdz_ ?_ | refine kaz_ ?_ _)); refine blk_far ?_ NB522_534.out _; (with_reducible repeat (first | refine knz_ ?_ _ | refine kdz_ ?_ | refine kaz_ ?_ _)); refine blk_far ?_ NB522_534.out _; (with_reducible repeat (first | refine knz_ ?_ _ | refine kdz_ ?_ | refine kaz_ ?_ _)); exact BK522.out) hb); replace BK525 := Az_ (kbz_ (g := gb525) (o := .cells #[.int .i64 t523, .int .i64 t524] 100 (0, 0)) (by (with_reducible repeat (first | refine knz_ ?_ _ | refine kdz_ ?_ | refine kaz_ ?_ _)); refine blk_far ?_ NB525_534.out _; (with_reducible repeat (first | refine knz_ ?_ _ | refine kdz_ ?_ | refine kaz_ ?_ _)); refine blk_far ?_ NB525_534.out _; (with_reducible repeat (first | refine knz_ ?_ _ | refine kdz_ ?_ | refine kaz_ ?_ _)); exact BK525.out) hb); replace BK534 := Az_ (kbz_ (g := gb534) (o := .cells #[.int .i64 t531, .int .i64 t532] 100 (0, 0)) (by (with_reducible repeat (first | refine knz_ ?_ _ | refine kdz_ ?_ | refine kaz_ ?_ _)); refine blk_put (cs := #[.int .i64 t531, .int .i64 0]) ?_ 1 _ rfl; (with_reducible repeat (first | refine knz_ ?_ _ | refine kdz_ ?_ | refine kaz_ ?_ _)); refine blk_put (cs := #[.int .i64 0, .int .i64 0]) ?_ 0 _ rfl; (with_reducible repeat (first | refine knz_ ?_ _ | refine kdz_ ?_ | refine kaz_ ?_ _)); exact BK534.out) hb); replace HB := Az_ (btz_ (w79_) hb); (try clear hb)) | ((with_reducible refine gate_dst (N := 62) rfl ?_); (try (refine gate_guard (by rfl) ?_; dsimp only)); refine box_event ?hg (N := 62) ?hd (cs := #[.int .i64 0, .int .i64 0]) (t := 100) ?hr ?_; (case hd => rfl); (case hg => rfl); (case hr => first | (go_simp; done) | (go_simp; rfl)); intro gb538 hg w252 hbox hb; have n0_ := Az_ (Kd.R_below (Kd.R_elderB (w150_) gb538 (Nat.le_of_eq hg.symm)) hb); have n1_ := Az_ (Kd.R_below (Kd.R_elderB (w151_) gb538 (Nat.le_of_eq hg.symm)) hb); have n2_ := Az_ (Kd.R_below (Kd.R_elderB (w152_) gb538 (Nat.le_of_eq hg.symm)) hb); have n3_ := Az_ (Kd.R_below (Kd.R_elderB (w153_) gb538 (Nat.le_of_eq hg.symm)) hb); have n4_ := Az_ (Kd.R_below (Kd.R_elderB (w154_) gb538 (Nat.le_of_eq hg.symm)) hb); have n9_ := Az_ (btz_ (w79_) hb); have n10_ := Az_ (hbox); have n11_ := Az_ ((by rw [hg]; exact (below_size (w79_)) : w.heap.size ≤ gb538)); have n12_ := Az_ ((by rw [hg]; exact (below_size (w79_)) : w.heap.size ≤ gb538)); have n13_ := Az_ ((by rw [hg]; exact Nat.ne_of_lt (uklz_ BK518.out) : gb518 ≠ gb538)); have n14_ := Az_ ((by rw [hg]; exact Nat.ne_of_gt (uklz_ BK518.out) : gb538 ≠ gb518)); have n15_ := Az_ ((by rw [hg]; exact Nat.ne_of_lt (uklz_ BK522.out) : gb522 ≠ gb538)); have n16_ := Az_ ((by rw [hg]; exact Nat.ne_of_gt (uklz_ BK522.out) : gb538 ≠ gb522)); have n17_ := Az_ ((by rw [hg]; exact Nat.ne_of_lt (uklz_ BK525.out) : gb525 ≠ gb538)); have n18_ := Az_ ((by rw [hg]; exact Nat.ne_of_gt (uklz_ BK525.out) : gb538 ≠ gb525)); have n19_ := Az_ ((by rw [hg]; exact Nat.ne_of_lt (uklz_ BK534.out) : gb534 ≠ gb538)); have n20_ := Az_ ((by rw [hg]; exact Nat.ne_of_gt (uklz_ BK534.out) : gb538 ≠ gb534)); clear HO498; clear HO502; clear HO506; clear HO510; clear HO514; clear HB; have HO498 := n0_; have HO502 := n1_; have HO506 := n2_; have HO510 := n3_; have HO514 := n4_; replace BK518 := Az_ (ukbz_ BK518.out hb); replace BK522 := Az_ (ukbz_ BK522.out hb); replace BK525 := Az_ (ukbz_ BK525.out hb); replace BK534 := Az_ (ukbz_ BK534.out hb); have HB := n9_; have BK538 := n10_; have GW538 := n11_; have GE538 := n12_; have NB518_538 := n13_; have NB538_518 := n14_; have NB522_538 := n15_; have NB538_522 := n16_; have NB525_538 := n17_; have NB538_525 := n18_; have NB534_538 := n19_; have NB538_534 := n20_; clear n0_ n1_ n2_ n3_ n4_ n9_ n10_ n11_ n12_ n13_ n14_ n15_ n16_ n17_ n18_ n19_ n20_; clear hb hbox hg; have hnb253 := NB538_518.out; have hnc253 := NB518_538.out; have hnb254 := NB538_522.out; have hnc254 := NB522_538.out; have hnb255 := NB538_525.out; have hnc255 := NB525_538.out; have hnb256 := NB538_534.out; have hnc256 := NB534_538.out; have hcz257_0 : w252.cell? ⟨gb538, 0, none⟩ = some (.int .i64 0) := (blk_cell BK538.out 0).trans rfl; have hcz257_1 : w252.cell? ⟨gb538, 1, none⟩ = some (.int .i64 0) := (blk_cell BK538.out 1).trans rfl; have hfz257_0 := blk_frozen BK538.out 0; have hfz257_1 := blk_frozen BK538.out 1))
         (try simp only [Act.put, List.setIfInBounds_toArray, List.set_cons_zero, List.set_cons_succ])
         go_cut [483] from 1 to 0 (fun v483 wc => ∃ (kq : Nat) (x483_221 : Bool), v483 = .bool x483_221 ∧ Aside0 (j9 kq t495 t496 t499 t500 t507 t508 t517 t526 t527 t530 t533 x483_221 t515 t516 t523 t524 t531 t532 = some r) ∧ Aside0 (kq ≤ kj180) ∧ Aside0 (Kd.R k100 100 wc w.heap.size (fun k_ => some k_ ≠ (v501 : Value).ownBlock ∧ some k_ ≠ (v509 : Value).ownBlock ∧ k_ ≠ gb518 ∧ k_ ≠ gb522 ∧ k_ ≠ gb525 ∧ k_ ≠ gb534 ∧ k_ ≠ gb538) (.slice Ao224 t495.length co224) t495) ∧ Aside0 (Kd.R k100 100 wc w.heap.size (fun k_ => some k_ ≠ ((.slice Ao224 t495.length co224) : Value).ownBlock ∧ some k_ ≠ (v509 : Value).ownBlock ∧ k_ ≠ gb518 ∧ k_ ≠ gb522 ∧ k_ ≠ gb525 ∧ k_ ≠ gb534 ∧ k_ ≠ gb538) v501 t499) ∧ Aside0 (Kd.R k100 100 wc w.heap.size (fun k_ => some k_ ≠ ((.slice Ao224 t495.length co224) : Value).ownBlock ∧ some k_ ≠ (v501 : Value).ownBlock ∧ k_ ≠ gb518 ∧ k_ ≠ gb522 ∧ k_ ≠ gb525 ∧ k_ ≠ gb534 ∧ k_ ≠ gb538) v509 t507) ∧ Aside0 (wc.heap[gb518]? = some (.cells #[.int .i64 t515, .int .i64 t516] 100 (0, 0))) ∧ Aside0 (wc.heap[gb522]? = some (.cells #[.int .i64 t519, .int .i64 t520] 100 (0, 0))) ∧ Aside0 (wc.heap[gb525]? = some (.cells #[.int .i64 t523, .int .i64 t524] 100 (0, 0))) ∧ Aside0 (wc.heap[gb534]? = some (.cells #[.int .i64 t531, .int .i64 t532] 100 (0, 0))) ∧ Aside0 (wc.heap[gb538]? = some (.cells #[.int .i64 t535, .int .i64 t536] 100 (0, 0))) ∧ Aside0 (Below w.heap.size w wc))
         case first => as_aux_lemma =>
          have H := HC222.out
          clear HC222
          by_cases c258 : (t500 != t504) = true
          ·rw [if_pos c258] at H
           exact (laws_FnIndexesMoved.j9_no _ _ _ _ _ _ _ _ _ _ _ _ _ _ _ _ _ _ _ hrT H).elim
          rw [if_neg c258] at H
          obtain rfl : t500 = t504 := by simpa using c258
          clear c258
          replace H := bqz_ H; obtain ⟨t539, A259, H⟩ := H
          replace H : (if t539 = true then (if (t508 != t512) = true then (j9 kj180 t495 t496 t499 t500 t507 t508 t517 t526 t527 t530 t533 true t515 t516 t523 t524 t531 t532) else ((laws_fRanges.f kj180 t507 t511).bind fun t540 => (if t540 = true then (if (t517 != t521) = true then (j9 kj180 t495 t496 t499 t500 t507 t508 t517 t526 t527 t530 t533 true t515 t516 t523 t524 t531 t532) else (if (!(t515 == t519) || (!(t516 == t520))) = true then (j9 kj180 t495 t496 t499 t500 t507 t508 t517 t526 t527 t530 t533 true t515 t516 t523 t524 t531 t532) else (if (t527 != t529) = true then (j9 kj180 t495 t496 t499 t500 t507 t508 t517 t526 t527 t530 t533 true t515 t516 t523 t524 t531 t532) else (if t526.toList = t528.toList then (if (t533 != t537) = true then (j9 kj180 t495 t496 t499 t500 t507 t508 t517 t526 t527 t530 t533 true t515 t516 t523 t524 t531 t532) else (if (!(t531 == t535) || (!(t532 == t536))) = true then (j9 kj180 t495 t496 t499 t500 t507 t508 t517 t526 t527 t530 t533 true t515 t516 t523 t524 t531 t532) else (if t500 = true then (if t508 = true then (j9 kj180 t495 t496 t499 t500 t507 t508 t517 t526 t527 t530 t533 (t517 != (decide ((t495.length : Int) > 0))) t515 t516 t523 t524 t531 t532) else (j9 kj180 t495 t496 t499 t500 t507 t508 t517 t526 t527 t530 t533 true t515 t516 t523 t524 t531 t532)) else (if t508 = true then (j9 kj180 t495 t496 t499 t500 t507 t508 t517 t526 t527 t530 t533 (t517 != (decide ((t495.length : Int) > 0))) t515 t516 t523 t524 t531 t532) else (j9 kj180 t495 t496 t499 t500 t507 t508 t517 t526 t527 t530 t533 (t517 != false) t515 t516 t523 t524 t531 t532))))) else (j9 kj180 t495 t496 t499 t500 t507 t508 t517 t526 t527 t530 t533 true t515 t516 t523 t524 t531 t532))))) else (j9 kj180 t495 t496 t499 t500 t507 t508 t517 t526 t527 t530 t533 true t515 t516 t523 t524 t531 t532)))) else (j9 kj180 t495 t496 t499 t500 t507 t508 t517 t526 t527 t530 t533 true t515 t516 t523 t524 t531 t532)) = some r := H
          by_cases c260 : t539 = true; rotate_left
          ·replace c260 := Bool.eq_false_iff.mpr c260
           subst c260
           have H1 : (j9 kj180 t495 t496 t499 t500 t507 t508 t517 t526 t527 t530 t533 true t515 t516 t523 t524 t531 t532) = some r := by rw [if_neg (show ¬ (false = true) by decide)] at H; exact H
           clear H
           have H := H1
           exact (laws_FnIndexesMoved.j9_no _ _ _ _ _ _ _ _ _ _ _ _ _ _ _ _ _ _ _ hrT H).elim
          subst c260
          rw [if_pos rfl] at H
          by_cases c261 : (t508 != t512) = true
          ·rw [if_pos c261] at H
           exact (laws_FnIndexesMoved.j9_no _ _ _ _ _ _ _ _ _ _ _ _ _ _ _ _ _ _ _ hrT H).elim
          rw [if_neg c261] at H
          obtain rfl : t508 = t512 := by simpa using c261
          clear c261
          replace H := bqz_ H; obtain ⟨t540, A264, H⟩ := H
          replace H : (if t540 = true then (if (t517 != t521) = true then (j9 kj180 t495 t496 t499 t500 t507 t508 t517 t526 t527 t530 t533 true t515 t516 t523 t524 t531 t532) else (if (!(t515 == t519) || (!(t516 == t520))) = true then (j9 kj180 t495 t496 t499 t500 t507 t508 t517 t526 t527 t530 t533 true t515 t516 t523 t524 t531 t532) else (if (t527 != t529) = true then (j9 kj180 t495 t496 t499 t500 t507 t508 t517 t526 t527 t530 t533 true t515 t516 t523 t524 t531 t532) else (if t526.toList = t528.toList then (if (t533 != t537) = true then (j9 kj180 t495 t496 t499 t500 t507 t508 t517 t526 t527 t530 t533 true t515 t516 t523 t524 t531 t532) else (if (!(t531 == t535) || (!(t532 == t536))) = true then (j9 kj180 t495 t496 t499 t500 t507 t508 t517 t526 t527 t530 t533 true t515 t516 t523 t524 t531 t532) else (if t500 = true then (if t508 = true then (j9 kj180 t495 t496 t499 t500 t507 t508 t517 t526 t527 t530 t533 (t517 != (decide ((t495.length : Int) > 0))) t515 t516 t523 t524 t531 t532) else (j9 kj180 t495 t496 t499 t500 t507 t508 t517 t526 t527 t530 t533 true t515 t516 t523 t524 t531 t532)) else (if t508 = true then (j9 kj180 t495 t496 t499 t500 t507 t508 t517 t526 t527 t530 t533 (t517 != (decide ((t495.length : Int) > 0))) t515 t516 t523 t524 t531 t532) else (j9 kj180 t495 t496 t499 t500 t507 t508 t517 t526 t527 t530 t533 (t517 != false) t515 t516 t523 t524 t531 t532))))) else (j9 kj180 t495 t496 t499 t500 t507 t508 t517 t526 t527 t530 t533 true t515 t516 t523 t524 t531 t532))))) else (j9 kj180 t495 t496 t499 t500 t507 t508 t517 t526 t527 t530 t533 true t515 t516 t523 t524 t531 t532)) = some r := H
          by_cases c265 : t540 = true; rotate_left
          ·replace c265 := Bool.eq_false_iff.mpr c265
           subst c265
           have H1 : (j9 kj180 t495 t496 t499 t500 t507 t508 t517 t526 t527 t530 t533 true t515 t516 t523 t524 t531 t532) = some r := by rw [if_neg (show ¬ (false = true) by decide)] at H; exact H
           clear H
           have H := H1
           exact (laws_FnIndexesMoved.j9_no _ _ _ _ _ _ _ _ _ _ _ _ _ _ _ _ _ _ _ hrT H).elim
          subst c265
          rw [if_pos rfl] at H
          by_cases c266 : (t517 != t521) = true
          ·rw [if_pos c266] at H
           exact (laws_FnIndexesMoved.j9_no _ _ _ _ _ _ _ _ _ _ _ _ _ _ _ _ _ _ _ hrT H).elim
          rw [if_neg c266] at H
          obtain rfl : t517 = t521 := by simpa using c266
          clear c266
          by_cases c271 : (!(t515 == t519) || (!(t516 == t520))) = true
          ·rw [if_pos c271] at H
           exact (laws_FnIndexesMoved.j9_no _ _ _ _ _ _ _ _ _ _ _ _ _ _ _ _ _ _ _ hrT H).elim
          rw [if_neg c271] at H
          have c271b0 : (!(t515 == t519) || (!(t516 == t520))) = false := by simpa using c271
          clear c271
          by_cases c285 : (t527 != t529) = true
          ·rw [if_pos c285] at H
           exact (laws_FnIndexesMoved.j9_no _ _ _ _ _ _ _ _ _ _ _ _ _ _ _ _ _ _ _ hrT H).elim
          rw [if_neg c285] at H
          obtain rfl : t527 = t529 := by simpa using c285
          clear c285
          by_cases c299 : t526.toList = t528.toList; rotate_left
          ·rw [if_neg c299] at H
           exact (laws_FnIndexesMoved.j9_no _ _ _ _ _ _ _ _ _ _ _ _ _ _ _ _ _ _ _ hrT H).elim
          rw [if_pos c299] at H
          have c299b0 : (t526.toList == t528.toList) = true := beq_iff_eq.mpr c299
          have c299b1 : (t526.toList != t528.toList) = false := bne_eq_false_iff_eq.mpr c299
          clear c299
          by_cases c300 : (t533 != t537) = true
          ·rw [if_pos c300] at H
           exact (laws_FnIndexesMoved.j9_no _ _ _ _ _ _ _ _ _ _ _ _ _ _ _ _ _ _ _ hrT H).elim
          rw [if_neg c300] at H
          obtain rfl : t533 = t537 := by simpa using c300
          clear c300
          by_cases c314 : (!(t531 == t535) || (!(t532 == t536))) = true
          ·rw [if_pos c314] at H
           exact (laws_FnIndexesMoved.j9_no _ _ _ _ _ _ _ _ _ _ _ _ _ _ _ _ _ _ _ hrT H).elim
          rw [if_neg c314] at H
          have c314b0 : (!(t531 == t535) || (!(t532 == t536))) = false := by simpa using c314
          clear c314
          by_cases c333 : t500 = true
          ·subst c333
           rw [if_pos rfl] at H
           by_cases c334 : t508 = true; rotate_left
           ·replace c334 := Bool.eq_false_iff.mpr c334
            subst c334
            have H1 : (j9 kj180 t495 t496 t499 true t507 false t517 t526 t527 t530 t533 true t515 t516 t523 t524 t531 t532) = some r := by rw [if_neg (show ¬ (false = true) by decide)] at H; exact H
            clear H
            have H := H1
            exact (laws_FnIndexesMoved.j9_no _ _ _ _ _ _ _ _ _ _ _ _ _ _ _ _ _ _ _ hrT H).elim
           subst c334
           rw [if_pos rfl] at H
           have H' := Az_ H
           clear H
           obtain ⟨Ao335, co335, eo335⟩ := Kd.R_slice HO502.out
           subst eo335
           obtain ⟨Ao336, co336, eo336⟩ := Kd.R_slice HO506.out
           subst eo336
           go_wp2_with (first | (go_at_call 76; (with_reducible refine (laws_fRanges.calls kj180 _ _ t499 _ _ t503 true _ ?side1 ?side2 ?side3 ?side4 A259.out).mono ?_); (case side1 => refine (Kd.R_reads' (e := 100) (base := w.heap.size) (ok := fun k_ => (((((((((True ∧ some k_ ≠ (.slice Ao224 t495.length co224 : Value).ownBlock) ∧ some k_ ≠ (.slice Ao336 t503.length co336 : Value).ownBlock) ∧ some k_ ≠ (v509 : Value).ownBlock) ∧ some k_ ≠ (v513 : Value).ownBlock) ∧ k_ ≠ gb518) ∧ k_ ≠ gb522) ∧ k_ ≠ gb525) ∧ k_ ≠ gb534) ∧ k_ ≠ gb538)) (n := t499.length) (c := co335) ?_).2.2; exact (w42_)); (case side2 => exact (Kd.R_reads' HO502.out).2.1); (case side3 => refine (Kd.R_reads' (e := 100) (base := w.heap.size) (ok := fun k_ => (((((((((True ∧ some k_ ≠ (.slice Ao224 t495.length co224 : Value).ownBlock) ∧ some k_ ≠ (.slice Ao335 t499.length co335 : Value).ownBlock) ∧ some k_ ≠ (v509 : Value).ownBlock) ∧ some k_ ≠ (v513 : Value).ownBlock) ∧ k_ ≠ gb518) ∧ k_ ≠ gb522) ∧ k_ ≠ gb525) ∧ k_ ≠ gb534) ∧ k_ ≠ gb538)) (n := t503.length) (c := co336) ?_).2.2; exact (w43_)); (case side4 => exact (Kd.R_reads' HO506.out).2.1); rintro e w' ⟨rfl, ⟨nd, rfl⟩⟩; (try first | exact ⟨rfl, _, World.drewN_drewN _ _ _⟩ | exact ⟨rfl, _, Eq.trans (World.drewN_drewN _ _ _) (congrArg (World.drewN _) (Nat.add_assoc _ _ _))⟩); obtain ⟨Ao337, co337, eo337⟩ := Kd.R_slice HO510.out; subst eo337; obtain ⟨Ao338, co338, eo338⟩ := Kd.R_slice HO514.out; subst eo338; clear A259) | (go_at_call 76; (with_reducible refine (laws_fRanges.calls kj180 _ _ t507 _ _ t511 true _ ?side1 ?side2 ?side3 ?side4 A264.out).mono ?_); (case side1 => refine (Kd.R_reads' (e := 100) (base := w.heap.size) (ok := fun k_ => (((((((((True ∧ some k_ ≠ (.slice Ao224 t495.length co224 : Value).ownBlock) ∧ some k_ ≠ (.slice Ao335 t499.length co335 : Value).ownBlock) ∧ some k_ ≠ (.slice Ao336 t503.length co336 : Value).ownBlock) ∧ some k_ ≠ (.slice Ao338 t511.length co338 : Value).ownBlock) ∧ k_ ≠ gb518) ∧ k_ ≠ gb522) ∧ k_ ≠ gb525) ∧ k_ ≠ gb534) ∧ k_ ≠ gb538)) (n := t507.length) (c := co337) ?_).2.2; exact (w44_)); (case side2 => exact (Kd.R_reads' HO510.out).2.1); (case side3 => refine (Kd.R_reads' (e := 100) (base := w.heap.size) (ok := fun k_ => (((((((((True ∧ some k_ ≠ (.slice Ao224 t495.length co224 : Value).ownBlock) ∧ some k_ ≠ (.slice Ao335 t499.length co335 : Value).ownBlock) ∧ some k_ ≠ (.slice Ao336 t503.length co336 : Value).ownBlock) ∧ some k_ ≠ (.slice Ao337 t507.length co337 : Value).ownBlock) ∧ k_ ≠ gb518) ∧ k_ ≠ gb522) ∧ k_ ≠ gb525) ∧ k_ ≠ gb534) ∧ k_ ≠ gb538)) (n := t511.length) (c := co338) ?_).2.2; exact (w45_)); (case side4 => exact (Kd.R_reads' HO514.out).2.1); rintro e w' ⟨rfl, ⟨nd, rfl⟩⟩; (try first | exact ⟨rfl, _, World.drewN_drewN _ _ _⟩ | exact ⟨rfl, _, Eq.trans (World.drewN_drewN _ _ _) (congrArg (World.drewN _) (Nat.add_assoc _ _ _))⟩); have hnb339 := NB518_522.out; have hnc339 := NB522_518.out; have hnb340 := NB518_525.out; have hnc340 := NB525_518.out; have hnb341 := NB518_534.out; have hnc341 := NB534_518.out; have hnb342 := NB518_538.out; have hnc342 := NB538_518.out; have hcz343_0 : w252.cell? ⟨gb518, 0, none⟩ = some (.int .i64 t515) := (blk_cell BK518.out 0).trans rfl; have hcz343_1 : w252.cell? ⟨gb518, 1, none⟩ = some (.int .i64 t516) := (blk_cell BK518.out 1).trans rfl; have hfz343_0 := blk_frozen BK518.out 0; have hfz343_1 := blk_frozen BK518.out 1; have hnb344 := NB522_525.out; have hnc344 := NB525_522.out; have hnb345 := NB522_534.out; have hnc345 := NB534_522.out; have hnb346 := NB522_538.out; have hnc346 := NB538_522.out; have hcz347_0 : w252.cell? ⟨gb522, 0, none⟩ = some (.int .i64 t519) := (blk_cell BK522.out 0).trans rfl; have hcz347_1 : w252.cell? ⟨gb522, 1, none⟩ = some (.int .i64 t520) := (blk_cell BK522.out 1).trans rfl; have hfz347_0 := blk_frozen BK522.out 0; have hfz347_1 := blk_frozen BK522.out 1; have hnb348 := NB534_525.out; have hnc348 := NB525_534.out; have hnb349 := NB534_538.out; have hnc349 := NB538_534.out; have hcz350_0 : w252.cell? ⟨gb534, 0, none⟩ = some (.int .i64 t531) := (blk_cell BK534.out 0).trans rfl; have hcz350_1 : w252.cell? ⟨gb534, 1, none⟩ = some (.int .i64 t532) := (blk_cell BK534.out 1).trans rfl; have hfz350_0 := blk_frozen BK534.out 0; have hfz350_1 := blk_frozen BK534.out 1; have hnb351 := NB538_525.out; have hnc351 := NB525_538.out; have hcz352_0 : w252.cell? ⟨gb538, 0, none⟩ = some (.int .i64 0) := (blk_cell BK538.out 0).trans rfl; have hcz352_1 : w252.cell? ⟨gb538, 1, none⟩ = some (.int .i64 0) := (blk_cell BK538.out 1).trans rfl; have hfz352_0 := blk_frozen BK538.out 0; have hfz352_1 := blk_frozen BK538.out 1))
           go_meet
           case rel => exact ⟨_, ((t517 != (decide ((t495.length : Int) > 0)))), (w62_), H', ⟨w104_⟩, ⟨w11_⟩, ⟨w12_⟩, ⟨w10_⟩, ⟨w27_⟩, ⟨w28_⟩, ⟨w29_⟩, ⟨w30_⟩, ⟨w20_⟩, ⟨w79_⟩⟩
          replace c333 := Bool.eq_false_iff.mpr c333
          subst c333
          rw [if_neg nfz_] at H
          by_cases c371 : t508 = true
          ·subst c371
           rw [if_pos rfl] at H
           have H' := Az_ H
           clear H
           obtain ⟨Ao372, co372, eo372⟩ := Kd.R_slice HO502.out
           subst eo372
           obtain ⟨Ao373, co373, eo373⟩ := Kd.R_slice HO506.out
           subst eo373
           go_wp2_with (first | (go_at_call 76; (with_reducible refine (laws_fRanges.calls kj180 _ _ t499 _ _ t503 true _ ?side1 ?side2 ?side3 ?side4 A259.out).mono ?_); (case side1 => refine (Kd.R_reads' (e := 100) (base := w.heap.size) (ok := fun k_ => (((((((((True ∧ some k_ ≠ (.slice Ao224 t495.length co224 : Value).ownBlock) ∧ some k_ ≠ (.slice Ao373 t503.length co373 : Value).ownBlock) ∧ some k_ ≠ (v509 : Value).ownBlock) ∧ some k_ ≠ (v513 : Value).ownBlock) ∧ k_ ≠ gb518) ∧ k_ ≠ gb522) ∧ k_ ≠ gb525) ∧ k_ ≠ gb534) ∧ k_ ≠ gb538)) (n := t499.length) (c := co372) ?_).2.2; exact (w42_)); (case side2 => exact (Kd.R_reads' HO502.out).2.1); (case side3 => refine (Kd.R_reads' (e := 100) (base := w.heap.size) (ok := fun k_ => (((((((((True ∧ some k_ ≠ (.slice Ao224 t495.length co224 : Value).ownBlock) ∧ some k_ ≠ (.slice Ao372 t499.length co372 : Value).ownBlock) ∧ some k_ ≠ (v509 : Value).ownBlock) ∧ some k_ ≠ (v513 : Value).ownBlock) ∧ k_ ≠ gb518) ∧ k_ ≠ gb522) ∧ k_ ≠ gb525) ∧ k_ ≠ gb534) ∧ k_ ≠ gb538)) (n := t503.length) (c := co373) ?_).2.2; exact (w43_)); (case side4 => exact (Kd.R_reads' HO506.out).2.1); rintro e w' ⟨rfl, ⟨nd, rfl⟩⟩; (try first | exact ⟨rfl, _, World.drewN_drewN _ _ _⟩ | exact ⟨rfl, _, Eq.trans (World.drewN_drewN _ _ _) (congrArg (World.drewN _) (Nat.add_assoc _ _ _))⟩); obtain ⟨Ao374, co374, eo374⟩ := Kd.R_slice HO510.out; subst eo374; obtain ⟨Ao375, co375, eo375⟩ := Kd.R_slice HO514.out; subst eo375; clear A259) | (go_at_call 76; (with_reducible refine (laws_fRanges.calls kj180 _ _ t507 _ _ t511 true _ ?side1 ?side2 ?side3 ?side4 A264.out).mono ?_); (case side1 => refine (Kd.R_reads' (e := 100) (base := w.heap.size) (ok := fun k_ => (((((((((True ∧ some k_ ≠ (.slice Ao224 t495.length co224 : Value).ownBlock) ∧ some k_ ≠ (.slice Ao372 t499.length co372 : Value).ownBlock) ∧ some k_ ≠ (.slice Ao373 t503.length co373 : Value).ownBlock) ∧ some k_ ≠ (.slice Ao375 t511.length co375 : Value).ownBlock) ∧ k_ ≠ gb518) ∧ k_ ≠ gb522) ∧ k_ ≠ gb525) ∧ k_ ≠ gb534) ∧ k_ ≠ gb538)) (n := t507.length) (c := co374) ?_).2.2; exact (w44_)); (case side2 => exact (Kd.R_reads' HO510.out).2.1); (case side3 => refine (Kd.R_reads' (e := 100) (base := w.heap.size) (ok := fun k_ => (((((((((True ∧ some k_ ≠ (.slice Ao224 t495.length co224 : Value).ownBlock) ∧ some k_ ≠ (.slice Ao372 t499.length co372 : Value).ownBlock) ∧ some k_ ≠ (.slice Ao373 t503.length co373 : Value).ownBlock) ∧ some k_ ≠ (.slice Ao374 t507.length co374 : Value).ownBlock) ∧ k_ ≠ gb518) ∧ k_ ≠ gb522) ∧ k_ ≠ gb525) ∧ k_ ≠ gb534) ∧ k_ ≠ gb538)) (n := t511.length) (c := co375) ?_).2.2; exact (w45_)); (case side4 => exact (Kd.R_reads' HO514.out).2.1); rintro e w' ⟨rfl, ⟨nd, rfl⟩⟩; (try first | exact ⟨rfl, _, World.drewN_drewN _ _ _⟩ | exact ⟨rfl, _, Eq.trans (World.drewN_drewN _ _ _) (congrArg (World.drewN _) (Nat.add_assoc _ _ _))⟩); have hnb376 := NB518_522.out; have hnc376 := NB522_518.out; have hnb377 := NB518_525.out; have hnc377 := NB525_518.out; have hnb378 := NB518_534.out; have hnc378 := NB534_518.out; have hnb379 := NB518_538.out; have hnc379 := NB538_518.out; have hcz380_0 : w252.cell? ⟨gb518, 0, none⟩ = some (.int .i64 t515) := (blk_cell BK518.out 0).trans rfl; have hcz380_1 : w252.cell? ⟨gb518, 1, none⟩ = some (.int .i64 t516) := (blk_cell BK518.out 1).trans rfl; have hfz380_0 := blk_frozen BK518.out 0; have hfz380_1 := blk_frozen BK518.out 1; have hnb381 := NB522_525.out; have hnc381 := NB525_522.out; have hnb382 := NB522_534.out; have hnc382 := NB534_522.out; have hnb383 := NB522_538.out; have hnc383 := NB538_522.out; have hcz384_0 : w252.cell? ⟨gb522, 0, none⟩ = some (.int .i64 t519) := (blk_cell BK522.out 0).trans rfl; have hcz384_1 : w252.cell? ⟨gb522, 1, none⟩ = some (.int .i64 t520) := (blk_cell BK522.out 1).trans rfl; have hfz384_0 := blk_frozen BK522.out 0; have hfz384_1 := blk_frozen BK522.out 1; have hnb385 := NB534_525.out; have hnc385 := NB525_534.out; have hnb386 := NB534_538.out; have hnc386 := NB538_534.out; have hcz387_0 : w252.cell? ⟨gb534, 0, none⟩ = some (.int .i64 t531) := (blk_cell BK534.out 0).trans rfl; have hcz387_1 : w252.cell? ⟨gb534, 1, none⟩ = some (.int .i64 t532) := (blk_cell BK534.out 1).trans rfl; have hfz387_0 := blk_frozen BK534.out 0; have hfz387_1 := blk_frozen BK534.out 1; have hnb388 := NB538_525.out; have hnc388 := NB525_538.out; have hcz389_0 : w252.cell? ⟨gb538, 0, none⟩ = some (.int .i64 0) := (blk_cell BK538.out 0).trans rfl; have hcz389_1 : w252.cell? ⟨gb538, 1, none⟩ = some (.int .i64 0) := (blk_cell BK538.out 1).trans rfl; have hfz389_0 := blk_frozen BK538.out 0; have hfz389_1 := blk_frozen BK538.out 1))
           go_meet
           case rel => exact ⟨_, ((t517 != (decide ((t495.length : Int) > 0)))), (w62_), H', ⟨w104_⟩, ⟨w11_⟩, ⟨w12_⟩, ⟨w10_⟩, ⟨w27_⟩, ⟨w28_⟩, ⟨w29_⟩, ⟨w30_⟩, ⟨w20_⟩, ⟨w79_⟩⟩
          replace c371 := Bool.eq_false_iff.mpr c371
          subst c371
          rw [if_neg nfz_] at H
          have H' := Az_ H
          clear H
          obtain ⟨Ao390, co390, eo390⟩ := Kd.R_slice HO502.out
          subst eo390
          obtain ⟨Ao391, co391, eo391⟩ := Kd.R_slice HO506.out
          subst eo391
          go_wp2_with (first | (go_at_call 76; (with_reducible refine (laws_fRanges.calls kj180 _ _ t499 _ _ t503 true _ ?side1 ?side2 ?side3 ?side4 A259.out).mono ?_); (case side1 => refine (Kd.R_reads' (e := 100) (base := w.heap.size) (ok := fun k_ => (((((((((True ∧ some k_ ≠ (.slice Ao224 t495.length co224 : Value).ownBlock) ∧ some k_ ≠ (.slice Ao391 t503.length co391 : Value).ownBlock) ∧ some k_ ≠ (v509 : Value).ownBlock) ∧ some k_ ≠ (v513 : Value).ownBlock) ∧ k_ ≠ gb518) ∧ k_ ≠ gb522) ∧ k_ ≠ gb525) ∧ k_ ≠ gb534) ∧ k_ ≠ gb538)) (n := t499.length) (c := co390) ?_).2.2; exact (w42_)); (case side2 => exact (Kd.R_reads' HO502.out).2.1); (case side3 => refine (Kd.R_reads' (e := 100) (base := w.heap.size) (ok := fun k_ => (((((((((True ∧ some k_ ≠ (.slice Ao224 t495.length co224 : Value).ownBlock) ∧ some k_ ≠ (.slice Ao390 t499.length co390 : Value).ownBlock) ∧ some k_ ≠ (v509 : Value).ownBlock) ∧ some k_ ≠ (v513 : Value).ownBlock) ∧ k_ ≠ gb518) ∧ k_ ≠ gb522) ∧ k_ ≠ gb525) ∧ k_ ≠ gb534) ∧ k_ ≠ gb538)) (n := t503.length) (c := co391) ?_).2.2; exact (w43_)); (case side4 => exact (Kd.R_reads' HO506.out).2.1); rintro e w' ⟨rfl, ⟨nd, rfl⟩⟩; (try first | exact ⟨rfl, _, World.drewN_drewN _ _ _⟩ | exact ⟨rfl, _, Eq.trans (World.drewN_drewN _ _ _) (congrArg (World.drewN _) (Nat.add_assoc _ _ _))⟩); obtain ⟨Ao392, co392, eo392⟩ := Kd.R_slice HO510.out; subst eo392; obtain ⟨Ao393, co393, eo393⟩ := Kd.R_slice HO514.out; subst eo393; clear A259) | (go_at_call 76; (with_reducible refine (laws_fRanges.calls kj180 _ _ t507 _ _ t511 true _ ?side1 ?side2 ?side3 ?side4 A264.out).mono ?_); (case side1 => refine (Kd.R_reads' (e := 100) (base := w.heap.size) (ok := fun k_ => (((((((((True ∧ some k_ ≠ (.slice Ao224 t495.length co224 : Value).ownBlock) ∧ some k_ ≠ (.slice Ao390 t499.length co390 : Value).ownBlock) ∧ some k_ ≠ (.slice Ao391 t503.length co391 : Value).ownBlock) ∧ some k_ ≠ (.slice Ao393 t511.length co393 : Value).ownBlock) ∧ k_ ≠ gb518) ∧ k_ ≠ gb522) ∧ k_ ≠ gb525) ∧ k_ ≠ gb534) ∧ k_ ≠ gb538)) (n := t507.length) (c := co392) ?_).2.2; exact (w44_)); (case side2 => exact (Kd.R_reads' HO510.out).2.1); (case side3 => refine (Kd.R_reads' (e := 100) (base := w.heap.size) (ok := fun k_ => (((((((((True ∧ some k_ ≠ (.slice Ao224 t495.length co224 : Value).ownBlock) ∧ some k_ ≠ (.slice Ao390 t499.length co390 : Value).ownBlock) ∧ some k_ ≠ (.slice Ao391 t503.length co391 : Value).ownBlock) ∧ some k_ ≠ (.slice Ao392 t507.length co392 : Value).ownBlock) ∧ k_ ≠ gb518) ∧ k_ ≠ gb522) ∧ k_ ≠ gb525) ∧ k_ ≠ gb534) ∧ k_ ≠ gb538)) (n := t511.length) (c := co393) ?_).2.2; exact (w45_)); (case side4 => exact (Kd.R_reads' HO514.out).2.1); rintro e w' ⟨rfl, ⟨nd, rfl⟩⟩; (try first | exact ⟨rfl, _, World.drewN_drewN _ _ _⟩ | exact ⟨rfl, _, Eq.trans (World.drewN_drewN _ _ _) (congrArg (World.drewN _) (Nat.add_assoc _ _ _))⟩); have hnb394 := NB518_522.out; have hnc394 := NB522_518.out; have hnb395 := NB518_525.out; have hnc395 := NB525_518.out; have hnb396 := NB518_534.out; have hnc396 := NB534_518.out; have hnb397 := NB518_538.out; have hnc397 := NB538_518.out; have hcz398_0 : w252.cell? ⟨gb518, 0, none⟩ = some (.int .i64 t515) := (blk_cell BK518.out 0).trans rfl; have hcz398_1 : w252.cell? ⟨gb518, 1, none⟩ = some (.int .i64 t516) := (blk_cell BK518.out 1).trans rfl; have hfz398_0 := blk_frozen BK518.out 0; have hfz398_1 := blk_frozen BK518.out 1; have hnb399 := NB522_525.out; have hnc399 := NB525_522.out; have hnb400 := NB522_534.out; have hnc400 := NB534_522.out; have hnb401 := NB522_538.out; have hnc401 := NB538_522.out; have hcz402_0 : w252.cell? ⟨gb522, 0, none⟩ = some (.int .i64 t519) := (blk_cell BK522.out 0).trans rfl; have hcz402_1 : w252.cell? ⟨gb522, 1, none⟩ = some (.int .i64 t520) := (blk_cell BK522.out 1).trans rfl; have hfz402_0 := blk_frozen BK522.out 0; have hfz402_1 := blk_frozen BK522.out 1; have hnb403 := NB534_525.out; have hnc403 := NB525_534.out; have hnb404 := NB534_538.out; have hnc404 := NB538_534.out; have hcz405_0 : w252.cell? ⟨gb534, 0, none⟩ = some (.int .i64 t531) := (blk_cell BK534.out 0).trans rfl; have hcz405_1 : w252.cell? ⟨gb534, 1, none⟩ = some (.int .i64 t532) := (blk_cell BK534.out 1).trans rfl; have hfz405_0 := blk_frozen BK534.out 0; have hfz405_1 := blk_frozen BK534.out 1; have hnb406 := NB538_525.out; have hnc406 := NB525_538.out; have hcz407_0 : w252.cell? ⟨gb538, 0, none⟩ = some (.int .i64 0) := (blk_cell BK538.out 0).trans rfl; have hcz407_1 : w252.cell? ⟨gb538, 1, none⟩ = some (.int .i64 0) := (blk_cell BK538.out 1).trans rfl; have hfz407_0 := blk_frozen BK538.out 0; have hfz407_1 := blk_frozen BK538.out 1))
          go_meet
          case rel => exact ⟨_, ((t517 != false)), qaz_, H', ⟨w104_⟩, ⟨w11_⟩, ⟨w12_⟩, ⟨w10_⟩, ⟨w27_⟩, ⟨w28_⟩, ⟨w29_⟩, ⟨w30_⟩, ⟨w20_⟩, ⟨w79_⟩⟩
         case rest => as_aux_lemma =>
          clear HC222
          clear hcz231_0 hcz231_1 hcz235_0 hcz235_1 hcz240_0 hcz240_1 hcz242_0 hcz242_1 hcz250_0 hcz250_1 hcz257_0 hcz257_1 hfz231_0 hfz231_1 hfz235_0 hfz235_1 hfz240_0 hfz240_1 hfz242_0 hfz242_1 hfz250_0 hfz250_1 hfz257_0 hfz257_1
          obtain ⟨kq, x483_221, rfl, HA, HJ221, HO_40, HO_42, HO_46, BK518, BK522, BK525, BK534, BK538, HB⟩ := hcut
          cases kq with
          | zero => exact absurd HA.out (by simp [j9])
          | succ kj221 =>
           have H := HA.out
           clear HA
           simp only [j9] at H
           by_cases c427 : x483_221 = true
           ·subst c427
            rw [if_pos rfl] at H
            exact absurd ((Option.some.inj H).trans hrT) (by decide)
           replace c427 := Bool.eq_false_iff.mpr c427
           subst c427
           rw [if_neg nfz_] at H
           have HC428 := Az_ H
           clear H
           go_upto_if 484 with (fail)
           go_cut [] from 1 to 0 (fun wc => ∃ (kq : Nat), Aside0 (j13 kq t495 t496 t499 t500 t507 t526 t527 t530 t533 t523 t524 t531 t532 = some r) ∧ Aside0 (kq ≤ kj221) ∧ Aside0 (Kd.R k100 100 wc w.heap.size (fun k_ => some k_ ≠ (v501 : Value).ownBlock ∧ some k_ ≠ (v509 : Value).ownBlock ∧ k_ ≠ gb518 ∧ k_ ≠ gb522 ∧ k_ ≠ gb525 ∧ k_ ≠ gb534 ∧ k_ ≠ gb538) (.slice Ao224 t495.length co224) t495) ∧ Aside0 (Kd.R k100 100 wc w.heap.size (fun k_ => some k_ ≠ ((.slice Ao224 t495.length co224) : Value).ownBlock ∧ some k_ ≠ (v509 : Value).ownBlock ∧ k_ ≠ gb518 ∧ k_ ≠ gb522 ∧ k_ ≠ gb525 ∧ k_ ≠ gb534 ∧ k_ ≠ gb538) v501 t499) ∧ Aside0 (Kd.R k100 100 wc w.heap.size (fun k_ => some k_ ≠ ((.slice Ao224 t495.length co224) : Value).ownBlock ∧ some k_ ≠ (v501 : Value).ownBlock ∧ k_ ≠ gb518 ∧ k_ ≠ gb522 ∧ k_ ≠ gb525 ∧ k_ ≠ gb534 ∧ k_ ≠ gb538) v509 t507) ∧ Aside0 (wc.heap[gb518]? = some (.cells #[.int .i64 t515, .int .i64 t516] 100 (0, 0))) ∧ Aside0 (wc.heap[gb522]? = some (.cells #[.int .i64 t519, .int .i64 t520] 100 (0, 0))) ∧ Aside0 (wc.heap[gb525]? = some (.cells #[.int .i64 t523, .int .i64 t524] 100 (0, 0))) ∧ Aside0 (wc.heap[gb534]? = some (.cells #[.int .i64 t531, .int .i64 t532] 100 (0, 0))) ∧ Aside0 (wc.heap[gb538]? = some (.cells #[.int .i64 t535, .int .i64 t536] 100 (0, 0))) ∧ Aside0 (Below w.heap.size w wc))
           case first => as_aux_lemma =>
            have H := HC428.out
            clear HC428
            by_cases c429 : t508 = true; rotate_left
            ·replace c429 := Bool.eq_false_iff.mpr c429
             subst c429
             rw [if_neg nfz_] at H
             have H' := Az_ H
             clear H
             go_wp2
             go_meet
             case rel => exact ⟨_, H', ⟨w91_⟩, ⟨w121_⟩, ⟨w122_⟩, ⟨w123_⟩, ⟨w109_⟩, ⟨w110_⟩, ⟨w111_⟩, ⟨w112_⟩, ⟨w113_⟩, ⟨w79_⟩⟩
            subst c429
            rw [if_pos rfl] at H
            have HC430 := Az_ H
            clear H
            go_upto_region 55 with (fail)
            go_cut [500] from 1 to 0 (fun v500 wc => ∃ (kq : Nat) (x500_429 : Bool), v500 = .bool x500_429 ∧ Aside0 (j10 kq t495 t496 t499 t500 t507 t517 t526 t527 t530 t533 x500_429 t515 t516 t523 t524 t531 t532 = some r) ∧ Aside0 (kq ≤ kj221) ∧ Aside0 (Kd.R k100 100 wc w.heap.size (fun k_ => some k_ ≠ (v501 : Value).ownBlock ∧ some k_ ≠ (v509 : Value).ownBlock ∧ k_ ≠ gb518 ∧ k_ ≠ gb522 ∧ k_ ≠ gb525 ∧ k_ ≠ gb534 ∧ k_ ≠ gb538) (.slice Ao224 t495.length co224) t495) ∧ Aside0 (Kd.R k100 100 wc w.heap.size (fun k_ => some k_ ≠ ((.slice Ao224 t495.length co224) : Value).ownBlock ∧ some k_ ≠ (v509 : Value).ownBlock ∧ k_ ≠ gb518 ∧ k_ ≠ gb522 ∧ k_ ≠ gb525 ∧ k_ ≠ gb534 ∧ k_ ≠ gb538) v501 t499) ∧ Aside0 (Kd.R k100 100 wc w.heap.size (fun k_ => some k_ ≠ ((.slice Ao224 t495.length co224) : Value).ownBlock ∧ some k_ ≠ (v501 : Value).ownBlock ∧ k_ ≠ gb518 ∧ k_ ≠ gb522 ∧ k_ ≠ gb525 ∧ k_ ≠ gb534 ∧ k_ ≠ gb538) v509 t507) ∧ Aside0 (wc.heap[gb518]? = some (.cells #[.int .i64 t515, .int .i64 t516] 100 (0, 0))) ∧ Aside0 (wc.heap[gb522]? = some (.cells #[.int .i64 t519, .int .i64 t520] 100 (0, 0))) ∧ Aside0 (wc.heap[gb525]? = some (.cells #[.int .i64 t523, .int .i64 t524] 100 (0, 0))) ∧ Aside0 (wc.heap[gb534]? = some (.cells #[.int .i64 t531, .int .i64 t532] 100 (0, 0))) ∧ Aside0 (wc.heap[gb538]? = some (.cells #[.int .i64 t535, .int .i64 t536] 100 (0, 0))) ∧ Aside0 (Below w.heap.size w wc))
            case first => as_aux_lemma =>
             have H := HC430.out
             clear HC430
             replace H := bqz_ H; obtain ⟨t541, A431, H⟩ := H
             replace H : (if t541 = true then (if (t495.length : Int) > 0 then (j10 kj221 t495 t496 t499 t500 t507 t517 t526 t527 t530 t533 ((t507.length : Int) != (wrap64 ((t495.length : Int) - 1))) t515 t516 t523 t524 t531 t532) else (j10 kj221 t495 t496 t499 t500 t507 t517 t526 t527 t530 t533 false t515 t516 t523 t524 t531 t532)) else (j10 kj221 t495 t496 t499 t500 t507 t517 t526 t527 t530 t533 true t515 t516 t523 t524 t531 t532)) = some r := H
             by_cases c432 : t541 = true; rotate_left
             ·replace c432 := Bool.eq_false_iff.mpr c432
              subst c432
              have H1 : (j10 kj221 t495 t496 t499 t500 t507 t517 t526 t527 t530 t533 true t515 t516 t523 t524 t531 t532) = some r := by rw [if_neg (show ¬ (false = true) by decide)] at H; exact H
              clear H
              have H := H1
              exact (laws_FnIndexesMoved.j10_no _ _ _ _ _ _ _ _ _ _ _ _ _ _ _ _ _ _ hrT H).elim
             subst c432
             rw [if_pos rfl] at H
             by_cases c433 : (t495.length : Int) > 0; rotate_left
             ·rw [if_neg c433] at H
              have c433b0 := decide_eq_false c433
              have c433b1 : decide (0 < t495.length) = false := decide_eq_false (by omega)
              clear c433
              (first | rw [c433b0] | (simp only [i64_w, i32_w]; rw [c433b0]) | skip)
              have H' := Az_ H
              clear H
              obtain ⟨Ao436, co436, eo436⟩ := Kd.R_slice HO_46.out
              subst eo436
              go_wp2_with (first | (go_at_call 91; (with_reducible refine (impl_AreRanges.calls kj221 _ _ t507 true _ ?side1 ?side2 A431.out).mono ?_); (case side1 => exact ucz_ ((Kd.R_reads' HO_46.out).2.2)); (case side2 => exact (Kd.R_reads' HO_46.out).2.1); rintro e w437 ⟨rfl, hb⟩; have n0_ := Az_ (Kd.R_below (by exact urz_ HO_40.out) hb); have n1_ := Az_ (Kd.R_below (w155_) hb); have n2_ := Az_ (Kd.R_below (w156_) hb); have n8_ := Az_ (btz_ (w79_) hb); clear HO_40; clear HO_42; clear HO_46; clear HB; have HO_40 := n0_; have HO_42 := n1_; have HO_46 := n2_; replace BK518 := Az_ (ukbz_ BK518.out hb); replace BK522 := Az_ (ukbz_ BK522.out hb); replace BK525 := Az_ (ukbz_ BK525.out hb); replace BK534 := Az_ (ukbz_ BK534.out hb); replace BK538 := Az_ (ukbz_ BK538.out hb); have HB := n8_; clear n0_ n1_ n2_ n8_; (try clear hb)))
              go_meet
              case rel => exact ⟨_, (false), qaz_, H', ⟨w91_⟩, ⟨w121_⟩, ⟨w122_⟩, ⟨w123_⟩, ⟨w109_⟩, ⟨w110_⟩, ⟨w111_⟩, ⟨w112_⟩, ⟨w113_⟩, ⟨w79_⟩⟩
             rw [if_pos c433] at H
             have c433b0 := decide_eq_true c433
             have c433b1 : decide (0 < t495.length) = true := decide_eq_true (by omega)
             clear c433
             (first | rw [c433b0] | (simp only [i64_w, i32_w]; rw [c433b0]) | skip)
             have H' := Az_ H
             clear H
             obtain ⟨Ao434, co434, eo434⟩ := Kd.R_slice HO_46.out
             subst eo434
             go_wp2_with (first | (go_at_call 91; (with_reducible refine (impl_AreRanges.calls kj221 _ _ t507 true _ ?side1 ?side2 A431.out).mono ?_); (case side1 => exact ucz_ ((Kd.R_reads' HO_46.out).2.2)); (case side2 => exact (Kd.R_reads' HO_46.out).2.1); rintro e w435 ⟨rfl, hb⟩; have n0_ := Az_ (Kd.R_below (by exact urz_ HO_40.out) hb); have n1_ := Az_ (Kd.R_below (w155_) hb); have n2_ := Az_ (Kd.R_below (w156_) hb); have n8_ := Az_ (btz_ (w79_) hb); clear HO_40; clear HO_42; clear HO_46; clear HB; have HO_40 := n0_; have HO_42 := n1_; have HO_46 := n2_; replace BK518 := Az_ (ukbz_ BK518.out hb); replace BK522 := Az_ (ukbz_ BK522.out hb); replace BK525 := Az_ (ukbz_ BK525.out hb); replace BK534 := Az_ (ukbz_ BK534.out hb); replace BK538 := Az_ (ukbz_ BK538.out hb); have HB := n8_; clear n0_ n1_ n2_ n8_; (try clear hb)))
             go_meet
             case rel => exact ⟨_, (((t507.length : Int) != (wrap64 ((t495.length : Int) - 1)))), qaz_, H', ⟨w91_⟩, ⟨w121_⟩, ⟨w122_⟩, ⟨w123_⟩, ⟨w109_⟩, ⟨w110_⟩, ⟨w111_⟩, ⟨w112_⟩, ⟨w113_⟩, ⟨w79_⟩⟩
            case rest => as_aux_lemma =>
             clear HC430
             obtain ⟨kq, x500_429, rfl, HA, HJ429, HO_40, HO_42, HO_46, BK518, BK522, BK525, BK534, BK538, HB⟩ := hcut
             cases kq with
             | zero => exact absurd HA.out (by simp [j10])
             | succ kj429 =>
              have H := HA.out
              clear HA
              simp only [j10] at H
              by_cases c440 : x500_429 = true
              ·subst c440
               rw [if_pos rfl] at H
               exact absurd ((Option.some.inj H).trans hrT) (by decide)
              replace c440 := Bool.eq_false_iff.mpr c440
              subst c440
              rw [if_neg nfz_] at H
              replace H := bqz_ H; obtain ⟨⟨t542, t543⟩, A441, H⟩ := H
              replace H : (if t543 = true then (if (t495.length : Int) > 0 then (if (t542.length : Int) = 1 then (if 0 < (t542.length : Int) then (if 0 < (t495.length : Int) then (if ((rd_T100 t542 0).f0) = ((rd_T100 t495 0).f0) then (if 0 ≤ (wrap64 ((t495.length : Int) - 1)) then (if (wrap64 ((t495.length : Int) - 1)) < (t495.length : Int) then (j11 kj429 t495 t496 t499 t500 t507 t517 t526 t527 t530 t533 (((rd_T100 t542 0).f1) != ((rd_T100 t495 (wrap64 ((t495.length : Int) - 1))).f1)) t515 t516 t523 t524 t531 t532) else (none)) else (none)) else (j11 kj429 t495 t496 t499 t500 t507 t517 t526 t527 t530 t533 true t515 t516 t523 t524 t531 t532)) else (none)) else (none)) else (j11 kj429 t495 t496 t499 t500 t507 t517 t526 t527 t530 t533 true t515 t516 t523 t524 t531 t532)) else (j11 kj429 t495 t496 t499 t500 t507 t517 t526 t527 t530 t533 false t515 t516 t523 t524 t531 t532)) else (j11 kj429 t495 t496 t499 t500 t507 t517 t526 t527 t530 t533 true t515 t516 t523 t524 t531 t532)) = some r := H
              have HC442 := Az_ H
              clear H
              obtain ⟨Ao443, co443, eo443⟩ := Kd.R_slice HO_46.out
              subst eo443
              go_upto_region 58 with (first | (go_at_call 92; (with_reducible refine (impl_UnionRanges.calls kj429 _ _ t495 _ _ t507 t542 t543 _ ?side1 ?side2 ?side3 ?side4 A441.out).mono ?_); (case side1 => exact ucz_ ((Kd.R_reads' HO_40.out).2.2)); (case side2 => exact (Kd.R_reads' HO_40.out).2.1); (case side3 => exact ucz_ ((Kd.R_reads' HO_46.out).2.2)); (case side4 => exact (Kd.R_reads' HO_46.out).2.1); rintro e w444 ⟨v544, rfl, ho0, hb⟩; have n0_ := Az_ (rez_ (by exact urz_ HO_40.out) (Kd.R_base ho0) hb); have n1_ := Az_ (rez_ (w155_) (Kd.R_base ho0) hb); have n2_ := Az_ (rez_ (w156_) (Kd.R_base ho0) hb); have n3_ := Az_ (Kd.R_lower (Kd.R_newB (Kd.R_newB (Kd.R_newB (Kd.R_newB (Kd.R_newB (Kd.R_new' (Kd.R_new' (Kd.R_new' ho0 (Kd.R_lt (by exact urz_ HO_40.out))) (Kd.R_lt (w155_))) (Kd.R_lt (w156_))) (g := gb518) (o := .cells #[.int .i64 t515, .int .i64 t516] 100 (0, 0)) (by exact ukz_ BK518.out)) (g := gb522) (o := .cells #[.int .i64 t519, .int .i64 t520] 100 (0, 0)) (by exact ukz_ BK522.out)) (g := gb525) (o := .cells #[.int .i64 t523, .int .i64 t524] 100 (0, 0)) (by exact ukz_ BK525.out)) (g := gb534) (o := .cells #[.int .i64 t531, .int .i64 t532] 100 (0, 0)) (by exact ukz_ BK534.out)) (g := gb538) (o := .cells #[.int .i64 t535, .int .i64 t536] 100 (0, 0)) (by exact ukz_ BK538.out)) (below_size (w79_))); have n9_ := Az_ (btz_ (w79_) hb); clear HO_40; clear HO_42; clear HO_46; clear HB; have HO_40 := n0_; have HO_42 := n1_; have HO_46 := n2_; have HO545 := n3_; replace BK518 := Az_ (ukbz_ BK518.out hb); replace BK522 := Az_ (ukbz_ BK522.out hb); replace BK525 := Az_ (ukbz_ BK525.out hb); replace BK534 := Az_ (ukbz_ BK534.out hb); replace BK538 := Az_ (ukbz_ BK538.out hb); have HB := n9_; clear n0_ n1_ n2_ n3_ n9_; (try clear hb); (try clear ho0)))
              (try simp only [Act.put, List.setIfInBounds_toArray, List.set_cons_zero, List.set_cons_succ])
              go_cut [543] from 1 to 0 (fun v543 wc => ∃ (kq : Nat) (x543_441 : Bool), v543 = .bool x543_441 ∧ Aside0 (j11 kq t495 t496 t499 t500 t507 t517 t526 t527 t530 t533 x543_441 t515 t516 t523 t524 t531 t532 = some r) ∧ Aside0 (kq ≤ kj429) ∧ Aside0 (Kd.R k100 100 wc w.heap.size (fun k_ => some k_ ≠ (v501 : Value).ownBlock ∧ some k_ ≠ ((.slice Ao443 t507.length co443) : Value).ownBlock ∧ k_ ≠ gb518 ∧ k_ ≠ gb522 ∧ k_ ≠ gb525 ∧ k_ ≠ gb534 ∧ k_ ≠ gb538) (.slice Ao224 t495.length co224) t495) ∧ Aside0 (Kd.R k100 100 wc w.heap.size (fun k_ => some k_ ≠ ((.slice Ao224 t495.length co224) : Value).ownBlock ∧ some k_ ≠ ((.slice Ao443 t507.length co443) : Value).ownBlock ∧ k_ ≠ gb518 ∧ k_ ≠ gb522 ∧ k_ ≠ gb525 ∧ k_ ≠ gb534 ∧ k_ ≠ gb538) v501 t499) ∧ Aside0 (Kd.R k100 100 wc w.heap.size (fun k_ => some k_ ≠ ((.slice Ao224 t495.length co224) : Value).ownBlock ∧ some k_ ≠ (v501 : Value).ownBlock ∧ k_ ≠ gb518 ∧ k_ ≠ gb522 ∧ k_ ≠ gb525 ∧ k_ ≠ gb534 ∧ k_ ≠ gb538) (.slice Ao443 t507.length co443) t507) ∧ Aside0 (wc.heap[gb518]? = some (.cells #[.int .i64 t515, .int .i64 t516] 100 (0, 0))) ∧ Aside0 (wc.heap[gb522]? = some (.cells #[.int .i64 t519, .int .i64 t520] 100 (0, 0))) ∧ Aside0 (wc.heap[gb525]? = some (.cells #[.int .i64 t523, .int .i64 t524] 100 (0, 0))) ∧ Aside0 (wc.heap[gb534]? = some (.cells #[.int .i64 t531, .int .i64 t532] 100 (0, 0))) ∧ Aside0 (wc.heap[gb538]? = some (.cells #[.int .i64 t535, .int .i64 t536] 100 (0, 0))) ∧ Aside0 (Below w.heap.size w wc))
              case first => as_aux_lemma =>
               have H := HC442.out
               clear HC442
               by_cases c445 : t543 = true; rotate_left
               ·replace c445 := Bool.eq_false_iff.mpr c445
                subst c445
                have H1 : (j11 kj429 t495 t496 t499 t500 t507 t517 t526 t527 t530 t533 true t515 t516 t523 t524 t531 t532) = some r := by rw [if_neg (show ¬ (false = true) by decide)] at H; exact H
                clear H
                have H := H1
                exact (laws_FnIndexesMoved.j11_no _ _ _ _ _ _ _ _ _ _ _ _ _ _ _ _ _ _ hrT H).elim
               subst c445
               rw [if_pos rfl] at H
               by_cases c446 : (t495.length : Int) > 0; rotate_left
               ·rw [if_neg c446] at H
                have c446b0 := decide_eq_false c446
                have c446b1 : decide (0 < t495.length) = false := decide_eq_false (by omega)
                clear c446
                (first | rw [c446b0] | (simp only [i64_w, i32_w]; rw [c446b0]) | skip)
                have H' := Az_ H
                clear H
                go_wp2
                repeat (go_quiet (fail); try go_wp2)
                go_meet
                case rel => exact ⟨_, (false), qaz_, H', ⟨w69_⟩, ⟨w47_⟩, ⟨w48_⟩, ⟨w49_⟩, ⟨w109_⟩, ⟨w110_⟩, ⟨w111_⟩, ⟨w112_⟩, ⟨w113_⟩, ⟨w79_⟩⟩
               rw [if_pos c446] at H
               have c446b0 := decide_eq_true c446
               have c446b1 : decide (0 < t495.length) = true := decide_eq_true (by omega)
               clear c446
               (first | rw [c446b0] | (simp only [i64_w, i32_w]; rw [c446b0]) | skip)
               by_cases c447 : (t542.length : Int) = 1; rotate_left
               ·rw [if_neg c447] at H
                exact (laws_FnIndexesMoved.j11_no _ _ _ _ _ _ _ _ _ _ _ _ _ _ _ _ _ _ hrT H).elim
               rw [if_pos c447] at H
               have c447b0 : ((t542.length : Int) == 1) = true := beq_iff_eq.mpr c447
               have c447b1 : ((t542.length : Int) != 1) = false := bne_eq_false_iff_eq.mpr c447
               clear c447
               by_cases c448 : 0 < (t542.length : Int); rotate_left
               ·rw [if_neg c448] at H
                exact absurd H (by simp)
               rw [if_pos c448] at H
               have c448b0 := decide_eq_true c448
               have c448b1 : decide (0 < t542.length) = true := decide_eq_true (by omega)
               clear c448
               by_cases c449 : 0 < (t495.length : Int); rotate_left
               ·rw [if_neg c449] at H
                exact absurd H (by simp)
               rw [if_pos c449] at H
               have c449b0 := decide_eq_true c449
               have c449b1 : decide (0 < t495.length) = true := decide_eq_true (by omega)
               clear c449
               by_cases c450 : ((rd_T100 t542 0).f0) = ((rd_T100 t495 0).f0); rotate_left
               ·rw [if_neg c450] at H
                exact (laws_FnIndexesMoved.j11_no _ _ _ _ _ _ _ _ _ _ _ _ _ _ _ _ _ _ hrT H).elim
               rw [if_pos c450] at H
               have c450b0 : (((rd_T100 t542 0).f0) == ((rd_T100 t495 0).f0)) = true := beq_iff_eq.mpr c450
               have c450b1 : (((rd_T100 t542 0).f0) != ((rd_T100 t495 0).f0)) = false := bne_eq_false_iff_eq.mpr c450
               clear c450
               obtain ⟨ji451, hji451⟩ : ∃ j_ : Int, (wrap64 ((t495.length : Int) - 1)) = j_ := ⟨_, rfl⟩
               replace H : (if 0 ≤ (ji451) then (if (ji451) < (t495.length : Int) then (j11 kj429 t495 t496 t499 t500 t507 t517 t526 t527 t530 t533 (((rd_T100 t542 0).f1) != ((rd_T100 t495 (ji451)).f1)) t515 t516 t523 t524 t531 t532) else (none)) else (none)) = some r := by first | (rw [hji451] at H; exact H) | (simp only [hji451] at H ⊢; exact H)
               have hji451w : (IntKind.i64.wrap ((t495.length : Int) - 1)) = ji451 := (i64_w _).trans hji451
               by_cases c452 : 0 ≤ (ji451); rotate_left
               ·rw [if_neg c452] at H
                exact absurd H (by simp)
               rw [if_pos c452] at H
               have c452b0 := decide_eq_true c452
               clear c452
               by_cases c453 : (ji451) < (t495.length : Int); rotate_left
               ·rw [if_neg c453] at H
                exact absurd H (by simp)
               rw [if_pos c453] at H
               have c453b0 := decide_eq_true c453
               clear c453
               have H' := Az_ H
               clear H
               obtain ⟨Ao454, co454, eo454⟩ := Kd.R_slice HO545.out
               subst eo454
               have p546 : 0 ≤ (0 : Int) := (by omega)
               have q546 : 0 < (t542.length : Int) := od_
               obtain ⟨ad546, e546, hx546_0, hx546_1⟩ := at_T100 (Kd.R_reads' HO545.out).2.2 0 p546 q546
               cases e546
               have qi546 : (0 < t542.length) = True := eq_true (by omega)
               (try rw [show ((0 : Int)).toNat = 0 from rfl] at hx546_0)
               (try rw [show 0 * 2 = 0 from rfl] at hx546_0)
               (try rw [Addr.add_zero'] at hx546_0)
               (try rw [show ((0 : Int)).toNat = 0 from rfl] at hx546_1)
               (try rw [show 0 * 2 = 0 from rfl] at hx546_1)
               (try rw [Addr.add_zero'] at hx546_1)
               replace p546 := eq_true p546
               replace q546 := eq_true q546
               have p547 : 0 ≤ (0 : Int) := (by omega)
               have q547 : 0 < (t495.length : Int) := od_
               obtain ⟨ad547, e547, hx547_0, hx547_1⟩ := at_T100 (Kd.R_reads' HO_40.out).2.2 0 p547 q547
               cases e547
               have qi547 : (0 < t495.length) = True := eq_true (by omega)
               (try rw [show ((0 : Int)).toNat = 0 from rfl] at hx547_0)
               (try rw [show 0 * 2 = 0 from rfl] at hx547_0)
               (try rw [Addr.add_zero'] at hx547_0)
               (try rw [show ((0 : Int)).toNat = 0 from rfl] at hx547_1)
               (try rw [show 0 * 2 = 0 from rfl] at hx547_1)
               (try rw [Addr.add_zero'] at hx547_1)
               replace p547 := eq_true p547
               replace q547 := eq_true q547
               have p548 : 0 ≤ (0 : Int) := (by omega)
               have q548 : 0 < (t542.length : Int) := od_
               obtain ⟨ad548, e548, hx548_0, hx548_1⟩ := at_T100 (Kd.R_reads' HO545.out).2.2 0 p548 q548
               obtain rfl : ad546 = ad548 := (by injection e548)
               have qi548 : (0 < t542.length) = True := eq_true (by omega)
               (try rw [show ((0 : Int)).toNat = 0 from rfl] at hx548_0)
               (try rw [show 0 * 2 = 0 from rfl] at hx548_0)
               (try rw [Addr.add_zero'] at hx548_0)
               (try rw [show ((0 : Int)).toNat = 0 from rfl] at hx548_1)
               (try rw [show 0 * 2 = 0 from rfl] at hx548_1)
               (try rw [Addr.add_zero'] at hx548_1)
               replace p548 := eq_true p548
               replace q548 := eq_true q548
               have p549 : 0 ≤ ((ji451) : Int) := od_
               have q549 : (ji451) < (t495.length : Int) := od_
               obtain ⟨ad549, e549, hx549_0, hx549_1⟩ := at_T100 (Kd.R_reads' HO_40.out).2.2 (ji451) p549 q549
               obtain rfl : ad547 = ad549 := (by injection e549)
               replace p549 := eq_true p549
               replace q549 := eq_true q549
               go_wp2
               repeat (go_quiet (fail); try go_wp2)
               go_meet
               case rel => exact ⟨_, ((((rd_T100 t542 0).f1) != ((rd_T100 t495 (ji451)).f1))), (by first | rfl | (simp; done) | (simp only [← hji451] <;> (first | rfl | simp)) | (simp [*]; done)), H', ⟨w69_⟩, ⟨w47_⟩, ⟨w48_⟩, ⟨w49_⟩, ⟨w109_⟩, ⟨w110_⟩, ⟨w111_⟩, ⟨w112_⟩, ⟨w113_⟩, ⟨w79_⟩⟩
              case rest => as_aux_lemma =>
               clear HC442
               obtain ⟨kq, x543_441, rfl, HA, HJ441, HO_40, HO_42, HO_46, BK518, BK522, BK525, BK534, BK538, HB⟩ := hcut
               cases kq with
               | zero => exact absurd HA.out (by simp [j11])
               | succ kj441 =>
                have H := HA.out
                clear HA
                simp only [j11] at H
                by_cases c457 : x543_441 = true
                ·subst c457
                 rw [if_pos rfl] at H
                 exact absurd ((Option.some.inj H).trans hrT) (by decide)
                replace c457 := Bool.eq_false_iff.mpr c457
                subst c457
                rw [if_neg nfz_] at H
                have H' := Az_ H
                clear H
                go_wp2
                go_loopg [546] kj441 (fun kq v546 w' => ∃ (x546_8 : Int), v546 = .int .i64 x546_8 ∧ Aside0 (laws_FnIndexesMoved.l1 kq t495 t496 t499 t500 t507 t517 t526 t527 t530 t533 t495 (t495.length : Int) x546_8 t515 t516 t523 t524 t531 t532 = some r) ∧ Aside0 (kq ≤ kj441) ∧ Aside0 (Kd.R k100 100 w' w.heap.size (fun k_ => some k_ ≠ (v501 : Value).ownBlock ∧ some k_ ≠ ((.slice Ao443 t507.length co443) : Value).ownBlock ∧ k_ ≠ gb518 ∧ k_ ≠ gb522 ∧ k_ ≠ gb525 ∧ k_ ≠ gb534 ∧ k_ ≠ gb538) (.slice Ao224 t495.length co224) t495) ∧ Aside0 (Kd.R k100 100 w' w.heap.size (fun k_ => some k_ ≠ ((.slice Ao224 t495.length co224) : Value).ownBlock ∧ some k_ ≠ ((.slice Ao443 t507.length co443) : Value).ownBlock ∧ some k_ ≠ ((.slice Ao224 t495.length co224) : Value).ownBlock ∧ k_ ≠ gb518 ∧ k_ ≠ gb522 ∧ k_ ≠ gb525 ∧ k_ ≠ gb534 ∧ k_ ≠ gb538) v501 t499) ∧ Aside0 (Kd.R k100 100 w' w.heap.size (fun k_ => some k_ ≠ ((.slice Ao224 t495.length co224) : Value).ownBlock ∧ some k_ ≠ (v501 : Value).ownBlock ∧ some k_ ≠ ((.slice Ao224 t495.length co224) : Value).ownBlock ∧ k_ ≠ gb518 ∧ k_ ≠ gb522 ∧ k_ ≠ gb525 ∧ k_ ≠ gb534 ∧ k_ ≠ gb538) (.slice Ao443 t507.length co443) t507) ∧ Aside0 (Kd.R k100 100 w' w.heap.size (fun k_ => some k_ ≠ (v501 : Value).ownBlock ∧ some k_ ≠ ((.slice Ao443 t507.length co443) : Value).ownBlock ∧ k_ ≠ gb518 ∧ k_ ≠ gb522 ∧ k_ ≠ gb525 ∧ k_ ≠ gb534 ∧ k_ ≠ gb538) (.slice Ao224 t495.length co224) t495) ∧ Aside0 (w'.heap[gb518]? = some (.cells #[.int .i64 t515, .int .i64 t516] 100 (0, 0))) ∧ Aside0 (w'.heap[gb522]? = some (.cells #[.int .i64 t519, .int .i64 t520] 100 (0, 0))) ∧ Aside0 (w'.heap[gb525]? = some (.cells #[.int .i64 t523, .int .i64 t524] 100 (0, 0))) ∧ Aside0 (w'.heap[gb534]? = some (.cells #[.int .i64 t531, .int .i64 t532] 100 (0, 0))) ∧ Aside0 (w'.heap[gb538]? = some (.cells #[.int .i64 t535, .int .i64 t536] 100 (0, 0))) ∧ Aside0 (Below w.heap.size w w'))
                case atStart => exact ⟨(0), qaz_, H', ⟨Nat.le_refl _⟩, ⟨w121_⟩, ⟨by (with_reducible repeat (first | apply raz_ | apply rnz_ | apply rdz_)); exact Kd.R_mono HO_42.out (fun _ hk => ⟨hk.1, ⟨hk.2.1, ⟨hk.1, ⟨hk.2.2.1, ⟨hk.2.2.2.1, ⟨hk.2.2.2.2.1, ⟨hk.2.2.2.2.2.1, hk.2.2.2.2.2.2⟩⟩⟩⟩⟩⟩⟩)⟩, ⟨by (with_reducible repeat (first | apply raz_ | apply rnz_ | apply rdz_)); exact Kd.R_mono HO_46.out (fun _ hk => ⟨hk.1, ⟨hk.2.1, ⟨hk.1, ⟨hk.2.2.1, ⟨hk.2.2.2.1, ⟨hk.2.2.2.2.1, ⟨hk.2.2.2.2.2.1, hk.2.2.2.2.2.2⟩⟩⟩⟩⟩⟩⟩)⟩, ⟨w121_⟩, ⟨w109_⟩, ⟨w110_⟩, ⟨w111_⟩, ⟨w112_⟩, ⟨w113_⟩, ⟨w79_⟩⟩
                case round =>
                 clear H'
                 obtain ⟨x546_8, rfl, HA, HK8, HO_40, HO_42, HO_46, HO_544, BK518, BK522, BK525, BK534, BK538, HB⟩ := hrel
                 cases gk with
                 | zero => exact absurd HA.out (by simp [laws_FnIndexesMoved.l1])
                 | succ k8 =>
                  have H := HA.out
                  clear HA
                  simp only [laws_FnIndexesMoved.l1] at H
                  by_cases c458 : x546_8 < (t495.length : Int); rotate_left
                  ·rw [if_neg c458] at H
                   have c458b0 := decide_eq_false c458
                   clear c458
                   have H' := Az_ H
                   clear H
                   go_wp2
                   go_meet
                   case rel => exact ⟨_, H', ⟨by have := HJ13.out; have := HJ108.out; have := HJ148.out; have := HJ180.out; have := HJ221.out; have := HJ429.out; have := HJ441.out; have := HK8.out; first | omega | exact Nat.le_refl _⟩, ⟨w121_⟩, ⟨by (with_reducible repeat (first | apply raz_ | apply rnz_ | apply rdz_)); exact Kd.R_mono HO_42.out (fun _ hk => ⟨hk.1, ⟨hk.2.1, ⟨hk.2.2.2.1, ⟨hk.2.2.2.2.1, ⟨hk.2.2.2.2.2.1, ⟨hk.2.2.2.2.2.2.1, hk.2.2.2.2.2.2.2⟩⟩⟩⟩⟩⟩)⟩, ⟨by (with_reducible repeat (first | apply raz_ | apply rnz_ | apply rdz_)); exact Kd.R_mono HO_46.out (fun _ hk => ⟨hk.1, ⟨hk.2.1, ⟨hk.2.2.2.1, ⟨hk.2.2.2.2.1, ⟨hk.2.2.2.2.2.1, ⟨hk.2.2.2.2.2.2.1, hk.2.2.2.2.2.2.2⟩⟩⟩⟩⟩⟩)⟩, ⟨w109_⟩, ⟨w110_⟩, ⟨w111_⟩, ⟨w112_⟩, ⟨w113_⟩, ⟨w79_⟩⟩
                  rw [if_pos c458] at H
                  have c458b0 := decide_eq_true c458
                  clear c458
                  by_cases c459 : 0 ≤ x546_8; rotate_left
                  ·rw [if_neg c459] at H
                   exact absurd H (by simp)
                  rw [if_pos c459] at H
                  have c459b0 := decide_eq_true c459
                  clear c459
                  by_cases c460 : x546_8 < (t495.length : Int); rotate_left
                  ·rw [if_neg c460] at H
                   exact absurd H (by simp)
                  rw [if_pos c460] at H
                  have c460b0 := decide_eq_true c460
                  clear c460
                  by_cases c461 : t517 = true; rotate_left
                  ·replace c461 := Bool.eq_false_iff.mpr c461
                   subst c461
                   rw [if_neg nfz_] at H
                   have H' := Az_ H
                   clear H
                   have p550 : 0 ≤ (x546_8 : Int) := od_
                   have q550 : x546_8 < (t495.length : Int) := od_
                   obtain ⟨ad550, e550, hx550_0, hx550_1⟩ := at_T100 (Kd.R_reads' HO_544.out).2.2 x546_8 p550 q550
                   cases e550
                   replace p550 := eq_true p550
                   replace q550 := eq_true q550
                   go_wp2_with (first | ((with_reducible refine gate_dst (N := 67) rfl ?_); (try (refine gate_guard (by rfl) ?_; dsimp only)); refine box_event ?hg (N := 67) ?hd (cs := #[.int .i64 0, .int .i64 0]) (t := 100) ?hr ?_; (case hd => rfl); (case hg => rfl); (case hr => first | (go_simp; done) | (go_simp; rfl)); intro gb551 hg w487 hbox hb; have n0_ := Az_ (Kd.R_below (Kd.R_elderB (by exact urz_ HO_40.out) gb551 (Nat.le_of_eq hg.symm)) hb); have n1_ := Az_ (Kd.R_below (Kd.R_elderB (w155_) gb551 (Nat.le_of_eq hg.symm)) hb); have n2_ := Az_ (Kd.R_below (Kd.R_elderB (w156_) gb551 (Nat.le_of_eq hg.symm)) hb); have n3_ := Az_ (Kd.R_below (Kd.R_elderB (by exact urz_ HO_544.out) gb551 (Nat.le_of_eq hg.symm)) hb); have n9_ := Az_ (btz_ (w79_) hb); have n10_ := Az_ (hbox); have n11_ := Az_ ((by rw [hg]; exact (below_size (w79_)) : w.heap.size ≤ gb551)); have n12_ := Az_ ((by rw [hg]; exact (below_size (w79_)) : w.heap.size ≤ gb551)); have n13_ := Az_ ((by rw [hg]; exact Nat.ne_of_lt (uklz_ BK518.out) : gb518 ≠ gb551)); have n14_ := Az_ ((by rw [hg]; exact Nat.ne_of_gt (uklz_ BK518.out) : gb551 ≠ gb518)); have n15_ := Az_ ((by rw [hg]; exact Nat.ne_of_lt (uklz_ BK522.out) : gb522 ≠ gb551)); have n16_ := Az_ ((by rw [hg]; exact Nat.ne_of_gt (uklz_ BK522.out) : gb551 ≠ gb522)); have n17_ := Az_ ((by rw [hg]; exact Nat.ne_of_lt (uklz_ BK525.out) : gb525 ≠ gb551)); have n18_ := Az_ ((by rw [hg]; exact Nat.ne_of_gt (uklz_ BK525.out) : gb551 ≠ gb525)); have n19_ := Az_ ((by rw [hg]; exact Nat.ne_of_lt (uklz_ BK534.out) : gb534 ≠ gb551)); have n20_ := Az_ ((by rw [hg]; exact Nat.ne_of_gt (uklz_ BK534.out) : gb551 ≠ gb534)); have n21_ := Az_ ((by rw [hg]; exact Nat.ne_of_lt (uklz_ BK538.out) : gb538 ≠ gb551)); have n22_ := Az_ ((by rw [hg]; exact Nat.ne_of_gt (uklz_ BK538.out) : gb551 ≠ gb538)); clear HO_40; clear HO_42; clear HO_46; clear HO_544; clear HB; have HO_40 := n0_; have HO_42 := n1_; have HO_46 := n2_; have HO_544 := n3_; replace BK518 := Az_ (ukbz_ BK518.out hb); replace BK522 := Az_ (ukbz_ BK522.out hb); replace BK525 := Az_ (ukbz_ BK525.out hb); replace BK534 := Az_ (ukbz_ BK534.out hb); replace BK538 := Az_ (ukbz_ BK538.out hb); have HB := n9_; have BK551 := n10_; have GW551 := n11_; have GE551 := n12_; have NB518_551 := n13_; have NB551_518 := n14_; have NB522_551 := n15_; have NB551_522 := n16_; have NB525_551 := n17_; have NB551_525 := n18_; have NB534_551 := n19_; have NB551_534 := n20_; have NB538_551 := n21_; have NB551_538 := n22_; clear n0_ n1_ n2_ n3_ n9_ n10_ n11_ n12_ n13_ n14_ n15_ n16_ n17_ n18_ n19_ n20_ n21_ n22_; clear hb hbox hg; have hnb488 := NB551_518.out; have hnc488 := NB518_551.out; have hnb489 := NB551_522.out; have hnc489 := NB522_551.out; have hnb490 := NB551_525.out; have hnc490 := NB525_551.out; have hnb491 := NB551_534.out; have hnc491 := NB534_551.out; have hnb492 := NB551_538.out; have hnc492 := NB538_551.out; have hcz493_0 : w487.cell? ⟨gb551, 0, none⟩ = some (.int .i64 0) := (blk_cell BK551.out 0).trans rfl; have hcz493_1 : w487.cell? ⟨gb551, 1, none⟩ = some (.int .i64 0) := (blk_cell BK551.out 1).trans rfl; have hfz493_0 := blk_frozen BK551.out 0; have hfz493_1 := blk_frozen BK551.out 1))
                   go_roundg k8
                   case measure => have := HJ13.out; have := HJ108.out; have := HJ148.out; have := HJ180.out; have := HJ221.out; have := HJ429.out; have := HJ441.out; have := HK8.out; omega
                   case rel => exact ⟨(wrap64 (x546_8 + 1)), qaz_, H', ⟨w67_⟩, ⟨w6_⟩, ⟨w3_⟩, ⟨w4_⟩, ⟨w5_⟩, ⟨w31_⟩, ⟨w32_⟩, ⟨w33_⟩, ⟨w34_⟩, ⟨w35_⟩, ⟨w79_⟩⟩
                  subst c461
                  rw [if_pos rfl] at H
                  by_cases c462 : (wrap64 (((rd_T100 t495 x546_8).f1) - ((rd_T100 t495 x546_8).f0))) > (wrap64 (t516 - t515))
                  ·rw [if_pos c462] at H
                   have c462b0 := decide_eq_true c462
                   clear c462
                   exact absurd ((Option.some.inj H).trans hrT) (by decide)
                  rw [if_neg c462] at H
                  have c462b0 := decide_eq_false c462
                  clear c462
                  have H' := Az_ H
                  clear H
                  have p550 : 0 ≤ (x546_8 : Int) := od_
                  have q550 : x546_8 < (t495.length : Int) := od_
                  obtain ⟨ad550, e550, hx550_0, hx550_1⟩ := at_T100 (Kd.R_reads' HO_544.out).2.2 x546_8 p550 q550
                  cases e550
                  replace p550 := eq_true p550
                  replace q550 := eq_true q550
                  go_wp2_with (first | ((with_reducible refine gate_dst (N := 67) rfl ?_); (try (refine gate_guard (by rfl) ?_; dsimp only)); refine box_event ?hg (N := 67) ?hd (cs := #[.int .i64 0, .int .i64 0]) (t := 100) ?hr ?_; (case hd => rfl); (case hg => rfl); (case hr => first | (go_simp; done) | (go_simp; rfl)); intro gb551 hg w475 hbox hb; have n0_ := Az_ (Kd.R_below (Kd.R_elderB (by exact urz_ HO_40.out) gb551 (Nat.le_of_eq hg.symm)) hb); have n1_ := Az_ (Kd.R_below (Kd.R_elderB (w155_) gb551 (Nat.le_of_eq hg.symm)) hb); have n2_ := Az_ (Kd.R_below (Kd.R_elderB (w156_) gb551 (Nat.le_of_eq hg.symm)) hb); have n3_ := Az_ (Kd.R_below (Kd.R_elderB (by exact urz_ HO_544.out) gb551 (Nat.le_of_eq hg.symm)) hb); have n9_ := Az_ (btz_ (w79_) hb); have n10_ := Az_ (hbox); have n11_ := Az_ ((by rw [hg]; exact (below_size (w79_)) : w.heap.size ≤ gb551)); have n12_ := Az_ ((by rw [hg]; exact (below_size (w79_)) : w.heap.size ≤ gb551)); have n13_ := Az_ ((by rw [hg]; exact Nat.ne_of_lt (uklz_ BK518.out) : gb518 ≠ gb551)); have n14_ := Az_ ((by rw [hg]; exact Nat.ne_of_gt (uklz_ BK518.out) : gb551 ≠ gb518)); have n15_ := Az_ ((by rw [hg]; exact Nat.ne_of_lt (uklz_ BK522.out) : gb522 ≠ gb551)); have n16_ := Az_ ((by rw [hg]; exact Nat.ne_of_gt (uklz_ BK522.out) : gb551 ≠ gb522)); have n17_ := Az_ ((by rw [hg]; exact Nat.ne_of_lt (uklz_ BK525.out) : gb525 ≠ gb551)); have n18_ := Az_ ((by rw [hg]; exact Nat.ne_of_gt (uklz_ BK525.out) : gb551 ≠ gb525)); have n19_ := Az_ ((by rw [hg]; exact Nat.ne_of_lt (uklz_ BK534.out) : gb534 ≠ gb551)); have n20_ := Az_ ((by rw [hg]; exact Nat.ne_of_gt (uklz_ BK534.out) : gb551 ≠ gb534)); have n21_ := Az_ ((by rw [hg]; exact Nat.ne_of_lt (uklz_ BK538.out) : gb538 ≠ gb551)); have n22_ := Az_ ((by rw [hg]; exact Nat.ne_of_gt (uklz_ BK538.out) : gb551 ≠ gb538)); clear HO_40; clear HO_42; clear HO_46; clear HO_544; clear HB; have HO_40 := n0_; have HO_42 := n1_; have HO_46 := n2_; have HO_544 := n3_; replace BK518 := Az_ (ukbz_ BK518.out hb); replace BK522 := Az_ (ukbz_ BK522.out hb); replace BK525 := Az_ (ukbz_ BK525.out hb); replace BK534 := Az_ (ukbz_ BK534.out hb); replace BK538 := Az_ (ukbz_ BK538.out hb); have HB := n9_; have BK551 := n10_; have GW551 := n11_; have GE551 := n12_; have NB518_551 := n13_; have NB551_518 := n14_; have NB522_551 := n15_; have NB551_522 := n16_; have NB525_551 := n17_; have NB551_525 := n18_; have NB534_551 := n19_; have NB551_534 := n20_; have NB538_551 := n21_; have NB551_538 := n22_; clear n0_ n1_ n2_ n3_ n9_ n10_ n11_ n12_ n13_ n14_ n15_ n16_ n17_ n18_ n19_ n20_ n21_ n22_; clear hb hbox hg; have hnb476 := NB551_518.out; have hnc476 := NB518_551.out; have hnb477 := NB551_522.out; have hnc477 := NB522_551.out; have hnb478 := NB551_525.out; have hnc478 := NB525_551.out; have hnb479 := NB551_534.out; have hnc479 := NB534_551.out; have hnb480 := NB551_538.out; have hnc480 := NB538_551.out; have hcz481_0 : w475.cell? ⟨gb551, 0, none⟩ = some (.int .i64 0) := (blk_cell BK551.out 0).trans rfl; have hcz481_1 : w475.cell? ⟨gb551, 1, none⟩ = some (.int .i64 0) := (blk_cell BK551.out 1).trans rfl; have hfz481_0 := blk_frozen BK551.out 0; have hfz481_1 := blk_frozen BK551.out 1; have hnb482 := NB518_522.out; have hnc482 := NB522_518.out; have hnb483 := NB518_525.out; have hnc483 := NB525_518.out; have hnb484 := NB518_534.out; have hnc484 := NB534_518.out; have hnb485 := NB518_538.out; have hnc485 := NB538_518.out; have hcz486_0 : w475.cell? ⟨gb518, 0, none⟩ = some (.int .i64 t515) := (blk_cell BK518.out 0).trans rfl; have hcz486_1 : w475.cell? ⟨gb518, 1, none⟩ = some (.int .i64 t516) := (blk_cell BK518.out 1).trans rfl; have hfz486_0 := blk_frozen BK518.out 0; have hfz486_1 := blk_frozen BK518.out 1))
                  go_roundg k8
                  case measure => have := HJ13.out; have := HJ108.out; have := HJ148.out; have := HJ180.out; have := HJ221.out; have := HJ429.out; have := HJ441.out; have := HK8.out; omega
                  case rel => exact ⟨(wrap64 (x546_8 + 1)), qaz_, H', ⟨w67_⟩, ⟨w6_⟩, ⟨w3_⟩, ⟨w4_⟩, ⟨w5_⟩, ⟨w31_⟩, ⟨w32_⟩, ⟨w33_⟩, ⟨w34_⟩, ⟨w35_⟩, ⟨w79_⟩⟩
           case rest => as_aux_lemma =>
            clear HC428
            obtain ⟨kq, HA, HJ427, HO_40, HO_42, HO_46, BK518, BK522, BK525, BK534, BK538, HB⟩ := hcut
            cases kq with
            | zero => exact absurd HA.out (by simp [j13])
            | succ kj427 =>
             have H := HA.out
             clear HA
             simp only [j13] at H
             have HC494 := Az_ H
             clear H
             go_upto_if 565 with (fail)
             go_cut [] from 1 to 0 (fun wc => ∃ (kq : Nat), Aside0 (j17 kq t526 t527 t530 t533 t523 t524 t531 t532 = some r) ∧ Aside0 (kq ≤ kj427) ∧ Aside0 (wc.heap[gb518]? = some (.cells #[.int .i64 t515, .int .i64 t516] 100 (0, 0))) ∧ Aside0 (wc.heap[gb522]? = some (.cells #[.int .i64 t519, .int .i64 t520] 100 (0, 0))) ∧ Aside0 (wc.heap[gb525]? = some (.cells #[.int .i64 t523, .int .i64 t524] 100 (0, 0))) ∧ Aside0 (wc.heap[gb534]? = some (.cells #[.int .i64 t531, .int .i64 t532] 100 (0, 0))) ∧ Aside0 (wc.heap[gb538]? = some (.cells #[.int .i64 t535, .int .i64 t536] 100 (0, 0))) ∧ Aside0 (Below w.heap.size w wc))
             case first => as_aux_lemma =>
              have H := HC494.out
              clear HC494
              by_cases c495 : t500 = true; rotate_left
              ·replace c495 := Bool.eq_false_iff.mpr c495
               subst c495
               rw [if_neg nfz_] at H
               have H' := Az_ H
               clear H
               go_wp2
               go_meet
               case rel => exact ⟨_, H', ⟨w70_⟩, ⟨w109_⟩, ⟨w110_⟩, ⟨w111_⟩, ⟨w112_⟩, ⟨w113_⟩, ⟨w79_⟩⟩
              subst c495
              rw [if_pos rfl] at H
              have HC496 := Az_ H
              clear H
              go_upto_region 67 with (fail)
              go_cut [575] from 1 to 0 (fun v575 wc => ∃ (kq : Nat) (x575_495 : Bool), v575 = .bool x575_495 ∧ Aside0 (j14 kq t496 t499 t507 t526 t527 t530 t533 x575_495 t523 t524 t531 t532 = some r) ∧ Aside0 (kq ≤ kj427) ∧ Aside0 (Kd.R k100 100 wc w.heap.size (fun k_ => some k_ ≠ (v509 : Value).ownBlock ∧ k_ ≠ gb518 ∧ k_ ≠ gb522 ∧ k_ ≠ gb525 ∧ k_ ≠ gb534 ∧ k_ ≠ gb538) v501 t499) ∧ Aside0 (Kd.R k100 100 wc w.heap.size (fun k_ => some k_ ≠ (v501 : Value).ownBlock ∧ k_ ≠ gb518 ∧ k_ ≠ gb522 ∧ k_ ≠ gb525 ∧ k_ ≠ gb534 ∧ k_ ≠ gb538) v509 t507) ∧ Aside0 (wc.heap[gb518]? = some (.cells #[.int .i64 t515, .int .i64 t516] 100 (0, 0))) ∧ Aside0 (wc.heap[gb522]? = some (.cells #[.int .i64 t519, .int .i64 t520] 100 (0, 0))) ∧ Aside0 (wc.heap[gb525]? = some (.cells #[.int .i64 t523, .int .i64 t524] 100 (0, 0))) ∧ Aside0 (wc.heap[gb534]? = some (.cells #[.int .i64 t531, .int .i64 t532] 100 (0, 0))) ∧ Aside0 (wc.heap[gb538]? = some (.cells #[.int .i64 t535, .int .i64 t536] 100 (0, 0))) ∧ Aside0 (Below w.heap.size w wc))
              case first => as_aux_lemma =>
               have H := HC496.out
               clear HC496
               replace H := bqz_ H; obtain ⟨t552, A497, H⟩ := H
               replace H : (if t552 = true then (j14 kj427 t496 t499 t507 t526 t527 t530 t533 (decide ((t499.length : Int) > (t495.length : Int))) t523 t524 t531 t532) else (j14 kj427 t496 t499 t507 t526 t527 t530 t533 true t523 t524 t531 t532)) = some r := H
               by_cases c498 : t552 = true; rotate_left
               ·replace c498 := Bool.eq_false_iff.mpr c498
                subst c498
                have H1 : (j14 kj427 t496 t499 t507 t526 t527 t530 t533 true t523 t524 t531 t532) = some r := by rw [if_neg (show ¬ (false = true) by decide)] at H; exact H
                clear H
                have H := H1
                exact (laws_FnIndexesMoved.j14_no _ _ _ _ _ _ _ _ _ _ _ _ _ hrT H).elim
               subst c498
               rw [if_pos rfl] at H
               have H' := Az_ H
               clear H
               obtain ⟨Ao499, co499, eo499⟩ := Kd.R_slice HO_42.out
               subst eo499
               go_wp2_with (first | (go_at_call 91; (with_reducible refine (impl_AreRanges.calls kj427 _ _ t499 true _ ?side1 ?side2 A497.out).mono ?_); (case side1 => exact ucz_ ((Kd.R_reads' HO_42.out).2.2)); (case side2 => exact (Kd.R_reads' HO_42.out).2.1); rintro e w500 ⟨rfl, hb⟩; have n0_ := Az_ (Kd.R_below (by exact urz_ HO_40.out) hb); have n1_ := Az_ (Kd.R_below (w155_) hb); have n2_ := Az_ (Kd.R_below (w156_) hb); have n8_ := Az_ (btz_ (w79_) hb); clear HO_40; clear HO_42; clear HO_46; clear HB; have HO_40 := n0_; have HO_42 := n1_; have HO_46 := n2_; replace BK518 := Az_ (ukbz_ BK518.out hb); replace BK522 := Az_ (ukbz_ BK522.out hb); replace BK525 := Az_ (ukbz_ BK525.out hb); replace BK534 := Az_ (ukbz_ BK534.out hb); replace BK538 := Az_ (ukbz_ BK538.out hb); have HB := n8_; clear n0_ n1_ n2_ n8_; (try clear hb)))
               go_meet
               case rel => exact ⟨_, (decide ((t499.length : Int) > (t495.length : Int))), qaz_, H', ⟨w70_⟩, ⟨by (with_reducible repeat (first | apply raz_ | apply rnz_ | apply rdz_)); exact Kd.R_mono HO_42.out (fun _ hk => ⟨hk.2.1, ⟨hk.2.2.1, ⟨hk.2.2.2.1, ⟨hk.2.2.2.2.1, ⟨hk.2.2.2.2.2.1, hk.2.2.2.2.2.2⟩⟩⟩⟩⟩)⟩, ⟨by (with_reducible repeat (first | apply raz_ | apply rnz_ | apply rdz_)); exact Kd.R_mono HO_46.out (fun _ hk => ⟨hk.2.1, ⟨hk.2.2.1, ⟨hk.2.2.2.1, ⟨hk.2.2.2.2.1, ⟨hk.2.2.2.2.2.1, hk.2.2.2.2.2.2⟩⟩⟩⟩⟩)⟩, ⟨w109_⟩, ⟨w110_⟩, ⟨w111_⟩, ⟨w112_⟩, ⟨w113_⟩, ⟨w79_⟩⟩
              case rest => as_aux_lemma =>
               clear HC496
               obtain ⟨kq, x575_495, rfl, HA, HJ495, HO_42, HO_46, BK518, BK522, BK525, BK534, BK538, HB⟩ := hcut
               cases kq with
               | zero => exact absurd HA.out (by simp [j14])
               | succ kj495 =>
                have H := HA.out
                clear HA
                simp only [j14] at H
                by_cases c503 : x575_495 = true
                ·subst c503
                 rw [if_pos rfl] at H
                 exact absurd ((Option.some.inj H).trans hrT) (by decide)
                replace c503 := Bool.eq_false_iff.mpr c503
                subst c503
                rw [if_neg nfz_] at H
                replace H := bqz_ H; obtain ⟨⟨t553, t554⟩, A504, H⟩ := H
                replace H : (if t554 = true then (laws_FnIndexesMoved.l2 kj495 t496 t507 t526 t527 t530 t533 t553 0 t507 (t507.length : Int) 0 t523 t524 t531 t532) else (some false)) = some r := H
                by_cases c505 : t554 = true; rotate_left
                ·replace c505 := Bool.eq_false_iff.mpr c505
                 subst c505
                 rw [if_neg nfz_] at H
                 exact absurd ((Option.some.inj H).trans hrT) (by decide)
                subst c505
                rw [if_pos rfl] at H
                have H' := Az_ H
                clear H
                obtain ⟨Ao506, co506, eo506⟩ := Kd.R_slice HO_42.out
                subst eo506
                go_wp2_with (first | (go_at_call 81; (with_reducible refine (impl_GapsBetween.calls kj495 _ _ t499 t553 true _ ?side1 ?side2 A504.out).mono ?_); (case side1 => exact ucz_ ((Kd.R_reads' HO_42.out).2.2)); (case side2 => exact (Kd.R_reads' HO_42.out).2.1); rintro e w507 ⟨v555, rfl, ho0, hb⟩; have n0_ := Az_ (rez_ (w155_) (Kd.R_base ho0) hb); have n1_ := Az_ (rez_ (w156_) (Kd.R_base ho0) hb); have n2_ := Az_ (Kd.R_lower (Kd.R_newB (Kd.R_newB (Kd.R_newB (Kd.R_newB (Kd.R_newB (Kd.R_new' (Kd.R_new' ho0 (Kd.R_lt (w155_))) (Kd.R_lt (w156_))) (g := gb518) (o := .cells #[.int .i64 t515, .int .i64 t516] 100 (0, 0)) (by exact ukz_ BK518.out)) (g := gb522) (o := .cells #[.int .i64 t519, .int .i64 t520] 100 (0, 0)) (by exact ukz_ BK522.out)) (g := gb525) (o := .cells #[.int .i64 t523, .int .i64 t524] 100 (0, 0)) (by exact ukz_ BK525.out)) (g := gb534) (o := .cells #[.int .i64 t531, .int .i64 t532] 100 (0, 0)) (by exact ukz_ BK534.out)) (g := gb538) (o := .cells #[.int .i64 t535, .int .i64 t536] 100 (0, 0)) (by exact ukz_ BK538.out)) (below_size (w79_))); have n8_ := Az_ (btz_ (w79_) hb); clear HO_42; clear HO_46; clear HB; have HO_42 := n0_; have HO_46 := n1_; have HO556 := n2_; replace BK518 := Az_ (ukbz_ BK518.out hb); replace BK522 := Az_ (ukbz_ BK522.out hb); replace BK525 := Az_ (ukbz_ BK525.out hb); replace BK534 := Az_ (ukbz_ BK534.out hb); replace BK538 := Az_ (ukbz_ BK538.out hb); have HB := n8_; clear n0_ n1_ n2_ n8_; (try clear hb); (try clear ho0); obtain ⟨Ao508, co508, eo508⟩ := Kd.R_slice HO_46.out; subst eo508))
                go_loopg [70, 585] kj495 (fun kq v70 v585 w' => ∃ (x70_8 : Int) (x585_8 : Int), v70 = .int .i64 x70_8 ∧ v585 = .int .i64 x585_8 ∧ Aside0 (laws_FnIndexesMoved.l2 kq t496 t507 t526 t527 t530 t533 t553 x70_8 t507 (t507.length : Int) x585_8 t523 t524 t531 t532 = some r) ∧ Aside0 (kq ≤ kj495) ∧ Aside0 (Kd.R k100 100 w' w.heap.size (fun k_ => some k_ ≠ (v555 : Value).ownBlock ∧ k_ ≠ gb518 ∧ k_ ≠ gb522 ∧ k_ ≠ gb525 ∧ k_ ≠ gb534 ∧ k_ ≠ gb538) (.slice Ao508 t507.length co508) t507) ∧ Aside0 (Kd.R k100 100 w' w.heap.size (fun k_ => some k_ ≠ ((.slice Ao508 t507.length co508) : Value).ownBlock ∧ some k_ ≠ ((.slice Ao508 t507.length co508) : Value).ownBlock ∧ k_ ≠ gb518 ∧ k_ ≠ gb522 ∧ k_ ≠ gb525 ∧ k_ ≠ gb534 ∧ k_ ≠ gb538) v555 t553) ∧ Aside0 (Kd.R k100 100 w' w.heap.size (fun k_ => some k_ ≠ (v555 : Value).ownBlock ∧ k_ ≠ gb518 ∧ k_ ≠ gb522 ∧ k_ ≠ gb525 ∧ k_ ≠ gb534 ∧ k_ ≠ gb538) (.slice Ao508 t507.length co508) t507) ∧ Aside0 (w'.heap[gb518]? = some (.cells #[.int .i64 t515, .int .i64 t516] 100 (0, 0))) ∧ Aside0 (w'.heap[gb522]? = some (.cells #[.int .i64 t519, .int .i64 t520] 100 (0, 0))) ∧ Aside0 (w'.heap[gb525]? = some (.cells #[.int .i64 t523, .int .i64 t524] 100 (0, 0))) ∧ Aside0 (w'.heap[gb534]? = some (.cells #[.int .i64 t531, .int .i64 t532] 100 (0, 0))) ∧ Aside0 (w'.heap[gb538]? = some (.cells #[.int .i64 t535, .int .i64 t536] 100 (0, 0))) ∧ Aside0 (Below w.heap.size w w'))
                case atStart => exact ⟨(0), (0), qaz_, qaz_, H', ⟨Nat.le_refl _⟩, ⟨w51_⟩, ⟨by (with_reducible repeat (first | apply raz_ | apply rnz_ | apply rdz_)); exact Kd.R_mono HO556.out (fun _ hk => ⟨hk.1.1.1.1.1.2, ⟨hk.1.1.1.1.1.2, ⟨hk.1.1.1.1.2, ⟨hk.1.1.1.2, ⟨hk.1.1.2, ⟨hk.1.2, hk.2⟩⟩⟩⟩⟩⟩)⟩, ⟨w51_⟩, ⟨w109_⟩, ⟨w110_⟩, ⟨w111_⟩, ⟨w112_⟩, ⟨w113_⟩, ⟨w79_⟩⟩
                case round =>
                 clear H'
                 obtain ⟨x70_8, x585_8, rfl, rfl, HA, HK8, HO_46, HO_68, HO_583, BK518, BK522, BK525, BK534, BK538, HB⟩ := hrel
                 cases gk with
                 | zero => exact absurd HA.out (by simp [laws_FnIndexesMoved.l2])
                 | succ k8 =>
                  have H := HA.out
                  clear HA
                  simp only [laws_FnIndexesMoved.l2] at H
                  by_cases c509 : x585_8 < (t507.length : Int)
                  ·rw [if_pos c509] at H
                   have c509b0 := decide_eq_true c509
                   clear c509
                   by_cases c510 : 0 ≤ x585_8; rotate_left
                   ·rw [if_neg c510] at H
                    exact absurd H (by simp)
                   rw [if_pos c510] at H
                   have c510b0 := decide_eq_true c510
                   clear c510
                   by_cases c511 : x585_8 < (t507.length : Int); rotate_left
                   ·rw [if_neg c511] at H
                    exact absurd H (by simp)
                   rw [if_pos c511] at H
                   have c511b0 := decide_eq_true c511
                   clear c511
                   by_cases c512 : (wrap64 ((wrap64 (((rd_T100 t507 x585_8).f1) - ((rd_T100 t507 x585_8).f0))) + 1)) ≤ t496; rotate_left
                   ·rw [if_neg c512] at H
                    have c512b0 := decide_eq_false c512
                    clear c512
                    have H' := Az_ H
                    clear H
                    have p557 : 0 ≤ (x585_8 : Int) := od_
                    have q557 : x585_8 < (t507.length : Int) := od_
                    obtain ⟨ad557, e557, hx557_0, hx557_1⟩ := at_T100 (Kd.R_reads' HO_583.out).2.2 x585_8 p557 q557
                    cases e557
                    replace p557 := eq_true p557
                    replace q557 := eq_true q557
                    go_wp2_with (first | ((with_reducible refine gate_dst (N := 72) rfl ?_); (try (refine gate_guard (by rfl) ?_; dsimp only)); refine box_event ?hg (N := 72) ?hd (cs := #[.int .i64 0, .int .i64 0]) (t := 100) ?hr ?_; (case hd => rfl); (case hg => rfl); (case hr => first | (go_simp; done) | (go_simp; rfl)); intro gb558 hg w520 hbox hb; have n0_ := Az_ (Kd.R_below (Kd.R_elderB (w156_) gb558 (Nat.le_of_eq hg.symm)) hb); have n1_ := Az_ (Kd.R_below (Kd.R_elderB (by exact urz_ HO_68.out) gb558 (Nat.le_of_eq hg.symm)) hb); have n2_ := Az_ (Kd.R_below (Kd.R_elderB (by exact urz_ HO_583.out) gb558 (Nat.le_of_eq hg.symm)) hb); have n8_ := Az_ (btz_ (w79_) hb); have n9_ := Az_ (hbox); have n10_ := Az_ ((by rw [hg]; exact (below_size (w79_)) : w.heap.size ≤ gb558)); have n11_ := Az_ ((by rw [hg]; exact (below_size (w79_)) : w.heap.size ≤ gb558)); have n12_ := Az_ ((by rw [hg]; exact Nat.ne_of_lt (uklz_ BK518.out) : gb518 ≠ gb558)); have n13_ := Az_ ((by rw [hg]; exact Nat.ne_of_gt (uklz_ BK518.out) : gb558 ≠ gb518)); have n14_ := Az_ ((by rw [hg]; exact Nat.ne_of_lt (uklz_ BK522.out) : gb522 ≠ gb558)); have n15_ := Az_ ((by rw [hg]; exact Nat.ne_of_gt (uklz_ BK522.out) : gb558 ≠ gb522)); have n16_ := Az_ ((by rw [hg]; exact Nat.ne_of_lt (uklz_ BK525.out) : gb525 ≠ gb558)); have n17_ := Az_ ((by rw [hg]; exact Nat.ne_of_gt (uklz_ BK525.out) : gb558 ≠ gb525)); have n18_ := Az_ ((by rw [hg]; exact Nat.ne_of_lt (uklz_ BK534.out) : gb534 ≠ gb558)); have n19_ := Az_ ((by rw [hg]; exact Nat.ne_of_gt (uklz_ BK534.out) : gb558 ≠ gb534)); have n20_ := Az_ ((by rw [hg]; exact Nat.ne_of_lt (uklz_ BK538.out) : gb538 ≠ gb558)); have n21_ := Az_ ((by rw [hg]; exact Nat.ne_of_gt (uklz_ BK538.out) : gb558 ≠ gb538)); clear HO_46; clear HO_68; clear HO_583; clear HB; have HO_46 := n0_; have HO_68 := n1_; have HO_583 := n2_; replace BK518 := Az_ (ukbz_ BK518.out hb); replace BK522 := Az_ (ukbz_ BK522.out hb); replace BK525 := Az_ (ukbz_ BK525.out hb); replace BK534 := Az_ (ukbz_ BK534.out hb); replace BK538 := Az_ (ukbz_ BK538.out hb); have HB := n8_; have BK558 := n9_; have GW558 := n10_; have GE558 := n11_; have NB518_558 := n12_; have NB558_518 := n13_; have NB522_558 := n14_; have NB558_522 := n15_; have NB525_558 := n16_; have NB558_525 := n17_; have NB534_558 := n18_; have NB558_534 := n19_; have NB538_558 := n20_; have NB558_538 := n21_; clear n0_ n1_ n2_ n8_ n9_ n10_ n11_ n12_ n13_ n14_ n15_ n16_ n17_ n18_ n19_ n20_ n21_; clear hb hbox hg; have hnb521 := NB558_518.out; have hnc521 := NB518_558.out; have hnb522 := NB558_522.out; have hnc522 := NB522_558.out; have hnb523 := NB558_525.out; have hnc523 := NB525_558.out; have hnb524 := NB558_534.out; have hnc524 := NB534_558.out; have hnb525 := NB558_538.out; have hnc525 := NB538_558.out; have hcz526_0 : w520.cell? ⟨gb558, 0, none⟩ = some (.int .i64 0) := (blk_cell BK558.out 0).trans rfl; have hcz526_1 : w520.cell? ⟨gb558, 1, none⟩ = some (.int .i64 0) := (blk_cell BK558.out 1).trans rfl; have hfz526_0 := blk_frozen BK558.out 0; have hfz526_1 := blk_frozen BK558.out 1))
                    go_roundg k8
                    case measure => have := HJ13.out; have := HJ108.out; have := HJ148.out; have := HJ180.out; have := HJ221.out; have := HJ427.out; have := HJ495.out; have := HK8.out; omega
                    case rel => exact ⟨(x70_8), (wrap64 (x585_8 + 1)), qaz_, qaz_, H', ⟨w68_⟩, ⟨w9_⟩, ⟨w7_⟩, ⟨w8_⟩, ⟨w36_⟩, ⟨w37_⟩, ⟨w38_⟩, ⟨w39_⟩, ⟨w40_⟩, ⟨w79_⟩⟩
                   rw [if_pos c512] at H
                   have c512b0 := decide_eq_true c512
                   clear c512
                   have H' := Az_ H
                   clear H
                   have p557 : 0 ≤ (x585_8 : Int) := od_
                   have q557 : x585_8 < (t507.length : Int) := od_
                   obtain ⟨ad557, e557, hx557_0, hx557_1⟩ := at_T100 (Kd.R_reads' HO_583.out).2.2 x585_8 p557 q557
                   cases e557
                   replace p557 := eq_true p557
                   replace q557 := eq_true q557
                   go_wp2_with (first | ((with_reducible refine gate_dst (N := 72) rfl ?_); (try (refine gate_guard (by rfl) ?_; dsimp only)); refine box_event ?hg (N := 72) ?hd (cs := #[.int .i64 0, .int .i64 0]) (t := 100) ?hr ?_; (case hd => rfl); (case hg => rfl); (case hr => first | (go_simp; done) | (go_simp; rfl)); intro gb558 hg w513 hbox hb; have n0_ := Az_ (Kd.R_below (Kd.R_elderB (w156_) gb558 (Nat.le_of_eq hg.symm)) hb); have n1_ := Az_ (Kd.R_below (Kd.R_elderB (by exact urz_ HO_68.out) gb558 (Nat.le_of_eq hg.symm)) hb); have n2_ := Az_ (Kd.R_below (Kd.R_elderB (by exact urz_ HO_583.out) gb558 (Nat.le_of_eq hg.symm)) hb); have n8_ := Az_ (btz_ (w79_) hb); have n9_ := Az_ (hbox); have n10_ := Az_ ((by rw [hg]; exact (below_size (w79_)) : w.heap.size ≤ gb558)); have n11_ := Az_ ((by rw [hg]; exact (below_size (w79_)) : w.heap.size ≤ gb558)); have n12_ := Az_ ((by rw [hg]; exact Nat.ne_of_lt (uklz_ BK518.out) : gb518 ≠ gb558)); have n13_ := Az_ ((by rw [hg]; exact Nat.ne_of_gt (uklz_ BK518.out) : gb558 ≠ gb518)); have n14_ := Az_ ((by rw [hg]; exact Nat.ne_of_lt (uklz_ BK522.out) : gb522 ≠ gb558)); have n15_ := Az_ ((by rw [hg]; exact Nat.ne_of_gt (uklz_ BK522.out) : gb558 ≠ gb522)); have n16_ := Az_ ((by rw [hg]; exact Nat.ne_of_lt (uklz_ BK525.out) : gb525 ≠ gb558)); have n17_ := Az_ ((by rw [hg]; exact Nat.ne_of_gt (uklz_ BK525.out) : gb558 ≠ gb525)); have n18_ := Az_ ((by rw [hg]; exact Nat.ne_of_lt (uklz_ BK534.out) : gb534 ≠ gb558)); have n19_ := Az_ ((by rw [hg]; exact Nat.ne_of_gt (uklz_ BK534.out) : gb558 ≠ gb534)); have n20_ := Az_ ((by rw [hg]; exact Nat.ne_of_lt (uklz_ BK538.out) : gb538 ≠ gb558)); have n21_ := Az_ ((by rw [hg]; exact Nat.ne_of_gt (uklz_ BK538.out) : gb558 ≠ gb538)); clear HO_46; clear HO_68; clear HO_583; clear HB; have HO_46 := n0_; have HO_68 := n1_; have HO_583 := n2_; replace BK518 := Az_ (ukbz_ BK518.out hb); replace BK522 := Az_ (ukbz_ BK522.out hb); replace BK525 := Az_ (ukbz_ BK525.out hb); replace BK534 := Az_ (ukbz_ BK534.out hb); replace BK538 := Az_ (ukbz_ BK538.out hb); have HB := n8_; have BK558 := n9_; have GW558 := n10_; have GE558 := n11_; have NB518_558 := n12_; have NB558_518 := n13_; have NB522_558 := n14_; have NB558_522 := n15_; have NB525_558 := n16_; have NB558_525 := n17_; have NB534_558 := n18_; have NB558_534 := n19_; have NB538_558 := n20_; have NB558_538 := n21_; clear n0_ n1_ n2_ n8_ n9_ n10_ n11_ n12_ n13_ n14_ n15_ n16_ n17_ n18_ n19_ n20_ n21_; clear hb hbox hg; have hnb514 := NB558_518.out; have hnc514 := NB518_558.out; have hnb515 := NB558_522.out; have hnc515 := NB522_558.out; have hnb516 := NB558_525.out; have hnc516 := NB525_558.out; have hnb517 := NB558_534.out; have hnc517 := NB534_558.out; have hnb518 := NB558_538.out; have hnc518 := NB538_558.out; have hcz519_0 : w513.cell? ⟨gb558, 0, none⟩ = some (.int .i64 0) := (blk_cell BK558.out 0).trans rfl; have hcz519_1 : w513.cell? ⟨gb558, 1, none⟩ = some (.int .i64 0) := (blk_cell BK558.out 1).trans rfl; have hfz519_0 := blk_frozen BK558.out 0; have hfz519_1 := blk_frozen BK558.out 1))
                   go_roundg k8
                   case measure => have := HJ13.out; have := HJ108.out; have := HJ148.out; have := HJ180.out; have := HJ221.out; have := HJ427.out; have := HJ495.out; have := HK8.out; omega
                   case rel => exact ⟨(wrap64 (x70_8 + 1)), (wrap64 (x585_8 + 1)), qaz_, qaz_, H', ⟨w68_⟩, ⟨w9_⟩, ⟨w7_⟩, ⟨w8_⟩, ⟨w36_⟩, ⟨w37_⟩, ⟨w38_⟩, ⟨w39_⟩, ⟨w40_⟩, ⟨w79_⟩⟩
                  rw [if_neg c509] at H
                  have c509b0 := decide_eq_false c509
                  clear c509
                  have H' := Az_ H
                  clear H
                  obtain ⟨Ao527, co527, eo527⟩ := Kd.R_slice HO_68.out
                  subst eo527
                  go_wp2
                  go_loopg [602] k8 (fun kq v602 w' => ∃ (x602_9 : Int), v602 = .int .i64 x602_9 ∧ Aside0 (laws_FnIndexesMoved.l3 kq t496 t507 t526 t527 t530 t533 t553 x70_8 t553 (t553.length : Int) x602_9 t523 t524 t531 t532 = some r) ∧ Aside0 (kq ≤ k8) ∧ Aside0 (Kd.R k100 100 w' w.heap.size (fun k_ => some k_ ≠ ((.slice Ao527 t553.length co527) : Value).ownBlock ∧ some k_ ≠ ((.slice Ao527 t553.length co527) : Value).ownBlock ∧ k_ ≠ gb518 ∧ k_ ≠ gb522 ∧ k_ ≠ gb525 ∧ k_ ≠ gb534 ∧ k_ ≠ gb538) (.slice Ao508 t507.length co508) t507) ∧ Aside0 (Kd.R k100 100 w' w.heap.size (fun k_ => some k_ ≠ ((.slice Ao508 t507.length co508) : Value).ownBlock ∧ k_ ≠ gb518 ∧ k_ ≠ gb522 ∧ k_ ≠ gb525 ∧ k_ ≠ gb534 ∧ k_ ≠ gb538) (.slice Ao527 t553.length co527) t553) ∧ Aside0 (Kd.R k100 100 w' w.heap.size (fun k_ => some k_ ≠ ((.slice Ao508 t507.length co508) : Value).ownBlock ∧ k_ ≠ gb518 ∧ k_ ≠ gb522 ∧ k_ ≠ gb525 ∧ k_ ≠ gb534 ∧ k_ ≠ gb538) (.slice Ao527 t553.length co527) t553) ∧ Aside0 (w'.heap[gb518]? = some (.cells #[.int .i64 t515, .int .i64 t516] 100 (0, 0))) ∧ Aside0 (w'.heap[gb522]? = some (.cells #[.int .i64 t519, .int .i64 t520] 100 (0, 0))) ∧ Aside0 (w'.heap[gb525]? = some (.cells #[.int .i64 t523, .int .i64 t524] 100 (0, 0))) ∧ Aside0 (w'.heap[gb534]? = some (.cells #[.int .i64 t531, .int .i64 t532] 100 (0, 0))) ∧ Aside0 (w'.heap[gb538]? = some (.cells #[.int .i64 t535, .int .i64 t536] 100 (0, 0))) ∧ Aside0 (Below w.heap.size w w'))
                  case atStart => exact ⟨(0), qaz_, H', ⟨Nat.le_refl _⟩, ⟨by (with_reducible repeat (first | apply raz_ | apply rnz_ | apply rdz_)); exact Kd.R_mono HO_46.out (fun _ hk => ⟨hk.1, ⟨hk.1, ⟨hk.2.1, ⟨hk.2.2.1, ⟨hk.2.2.2.1, ⟨hk.2.2.2.2.1, hk.2.2.2.2.2⟩⟩⟩⟩⟩⟩)⟩, ⟨w52_⟩, ⟨w52_⟩, ⟨w109_⟩, ⟨w110_⟩, ⟨w111_⟩, ⟨w112_⟩, ⟨w113_⟩, ⟨w79_⟩⟩
                  case round =>
                   clear H'
                   clear c509b0
                   obtain ⟨x602_9, rfl, HA, HK9, HO_46, HO_68, HO_600, BK518, BK522, BK525, BK534, BK538, HB⟩ := hrel
                   cases gk with
                   | zero => exact absurd HA.out (by simp [laws_FnIndexesMoved.l3])
                   | succ k9 =>
                    have H := HA.out
                    clear HA
                    simp only [laws_FnIndexesMoved.l3] at H
                    by_cases c528 : x602_9 < (t553.length : Int); rotate_left
                    ·rw [if_neg c528] at H
                     have c528b0 := decide_eq_false c528
                     clear c528
                     by_cases c546 : (t553.length : Int) = (wrap64 ((t507.length : Int) - x70_8)); rotate_left
                     ·rw [if_neg c546] at H
                      have c546b0 : ((t553.length : Int) == (wrap64 ((t507.length : Int) - x70_8))) = false := beq_eq_false_iff_ne.mpr c546
                      have c546b1 : ((t553.length : Int) != (wrap64 ((t507.length : Int) - x70_8))) = true := bne_iff_ne.mpr c546
                      obtain rfl := Option.some.inj H; clear hrT
                      go_wp2
                      go_ret
                      exact ⟨w116_, w79_⟩
                     rw [if_pos c546] at H
                     have c546b0 : ((t553.length : Int) == (wrap64 ((t507.length : Int) - x70_8))) = true := beq_iff_eq.mpr c546
                     have c546b1 : ((t553.length : Int) != (wrap64 ((t507.length : Int) - x70_8))) = false := bne_eq_false_iff_eq.mpr c546
                     clear c546
                     have H' := Az_ H
                     clear H
                     go_wp2
                     go_meet
                     case rel => exact ⟨_, H', ⟨by have := HJ13.out; have := HJ108.out; have := HJ148.out; have := HJ180.out; have := HJ221.out; have := HJ427.out; have := HJ495.out; have := HK8.out; have := HK9.out; first | omega | exact Nat.le_refl _⟩, ⟨w109_⟩, ⟨w110_⟩, ⟨w111_⟩, ⟨w112_⟩, ⟨w113_⟩, ⟨w79_⟩⟩
                    rw [if_pos c528] at H
                    have c528b0 := decide_eq_true c528
                    clear c528
                    by_cases c529 : 0 ≤ x602_9; rotate_left
                    ·rw [if_neg c529] at H
                     exact absurd H (by simp)
                    rw [if_pos c529] at H
                    have c529b0 := decide_eq_true c529
                    clear c529
                    by_cases c530 : x602_9 < (t553.length : Int); rotate_left
                    ·rw [if_neg c530] at H
                     exact absurd H (by simp)
                    rw [if_pos c530] at H
                    have c530b0 := decide_eq_true c530
                    clear c530
                    by_cases c531 : (wrap64 ((wrap64 (((rd_T100 t553 x602_9).f1) - ((rd_T100 t553 x602_9).f0))) + 1)) ≤ t496
                    ·rw [if_pos c531] at H
                     have c531b0 := decide_eq_true c531
                     clear c531
                     obtain rfl := Option.some.inj H; clear hrT
                     have p559 : 0 ≤ (x602_9 : Int) := od_
                     have q559 : x602_9 < (t553.length : Int) := od_
                     obtain ⟨ad559, e559, hx559_0, hx559_1⟩ := at_T100 (Kd.R_reads' HO_600.out).2.2 x602_9 p559 q559
                     cases e559
                     replace p559 := eq_true p559
                     replace q559 := eq_true q559
                     go_wp2_with (first | ((with_reducible refine gate_dst (N := 74) rfl ?_); (try (refine gate_guard (by rfl) ?_; dsimp only)); refine box_event ?hg (N := 74) ?hd (cs := #[.int .i64 0, .int .i64 0]) (t := 100) ?hr ?_; (case hd => rfl); (case hg => rfl); (case hr => first | (go_simp; done) | (go_simp; rfl)); intro gb560 hg w532 hbox hb; have n0_ := Az_ (Kd.R_below (Kd.R_elderB (w156_) gb560 (Nat.le_of_eq hg.symm)) hb); have n1_ := Az_ (Kd.R_below (Kd.R_elderB (by exact urz_ HO_68.out) gb560 (Nat.le_of_eq hg.symm)) hb); have n2_ := Az_ (Kd.R_below (Kd.R_elderB (by exact urz_ HO_600.out) gb560 (Nat.le_of_eq hg.symm)) hb); have n8_ := Az_ (btz_ (w79_) hb); have n9_ := Az_ (hbox); have n10_ := Az_ ((by rw [hg]; exact (below_size (w79_)) : w.heap.size ≤ gb560)); have n11_ := Az_ ((by rw [hg]; exact (below_size (w79_)) : w.heap.size ≤ gb560)); have n12_ := Az_ ((by rw [hg]; exact Nat.ne_of_lt (uklz_ BK518.out) : gb518 ≠ gb560)); have n13_ := Az_ ((by rw [hg]; exact Nat.ne_of_gt (uklz_ BK518.out) : gb560 ≠ gb518)); have n14_ := Az_ ((by rw [hg]; exact Nat.ne_of_lt (uklz_ BK522.out) : gb522 ≠ gb560)); have n15_ := Az_ ((by rw [hg]; exact Nat.ne_of_gt (uklz_ BK522.out) : gb560 ≠ gb522)); have n16_ := Az_ ((by rw [hg]; exact Nat.ne_of_lt (uklz_ BK525.out) : gb525 ≠ gb560)); have n17_ := Az_ ((by rw [hg]; exact Nat.ne_of_gt (uklz_ BK525.out) : gb560 ≠ gb525)); have n18_ := Az_ ((by rw [hg]; exact Nat.ne_of_lt (uklz_ BK534.out) : gb534 ≠ gb560)); have n19_ := Az_ ((by rw [hg]; exact Nat.ne_of_gt (uklz_ BK534.out) : gb560 ≠ gb534)); have n20_ := Az_ ((by rw [hg]; exact Nat.ne_of_lt (uklz_ BK538.out) : gb538 ≠ gb560)); have n21_ := Az_ ((by rw [hg]; exact Nat.ne_of_gt (uklz_ BK538.out) : gb560 ≠ gb538)); clear HO_46; clear HO_68; clear HO_600; clear HB; have HO_46 := n0_; have HO_68 := n1_; have HO_600 := n2_; replace BK518 := Az_ (ukbz_ BK518.out hb); replace BK522 := Az_ (ukbz_ BK522.out hb); replace BK525 := Az_ (ukbz_ BK525.out hb); replace BK534 := Az_ (ukbz_ BK534.out hb); replace BK538 := Az_ (ukbz_ BK538.out hb); have HB := n8_; have BK560 := n9_; have GW560 := n10_; have GE560 := n11_; have NB518_560 := n12_; have NB560_518 := n13_; have NB522_560 := n14_; have NB560_522 := n15_; have NB525_560 := n16_; have NB560_525 := n17_; have NB534_560 := n18_; have NB560_534 := n19_; have NB538_560 := n20_; have NB560_538 := n21_; clear n0_ n1_ n2_ n8_ n9_ n10_ n11_ n12_ n13_ n14_ n15_ n16_ n17_ n18_ n19_ n20_ n21_; clear hb hbox hg; have hnb533 := NB560_518.out; have hnc533 := NB518_560.out; have hnb534 := NB560_522.out; have hnc534 := NB522_560.out; have hnb535 := NB560_525.out; have hnc535 := NB525_560.out; have hnb536 := NB560_534.out; have hnc536 := NB534_560.out; have hnb537 := NB560_538.out; have hnc537 := NB538_560.out; have hcz538_0 : w532.cell? ⟨gb560, 0, none⟩ = some (.int .i64 0) := (blk_cell BK560.out 0).trans rfl; have hcz538_1 : w532.cell? ⟨gb560, 1, none⟩ = some (.int .i64 0) := (blk_cell BK560.out 1).trans rfl; have hfz538_0 := blk_frozen BK560.out 0; have hfz538_1 := blk_frozen BK560.out 1))
                     go_ret
                     exact ⟨w116_, w79_⟩
                    rw [if_neg c531] at H
                    have c531b0 := decide_eq_false c531
                    clear c531
                    have H' := Az_ H
                    clear H
                    have p559 : 0 ≤ (x602_9 : Int) := od_
                    have q559 : x602_9 < (t553.length : Int) := od_
                    obtain ⟨ad559, e559, hx559_0, hx559_1⟩ := at_T100 (Kd.R_reads' HO_600.out).2.2 x602_9 p559 q559
                    cases e559
                    replace p559 := eq_true p559
                    replace q559 := eq_true q559
                    go_wp2_with (first | ((with_reducible refine gate_dst (N := 74) rfl ?_); (try (refine gate_guard (by rfl) ?_; dsimp only)); refine box_event ?hg (N := 74) ?hd (cs := #[.int .i64 0, .int .i64 0]) (t := 100) ?hr ?_; (case hd => rfl); (case hg => rfl); (case hr => first | (go_simp; done) | (go_simp; rfl)); intro gb560 hg w539 hbox hb; have n0_ := Az_ (Kd.R_below (Kd.R_elderB (w156_) gb560 (Nat.le_of_eq hg.symm)) hb); have n1_ := Az_ (Kd.R_below (Kd.R_elderB (by exact urz_ HO_68.out) gb560 (Nat.le_of_eq hg.symm)) hb); have n2_ := Az_ (Kd.R_below (Kd.R_elderB (by exact urz_ HO_600.out) gb560 (Nat.le_of_eq hg.symm)) hb); have n8_ := Az_ (btz_ (w79_) hb); have n9_ := Az_ (hbox); have n10_ := Az_ ((by rw [hg]; exact (below_size (w79_)) : w.heap.size ≤ gb560)); have n11_ := Az_ ((by rw [hg]; exact (below_size (w79_)) : w.heap.size ≤ gb560)); have n12_ := Az_ ((by rw [hg]; exact Nat.ne_of_lt (uklz_ BK518.out) : gb518 ≠ gb560)); have n13_ := Az_ ((by rw [hg]; exact Nat.ne_of_gt (uklz_ BK518.out) : gb560 ≠ gb518)); have n14_ := Az_ ((by rw [hg]; exact Nat.ne_of_lt (uklz_ BK522.out) : gb522 ≠ gb560)); have n15_ := Az_ ((by rw [hg]; exact Nat.ne_of_gt (uklz_ BK522.out) : gb560 ≠ gb522)); have n16_ := Az_ ((by rw [hg]; exact Nat.ne_of_lt (uklz_ BK525.out) : gb525 ≠ gb560)); have n17_ := Az_ ((by rw [hg]; exact Nat.ne_of_gt (uklz_ BK525.out) : gb560 ≠ gb525)); have n18_ := Az_ ((by rw [hg]; exact Nat.ne_of_lt (uklz_ BK534.out) : gb534 ≠ gb560)); have n19_ := Az_ ((by rw [hg]; exact Nat.ne_of_gt (uklz_ BK534.out) : gb560 ≠ gb534)); have n20_ := Az_ ((by rw [hg]; exact Nat.ne_of_lt (uklz_ BK538.out) : gb538 ≠ gb560)); have n21_ := Az_ ((by rw [hg]; exact Nat.ne_of_gt (uklz_ BK538.out) : gb560 ≠ gb538)); clear HO_46; clear HO_68; clear HO_600; clear HB; have HO_46 := n0_; have HO_68 := n1_; have HO_600 := n2_; replace BK518 := Az_ (ukbz_ BK518.out hb); replace BK522 := Az_ (ukbz_ BK522.out hb); replace BK525 := Az_ (ukbz_ BK525.out hb); replace BK534 := Az_ (ukbz_ BK534.out hb); replace BK538 := Az_ (ukbz_ BK538.out hb); have HB := n8_; have BK560 := n9_; have GW560 := n10_; have GE560 := n11_; have NB518_560 := n12_; have NB560_518 := n13_; have NB522_560 := n14_; have NB560_522 := n15_; have NB525_560 := n16_; have NB560_525 := n17_; have NB534_560 := n18_; have NB560_534 := n19_; have NB538_560 := n20_; have NB560_538 := n21_; clear n0_ n1_ n2_ n8_ n9_ n10_ n11_ n12_ n13_ n14_ n15_ n16_ n17_ n18_ n19_ n20_ n21_; clear hb hbox hg; have hnb540 := NB560_518.out; have hnc540 := NB518_560.out; have hnb541 := NB560_522.out; have hnc541 := NB522_560.out; have hnb542 := NB560_525.out; have hnc542 := NB525_560.out; have hnb543 := NB560_534.out; have hnc543 := NB534_560.out; have hnb544 := NB560_538.out; have hnc544 := NB538_560.out; have hcz545_0 : w539.cell? ⟨gb560, 0, none⟩ = some (.int .i64 0) := (blk_cell BK560.out 0).trans rfl; have hcz545_1 : w539.cell? ⟨gb560, 1, none⟩ = some (.int .i64 0) := (blk_cell BK560.out 1).trans rfl; have hfz545_0 := blk_frozen BK560.out 0; have hfz545_1 := blk_frozen BK560.out 1))
                    go_roundg k9
                    case measure => have := HJ13.out; have := HJ108.out; have := HJ148.out; have := HJ180.out; have := HJ221.out; have := HJ427.out; have := HJ495.out; have := HK8.out; have := HK9.out; omega
                    case rel => exact ⟨(wrap64 (x602_9 + 1)), qaz_, H', ⟨by have := HJ13.out; have := HJ108.out; have := HJ148.out; have := HJ180.out; have := HJ221.out; have := HJ427.out; have := HJ495.out; have := HK8.out; have := HK9.out; omega⟩, ⟨by (with_reducible repeat (first | apply raz_ | apply rnz_ | apply rdz_)); exact Kd.R_mono (Kd.R_far (p := ⟨gb560, 1, none⟩) (Kd.R_far (p := ⟨gb560, 0, none⟩) (Kd.R_mono HO_46.out (fun k_ hk => (⟨hk, hk.2⟩ : _ ∧ k_ ≠ gb560))) (fun _ hk => hk.2) (.int .i64 ((rd_T100 t553 x602_9).f0))) (fun _ hk => hk.2) (.int .i64 ((rd_T100 t553 x602_9).f1))) (fun _ hk => ⟨hk.1.1.1, ⟨hk.1.1.2.1, ⟨hk.1.1.2.2.1, ⟨hk.1.1.2.2.2.1, ⟨hk.1.1.2.2.2.2.1, ⟨hk.1.1.2.2.2.2.2.1, hk.1.1.2.2.2.2.2.2⟩⟩⟩⟩⟩⟩)⟩, ⟨by (with_reducible repeat (first | apply raz_ | apply rnz_ | apply rdz_)); exact Kd.R_mono (Kd.R_far (p := ⟨gb560, 1, none⟩) (Kd.R_far (p := ⟨gb560, 0, none⟩) (Kd.R_mono HO_68.out (fun k_ hk => (⟨hk, hk.2⟩ : _ ∧ k_ ≠ gb560))) (fun _ hk => hk.2) (.int .i64 ((rd_T100 t553 x602_9).f0))) (fun _ hk => hk.2) (.int .i64 ((rd_T100 t553 x602_9).f1))) (fun _ hk => ⟨hk.1.1.1, ⟨hk.1.1.2.1, ⟨hk.1.1.2.2.1, ⟨hk.1.1.2.2.2.1, ⟨hk.1.1.2.2.2.2.1, hk.1.1.2.2.2.2.2⟩⟩⟩⟩⟩)⟩, ⟨by (with_reducible repeat (first | apply raz_ | apply rnz_ | apply rdz_)); exact Kd.R_mono (Kd.R_far (p := ⟨gb560, 1, none⟩) (Kd.R_far (p := ⟨gb560, 0, none⟩) (Kd.R_mono HO_600.out (fun k_ hk => (⟨hk, hk.2⟩ : _ ∧ k_ ≠ gb560))) (fun _ hk => hk.2) (.int .i64 ((rd_T100 t553 x602_9).f0))) (fun _ hk => hk.2) (.int .i64 ((rd_T100 t553 x602_9).f1))) (fun _ hk => ⟨hk.1.1.1, ⟨hk.1.1.2.1, ⟨hk.1.1.2.2.1, ⟨hk.1.1.2.2.2.1, ⟨hk.1.1.2.2.2.2.1, hk.1.1.2.2.2.2.2⟩⟩⟩⟩⟩)⟩, ⟨by (with_reducible repeat (first | refine knz_ ?_ _ | refine kdz_ ?_ | refine kaz_ ?_ _)); refine blk_far ?_ NB518_560.out _; (with_reducible repeat (first | refine knz_ ?_ _ | refine kdz_ ?_ | refine kaz_ ?_ _)); refine blk_far ?_ NB518_560.out _; (with_reducible repeat (first | refine knz_ ?_ _ | refine kdz_ ?_ | refine kaz_ ?_ _)); exact BK518.out⟩, ⟨by (with_reducible repeat (first | refine knz_ ?_ _ | refine kdz_ ?_ | refine kaz_ ?_ _)); refine blk_far ?_ NB522_560.out _; (with_reducible repeat (first | refine knz_ ?_ _ | refine kdz_ ?_ | refine kaz_ ?_ _)); refine blk_far ?_ NB522_560.out _; (with_reducible repeat (first | refine knz_ ?_ _ | refine kdz_ ?_ | refine kaz_ ?_ _)); exact BK522.out⟩, ⟨by (with_reducible repeat (first | refine knz_ ?_ _ | refine kdz_ ?_ | refine kaz_ ?_ _)); refine blk_far ?_ NB525_560.out _; (with_reducible repeat (first | refine knz_ ?_ _ | refine kdz_ ?_ | refine kaz_ ?_ _)); refine blk_far ?_ NB525_560.out _; (with_reducible repeat (first | refine knz_ ?_ _ | refine kdz_ ?_ | refine kaz_ ?_ _)); exact BK525.out⟩, ⟨by (with_reducible repeat (first | refine knz_ ?_ _ | refine kdz_ ?_ | refine kaz_ ?_ _)); refine blk_far ?_ NB534_560.out _; (with_reducible repeat (first | refine knz_ ?_ _ | refine kdz_ ?_ | refine kaz_ ?_ _)); refine blk_far ?_ NB534_560.out _; (with_reducible repeat (first | refine knz_ ?_ _ | refine kdz_ ?_ | refine kaz_ ?_ _)); exact BK534.out⟩, ⟨by (with_reducible repeat (first | refine knz_ ?_ _ | refine kdz_ ?_ | refine kaz_ ?_ _)); refine blk_far ?_ NB538_560.out _; (with_reducible repeat (first | refine knz_ ?_ _ | refine kdz_ ?_ | refine kaz_ ?_ _)); refine blk_far ?_ NB538_560.out _; (with_reducible repeat (first | refine knz_ ?_ _ | refine kdz_ ?_ | refine kaz_ ?_ _)); exact BK538.out⟩, ⟨w79_⟩⟩
             case rest => as_aux_lemma =>
              clear HC494
              obtain ⟨kq, HA, HJ493, BK518, BK522, BK525, BK534, BK538, HB⟩ := hcut
              cases kq with
              | zero => exact absurd HA.out (by simp [j17])
              | succ kj493 =>
               have H := HA.out
               clear HA
               simp only [j17] at H
               by_cases c549 : t527 = true; rotate_left
               ·replace c549 := Bool.eq_false_iff.mpr c549
                subst c549
                rw [if_neg nfz_] at H
                by_cases c590 : t533 = true; rotate_left
                ·replace c590 := Bool.eq_false_iff.mpr c590
                 subst c590
                 rw [if_neg nfz_] at H
                 obtain rfl := Option.some.inj H; clear hrT
                 go_wp2
                 go_ret
                 exact ⟨w116_, w79_⟩
                subst c590
                rw [if_pos rfl] at H
                replace H := bqz_ H; obtain ⟨⟨t567, t568⟩, A591, H⟩ := H
                replace H : (if t568 = true then (some (t567.toList == t530.toList)) else (some false)) = some r := H
                by_cases c592 : t568 = true; rotate_left
                ·replace c592 := Bool.eq_false_iff.mpr c592
                 subst c592
                 rw [if_neg nfz_] at H
                 exact absurd ((Option.some.inj H).trans hrT) (by decide)
                subst c592
                rw [if_pos rfl] at H
                obtain rfl := Option.some.inj H; clear hrT
                have hnb593 := NB534_518.out
                have hnc593 := NB518_534.out
                have hnb594 := NB534_522.out
                have hnc594 := NB522_534.out
                have hnb595 := NB534_525.out
                have hnc595 := NB525_534.out
                have hnb596 := NB534_538.out
                have hnc596 := NB538_534.out
                have hcz597_0 : wc.cell? ⟨gb534, 0, none⟩ = some (.int .i64 t531) := (blk_cell BK534.out 0).trans rfl
                have hcz597_1 : wc.cell? ⟨gb534, 1, none⟩ = some (.int .i64 t532) := (blk_cell BK534.out 1).trans rfl
                have hfz597_0 := blk_frozen BK534.out 0
                have hfz597_1 := blk_frozen BK534.out 1
                go_wp2_with (first | (go_at_call 86; (with_reducible refine (impl_ShortRange.calls kj493 t531 t532 t567 true _ (libW_below HTAB.out (w79_)) A591.out).mono ?_); rintro e w598 ⟨rfl, hb⟩; have n5_ := Az_ (btz_ (w79_) hb); clear HB; replace BK518 := Az_ (ukbz_ BK518.out hb); replace BK522 := Az_ (ukbz_ BK522.out hb); replace BK525 := Az_ (ukbz_ BK525.out hb); replace BK534 := Az_ (ukbz_ BK534.out hb); replace BK538 := Az_ (ukbz_ BK538.out hb); have HB := n5_; clear n5_; (try clear hb)))
                go_ret
                exact ⟨w116_, w79_⟩
               subst c549
               rw [if_pos rfl] at H
               replace H := bqz_ H; obtain ⟨⟨t561, t562, t563⟩, A550, H⟩ := H
               replace H : (if t563 = true then (j18 kj493 t530 t533 (!(t561 == t523) || (!(t562 == t524))) t531 t532) else (j18 kj493 t530 t533 true t531 t532)) = some r := H
               have HC551 := Az_ H
               clear H
               go_upto_region 89 with (first | (go_at_call 89; (with_reducible refine (impl_LongRange.calls kj493 t526 t561 t562 t563 _ (libW_below HTAB.out (w79_)) A550.out).mono ?_); rintro e w552 ⟨rfl, hb⟩; have n5_ := Az_ (btz_ (w79_) hb); clear HB; replace BK518 := Az_ (ukbz_ BK518.out hb); replace BK522 := Az_ (ukbz_ BK522.out hb); replace BK525 := Az_ (ukbz_ BK525.out hb); replace BK534 := Az_ (ukbz_ BK534.out hb); replace BK538 := Az_ (ukbz_ BK538.out hb); have HB := n5_; clear n5_; (try clear hb)) | ((with_reducible refine gate_dst (N := 75) rfl ?_); (try (refine gate_guard (by rfl) ?_; dsimp only)); refine box_event ?hg (N := 75) ?hd (cs := #[.int .i64 0, .int .i64 0]) (t := 100) ?hr ?_; (case hd => rfl); (case hg => rfl); (case hr => first | (go_simp; done) | (go_simp; rfl)); intro gb564 hg w553 hbox hb; have n5_ := Az_ (btz_ (w79_) hb); have n6_ := Az_ (hbox); have n7_ := Az_ ((by rw [hg]; exact (below_size (w79_)) : w.heap.size ≤ gb564)); have n8_ := Az_ ((by rw [hg]; exact (below_size (w79_)) : w.heap.size ≤ gb564)); have n9_ := Az_ ((by rw [hg]; exact Nat.ne_of_lt (uklz_ BK518.out) : gb518 ≠ gb564)); have n10_ := Az_ ((by rw [hg]; exact Nat.ne_of_gt (uklz_ BK518.out) : gb564 ≠ gb518)); have n11_ := Az_ ((by rw [hg]; exact Nat.ne_of_lt (uklz_ BK522.out) : gb522 ≠ gb564)); have n12_ := Az_ ((by rw [hg]; exact Nat.ne_of_gt (uklz_ BK522.out) : gb564 ≠ gb522)); have n13_ := Az_ ((by rw [hg]; exact Nat.ne_of_lt (uklz_ BK525.out) : gb525 ≠ gb564)); have n14_ := Az_ ((by rw [hg]; exact Nat.ne_of_gt (uklz_ BK525.out) : gb564 ≠ gb525)); have n15_ := Az_ ((by rw [hg]; exact Nat.ne_of_lt (uklz_ BK534.out) : gb534 ≠ gb564)); have n16_ := Az_ ((by rw [hg]; exact Nat.ne_of_gt (uklz_ BK534.out) : gb564 ≠ gb534)); have n17_ := Az_ ((by rw [hg]; exact Nat.ne_of_lt (uklz_ BK538.out) : gb538 ≠ gb564)); have n18_ := Az_ ((by rw [hg]; exact Nat.ne_of_gt (uklz_ BK538.out) : gb564 ≠ gb538)); clear HB; replace BK518 := Az_ (ukbz_ BK518.out hb); replace BK522 := Az_ (ukbz_ BK522.out hb); replace BK525 := Az_ (ukbz_ BK525.out hb); replace BK534 := Az_ (ukbz_ BK534.out hb); replace BK538 := Az_ (ukbz_ BK538.out hb); have HB := n5_; have BK564 := n6_; have GW564 := n7_; have GE564 := n8_; have NB518_564 := n9_; have NB564_518 := n10_; have NB522_564 := n11_; have NB564_522 := n12_; have NB525_564 := n13_; have NB564_525 := n14_; have NB534_564 := n15_; have NB564_534 := n16_; have NB538_564 := n17_; have NB564_538 := n18_; clear n5_ n6_ n7_ n8_ n9_ n10_ n11_ n12_ n13_ n14_ n15_ n16_ n17_ n18_; clear hb hbox hg; have hnb554 := NB564_518.out; have hnc554 := NB518_564.out; have hnb555 := NB564_522.out; have hnc555 := NB522_564.out; have hnb556 := NB564_525.out; have hnc556 := NB525_564.out; have hnb557 := NB564_534.out; have hnc557 := NB534_564.out; have hnb558 := NB564_538.out; have hnc558 := NB538_564.out; have hcz559_0 : w553.cell? ⟨gb564, 0, none⟩ = some (.int .i64 0) := (blk_cell BK564.out 0).trans rfl; have hcz559_1 : w553.cell? ⟨gb564, 1, none⟩ = some (.int .i64 0) := (blk_cell BK564.out 1).trans rfl; have hfz559_0 := blk_frozen BK564.out 0; have hfz559_1 := blk_frozen BK564.out 1))
               (try simp only [Act.put, List.setIfInBounds_toArray, List.set_cons_zero, List.set_cons_succ])
               go_cut [634] from 1 to 0 (fun v634 wc => ∃ (kq : Nat) (x634_550 : Bool), v634 = .bool x634_550 ∧ Aside0 (j18 kq t530 t533 x634_550 t531 t532 = some r) ∧ Aside0 (kq ≤ kj493) ∧ Aside0 (wc.heap[gb518]? = some (.cells #[.int .i64 t515, .int .i64 t516] 100 (0, 0))) ∧ Aside0 (wc.heap[gb522]? = some (.cells #[.int .i64 t519, .int .i64 t520] 100 (0, 0))) ∧ Aside0 (wc.heap[gb525]? = some (.cells #[.int .i64 t523, .int .i64 t524] 100 (0, 0))) ∧ Aside0 (wc.heap[gb534]? = some (.cells #[.int .i64 t531, .int .i64 t532] 100 (0, 0))) ∧ Aside0 (wc.heap[gb538]? = some (.cells #[.int .i64 t535, .int .i64 t536] 100 (0, 0))) ∧ Aside0 (wc.heap[gb564]? = some (.cells #[.int .i64 t561, .int .i64 t562] 100 (0, 0))) ∧ Aside0 (Below w.heap.size w wc))
               case first => as_aux_lemma =>
                have H := HC551.out
                clear HC551
                by_cases c560 : t563 = true; rotate_left
                ·replace c560 := Bool.eq_false_iff.mpr c560
                 subst c560
                 have H1 : (j18 kj493 t530 t533 true t531 t532) = some r := by rw [if_neg (show ¬ (false = true) by decide)] at H; exact H
                 clear H
                 have H := H1
                 exact (laws_FnIndexesMoved.j18_no _ _ _ _ _ _ hrT H).elim
                subst c560
                rw [if_pos rfl] at H
                have H' := Az_ H
                clear H
                have hnb561 := NB564_518.out
                have hnc561 := NB518_564.out
                have hnb562 := NB564_522.out
                have hnc562 := NB522_564.out
                have hnb563 := NB564_525.out
                have hnc563 := NB525_564.out
                have hnb564 := NB564_534.out
                have hnc564 := NB534_564.out
                have hnb565 := NB564_538.out
                have hnc565 := NB538_564.out
                have hcz566_0 : w553.cell? ⟨gb564, 0, none⟩ = some (.int .i64 0) := (blk_cell BK564.out 0).trans rfl
                have hcz566_1 : w553.cell? ⟨gb564, 1, none⟩ = some (.int .i64 0) := (blk_cell BK564.out 1).trans rfl
                have hfz566_0 := blk_frozen BK564.out 0
                have hfz566_1 := blk_frozen BK564.out 1
                have hnb567 := NB525_518.out
                have hnc567 := NB518_525.out
                have hnb568 := NB525_522.out
                have hnc568 := NB522_525.out
                have hnb569 := NB525_534.out
                have hnc569 := NB534_525.out
                have hnb570 := NB525_538.out
                have hnc570 := NB538_525.out
                have hcz571_0 : w553.cell? ⟨gb525, 0, none⟩ = some (.int .i64 t523) := (blk_cell BK525.out 0).trans rfl
                have hcz571_1 : w553.cell? ⟨gb525, 1, none⟩ = some (.int .i64 t524) := (blk_cell BK525.out 1).trans rfl
                have hfz571_0 := blk_frozen BK525.out 0
                have hfz571_1 := blk_frozen BK525.out 1
                go_wp2
                go_meet
                case rel => exact ⟨_, ((!(t561 == t523) || (!(t562 == t524)))), qaz_, H', ⟨by have := HJ13.out; have := HJ108.out; have := HJ148.out; have := HJ180.out; have := HJ221.out; have := HJ427.out; have := HJ493.out; first | omega | exact Nat.le_refl _⟩, ⟨by (with_reducible repeat (first | refine knz_ ?_ _ | refine kdz_ ?_ | refine kaz_ ?_ _)); refine blk_far ?_ NB518_564.out _; (with_reducible repeat (first | refine knz_ ?_ _ | refine kdz_ ?_ | refine kaz_ ?_ _)); refine blk_far ?_ NB518_564.out _; (with_reducible repeat (first | refine knz_ ?_ _ | refine kdz_ ?_ | refine kaz_ ?_ _)); exact BK518.out⟩, ⟨by (with_reducible repeat (first | refine knz_ ?_ _ | refine kdz_ ?_ | refine kaz_ ?_ _)); refine blk_far ?_ NB522_564.out _; (with_reducible repeat (first | refine knz_ ?_ _ | refine kdz_ ?_ | refine kaz_ ?_ _)); refine blk_far ?_ NB522_564.out _; (with_reducible repeat (first | refine knz_ ?_ _ | refine kdz_ ?_ | refine kaz_ ?_ _)); exact BK522.out⟩, ⟨by (with_reducible repeat (first | refine knz_ ?_ _ | refine kdz_ ?_ | refine kaz_ ?_ _)); refine blk_far ?_ NB525_564.out _; (with_reducible repeat (first | refine knz_ ?_ _ | refine kdz_ ?_ | refine kaz_ ?_ _)); refine blk_far ?_ NB525_564.out _; (with_reducible repeat (first | refine knz_ ?_ _ | refine kdz_ ?_ | refine kaz_ ?_ _)); exact BK525.out⟩, ⟨by (with_reducible repeat (first | refine knz_ ?_ _ | refine kdz_ ?_ | refine kaz_ ?_ _)); refine blk_far ?_ NB534_564.out _; (with_reducible repeat (first | refine knz_ ?_ _ | refine kdz_ ?_ | refine kaz_ ?_ _)); refine blk_far ?_ NB534_564.out _; (with_reducible repeat (first | refine knz_ ?_ _ | refine kdz_ ?_ | refine kaz_ ?_ _)); exact BK534.out⟩, ⟨by (with_reducible repeat (first | refine knz_ ?_ _ | refine kdz_ ?_ | refine kaz_ ?_ _)); refine blk_far ?_ NB538_564.out _; (with_reducible repeat (first | refine knz_ ?_ _ | refine kdz_ ?_ | refine kaz_ ?_ _)); refine blk_far ?_ NB538_564.out _; (with_reducible repeat (first | refine knz_ ?_ _ | refine kdz_ ?_ | refine kaz_ ?_ _)); exact BK538.out⟩, ⟨by (with_reducible repeat (first | refine knz_ ?_ _ | refine kdz_ ?_ | refine kaz_ ?_ _)); refine blk_put (cs := #[.int .i64 t561, .int .i64 0]) ?_ 1 _ rfl; (with_reducible repeat (first | refine knz_ ?_ _ | refine kdz_ ?_ | refine kaz_ ?_ _)); refine blk_put (cs := #[.int .i64 0, .int .i64 0]) ?_ 0 _ rfl; (with_reducible repeat (first | refine knz_ ?_ _ | refine kdz_ ?_ | refine kaz_ ?_ _)); exact BK564.out⟩, ⟨w79_⟩⟩
               case rest => as_aux_lemma =>
                clear HC551
                clear hcz559_0 hcz559_1 hfz559_0 hfz559_1
                obtain ⟨kq, x634_550, rfl, HA, HJ550, BK518, BK522, BK525, BK534, BK538, BK564, HB⟩ := hcut
                cases kq with
                | zero => exact absurd HA.out (by simp [j18])
                | succ kj550 =>
                 have H := HA.out
                 clear HA
                 simp only [j18] at H
                 by_cases c572 : x634_550 = true
                 ·subst c572
                  rw [if_pos rfl] at H
                  exact absurd ((Option.some.inj H).trans hrT) (by decide)
                 replace c572 := Bool.eq_false_iff.mpr c572
                 subst c572
                 rw [if_neg nfz_] at H
                 by_cases c573 : t533 = true; rotate_left
                 ·replace c573 := Bool.eq_false_iff.mpr c573
                  subst c573
                  rw [if_neg nfz_] at H
                  obtain rfl := Option.some.inj H; clear hrT
                  go_wp2
                  go_ret
                  exact ⟨w116_, w79_⟩
                 subst c573
                 rw [if_pos rfl] at H
                 replace H := bqz_ H; obtain ⟨⟨t565, t566⟩, A574, H⟩ := H
                 replace H : (if t566 = true then (some (t565.toList == t530.toList)) else (some false)) = some r := H
                 by_cases c575 : t566 = true; rotate_left
                 ·replace c575 := Bool.eq_false_iff.mpr c575
                  subst c575
                  rw [if_neg nfz_] at H
                  exact absurd ((Option.some.inj H).trans hrT) (by decide)
                 subst c575
                 rw [if_pos rfl] at H
                 obtain rfl := Option.some.inj H; clear hrT
                 have hnb576 := NB534_518.out
                 have hnc576 := NB518_534.out
                 have hnb577 := NB534_522.out
                 have hnc577 := NB522_534.out
                 have hnb578 := NB534_525.out
                 have hnc578 := NB525_534.out
                 have hnb579 := NB534_538.out
                 have hnc579 := NB538_534.out
                 have hnb580 := NB534_564.out
                 have hnc580 := NB564_534.out
                 have hcz581_0 : wc.cell? ⟨gb534, 0, none⟩ = some (.int .i64 t531) := (blk_cell BK534.out 0).trans rfl
                 have hcz581_1 : wc.cell? ⟨gb534, 1, none⟩ = some (.int .i64 t532) := (blk_cell BK534.out 1).trans rfl
                 have hfz581_0 := blk_frozen BK534.out 0
                 have hfz581_1 := blk_frozen BK534.out 1
                 go_wp2_with (first | (go_at_call 86; (with_reducible refine (impl_ShortRange.calls kj550 t531 t532 t565 true _ (libW_below HTAB.out (w79_)) A574.out).mono ?_); rintro e w582 ⟨rfl, hb⟩; have n6_ := Az_ (btz_ (w79_) hb); clear HB; replace BK518 := Az_ (ukbz_ BK518.out hb); replace BK522 := Az_ (ukbz_ BK522.out hb); replace BK525 := Az_ (ukbz_ BK525.out hb); replace BK534 := Az_ (ukbz_ BK534.out hb); replace BK538 := Az_ (ukbz_ BK538.out hb); replace BK564 := Az_ (ukbz_ BK564.out hb); have HB := n6_; clear n6_; (try clear hb)))
                 go_ret
                 exact ⟨w116_, w79_⟩
end Go.Proofs.YtppbpefehpbejaaDoor.P
