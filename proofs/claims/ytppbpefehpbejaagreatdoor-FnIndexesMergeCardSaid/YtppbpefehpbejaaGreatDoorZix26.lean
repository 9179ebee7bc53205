/- Lean functions with the answers of the program's Go functions, and for each the proof that the Go code comes to these answers; no condition. -/
import Derived.Test.YtppbpefehpbejaaGreatDoorZix25
import Derived.Test.YtppbpefehpbejaaGreatDoorZix21
import Derived.Test.YtppbpefehpbejaaGreatDoorZix22
import Derived.Test.YtppbpefehpbejaaGreatDoorZix23
import Derived.Test.YtppbpefehpbejaaGreatDoorZix24
import Derived.Test.YtppbpefehpbejaaGreatDoorZix0
section
namespace Go.Proofs.YtppbpefehpbejaaGreatDoor.P
open Go.RowKit Go.Proofs.YtppbpefehpbejaaGreatDoorW.PrintWords Go.Proofs.YtppbpefehpbejaaGreatDoorW.PrintLast Go.Proofs.YtppbpefehpbejaaGreatDoorW.PrintMore
attribute [local go_sem] max2_int min2_int max_two min_two max_three min_three max_four min_four   -- for this text's walks alone
set_option linter.unusedVariables false
set_option linter.unusedSimpArgs false

set_option maxHeartbeats 8000000 in
set_option maxRecDepth 100000 in
theorem laws_FnIndexesMerge.calls (k : Nat) (A0 : Option Addr) (c0 : Nat) (l0 : List Int) (A1 : Option Addr) (c1 : Nat) (l1 : List Int) (r : Bool) (w : World) (hT : LibW w) (hr0 : Kd.C (Kd.int .u8) w A0 l0.length l0) (hc0 : l0.length ≤ c0) (hr1 : Kd.C (Kd.int .u8) w A1 l1.length l1) (hc1 : l1.length ≤ c1) (h : laws_FnIndexesMerge.f k l0 l1 = some r) (hrT : r = true) :
  Calls Tryz.prog 4 #[.slice A0 l0.length c0, .slice A1 l1.length c1] w fun e w' => e = .returned (.bool r) ∧ Below w.heap.size w w' := by
 have HTAB := Az_ hT
 clear hT
 have hu69 := Tryz.underlying69
 have HR0 := Az_ hr0
 have HC0 := Az_ hc0
 clear hr0 hc0
 have HR1 := Az_ hr1
 have HC1 := Az_ hc1
 clear hr1 hc1
 have HB := Az_ (Below.refl w.heap.size w)
 have H : ((laws_big.f l0 l1).bind fun t470 => (if t470 = true then (some true) else ((spec_DrawUnionRanges.f k l0).bind fun bt471 => ((impl_UnionRanges.f k bt471.1 bt471.2).bind fun bt477 => ((spec_UnionRanges.f k bt471.1 bt471.2).bind fun bt481 => ((impl_CommonRanges.f k bt471.1 bt471.2).bind fun bt485 => ((spec_CommonRanges.f k bt471.1 bt471.2).bind fun bt489 => ((impl_WithoutRanges.f k bt471.1 bt471.2).bind fun bt493 => ((spec_WithoutRanges.f k bt471.1 bt471.2).bind fun bt497 => (if (bt477.2 != bt481.2) = true then (j0 k l1 bt471.1 bt471.2 bt477.1 bt477.2 bt485.1 bt493.1 true) else ((laws_fRanges.f k bt477.1 bt481.1).bind fun t501 => (if t501 = true then (if (bt485.2 != bt489.2) = true then (j0 k l1 bt471.1 bt471.2 bt477.1 bt477.2 bt485.1 bt493.1 true) else ((laws_fRanges.f k bt485.1 bt489.1).bind fun t502 => (if t502 = true then (if (bt493.2 != bt497.2) = true then (j0 k l1 bt471.1 bt471.2 bt477.1 bt477.2 bt485.1 bt493.1 true) else ((laws_fRanges.f k bt493.1 bt497.1).bind fun t503 => (if t503 = true then (if (bt485.2 != bt477.2) = true then (j0 k l1 bt471.1 bt471.2 bt477.1 bt477.2 bt485.1 bt493.1 true) else (j0 k l1 bt471.1 bt471.2 bt477.1 bt477.2 bt485.1 bt493.1 (bt493.2 != bt477.2))) else (j0 k l1 bt471.1 bt471.2 bt477.1 bt477.2 bt485.1 bt493.1 true)))) else (j0 k l1 bt471.1 bt471.2 bt477.1 bt477.2 bt485.1 bt493.1 true)))) else (j0 k l1 bt471.1 bt471.2 bt477.1 bt477.2 bt485.1 bt493.1 true))))))))))))) = some r := h
 clear h
 replace H := bqz_ H; obtain ⟨t470, A3, H⟩ := H
 replace H : (if t470 = true then (some true) else ((spec_DrawUnionRanges.f k l0).bind fun bt471 => ((impl_UnionRanges.f k bt471.1 bt471.2).bind fun bt477 => ((spec_UnionRanges.f k bt471.1 bt471.2).bind fun bt481 => ((impl_CommonRanges.f k bt471.1 bt471.2).bind fun bt485 => ((spec_CommonRanges.f k bt471.1 bt471.2).bind fun bt489 => ((impl_WithoutRanges.f k bt471.1 bt471.2).bind fun bt493 => ((spec_WithoutRanges.f k bt471.1 bt471.2).bind fun bt497 => (if (bt477.2 != bt481.2) = true then (j0 k l1 bt471.1 bt471.2 bt477.1 bt477.2 bt485.1 bt493.1 true) else ((laws_fRanges.f k bt477.1 bt481.1).bind fun t501 => (if t501 = true then (if (bt485.2 != bt489.2) = true then (j0 k l1 bt471.1 bt471.2 bt477.1 bt477.2 bt485.1 bt493.1 true) else ((laws_fRanges.f k bt485.1 bt489.1).bind fun t502 => (if t502 = true then (if (bt493.2 != bt497.2) = true then (j0 k l1 bt471.1 bt471.2 bt477.1 bt477.2 bt485.1 bt493.1 true) else ((laws_fRanges.f k bt493.1 bt497.1).bind fun t503 => (if t503 = true then (if (bt485.2 != bt477.2) = true then (j0 k l1 bt471.1 bt471.2 bt477.1 bt477.2 bt485.1 bt493.1 true) else (j0 k l1 bt471.1 bt471.2 bt477.1 bt477.2 bt485.1 bt493.1 (bt493.2 != bt477.2))) else (j0 k l1 bt471.1 bt471.2 bt477.1 bt477.2 bt485.1 bt493.1 true)))) else (j0 k l1 bt471.1 bt471.2 bt477.1 bt477.2 bt485.1 bt493.1 true)))) else (j0 k l1 bt471.1 bt471.2 bt477.1 bt477.2 bt485.1 bt493.1 true)))))))))))) = some r := H
 by_cases c4 : t470 = true
 ·subst c4
  rw [if_pos rfl] at H
  obtain rfl := Option.some.inj H; clear hrT
  go_enter Tryz.func4, Tryz.ntmps4
  (try simp only [List.append_eq, List.append, List.cons_append, List.nil_append])
  go_wp2_with (first | ((with_reducible refine gate_callee (f := 6) rfl ?_); refine goesL_ (some 90) rfl rfl Tryz.func6 (w110_) rfl #[.slice A0 l0.length c0, .slice A1 l1.length c1] rfl maz_ ?_; (with_reducible refine (laws_big.calls _ _ l0 _ _ l1 true _ ?side1 ?side2 ?side3 ?side4 A3.out).mono ?_); (case side1 => exact ucz_ (HR0.out)); (case side2 => exact HC0.out); (case side3 => exact ucz_ (HR1.out)); (case side4 => exact HC1.out); rintro e w' ⟨rfl, ⟨nd, rfl⟩⟩; refine ⟨_, rfl, ?_⟩))
  go_ret
  exact ⟨w61_, w109_⟩
 ·replace c4 := Bool.eq_false_iff.mpr c4
  subst c4
  rw [if_neg nfz_] at H
  replace H := bqz_ H; obtain ⟨⟨t471, t472⟩, A5, H⟩ := H
  replace H := bqz_ H; obtain ⟨⟨t477, t478⟩, A6, H⟩ := H
  replace H := bqz_ H; obtain ⟨⟨t481, t482⟩, A7, H⟩ := H
  replace H := bqz_ H; obtain ⟨⟨t485, t486⟩, A8, H⟩ := H
  replace H := bqz_ H; obtain ⟨⟨t489, t490⟩, A9, H⟩ := H
  replace H := bqz_ H; obtain ⟨⟨t493, t494⟩, A10, H⟩ := H
  replace H := bqz_ H; obtain ⟨⟨t497, t498⟩, A11, H⟩ := H
  replace H : (if (t478 != t482) = true then (j0 k l1 t471 t472 t477 t478 t485 t493 true) else ((laws_fRanges.f k t477 t481).bind fun t501 => (if t501 = true then (if (t486 != t490) = true then (j0 k l1 t471 t472 t477 t478 t485 t493 true) else ((laws_fRanges.f k t485 t489).bind fun t502 => (if t502 = true then (if (t494 != t498) = true then (j0 k l1 t471 t472 t477 t478 t485 t493 true) else ((laws_fRanges.f k t493 t497).bind fun t503 => (if t503 = true then (if (t486 != t478) = true then (j0 k l1 t471 t472 t477 t478 t485 t493 true) else (j0 k l1 t471 t472 t477 t478 t485 t493 (t494 != t478))) else (j0 k l1 t471 t472 t477 t478 t485 t493 true)))) else (j0 k l1 t471 t472 t477 t478 t485 t493 true)))) else (j0 k l1 t471 t472 t477 t478 t485 t493 true)))) = some r := H
  have HC12 := Az_ H
  clear H
  go_enter Tryz.func4, Tryz.ntmps4
  (try simp only [List.append_eq, List.append, List.cons_append, List.nil_append])
  go_upto_region 10 with (first | ((with_reducible refine gate_callee (f := 6) rfl ?_); refine goesL_ (some 90) rfl rfl Tryz.func6 (w110_) rfl #[.slice A0 l0.length c0, .slice A1 l1.length c1] rfl maz_ ?_; (with_reducible refine (laws_big.calls _ _ l0 _ _ l1 false _ ?side1 ?side2 ?side3 ?side4 A3.out).mono ?_); (case side1 => exact ucz_ (HR0.out)); (case side2 => exact HC0.out); (case side3 => exact ucz_ (HR1.out)); (case side4 => exact HC1.out); rintro e w' ⟨rfl, ⟨nd, rfl⟩⟩; refine ⟨_, rfl, ?_⟩) | ((with_reducible refine gate_callee (f := 34) rfl ?_); refine goesL_ (some 93) rfl rfl Tryz.func34 (w110_) rfl #[.slice A0 l0.length c0] rfl maz_ ?_; (with_reducible refine (spec_DrawUnionRanges.calls k _ _ l0 t471 t472 _ ?side1 ?side2 A5.out).mono ?_); (case side1 => exact ucz_ (HR0.out)); (case side2 => exact HC0.out); rintro e w13 ⟨v473, v475, rfl, ho0, ho1, hb⟩; refine ⟨_, rfl, ?_⟩; have HO474 := Az_ (Kd.R_lower ho0 (below_size (ubz_ HB.out))); have HO476 := Az_ (Kd.R_lower ho1 (below_size (ubz_ HB.out))); replace HB := Az_ (btz_ (ubz_ HB.out) hb); (try clear hb); (try clear ho0); (try clear ho1); obtain ⟨Ao14, co14, eo14⟩ := Kd.R_slice HO474.out; subst eo14; obtain ⟨Ao15, co15, eo15⟩ := Kd.R_slice HO476.out; subst eo15) | ((with_reducible refine gate_callee (f := 35) rfl ?_); refine goesL_ (some 99) rfl rfl Tryz.func35 (w110_) rfl #[.slice Ao14 t471.length co14, .slice Ao15 t472.length co15] rfl maz_ ?_; (with_reducible refine (impl_UnionRanges.calls k _ _ t471 _ _ t472 t477 t478 _ ?side1 ?side2 ?side3 ?side4 A6.out).mono ?_); (case side1 => exact ucz_ ((Kd.R_reads' HO474.out).2.2)); (case side2 => exact (Kd.R_reads' HO474.out).2.1); (case side3 => exact ucz_ ((Kd.R_reads' HO476.out).2.2)); (case side4 => exact (Kd.R_reads' HO476.out).2.1); rintro e w16 ⟨v479, rfl, ho0, hb⟩; refine ⟨_, rfl, ?_⟩; have HO480 := Az_ (Kd.R_lower (Kd.R_new' (Kd.R_new' ho0 (Kd.R_lt (w87_))) (Kd.R_lt (w88_))) (below_size (ubz_ HB.out))); replace HO474 := Az_ (rez_ (w87_) (Kd.R_base ho0) hb); replace HO476 := Az_ (rez_ (w88_) (Kd.R_base ho0) hb); replace HB := Az_ (btz_ (ubz_ HB.out) hb); (try clear hb); (try clear ho0)) | ((with_reducible refine gate_callee (f := 36) rfl ?_); refine goesL_ (some 105) rfl rfl Tryz.func36 (w110_) rfl #[.slice Ao14 t471.length co14, .slice Ao15 t472.length co15] rfl maz_ ?_; (with_reducible refine (spec_UnionRanges.calls k _ _ t471 _ _ t472 t481 t482 _ ?side1 ?side2 ?side3 ?side4 A7.out).mono ?_); (case side1 => exact ucz_ ((Kd.R_reads' HO474.out).2.2)); (case side2 => exact (Kd.R_reads' HO474.out).2.1); (case side3 => exact ucz_ ((Kd.R_reads' HO476.out).2.2)); (case side4 => exact (Kd.R_reads' HO476.out).2.1); rintro e w17 ⟨v483, rfl, ho0, hb⟩; refine ⟨_, rfl, ?_⟩; have HO484 := Az_ (Kd.R_lower (Kd.R_new' (Kd.R_new' (Kd.R_new' ho0 (Kd.R_lt (w87_))) (Kd.R_lt (w88_))) (Kd.R_lt (w89_))) (below_size (ubz_ HB.out))); replace HO474 := Az_ (rez_ (w87_) (Kd.R_base ho0) hb); replace HO476 := Az_ (rez_ (w88_) (Kd.R_base ho0) hb); replace HO480 := Az_ (rez_ (w89_) (Kd.R_base ho0) hb); replace HB := Az_ (btz_ (ubz_ HB.out) hb); (try clear hb); (try clear ho0)) | ((with_reducible refine gate_callee (f := 37) rfl ?_); refine goesL_ (some 111) rfl rfl Tryz.func37 (w110_) rfl #[.slice Ao14 t471.length co14, .slice Ao15 t472.length co15] rfl maz_ ?_; (with_reducible refine (impl_CommonRanges.calls k _ _ t471 _ _ t472 t485 t486 _ ?side1 ?side2 ?side3 ?side4 A8.out).mono ?_); (case side1 => exact ucz_ ((Kd.R_reads' HO474.out).2.2)); (case side2 => exact (Kd.R_reads' HO474.out).2.1); (case side3 => exact ucz_ ((Kd.R_reads' HO476.out).2.2)); (case side4 => exact (Kd.R_reads' HO476.out).2.1); rintro e w18 ⟨v487, rfl, ho0, hb⟩; refine ⟨_, rfl, ?_⟩; have HO488 := Az_ (Kd.R_lower (Kd.R_new' (Kd.R_new' (Kd.R_new' (Kd.R_new' ho0 (Kd.R_lt (w87_))) (Kd.R_lt (w88_))) (Kd.R_lt (w89_))) (Kd.R_lt (w90_))) (below_size (ubz_ HB.out))); replace HO474 := Az_ (rez_ (w87_) (Kd.R_base ho0) hb); replace HO476 := Az_ (rez_ (w88_) (Kd.R_base ho0) hb); replace HO480 := Az_ (rez_ (w89_) (Kd.R_base ho0) hb); replace HO484 := Az_ (rez_ (w90_) (Kd.R_base ho0) hb); replace HB := Az_ (btz_ (ubz_ HB.out) hb); (try clear hb); (try clear ho0)) | ((with_reducible refine gate_callee (f := 38) rfl ?_); refine goesL_ (some 117) rfl rfl Tryz.func38 (w110_) rfl #[.slice Ao14 t471.length co14, .slice Ao15 t472.length co15] rfl maz_ ?_; (with_reducible refine (spec_CommonRanges.calls k _ _ t471 _ _ t472 t489 t490 _ ?side1 ?side2 ?side3 ?side4 A9.out).mono ?_); (case side1 => exact ucz_ ((Kd.R_reads' HO474.out).2.2)); (case side2 => exact (Kd.R_reads' HO474.out).2.1); (case side3 => exact ucz_ ((Kd.R_reads' HO476.out).2.2)); (case side4 => exact (Kd.R_reads' HO476.out).2.1); rintro e w19 ⟨v491, rfl, ho0, hb⟩; refine ⟨_, rfl, ?_⟩; have HO492 := Az_ (Kd.R_lower (Kd.R_new' (Kd.R_new' (Kd.R_new' (Kd.R_new' (Kd.R_new' ho0 (Kd.R_lt (w87_))) (Kd.R_lt (w88_))) (Kd.R_lt (w89_))) (Kd.R_lt (w90_))) (Kd.R_lt (by exact urz_ HO488.out))) (below_size (ubz_ HB.out))); replace HO474 := Az_ (rez_ (w87_) (Kd.R_base ho0) hb); replace HO476 := Az_ (rez_ (w88_) (Kd.R_base ho0) hb); replace HO480 := Az_ (rez_ (w89_) (Kd.R_base ho0) hb); replace HO484 := Az_ (rez_ (w90_) (Kd.R_base ho0) hb); replace HO488 := Az_ (rez_ (by exact urz_ HO488.out) (Kd.R_base ho0) hb); replace HB := Az_ (btz_ (ubz_ HB.out) hb); (try clear hb); (try clear ho0)) | ((with_reducible refine gate_callee (f := 39) rfl ?_); refine goesL_ (some 123) rfl rfl Tryz.func39 (w110_) rfl #[.slice Ao14 t471.length co14, .slice Ao15 t472.length co15] rfl maz_ ?_; (with_reducible refine (impl_WithoutRanges.calls k _ _ t471 _ _ t472 t493 t494 _ ?side1 ?side2 ?side3 ?side4 A10.out).mono ?_); (case side1 => exact ucz_ ((Kd.R_reads' HO474.out).2.2)); (case side2 => exact (Kd.R_reads' HO474.out).2.1); (case side3 => exact ucz_ ((Kd.R_reads' HO476.out).2.2)); (case side4 => exact (Kd.R_reads' HO476.out).2.1); rintro e w20 ⟨v495, rfl, ho0, hb⟩; refine ⟨_, rfl, ?_⟩; have HO496 := Az_ (Kd.R_lower (Kd.R_new' (Kd.R_new' (Kd.R_new' (Kd.R_new' (Kd.R_new' (Kd.R_new' ho0 (Kd.R_lt (w87_))) (Kd.R_lt (w88_))) (Kd.R_lt (w89_))) (Kd.R_lt (w90_))) (Kd.R_lt (by exact urz_ HO488.out))) (Kd.R_lt (by exact urz_ HO492.out))) (below_size (ubz_ HB.out))); replace HO474 := Az_ (rez_ (w87_) (Kd.R_base ho0) hb); replace HO476 := Az_ (rez_ (w88_) (Kd.R_base ho0) hb); replace HO480 := Az_ (rez_ (w89_) (Kd.R_base ho0) hb); replace HO484 := Az_ (rez_ (w90_) (Kd.R_base ho0) hb); replace HO488 := Az_ (rez_ (by exact urz_ HO488.out) (Kd.R_base ho0) hb); replace HO492 := Az_ (rez_ (by exact urz_ HO492.out) (Kd.R_base ho0) hb); replace HB := Az_ (btz_ (ubz_ HB.out) hb); (try clear hb); (try clear ho0)) | ((with_reducible refine gate_callee (f := 40) rfl ?_); refine goesL_ (some 129) rfl rfl Tryz.func40 (w110_) rfl #[.slice Ao14 t471.length co14, .slice Ao15 t472.length co15] rfl maz_ ?_; (with_reducible refine (spec_WithoutRanges.calls k _ _ t471 _ _ t472 t497 t498 _ ?side1 ?side2 ?side3 ?side4 A11.out).mono ?_); (case side1 => exact ucz_ ((Kd.R_reads' HO474.out).2.2)); (case side2 => exact (Kd.R_reads' HO474.out).2.1); (case side3 => exact ucz_ ((Kd.R_reads' HO476.out).2.2)); (case side4 => exact (Kd.R_reads' HO476.out).2.1); rintro e w21 ⟨v499, rfl, ho0, hb⟩; refine ⟨_, rfl, ?_⟩; have HO500 := Az_ (Kd.R_lower (Kd.R_new' (Kd.R_new' (Kd.R_new' (Kd.R_new' (Kd.R_new' (Kd.R_new' (Kd.R_new' ho0 (Kd.R_lt (w87_))) (Kd.R_lt (w88_))) (Kd.R_lt (w89_))) (Kd.R_lt (w90_))) (Kd.R_lt (by exact urz_ HO488.out))) (Kd.R_lt (by exact urz_ HO492.out))) (Kd.R_lt (by exact urz_ HO496.out))) (below_size (ubz_ HB.out))); replace HO474 := Az_ (rez_ (w87_) (Kd.R_base ho0) hb); replace HO476 := Az_ (rez_ (w88_) (Kd.R_base ho0) hb); replace HO480 := Az_ (rez_ (w89_) (Kd.R_base ho0) hb); replace HO484 := Az_ (rez_ (w90_) (Kd.R_base ho0) hb); replace HO488 := Az_ (rez_ (by exact urz_ HO488.out) (Kd.R_base ho0) hb); replace HO492 := Az_ (rez_ (by exact urz_ HO492.out) (Kd.R_base ho0) hb); replace HO496 := Az_ (rez_ (by exact urz_ HO496.out) (Kd.R_base ho0) hb); replace HB := Az_ (btz_ (ubz_ HB.out) hb); (try clear hb); (try clear ho0)))
  (try simp only [Act.put, List.setIfInBounds_toArray, List.set_cons_zero, List.set_cons_succ])
  go_cut [172] from 1 to 0 (fun v172 wc => ∃ (kq : Nat) (x172_11 : Bool), v172 = .bool x172_11 ∧ Aside0 (j0 kq l1 t471 t472 t477 t478 t485 t493 x172_11 = some r) ∧ Aside0 (kq ≤ k) ∧ Aside0 (Kd.R k69 69 wc w.heap.size (fun k_ => some k_ ≠ ((.slice Ao15 t472.length co15) : Value).ownBlock ∧ some k_ ≠ (v479 : Value).ownBlock ∧ some k_ ≠ (v487 : Value).ownBlock ∧ some k_ ≠ (v495 : Value).ownBlock) (.slice Ao14 t471.length co14) t471) ∧ Aside0 (Kd.R k69 69 wc w.heap.size (fun k_ => some k_ ≠ ((.slice Ao14 t471.length co14) : Value).ownBlock ∧ some k_ ≠ (v479 : Value).ownBlock ∧ some k_ ≠ (v487 : Value).ownBlock ∧ some k_ ≠ (v495 : Value).ownBlock) (.slice Ao15 t472.length co15) t472) ∧ Aside0 (Kd.R k69 69 wc w.heap.size (fun k_ => some k_ ≠ ((.slice Ao14 t471.length co14) : Value).ownBlock ∧ some k_ ≠ ((.slice Ao15 t472.length co15) : Value).ownBlock ∧ some k_ ≠ (v487 : Value).ownBlock ∧ some k_ ≠ (v495 : Value).ownBlock) v479 t477) ∧ Aside0 (Kd.R k69 69 wc w.heap.size (fun k_ => some k_ ≠ ((.slice Ao14 t471.length co14) : Value).ownBlock ∧ some k_ ≠ ((.slice Ao15 t472.length co15) : Value).ownBlock ∧ some k_ ≠ (v479 : Value).ownBlock ∧ some k_ ≠ (v495 : Value).ownBlock) v487 t485) ∧ Aside0 (Kd.R k69 69 wc w.heap.size (fun k_ => some k_ ≠ ((.slice Ao14 t471.length co14) : Value).ownBlock ∧ some k_ ≠ ((.slice Ao15 t472.length co15) : Value).ownBlock ∧ some k_ ≠ (v479 : Value).ownBlock ∧ some k_ ≠ (v487 : Value).ownBlock) v495 t493) ∧ Aside0 (Below w.heap.size w wc))
  case first => as_aux_lemma =>
   have H := HC12.out
   clear HC12
   by_cases c22 : (t478 != t482) = true
   ·rw [if_pos c22] at H
    exact (laws_FnIndexesMerge.j0_no _ _ _ _ _ _ _ _ _ hrT H).elim
   ·rw [if_neg c22] at H
    obtain rfl : t478 = t482 := by simpa using c22
    clear c22
    replace H := bqz_ H; obtain ⟨t501, A23, H⟩ := H
    replace H : (if t501 = true then (if (t486 != t490) = true then (j0 k l1 t471 t472 t477 t478 t485 t493 true) else ((laws_fRanges.f k t485 t489).bind fun t502 => (if t502 = true then (if (t494 != t498) = true then (j0 k l1 t471 t472 t477 t478 t485 t493 true) else ((laws_fRanges.f k t493 t497).bind fun t503 => (if t503 = true then (if (t486 != t478) = true then (j0 k l1 t471 t472 t477 t478 t485 t493 true) else (j0 k l1 t471 t472 t477 t478 t485 t493 (t494 != t478))) else (j0 k l1 t471 t472 t477 t478 t485 t493 true)))) else (j0 k l1 t471 t472 t477 t478 t485 t493 true)))) else (j0 k l1 t471 t472 t477 t478 t485 t493 true)) = some r := H
    by_cases c24 : t501 = true
    ·subst c24
     rw [if_pos rfl] at H
     by_cases c25 : (t486 != t490) = true
     ·rw [if_pos c25] at H
      exact (laws_FnIndexesMerge.j0_no _ _ _ _ _ _ _ _ _ hrT H).elim
     ·rw [if_neg c25] at H
      obtain rfl : t486 = t490 := by simpa using c25
      clear c25
      replace H := bqz_ H; obtain ⟨t502, A28, H⟩ := H
      replace H : (if t502 = true then (if (t494 != t498) = true then (j0 k l1 t471 t472 t477 t478 t485 t493 true) else ((laws_fRanges.f k t493 t497).bind fun t503 => (if t503 = true then (if (t486 != t478) = true then (j0 k l1 t471 t472 t477 t478 t485 t493 true) else (j0 k l1 t471 t472 t477 t478 t485 t493 (t494 != t478))) else (j0 k l1 t471 t472 t477 t478 t485 t493 true)))) else (j0 k l1 t471 t472 t477 t478 t485 t493 true)) = some r := H
      by_cases c29 : t502 = true
      ·subst c29
       rw [if_pos rfl] at H
       by_cases c30 : (t494 != t498) = true
       ·rw [if_pos c30] at H
        exact (laws_FnIndexesMerge.j0_no _ _ _ _ _ _ _ _ _ hrT H).elim
       ·rw [if_neg c30] at H
        obtain rfl : t494 = t498 := by simpa using c30
        clear c30
        replace H := bqz_ H; obtain ⟨t503, A35, H⟩ := H
        replace H : (if t503 = true then (if (t486 != t478) = true then (j0 k l1 t471 t472 t477 t478 t485 t493 true) else (j0 k l1 t471 t472 t477 t478 t485 t493 (t494 != t478))) else (j0 k l1 t471 t472 t477 t478 t485 t493 true)) = some r := H
        by_cases c36 : t503 = true
        ·subst c36
         rw [if_pos rfl] at H
         by_cases c37 : (t486 != t478) = true
         ·rw [if_pos c37] at H
          exact (laws_FnIndexesMerge.j0_no _ _ _ _ _ _ _ _ _ hrT H).elim
         ·rw [if_neg c37] at H
          obtain rfl : t486 = t478 := by simpa using c37
          clear c37
          have H' := Az_ H
          clear H
          obtain ⟨Ao44, co44, eo44⟩ := Kd.R_slice HO480.out
          subst eo44
          obtain ⟨Ao45, co45, eo45⟩ := Kd.R_slice HO484.out
          subst eo45
          go_wp2_with (first | (go_at_call 41; (with_reducible refine (laws_fRanges.calls k _ _ t477 _ _ t481 true _ ?side1 ?side2 ?side3 ?side4 A23.out).mono ?_); (case side1 => exact ucz_ ((Kd.R_reads' HO480.out).2.2)); (case side2 => exact (Kd.R_reads' HO480.out).2.1); (case side3 => exact ucz_ ((Kd.R_reads' HO484.out).2.2)); (case side4 => exact (Kd.R_reads' HO484.out).2.1); rintro e w' ⟨rfl, ⟨nd, rfl⟩⟩; obtain ⟨Ao46, co46, eo46⟩ := Kd.R_slice HO488.out; subst eo46; obtain ⟨Ao47, co47, eo47⟩ := Kd.R_slice HO492.out; subst eo47; clear A23) | (go_at_call 41; (with_reducible refine (laws_fRanges.calls k _ _ t485 _ _ t489 true _ ?side1 ?side2 ?side3 ?side4 A28.out).mono ?_); (case side1 => exact ucz_ ((Kd.R_reads' HO488.out).2.2)); (case side2 => exact (Kd.R_reads' HO488.out).2.1); (case side3 => exact ucz_ ((Kd.R_reads' HO492.out).2.2)); (case side4 => exact (Kd.R_reads' HO492.out).2.1); rintro e w' ⟨rfl, ⟨nd, rfl⟩⟩; obtain ⟨Ao48, co48, eo48⟩ := Kd.R_slice HO496.out; subst eo48; obtain ⟨Ao49, co49, eo49⟩ := Kd.R_slice HO500.out; subst eo49; clear A28) | (go_at_call 41; (with_reducible refine (laws_fRanges.calls k _ _ t493 _ _ t497 true _ ?side1 ?side2 ?side3 ?side4 A35.out).mono ?_); (case side1 => exact ucz_ ((Kd.R_reads' HO496.out).2.2)); (case side2 => exact (Kd.R_reads' HO496.out).2.1); (case side3 => exact ucz_ ((Kd.R_reads' HO500.out).2.2)); (case side4 => exact (Kd.R_reads' HO500.out).2.1); rintro e w' ⟨rfl, ⟨nd, rfl⟩⟩))
          go_meet
          case rel => exact ⟨_, ((t494 != t486)), qaz_, H', ⟨w81_⟩, ⟨by (with_reducible repeat (first | apply raz_ | apply rnz_ | apply rdz_)); exact Kd.R_mono HO474.out (fun _ hk => ⟨hk.1.1.1.1.1.1, ⟨hk.1.1.1.1.1.2, ⟨hk.1.1.1.2, hk.1.2⟩⟩⟩)⟩, ⟨by (with_reducible repeat (first | apply raz_ | apply rnz_ | apply rdz_)); exact Kd.R_mono HO476.out (fun _ hk => ⟨hk.1.1.1.1.1.1, ⟨hk.1.1.1.1.1.2, ⟨hk.1.1.1.2, hk.1.2⟩⟩⟩)⟩, ⟨by (with_reducible repeat (first | apply raz_ | apply rnz_ | apply rdz_)); exact Kd.R_mono HO480.out (fun _ hk => ⟨hk.1.1.1.1.1.1.2, ⟨hk.1.1.1.1.1.2, ⟨hk.1.1.1.2, hk.1.2⟩⟩⟩)⟩, ⟨by (with_reducible repeat (first | apply raz_ | apply rnz_ | apply rdz_)); exact Kd.R_mono HO488.out (fun _ hk => ⟨hk.1.1.1.1.1.1.2, ⟨hk.1.1.1.1.1.2, ⟨hk.1.1.1.1.2, hk.1.2⟩⟩⟩)⟩, ⟨by (with_reducible repeat (first | apply raz_ | apply rnz_ | apply rdz_)); exact Kd.R_mono HO496.out (fun _ hk => ⟨hk.1.1.1.1.1.1.2, ⟨hk.1.1.1.1.1.2, ⟨hk.1.1.1.1.2, hk.1.1.2⟩⟩⟩)⟩, ⟨w109_⟩⟩
        ·replace c36 := Bool.eq_false_iff.mpr c36
         subst c36
         have H1 : (j0 k l1 t471 t472 t477 t478 t485 t493 true) = some r := by rw [if_neg (show ¬ (false = true) by decide)] at H; exact H
         clear H
         have H := H1
         exact (laws_FnIndexesMerge.j0_no _ _ _ _ _ _ _ _ _ hrT H).elim
      ·replace c29 := Bool.eq_false_iff.mpr c29
       subst c29
       have H1 : (j0 k l1 t471 t472 t477 t478 t485 t493 true) = some r := by rw [if_neg (show ¬ (false = true) by decide)] at H; exact H
       clear H
       have H := H1
       exact (laws_FnIndexesMerge.j0_no _ _ _ _ _ _ _ _ _ hrT H).elim
    ·replace c24 := Bool.eq_false_iff.mpr c24
     subst c24
     have H1 : (j0 k l1 t471 t472 t477 t478 t485 t493 true) = some r := by rw [if_neg (show ¬ (false = true) by decide)] at H; exact H
     clear H
     have H := H1
     exact (laws_FnIndexesMerge.j0_no _ _ _ _ _ _ _ _ _ hrT H).elim
  case rest => as_aux_lemma =>
   clear HC12
   obtain ⟨kq, x172_11, rfl, HA, HJ11, HO_5, HO_6, HO_7, HO_11, HO_15, HB⟩ := hcut
   cases kq with
   | zero => exact absurd HA.out (by simp [j0])
   | succ kj11 =>
    have H := HA.out
    clear HA
    simp only [j0] at H
    by_cases c62 : x172_11 = true
    ·subst c62
     rw [if_pos rfl] at H
     exact absurd ((Option.some.inj H).trans hrT) (by decide)
    ·replace c62 := Bool.eq_false_iff.mpr c62
     subst c62
     rw [if_neg nfz_] at H
     have HC63 := Az_ H
     clear H
     go_upto_if 173 with (fail)
     go_cut [] from 1 to 0 (fun wc => ∃ (kq : Nat), Aside0 (j3 kq l1 = some r) ∧ Aside0 (kq ≤ kj11) ∧ Aside0 (Below w.heap.size w wc))
     case first => as_aux_lemma =>
      have H := HC63.out
      clear HC63
      by_cases c64 : t478 = true
      ·subst c64
       rw [if_pos rfl] at H
       replace H := bqz_ H; obtain ⟨⟨t504, t505⟩, A65, H⟩ := H
       replace H := bqz_ H; obtain ⟨⟨t506, t507⟩, A66, H⟩ := H
       replace H := bqz_ H; obtain ⟨⟨t508, t509⟩, A67, H⟩ := H
       replace H := bqz_ H; obtain ⟨⟨t510, t511⟩, A68, H⟩ := H
       replace H := bqz_ H; obtain ⟨⟨t512, t513⟩, A69, H⟩ := H
       replace H := bqz_ H; obtain ⟨⟨t514, t515⟩, A70, H⟩ := H
       replace H := bqz_ H; obtain ⟨⟨t518, t519⟩, A71, H⟩ := H
       replace H := bqz_ H; obtain ⟨⟨t522, t523⟩, A72, H⟩ := H
       replace H : ((impl_AreRanges.f kj11 t477).bind fun t526 => (if t526 = true then ((impl_AreRanges.f kj11 t485).bind fun t527 => (if t527 = true then ((impl_AreRanges.f kj11 t493).bind fun t528 => (if t528 = true then (if t505 = true then (if t507 = true then (if t509 = true then (if t511 = true then (if t513 = true then (if (wrap64 (t508 + t510)) = (wrap64 (t504 + t506)) then (if (wrap64 (t512 + t510)) = t504 then (if t515 = true then ((laws_fRanges.f kj11 t514 t477).bind fun t529 => (if t529 = true then (if t519 = true then ((laws_fRanges.f kj11 t518 t485).bind fun t530 => (if t530 = true then (if t523 = true then ((laws_fRanges.f kj11 t522 t471).bind fun t531 => (j1 kj11 l1 t471 t472 t477 t485 t493 (!t531))) else (j1 kj11 l1 t471 t472 t477 t485 t493 true)) else (j1 kj11 l1 t471 t472 t477 t485 t493 true))) else (j1 kj11 l1 t471 t472 t477 t485 t493 true)) else (j1 kj11 l1 t471 t472 t477 t485 t493 true))) else (j1 kj11 l1 t471 t472 t477 t485 t493 true)) else (j1 kj11 l1 t471 t472 t477 t485 t493 true)) else (j1 kj11 l1 t471 t472 t477 t485 t493 true)) else (j1 kj11 l1 t471 t472 t477 t485 t493 true)) else (j1 kj11 l1 t471 t472 t477 t485 t493 true)) else (j1 kj11 l1 t471 t472 t477 t485 t493 true)) else (j1 kj11 l1 t471 t472 t477 t485 t493 true)) else (j1 kj11 l1 t471 t472 t477 t485 t493 true)) else (j1 kj11 l1 t471 t472 t477 t485 t493 true))) else (j1 kj11 l1 t471 t472 t477 t485 t493 true))) else (j1 kj11 l1 t471 t472 t477 t485 t493 true))) = some r := H
       have HC73 := Az_ H
       clear H
       go_upto_region 21 with (first | ((with_reducible refine gate_callee (f := 42) rfl ?_); refine goesL_ (some 176) rfl rfl Tryz.func42 (w110_) rfl #[.slice Ao14 t471.length co14] rfl maz_ ?_; (with_reducible refine (impl_CountIndexed.calls kj11 _ _ t471 t504 t505 _ ?side1 ?side2 A65.out).mono ?_); (case side1 => exact ucz_ ((Kd.R_reads' HO_5.out).2.2)); (case side2 => exact (Kd.R_reads' HO_5.out).2.1); rintro e w74 ⟨rfl, hb⟩; refine ⟨_, rfl, ?_⟩; replace HO_5 := Az_ (Kd.R_below (w106_) hb); replace HO_6 := Az_ (Kd.R_below (w107_) hb); replace HO_7 := Az_ (Kd.R_below (w108_) hb); replace HO_11 := Az_ (Kd.R_below (w91_) hb); replace HO_15 := Az_ (Kd.R_below (w86_) hb); replace HB := Az_ (btz_ (ubz_ HB.out) hb); (try clear hb); clear A65) | ((with_reducible refine gate_callee (f := 42) rfl ?_); refine goesL_ (some 181) rfl rfl Tryz.func42 (w110_) rfl #[.slice Ao15 t472.length co15] rfl maz_ ?_; (with_reducible refine (impl_CountIndexed.calls kj11 _ _ t472 t506 t507 _ ?side1 ?side2 A66.out).mono ?_); (case side1 => exact ucz_ ((Kd.R_reads' HO_6.out).2.2)); (case side2 => exact (Kd.R_reads' HO_6.out).2.1); rintro e w75 ⟨rfl, hb⟩; refine ⟨_, rfl, ?_⟩; replace HO_5 := Az_ (Kd.R_below (w106_) hb); replace HO_6 := Az_ (Kd.R_below (w107_) hb); replace HO_7 := Az_ (Kd.R_below (w108_) hb); replace HO_11 := Az_ (Kd.R_below (w91_) hb); replace HO_15 := Az_ (Kd.R_below (w86_) hb); replace HB := Az_ (btz_ (ubz_ HB.out) hb); (try clear hb); obtain ⟨Ao76, co76, eo76⟩ := Kd.R_slice HO_7.out; subst eo76; clear A66) | ((with_reducible refine gate_callee (f := 42) rfl ?_); refine goesL_ (some 186) rfl rfl Tryz.func42 (w110_) rfl #[.slice Ao76 t477.length co76] rfl maz_ ?_; (with_reducible refine (impl_CountIndexed.calls kj11 _ _ t477 t508 t509 _ ?side1 ?side2 A67.out).mono ?_); (case side1 => exact ucz_ ((Kd.R_reads' HO_7.out).2.2)); (case side2 => exact (Kd.R_reads' HO_7.out).2.1); rintro e w77 ⟨rfl, hb⟩; refine ⟨_, rfl, ?_⟩; replace HO_5 := Az_ (Kd.R_below (w106_) hb); replace HO_6 := Az_ (Kd.R_below (w107_) hb); replace HO_7 := Az_ (Kd.R_below (w108_) hb); replace HO_11 := Az_ (Kd.R_below (w91_) hb); replace HO_15 := Az_ (Kd.R_below (w86_) hb); replace HB := Az_ (btz_ (ubz_ HB.out) hb); (try clear hb); obtain ⟨Ao78, co78, eo78⟩ := Kd.R_slice HO_11.out; subst eo78; clear A67) | ((with_reducible refine gate_callee (f := 42) rfl ?_); refine goesL_ (some 191) rfl rfl Tryz.func42 (w110_) rfl #[.slice Ao78 t485.length co78] rfl maz_ ?_; (with_reducible refine (impl_CountIndexed.calls kj11 _ _ t485 t510 t511 _ ?side1 ?side2 A68.out).mono ?_); (case side1 => exact ucz_ ((Kd.R_reads' HO_11.out).2.2)); (case side2 => exact (Kd.R_reads' HO_11.out).2.1); rintro e w79 ⟨rfl, hb⟩; refine ⟨_, rfl, ?_⟩; replace HO_5 := Az_ (Kd.R_below (w106_) hb); replace HO_6 := Az_ (Kd.R_below (w107_) hb); replace HO_7 := Az_ (Kd.R_below (w108_) hb); replace HO_11 := Az_ (Kd.R_below (w91_) hb); replace HO_15 := Az_ (Kd.R_below (w86_) hb); replace HB := Az_ (btz_ (ubz_ HB.out) hb); (try clear hb); obtain ⟨Ao80, co80, eo80⟩ := Kd.R_slice HO_15.out; subst eo80; clear A68) | ((with_reducible refine gate_callee (f := 42) rfl ?_); refine goesL_ (some 196) rfl rfl Tryz.func42 (w110_) rfl #[.slice Ao80 t493.length co80] rfl maz_ ?_; (with_reducible refine (impl_CountIndexed.calls kj11 _ _ t493 t512 t513 _ ?side1 ?side2 A69.out).mono ?_); (case side1 => exact ucz_ ((Kd.R_reads' HO_15.out).2.2)); (case side2 => exact (Kd.R_reads' HO_15.out).2.1); rintro e w81 ⟨rfl, hb⟩; refine ⟨_, rfl, ?_⟩; replace HO_5 := Az_ (Kd.R_below (w106_) hb); replace HO_6 := Az_ (Kd.R_below (w107_) hb); replace HO_7 := Az_ (Kd.R_below (w108_) hb); replace HO_11 := Az_ (Kd.R_below (w91_) hb); replace HO_15 := Az_ (Kd.R_below (w86_) hb); replace HB := Az_ (btz_ (ubz_ HB.out) hb); (try clear hb)) | ((with_reducible refine gate_callee (f := 35) rfl ?_); refine goesL_ (some 202) rfl rfl Tryz.func35 (w110_) rfl #[.slice Ao15 t472.length co15, .slice Ao14 t471.length co14] rfl maz_ ?_; (with_reducible refine (impl_UnionRanges.calls kj11 _ _ t472 _ _ t471 t514 t515 _ ?side1 ?side2 ?side3 ?side4 A70.out).mono ?_); (case side1 => exact ucz_ ((Kd.R_reads' HO_6.out).2.2)); (case side2 => exact (Kd.R_reads' HO_6.out).2.1); (case side3 => exact ucz_ ((Kd.R_reads' HO_5.out).2.2)); (case side4 => exact (Kd.R_reads' HO_5.out).2.1); rintro e w82 ⟨v516, rfl, ho0, hb⟩; refine ⟨_, rfl, ?_⟩; have HO517 := Az_ (Kd.R_lower (Kd.R_new' (Kd.R_new' (Kd.R_new' (Kd.R_new' (Kd.R_new' ho0 (Kd.R_lt (w106_))) (Kd.R_lt (w107_))) (Kd.R_lt (w108_))) (Kd.R_lt (w91_))) (Kd.R_lt (w86_))) (below_size (ubz_ HB.out))); replace HO_5 := Az_ (rez_ (w106_) (Kd.R_base ho0) hb); replace HO_6 := Az_ (rez_ (w107_) (Kd.R_base ho0) hb); replace HO_7 := Az_ (rez_ (w108_) (Kd.R_base ho0) hb); replace HO_11 := Az_ (rez_ (w91_) (Kd.R_base ho0) hb); replace HO_15 := Az_ (rez_ (w86_) (Kd.R_base ho0) hb); replace HB := Az_ (btz_ (ubz_ HB.out) hb); (try clear hb); (try clear ho0); clear A70) | ((with_reducible refine gate_callee (f := 37) rfl ?_); refine goesL_ (some 208) rfl rfl Tryz.func37 (w110_) rfl #[.slice Ao15 t472.length co15, .slice Ao14 t471.length co14] rfl maz_ ?_; (with_reducible refine (impl_CommonRanges.calls kj11 _ _ t472 _ _ t471 t518 t519 _ ?side1 ?side2 ?side3 ?side4 A71.out).mono ?_); (case side1 => exact ucz_ ((Kd.R_reads' HO_6.out).2.2)); (case side2 => exact (Kd.R_reads' HO_6.out).2.1); (case side3 => exact ucz_ ((Kd.R_reads' HO_5.out).2.2)); (case side4 => exact (Kd.R_reads' HO_5.out).2.1); rintro e w83 ⟨v520, rfl, ho0, hb⟩; refine ⟨_, rfl, ?_⟩; have HO521 := Az_ (Kd.R_lower (Kd.R_new' (Kd.R_new' (Kd.R_new' (Kd.R_new' (Kd.R_new' (Kd.R_new' ho0 (Kd.R_lt (w106_))) (Kd.R_lt (w107_))) (Kd.R_lt (w108_))) (Kd.R_lt (w91_))) (Kd.R_lt (w86_))) (Kd.R_lt (by exact urz_ HO517.out))) (below_size (ubz_ HB.out))); replace HO_5 := Az_ (rez_ (w106_) (Kd.R_base ho0) hb); replace HO_6 := Az_ (rez_ (w107_) (Kd.R_base ho0) hb); replace HO_7 := Az_ (rez_ (w108_) (Kd.R_base ho0) hb); replace HO_11 := Az_ (rez_ (w91_) (Kd.R_base ho0) hb); replace HO_15 := Az_ (rez_ (w86_) (Kd.R_base ho0) hb); replace HO517 := Az_ (rez_ (by exact urz_ HO517.out) (Kd.R_base ho0) hb); replace HB := Az_ (btz_ (ubz_ HB.out) hb); (try clear hb); (try clear ho0)) | ((with_reducible refine gate_callee (f := 35) rfl ?_); refine goesL_ (some 214) rfl rfl Tryz.func35 (w110_) rfl #[.slice Ao80 t493.length co80, .slice Ao78 t485.length co78] rfl maz_ ?_; (with_reducible refine (impl_UnionRanges.calls kj11 _ _ t493 _ _ t485 t522 t523 _ ?side1 ?side2 ?side3 ?side4 A72.out).mono ?_); (case side1 => exact ucz_ ((Kd.R_reads' HO_15.out).2.2)); (case side2 => exact (Kd.R_reads' HO_15.out).2.1); (case side3 => exact ucz_ ((Kd.R_reads' HO_11.out).2.2)); (case side4 => exact (Kd.R_reads' HO_11.out).2.1); rintro e w84 ⟨v524, rfl, ho0, hb⟩; refine ⟨_, rfl, ?_⟩; have HO525 := Az_ (Kd.R_lower (Kd.R_new' (Kd.R_new' (Kd.R_new' (Kd.R_new' (Kd.R_new' (Kd.R_new' (Kd.R_new' ho0 (Kd.R_lt (w106_))) (Kd.R_lt (w107_))) (Kd.R_lt (w108_))) (Kd.R_lt (w91_))) (Kd.R_lt (w86_))) (Kd.R_lt (by exact urz_ HO517.out))) (Kd.R_lt (by exact urz_ HO521.out))) (below_size (ubz_ HB.out))); replace HO_5 := Az_ (rez_ (w106_) (Kd.R_base ho0) hb); replace HO_6 := Az_ (rez_ (w107_) (Kd.R_base ho0) hb); replace HO_7 := Az_ (rez_ (w108_) (Kd.R_base ho0) hb); replace HO_11 := Az_ (rez_ (w91_) (Kd.R_base ho0) hb); replace HO_15 := Az_ (rez_ (w86_) (Kd.R_base ho0) hb); replace HO517 := Az_ (rez_ (by exact urz_ HO517.out) (Kd.R_base ho0) hb); replace HO521 := Az_ (rez_ (by exact urz_ HO521.out) (Kd.R_base ho0) hb); replace HB := Az_ (btz_ (ubz_ HB.out) hb); (try clear hb); (try clear ho0)))
       (try simp only [Act.put, List.setIfInBounds_toArray, List.set_cons_zero, List.set_cons_succ])
       go_cut [295] from 1 to 0 (fun v295 wc => ∃ (kq : Nat) (x295_72 : Bool), v295 = .bool x295_72 ∧ Aside0 (j1 kq l1 t471 t472 t477 t485 t493 x295_72 = some r) ∧ Aside0 (kq ≤ kj11) ∧ Aside0 (Kd.R k69 69 wc w.heap.size (fun k_ => some k_ ≠ ((.slice Ao15 t472.length co15) : Value).ownBlock ∧ some k_ ≠ ((.slice Ao76 t477.length co76) : Value).ownBlock ∧ some k_ ≠ ((.slice Ao78 t485.length co78) : Value).ownBlock ∧ some k_ ≠ ((.slice Ao80 t493.length co80) : Value).ownBlock) (.slice Ao14 t471.length co14) t471) ∧ Aside0 (Kd.R k69 69 wc w.heap.size (fun k_ => some k_ ≠ ((.slice Ao14 t471.length co14) : Value).ownBlock ∧ some k_ ≠ ((.slice Ao76 t477.length co76) : Value).ownBlock ∧ some k_ ≠ ((.slice Ao78 t485.length co78) : Value).ownBlock ∧ some k_ ≠ ((.slice Ao80 t493.length co80) : Value).ownBlock) (.slice Ao15 t472.length co15) t472) ∧ Aside0 (Kd.R k69 69 wc w.heap.size (fun k_ => some k_ ≠ ((.slice Ao14 t471.length co14) : Value).ownBlock ∧ some k_ ≠ ((.slice Ao15 t472.length co15) : Value).ownBlock ∧ some k_ ≠ ((.slice Ao78 t485.length co78) : Value).ownBlock ∧ some k_ ≠ ((.slice Ao80 t493.length co80) : Value).ownBlock) (.slice Ao76 t477.length co76) t477) ∧ Aside0 (Kd.R k69 69 wc w.heap.size (fun k_ => some k_ ≠ ((.slice Ao14 t471.length co14) : Value).ownBlock ∧ some k_ ≠ ((.slice Ao15 t472.length co15) : Value).ownBlock ∧ some k_ ≠ ((.slice Ao76 t477.length co76) : Value).ownBlock ∧ some k_ ≠ ((.slice Ao80 t493.length co80) : Value).ownBlock) (.slice Ao78 t485.length co78) t485) ∧ Aside0 (Kd.R k69 69 wc w.heap.size (fun k_ => some k_ ≠ ((.slice Ao14 t471.length co14) : Value).ownBlock ∧ some k_ ≠ ((.slice Ao15 t472.length co15) : Value).ownBlock ∧ some k_ ≠ ((.slice Ao76 t477.length co76) : Value).ownBlock ∧ some k_ ≠ ((.slice Ao78 t485.length co78) : Value).ownBlock) (.slice Ao80 t493.length co80) t493) ∧ Aside0 (Below w.heap.size w wc))
       case first => as_aux_lemma =>
        have H := HC73.out
        clear HC73
        replace H := bqz_ H; obtain ⟨t526, A85, H⟩ := H
        replace H : (if t526 = true then ((impl_AreRanges.f kj11 t485).bind fun t527 => (if t527 = true then ((impl_AreRanges.f kj11 t493).bind fun t528 => (if t528 = true then (if t505 = true then (if t507 = true then (if t509 = true then (if t511 = true then (if t513 = true then (if (wrap64 (t508 + t510)) = (wrap64 (t504 + t506)) then (if (wrap64 (t512 + t510)) = t504 then (if t515 = true then ((laws_fRanges.f kj11 t514 t477).bind fun t529 => (if t529 = true then (if t519 = true then ((laws_fRanges.f kj11 t518 t485).bind fun t530 => (if t530 = true then (if t523 = true then ((laws_fRanges.f kj11 t522 t471).bind fun t531 => (j1 kj11 l1 t471 t472 t477 t485 t493 (!t531))) else (j1 kj11 l1 t471 t472 t477 t485 t493 true)) else (j1 kj11 l1 t471 t472 t477 t485 t493 true))) else (j1 kj11 l1 t471 t472 t477 t485 t493 true)) else (j1 kj11 l1 t471 t472 t477 t485 t493 true))) else (j1 kj11 l1 t471 t472 t477 t485 t493 true)) else (j1 kj11 l1 t471 t472 t477 t485 t493 true)) else (j1 kj11 l1 t471 t472 t477 t485 t493 true)) else (j1 kj11 l1 t471 t472 t477 t485 t493 true)) else (j1 kj11 l1 t471 t472 t477 t485 t493 true)) else (j1 kj11 l1 t471 t472 t477 t485 t493 true)) else (j1 kj11 l1 t471 t472 t477 t485 t493 true)) else (j1 kj11 l1 t471 t472 t477 t485 t493 true)) else (j1 kj11 l1 t471 t472 t477 t485 t493 true))) else (j1 kj11 l1 t471 t472 t477 t485 t493 true))) else (j1 kj11 l1 t471 t472 t477 t485 t493 true)) = some r := H
        by_cases c86 : t526 = true
        ·subst c86
         rw [if_pos rfl] at H
         replace H := bqz_ H; obtain ⟨t527, A87, H⟩ := H
         replace H : (if t527 = true then ((impl_AreRanges.f kj11 t493).bind fun t528 => (if t528 = true then (if t505 = true then (if t507 = true then (if t509 = true then (if t511 = true then (if t513 = true then (if (wrap64 (t508 + t510)) = (wrap64 (t504 + t506)) then (if (wrap64 (t512 + t510)) = t504 then (if t515 = true then ((laws_fRanges.f kj11 t514 t477).bind fun t529 => (if t529 = true then (if t519 = true then ((laws_fRanges.f kj11 t518 t485).bind fun t530 => (if t530 = true then (if t523 = true then ((laws_fRanges.f kj11 t522 t471).bind fun t531 => (j1 kj11 l1 t471 t472 t477 t485 t493 (!t531))) else (j1 kj11 l1 t471 t472 t477 t485 t493 true)) else (j1 kj11 l1 t471 t472 t477 t485 t493 true))) else (j1 kj11 l1 t471 t472 t477 t485 t493 true)) else (j1 kj11 l1 t471 t472 t477 t485 t493 true))) else (j1 kj11 l1 t471 t472 t477 t485 t493 true)) else (j1 kj11 l1 t471 t472 t477 t485 t493 true)) else (j1 kj11 l1 t471 t472 t477 t485 t493 true)) else (j1 kj11 l1 t471 t472 t477 t485 t493 true)) else (j1 kj11 l1 t471 t472 t477 t485 t493 true)) else (j1 kj11 l1 t471 t472 t477 t485 t493 true)) else (j1 kj11 l1 t471 t472 t477 t485 t493 true)) else (j1 kj11 l1 t471 t472 t477 t485 t493 true)) else (j1 kj11 l1 t471 t472 t477 t485 t493 true))) else (j1 kj11 l1 t471 t472 t477 t485 t493 true)) = some r := H
         by_cases c88 : t527 = true
         ·subst c88
          rw [if_pos rfl] at H
          replace H := bqz_ H; obtain ⟨t528, A89, H⟩ := H
          replace H : (if t528 = true then (if t505 = true then (if t507 = true then (if t509 = true then (if t511 = true then (if t513 = true then (if (wrap64 (t508 + t510)) = (wrap64 (t504 + t506)) then (if (wrap64 (t512 + t510)) = t504 then (if t515 = true then ((laws_fRanges.f kj11 t514 t477).bind fun t529 => (if t529 = true then (if t519 = true then ((laws_fRanges.f kj11 t518 t485).bind fun t530 => (if t530 = true then (if t523 = true then ((laws_fRanges.f kj11 t522 t471).bind fun t531 => (j1 kj11 l1 t471 t472 t477 t485 t493 (!t531))) else (j1 kj11 l1 t471 t472 t477 t485 t493 true)) else (j1 kj11 l1 t471 t472 t477 t485 t493 true))) else (j1 kj11 l1 t471 t472 t477 t485 t493 true)) else (j1 kj11 l1 t471 t472 t477 t485 t493 true))) else (j1 kj11 l1 t471 t472 t477 t485 t493 true)) else (j1 kj11 l1 t471 t472 t477 t485 t493 true)) else (j1 kj11 l1 t471 t472 t477 t485 t493 true)) else (j1 kj11 l1 t471 t472 t477 t485 t493 true)) else (j1 kj11 l1 t471 t472 t477 t485 t493 true)) else (j1 kj11 l1 t471 t472 t477 t485 t493 true)) else (j1 kj11 l1 t471 t472 t477 t485 t493 true)) else (j1 kj11 l1 t471 t472 t477 t485 t493 true)) else (j1 kj11 l1 t471 t472 t477 t485 t493 true)) = some r := H
          by_cases c90 : t528 = true
          ·subst c90
           rw [if_pos rfl] at H
           by_cases c91 : t505 = true
           ·subst c91
            rw [if_pos rfl] at H
            by_cases c92 : t507 = true
            ·subst c92
             rw [if_pos rfl] at H
             by_cases c93 : t509 = true
             ·subst c93
              rw [if_pos rfl] at H
              by_cases c94 : t511 = true
              ·subst c94
               rw [if_pos rfl] at H
               by_cases c95 : t513 = true
               ·subst c95
                rw [if_pos rfl] at H
                by_cases c96 : (wrap64 (t508 + t510)) = (wrap64 (t504 + t506))
                ·rw [if_pos c96] at H
                 have c96b0 : ((wrap64 (t508 + t510)) == (wrap64 (t504 + t506))) = true := beq_iff_eq.mpr c96
                 have c96b1 : ((wrap64 (t508 + t510)) != (wrap64 (t504 + t506))) = false := bne_eq_false_iff_eq.mpr c96
                 clear c96
                 (first | rw [c96b0] | (simp only [i64_w, i32_w]; rw [c96b0]) | skip)
                 by_cases c97 : (wrap64 (t512 + t510)) = t504
                 ·rw [if_pos c97] at H
                  have c97b0 : ((wrap64 (t512 + t510)) == t504) = true := beq_iff_eq.mpr c97
                  have c97b1 : ((wrap64 (t512 + t510)) != t504) = false := bne_eq_false_iff_eq.mpr c97
                  clear c97
                  by_cases c98 : t515 = true
                  ·subst c98
                   rw [if_pos rfl] at H
                   replace H := bqz_ H; obtain ⟨t529, A99, H⟩ := H
                   replace H : (if t529 = true then (if t519 = true then ((laws_fRanges.f kj11 t518 t485).bind fun t530 => (if t530 = true then (if t523 = true then ((laws_fRanges.f kj11 t522 t471).bind fun t531 => (j1 kj11 l1 t471 t472 t477 t485 t493 (!t531))) else (j1 kj11 l1 t471 t472 t477 t485 t493 true)) else (j1 kj11 l1 t471 t472 t477 t485 t493 true))) else (j1 kj11 l1 t471 t472 t477 t485 t493 true)) else (j1 kj11 l1 t471 t472 t477 t485 t493 true)) = some r := H
                   by_cases c100 : t529 = true
                   ·subst c100
                    rw [if_pos rfl] at H
                    by_cases c101 : t519 = true
                    ·subst c101
                     rw [if_pos rfl] at H
                     replace H := bqz_ H; obtain ⟨t530, A102, H⟩ := H
                     replace H : (if t530 = true then (if t523 = true then ((laws_fRanges.f kj11 t522 t471).bind fun t531 => (j1 kj11 l1 t471 t472 t477 t485 t493 (!t531))) else (j1 kj11 l1 t471 t472 t477 t485 t493 true)) else (j1 kj11 l1 t471 t472 t477 t485 t493 true)) = some r := H
                     by_cases c103 : t530 = true
                     ·subst c103
                      rw [if_pos rfl] at H
                      by_cases c104 : t523 = true
                      ·subst c104
                       rw [if_pos rfl] at H
                       replace H := bqz_ H; obtain ⟨t531, A105, H⟩ := H
                       replace H : (j1 kj11 l1 t471 t472 t477 t485 t493 (!t531)) = some r := H
                       have H' := Az_ H
                       clear H
                       go_wp2_with (first | ((with_reducible refine gate_callee (f := 43) rfl ?_); refine goesL_ (some 218) rfl rfl Tryz.func43 (w110_) rfl #[.slice Ao76 t477.length co76] rfl maz_ ?_; (with_reducible refine (impl_AreRanges.calls kj11 _ _ t477 true _ ?side1 ?side2 A85.out).mono ?_); (case side1 => exact ucz_ ((Kd.R_reads' HO_7.out).2.2)); (case side2 => exact (Kd.R_reads' HO_7.out).2.1); rintro e w106 ⟨rfl, hb⟩; refine ⟨_, rfl, ?_⟩; replace HO_5 := Az_ (Kd.R_below (w106_) hb); replace HO_6 := Az_ (Kd.R_below (w107_) hb); replace HO_7 := Az_ (Kd.R_below (w108_) hb); replace HO_11 := Az_ (Kd.R_below (w91_) hb); replace HO_15 := Az_ (Kd.R_below (w86_) hb); replace HO517 := Az_ (Kd.R_below (by exact urz_ HO517.out) hb); replace HO521 := Az_ (Kd.R_below (by exact urz_ HO521.out) hb); replace HO525 := Az_ (Kd.R_below (by exact urz_ HO525.out) hb); replace HB := Az_ (btz_ (ubz_ HB.out) hb); (try clear hb); clear A85) | (go_at_call 43; (with_reducible refine (impl_AreRanges.calls kj11 _ _ t485 true _ ?side1 ?side2 A87.out).mono ?_); (case side1 => exact ucz_ ((Kd.R_reads' HO_11.out).2.2)); (case side2 => exact (Kd.R_reads' HO_11.out).2.1); rintro e w107 ⟨rfl, hb⟩; replace HO_5 := Az_ (Kd.R_below (w106_) hb); replace HO_6 := Az_ (Kd.R_below (w107_) hb); replace HO_7 := Az_ (Kd.R_below (w108_) hb); replace HO_11 := Az_ (Kd.R_below (w91_) hb); replace HO_15 := Az_ (Kd.R_below (w86_) hb); replace HO517 := Az_ (Kd.R_below (by exact urz_ HO517.out) hb); replace HO521 := Az_ (Kd.R_below (by exact urz_ HO521.out) hb); replace HO525 := Az_ (Kd.R_below (by exact urz_ HO525.out) hb); replace HB := Az_ (btz_ (ubz_ HB.out) hb); (try clear hb); clear A87) | (go_at_call 43; (with_reducible refine (impl_AreRanges.calls kj11 _ _ t493 true _ ?side1 ?side2 A89.out).mono ?_); (case side1 => exact ucz_ ((Kd.R_reads' HO_15.out).2.2)); (case side2 => exact (Kd.R_reads' HO_15.out).2.1); rintro e w108 ⟨rfl, hb⟩; replace HO_5 := Az_ (Kd.R_below (w106_) hb); replace HO_6 := Az_ (Kd.R_below (w107_) hb); replace HO_7 := Az_ (Kd.R_below (w108_) hb); replace HO_11 := Az_ (Kd.R_below (w91_) hb); replace HO_15 := Az_ (Kd.R_below (w86_) hb); replace HO517 := Az_ (Kd.R_below (by exact urz_ HO517.out) hb); replace HO521 := Az_ (Kd.R_below (by exact urz_ HO521.out) hb); replace HO525 := Az_ (Kd.R_below (by exact urz_ HO525.out) hb); replace HB := Az_ (btz_ (ubz_ HB.out) hb); (try clear hb); obtain ⟨Ao109, co109, eo109⟩ := Kd.R_slice HO517.out; subst eo109) | (go_at_call 41; (with_reducible refine (laws_fRanges.calls kj11 _ _ t514 _ _ t477 true _ ?side1 ?side2 ?side3 ?side4 A99.out).mono ?_); (case side1 => exact ucz_ ((Kd.R_reads' HO517.out).2.2)); (case side2 => exact (Kd.R_reads' HO517.out).2.1); (case side3 => exact ucz_ ((Kd.R_reads' HO_7.out).2.2)); (case side4 => exact (Kd.R_reads' HO_7.out).2.1); rintro e w' ⟨rfl, ⟨nd, rfl⟩⟩; obtain ⟨Ao110, co110, eo110⟩ := Kd.R_slice HO521.out; subst eo110; clear A99) | (go_at_call 41; (with_reducible refine (laws_fRanges.calls kj11 _ _ t518 _ _ t485 true _ ?side1 ?side2 ?side3 ?side4 A102.out).mono ?_); (case side1 => exact ucz_ ((Kd.R_reads' HO521.out).2.2)); (case side2 => exact (Kd.R_reads' HO521.out).2.1); (case side3 => exact ucz_ ((Kd.R_reads' HO_11.out).2.2)); (case side4 => exact (Kd.R_reads' HO_11.out).2.1); rintro e w' ⟨rfl, ⟨nd, rfl⟩⟩; obtain ⟨Ao111, co111, eo111⟩ := Kd.R_slice HO525.out; subst eo111; clear A102) | (go_at_call 41; (with_reducible refine (laws_fRanges.calls kj11 _ _ t522 _ _ t471 t531 _ ?side1 ?side2 ?side3 ?side4 A105.out).mono ?_); (case side1 => exact ucz_ ((Kd.R_reads' HO525.out).2.2)); (case side2 => exact (Kd.R_reads' HO525.out).2.1); (case side3 => exact ucz_ ((Kd.R_reads' HO_5.out).2.2)); (case side4 => exact (Kd.R_reads' HO_5.out).2.1); rintro e w' ⟨rfl, ⟨nd, rfl⟩⟩))
                       go_meet
                       case rel => exact ⟨_, (!t531), qaz_, H', ⟨by have := HJ11.out; first | omega | exact Nat.le_refl _⟩, ⟨by (with_reducible repeat (first | apply raz_ | apply rnz_ | apply rdz_)); exact Kd.R_mono HO_5.out (fun _ hk => ⟨hk.1.1.1.1, ⟨hk.1.1.1.2.1, ⟨hk.1.1.1.2.2.1, hk.1.1.1.2.2.2⟩⟩⟩)⟩, ⟨by (with_reducible repeat (first | apply raz_ | apply rnz_ | apply rdz_)); exact Kd.R_mono HO_6.out (fun _ hk => ⟨hk.1.1.1.1, ⟨hk.1.1.1.2.1, ⟨hk.1.1.1.2.2.1, hk.1.1.1.2.2.2⟩⟩⟩)⟩, ⟨by (with_reducible repeat (first | apply raz_ | apply rnz_ | apply rdz_)); exact Kd.R_mono HO_7.out (fun _ hk => ⟨hk.1.1.1.1, ⟨hk.1.1.1.2.1, ⟨hk.1.1.1.2.2.1, hk.1.1.1.2.2.2⟩⟩⟩)⟩, ⟨by (with_reducible repeat (first | apply raz_ | apply rnz_ | apply rdz_)); exact Kd.R_mono HO_11.out (fun _ hk => ⟨hk.1.1.1.1, ⟨hk.1.1.1.2.1, ⟨hk.1.1.1.2.2.1, hk.1.1.1.2.2.2⟩⟩⟩)⟩, ⟨by (with_reducible repeat (first | apply raz_ | apply rnz_ | apply rdz_)); exact Kd.R_mono HO_15.out (fun _ hk => ⟨hk.1.1.1.1, ⟨hk.1.1.1.2.1, ⟨hk.1.1.1.2.2.1, hk.1.1.1.2.2.2⟩⟩⟩)⟩, ⟨w109_⟩⟩
                      ·replace c104 := Bool.eq_false_iff.mpr c104
                       subst c104
                       have H1 : (j1 kj11 l1 t471 t472 t477 t485 t493 true) = some r := by rw [if_neg (show ¬ (false = true) by decide)] at H; exact H
                       clear H
                       have H := H1
                       exact (laws_FnIndexesMerge.j1_no _ _ _ _ _ _ _ _ hrT H).elim
                     ·replace c103 := Bool.eq_false_iff.mpr c103
                      subst c103
                      have H1 : (j1 kj11 l1 t471 t472 t477 t485 t493 true) = some r := by rw [if_neg (show ¬ (false = true) by decide)] at H; exact H
                      clear H
                      have H := H1
                      exact (laws_FnIndexesMerge.j1_no _ _ _ _ _ _ _ _ hrT H).elim
                    ·replace c101 := Bool.eq_false_iff.mpr c101
                     subst c101
                     have H1 : (j1 kj11 l1 t471 t472 t477 t485 t493 true) = some r := by rw [if_neg (show ¬ (false = true) by decide)] at H; exact H
                     clear H
                     have H := H1
                     exact (laws_FnIndexesMerge.j1_no _ _ _ _ _ _ _ _ hrT H).elim
                   ·replace c100 := Bool.eq_false_iff.mpr c100
                    subst c100
                    have H1 : (j1 kj11 l1 t471 t472 t477 t485 t493 true) = some r := by rw [if_neg (show ¬ (false = true) by decide)] at H; exact H
                    clear H
                    have H := H1
                    exact (laws_FnIndexesMerge.j1_no _ _ _ _ _ _ _ _ hrT H).elim
                  ·replace c98 := Bool.eq_false_iff.mpr c98
                   subst c98
                   have H1 : (j1 kj11 l1 t471 t472 t477 t485 t493 true) = some r := by rw [if_neg (show ¬ (false = true) by decide)] at H; exact H
                   clear H
                   have H := H1
                   exact (laws_FnIndexesMerge.j1_no _ _ _ _ _ _ _ _ hrT H).elim
                 ·rw [if_neg c97] at H
                  exact (laws_FnIndexesMerge.j1_no _ _ _ _ _ _ _ _ hrT H).elim
                ·rw [if_neg c96] at H
                 exact (laws_FnIndexesMerge.j1_no _ _ _ _ _ _ _ _ hrT H).elim
               ·replace c95 := Bool.eq_false_iff.mpr c95
                subst c95
                have H1 : (j1 kj11 l1 t471 t472 t477 t485 t493 true) = some r := by rw [if_neg (show ¬ (false = true) by decide)] at H; exact H
                clear H
                have H := H1
                exact (laws_FnIndexesMerge.j1_no _ _ _ _ _ _ _ _ hrT H).elim
              ·replace c94 := Bool.eq_false_iff.mpr c94
               subst c94
               have H1 : (j1 kj11 l1 t471 t472 t477 t485 t493 true) = some r := by rw [if_neg (show ¬ (false = true) by decide)] at H; exact H
               clear H
               have H := H1
               exact (laws_FnIndexesMerge.j1_no _ _ _ _ _ _ _ _ hrT H).elim
             ·replace c93 := Bool.eq_false_iff.mpr c93
              subst c93
              have H1 : (j1 kj11 l1 t471 t472 t477 t485 t493 true) = some r := by rw [if_neg (show ¬ (false = true) by decide)] at H; exact H
              clear H
              have H := H1
              exact (laws_FnIndexesMerge.j1_no _ _ _ _ _ _ _ _ hrT H).elim
            ·replace c92 := Bool.eq_false_iff.mpr c92
             subst c92
             have H1 : (j1 kj11 l1 t471 t472 t477 t485 t493 true) = some r := by rw [if_neg (show ¬ (false = true) by decide)] at H; exact H
             clear H
             have H := H1
             exact (laws_FnIndexesMerge.j1_no _ _ _ _ _ _ _ _ hrT H).elim
           ·replace c91 := Bool.eq_false_iff.mpr c91
            subst c91
            have H1 : (j1 kj11 l1 t471 t472 t477 t485 t493 true) = some r := by rw [if_neg (show ¬ (false = true) by decide)] at H; exact H
            clear H
            have H := H1
            exact (laws_FnIndexesMerge.j1_no _ _ _ _ _ _ _ _ hrT H).elim
          ·replace c90 := Bool.eq_false_iff.mpr c90
           subst c90
           have H1 : (j1 kj11 l1 t471 t472 t477 t485 t493 true) = some r := by rw [if_neg (show ¬ (false = true) by decide)] at H; exact H
           clear H
           have H := H1
           exact (laws_FnIndexesMerge.j1_no _ _ _ _ _ _ _ _ hrT H).elim
         ·replace c88 := Bool.eq_false_iff.mpr c88
          subst c88
          have H1 : (j1 kj11 l1 t471 t472 t477 t485 t493 true) = some r := by rw [if_neg (show ¬ (false = true) by decide)] at H; exact H
          clear H
          have H := H1
          exact (laws_FnIndexesMerge.j1_no _ _ _ _ _ _ _ _ hrT H).elim
        ·replace c86 := Bool.eq_false_iff.mpr c86
         subst c86
         have H1 : (j1 kj11 l1 t471 t472 t477 t485 t493 true) = some r := by rw [if_neg (show ¬ (false = true) by decide)] at H; exact H
         clear H
         have H := H1
         exact (laws_FnIndexesMerge.j1_no _ _ _ _ _ _ _ _ hrT H).elim
       case rest => as_aux_lemma =>
        clear HC73
        obtain ⟨kq, x295_72, rfl, HA, HJ72, HO_5, HO_6, HO_7, HO_11, HO_15, HB⟩ := hcut
        cases kq with
        | zero => exact absurd HA.out (by simp [j1])
        | succ kj72 =>
         have H := HA.out
         clear HA
         simp only [j1] at H
         by_cases c160 : x295_72 = true
         ·subst c160
          rw [if_pos rfl] at H
          exact absurd ((Option.some.inj H).trans hrT) (by decide)
         ·replace c160 := Bool.eq_false_iff.mpr c160
          subst c160
          rw [if_neg nfz_] at H
          have H' := Az_ H
          clear H
          go_wp2
          go_loopg [35] kj72 (fun kq v35 w' => ∃ (x35_3 : Int), v35 = .int .i64 x35_3 ∧ Aside0 (laws_FnIndexesMerge.l0 kq l1 t471 t472 t477 t485 t493 x35_3 = some r) ∧ Aside0 (kq ≤ kj72) ∧ Aside0 (Kd.R k69 69 w' w.heap.size (fun k_ => some k_ ≠ ((.slice Ao15 t472.length co15) : Value).ownBlock ∧ some k_ ≠ ((.slice Ao76 t477.length co76) : Value).ownBlock ∧ some k_ ≠ ((.slice Ao78 t485.length co78) : Value).ownBlock ∧ some k_ ≠ ((.slice Ao80 t493.length co80) : Value).ownBlock) (.slice Ao14 t471.length co14) t471) ∧ Aside0 (Kd.R k69 69 w' w.heap.size (fun k_ => some k_ ≠ ((.slice Ao14 t471.length co14) : Value).ownBlock ∧ some k_ ≠ ((.slice Ao76 t477.length co76) : Value).ownBlock ∧ some k_ ≠ ((.slice Ao78 t485.length co78) : Value).ownBlock ∧ some k_ ≠ ((.slice Ao80 t493.length co80) : Value).ownBlock) (.slice Ao15 t472.length co15) t472) ∧ Aside0 (Kd.R k69 69 w' w.heap.size (fun k_ => some k_ ≠ ((.slice Ao14 t471.length co14) : Value).ownBlock ∧ some k_ ≠ ((.slice Ao15 t472.length co15) : Value).ownBlock ∧ some k_ ≠ ((.slice Ao78 t485.length co78) : Value).ownBlock ∧ some k_ ≠ ((.slice Ao80 t493.length co80) : Value).ownBlock) (.slice Ao76 t477.length co76) t477) ∧ Aside0 (Kd.R k69 69 w' w.heap.size (fun k_ => some k_ ≠ ((.slice Ao14 t471.length co14) : Value).ownBlock ∧ some k_ ≠ ((.slice Ao15 t472.length co15) : Value).ownBlock ∧ some k_ ≠ ((.slice Ao76 t477.length co76) : Value).ownBlock ∧ some k_ ≠ ((.slice Ao80 t493.length co80) : Value).ownBlock) (.slice Ao78 t485.length co78) t485) ∧ Aside0 (Kd.R k69 69 w' w.heap.size (fun k_ => some k_ ≠ ((.slice Ao14 t471.length co14) : Value).ownBlock ∧ some k_ ≠ ((.slice Ao15 t472.length co15) : Value).ownBlock ∧ some k_ ≠ ((.slice Ao76 t477.length co76) : Value).ownBlock ∧ some k_ ≠ ((.slice Ao78 t485.length co78) : Value).ownBlock) (.slice Ao80 t493.length co80) t493) ∧ Aside0 (Below w.heap.size w w'))
          case atStart => exact ⟨(1), qaz_, H', ⟨Nat.le_refl _⟩, ⟨w71_⟩, ⟨w72_⟩, ⟨w73_⟩, ⟨w65_⟩, ⟨w64_⟩, ⟨w109_⟩⟩
          case round =>
           clear H'
           obtain ⟨x35_3, rfl, HA, HK3, HO_5, HO_6, HO_7, HO_11, HO_15, HB⟩ := hrel
           cases gk with
           | zero => exact absurd HA.out (by simp [laws_FnIndexesMerge.l0])
           | succ k3 =>
            have H := HA.out
            clear HA
            simp only [laws_FnIndexesMerge.l0] at H
            by_cases c161 : x35_3 ≤ 160
            ·rw [if_pos c161] at H
             have c161b0 := decide_eq_true c161
             clear c161
             replace H := bqz_ H; obtain ⟨⟨t532, t533⟩, A162, H⟩ := H
             replace H := bqz_ H; obtain ⟨⟨t534, t535⟩, A163, H⟩ := H
             replace H := bqz_ H; obtain ⟨⟨t536, t537⟩, A164, H⟩ := H
             replace H := bqz_ H; obtain ⟨⟨t538, t539⟩, A165, H⟩ := H
             replace H := bqz_ H; obtain ⟨⟨t540, t541⟩, A166, H⟩ := H
             replace H : (if t533 = true then (if t535 = true then (if t537 = true then (if t539 = true then (if t541 = true then (if t532 = true then (if (t536 != true) = true then (some false) else (if (t538 != t534) = true then (some false) else (if (t540 != (!t534)) = true then (some false) else (laws_FnIndexesMerge.l0 k3 l1 t471 t472 t477 t485 t493 (wrap64 (x35_3 + 1)))))) else (if (t536 != t534) = true then (some false) else (if (t538 != false) = true then (some false) else (if (t540 != false) = true then (some false) else (laws_FnIndexesMerge.l0 k3 l1 t471 t472 t477 t485 t493 (wrap64 (x35_3 + 1))))))) else (some false)) else (some false)) else (some false)) else (some false)) else (some false)) = some r := H
             by_cases c167 : t533 = true
             ·subst c167
              rw [if_pos rfl] at H
              by_cases c168 : t535 = true
              ·subst c168
               rw [if_pos rfl] at H
               by_cases c169 : t537 = true
               ·subst c169
                rw [if_pos rfl] at H
                by_cases c170 : t539 = true
                ·subst c170
                 rw [if_pos rfl] at H
                 by_cases c171 : t541 = true
                 ·subst c171
                  rw [if_pos rfl] at H
                  by_cases c172 : t532 = true
                  ·subst c172
                   rw [if_pos rfl] at H
                   by_cases c173 : (t536 != true) = true
                   ·rw [if_pos c173] at H
                    have c173b0 : (t536 != true) = true := c173
                    (try (have c173b1 : decide (t536 = true) = false := by simpa using c173))
                    (try (have c173b2 : (t536 == true) = false := by simpa using c173))
                    (try (have c173b3 : ¬ (t536 = true) := by simpa using c173))
                    clear c173
                    exact absurd ((Option.some.inj H).trans hrT) (by decide)
                   ·rw [if_neg c173] at H
                    have c173b0 : (t536 != true) = false := by simpa using c173
                    (try (have c173b1 : decide (t536 = true) = true := by simpa using c173))
                    (try (have c173b2 : (t536 == true) = true := by simpa using c173))
                    clear c173
                    by_cases c179 : (t538 != t534) = true
                    ·rw [if_pos c179] at H
                     have c179b0 : (t538 != t534) = true := c179
                     (try (have c179b1 : decide (t538 = t534) = false := by simpa using c179))
                     (try (have c179b2 : (t538 == t534) = false := by simpa using c179))
                     (try (have c179b3 : ¬ (t538 = t534) := by simpa using c179))
                     clear c179
                     exact absurd ((Option.some.inj H).trans hrT) (by decide)
                    ·rw [if_neg c179] at H
                     obtain rfl : t538 = t534 := by simpa using c179
                     clear c179
                     by_cases c185 : (t540 != (!t538)) = true
                     ·rw [if_pos c185] at H
                      have c185b0 : (t540 != (!t538)) = true := c185
                      (try (have c185b1 : decide (t540 = (!t538)) = false := by simpa using c185))
                      (try (have c185b2 : (t540 == (!t538)) = false := by simpa using c185))
                      (try (have c185b3 : ¬ (t540 = (!t538)) := by simpa using c185))
                      clear c185
                      exact absurd ((Option.some.inj H).trans hrT) (by decide)
                     ·rw [if_neg c185] at H
                      have c185b0 : (t540 != (!t538)) = false := by simpa using c185
                      (try (have c185b1 : decide (t540 = (!t538)) = true := by simpa using c185))
                      (try (have c185b2 : (t540 == (!t538)) = true := by simpa using c185))
                      have c185b3 : ¬ (t540 = t538) := by simpa using c185
                      have c185b4 : (t540 == t538) = false := by simpa using c185
                      have c185b5 : decide (t540 = t538) = false := by simpa using c185
                      have c185b6 : (t540 != t538) = true := by simpa using c185
                      have c185b7 : (!(t540 == (!t538))) = false := c185b0
                      clear c185
                      have H' := Az_ H
                      clear H
                      go_wp2_with (first | ((with_reducible refine gate_callee (f := 44) rfl ?_); refine goesL_ (some 303) rfl rfl Tryz.func44 (w110_) rfl #[.slice Ao14 t471.length co14, .int .i64 x35_3] rfl maz_ ?_; (with_reducible refine (impl_HasIndexed.calls k3 _ _ t471 x35_3 true true _ ?side1 ?side2 A162.out).mono ?_); (case side1 => exact ucz_ ((Kd.R_reads' HO_5.out).2.2)); (case side2 => exact (Kd.R_reads' HO_5.out).2.1); rintro e w191 ⟨rfl, hb⟩; refine ⟨_, rfl, ?_⟩; replace HO_5 := Az_ (Kd.R_below (w106_) hb); replace HO_6 := Az_ (Kd.R_below (w107_) hb); replace HO_7 := Az_ (Kd.R_below (w108_) hb); replace HO_11 := Az_ (Kd.R_below (w91_) hb); replace HO_15 := Az_ (Kd.R_below (w86_) hb); replace HB := Az_ (btz_ (ubz_ HB.out) hb); (try clear hb); clear A162) | ((with_reducible refine gate_callee (f := 44) rfl ?_); refine goesL_ (some 309) rfl rfl Tryz.func44 (w110_) rfl #[.slice Ao15 t472.length co15, .int .i64 x35_3] rfl maz_ ?_; (with_reducible refine (impl_HasIndexed.calls k3 _ _ t472 x35_3 t538 true _ ?side1 ?side2 A163.out).mono ?_); (case side1 => exact ucz_ ((Kd.R_reads' HO_6.out).2.2)); (case side2 => exact (Kd.R_reads' HO_6.out).2.1); rintro e w192 ⟨rfl, hb⟩; refine ⟨_, rfl, ?_⟩; replace HO_5 := Az_ (Kd.R_below (w106_) hb); replace HO_6 := Az_ (Kd.R_below (w107_) hb); replace HO_7 := Az_ (Kd.R_below (w108_) hb); replace HO_11 := Az_ (Kd.R_below (w91_) hb); replace HO_15 := Az_ (Kd.R_below (w86_) hb); replace HB := Az_ (btz_ (ubz_ HB.out) hb); (try clear hb); clear A163) | ((with_reducible refine gate_callee (f := 44) rfl ?_); refine goesL_ (some 315) rfl rfl Tryz.func44 (w110_) rfl #[.slice Ao76 t477.length co76, .int .i64 x35_3] rfl maz_ ?_; (with_reducible refine (impl_HasIndexed.calls k3 _ _ t477 x35_3 t536 true _ ?side1 ?side2 A164.out).mono ?_); (case side1 => exact ucz_ ((Kd.R_reads' HO_7.out).2.2)); (case side2 => exact (Kd.R_reads' HO_7.out).2.1); rintro e w193 ⟨rfl, hb⟩; refine ⟨_, rfl, ?_⟩; replace HO_5 := Az_ (Kd.R_below (w106_) hb); replace HO_6 := Az_ (Kd.R_below (w107_) hb); replace HO_7 := Az_ (Kd.R_below (w108_) hb); replace HO_11 := Az_ (Kd.R_below (w91_) hb); replace HO_15 := Az_ (Kd.R_below (w86_) hb); replace HB := Az_ (btz_ (ubz_ HB.out) hb); (try clear hb); clear A164) | ((with_reducible refine gate_callee (f := 44) rfl ?_); refine goesL_ (some 321) rfl rfl Tryz.func44 (w110_) rfl #[.slice Ao78 t485.length co78, .int .i64 x35_3] rfl maz_ ?_; (with_reducible refine (impl_HasIndexed.calls k3 _ _ t485 x35_3 t538 true _ ?side1 ?side2 A165.out).mono ?_); (case side1 => exact ucz_ ((Kd.R_reads' HO_11.out).2.2)); (case side2 => exact (Kd.R_reads' HO_11.out).2.1); rintro e w194 ⟨rfl, hb⟩; refine ⟨_, rfl, ?_⟩; replace HO_5 := Az_ (Kd.R_below (w106_) hb); replace HO_6 := Az_ (Kd.R_below (w107_) hb); replace HO_7 := Az_ (Kd.R_below (w108_) hb); replace HO_11 := Az_ (Kd.R_below (w91_) hb); replace HO_15 := Az_ (Kd.R_below (w86_) hb); replace HB := Az_ (btz_ (ubz_ HB.out) hb); (try clear hb); clear A165) | ((with_reducible refine gate_callee (f := 44) rfl ?_); refine goesL_ (some 327) rfl rfl Tryz.func44 (w110_) rfl #[.slice Ao80 t493.length co80, .int .i64 x35_3] rfl maz_ ?_; (with_reducible refine (impl_HasIndexed.calls k3 _ _ t493 x35_3 t540 true _ ?side1 ?side2 A166.out).mono ?_); (case side1 => exact ucz_ ((Kd.R_reads' HO_15.out).2.2)); (case side2 => exact (Kd.R_reads' HO_15.out).2.1); rintro e w195 ⟨rfl, hb⟩; refine ⟨_, rfl, ?_⟩; replace HO_5 := Az_ (Kd.R_below (w106_) hb); replace HO_6 := Az_ (Kd.R_below (w107_) hb); replace HO_7 := Az_ (Kd.R_below (w108_) hb); replace HO_11 := Az_ (Kd.R_below (w91_) hb); replace HO_15 := Az_ (Kd.R_below (w86_) hb); replace HB := Az_ (btz_ (ubz_ HB.out) hb); (try clear hb)))
                      go_roundg k3
                      case measure => have := HJ11.out; have := HJ72.out; have := HK3.out; omega
                      case rel => exact ⟨(wrap64 (x35_3 + 1)), qaz_, H', ⟨by have := HJ11.out; have := HJ72.out; have := HK3.out; omega⟩, ⟨w71_⟩, ⟨w72_⟩, ⟨w73_⟩, ⟨w65_⟩, ⟨w64_⟩, ⟨w109_⟩⟩
                  ·replace c172 := Bool.eq_false_iff.mpr c172
                   subst c172
                   rw [if_neg nfz_] at H
                   by_cases c196 : (t536 != t534) = true
                   ·rw [if_pos c196] at H
                    have c196b0 : (t536 != t534) = true := c196
                    (try (have c196b1 : decide (t536 = t534) = false := by simpa using c196))
                    (try (have c196b2 : (t536 == t534) = false := by simpa using c196))
                    (try (have c196b3 : ¬ (t536 = t534) := by simpa using c196))
                    clear c196
                    exact absurd ((Option.some.inj H).trans hrT) (by decide)
                   ·rw [if_neg c196] at H
                    obtain rfl : t536 = t534 := by simpa using c196
                    clear c196
                    by_cases c202 : (t538 != false) = true
                    ·rw [if_pos c202] at H
                     have c202b0 : (t538 != false) = true := c202
                     (try (have c202b1 : decide (t538 = false) = false := by simpa using c202))
                     (try (have c202b2 : (t538 == false) = false := by simpa using c202))
                     (try (have c202b3 : ¬ (t538 = false) := by simpa using c202))
                     clear c202
                     exact absurd ((Option.some.inj H).trans hrT) (by decide)
                    ·rw [if_neg c202] at H
                     have c202b0 : (t538 != false) = false := by simpa using c202
                     (try (have c202b1 : decide (t538 = false) = true := by simpa using c202))
                     (try (have c202b2 : (t538 == false) = true := by simpa using c202))
                     clear c202
                     by_cases c208 : (t540 != false) = true
                     ·rw [if_pos c208] at H
                      have c208b0 : (t540 != false) = true := c208
                      (try (have c208b1 : decide (t540 = false) = false := by simpa using c208))
                      (try (have c208b2 : (t540 == false) = false := by simpa using c208))
                      (try (have c208b3 : ¬ (t540 = false) := by simpa using c208))
                      clear c208
                      exact absurd ((Option.some.inj H).trans hrT) (by decide)
                     ·rw [if_neg c208] at H
                      have c208b0 : (t540 != false) = false := by simpa using c208
                      (try (have c208b1 : decide (t540 = false) = true := by simpa using c208))
                      (try (have c208b2 : (t540 == false) = true := by simpa using c208))
                      clear c208
                      have H' := Az_ H
                      clear H
                      go_wp2_with (first | ((with_reducible refine gate_callee (f := 44) rfl ?_); refine goesL_ (some 303) rfl rfl Tryz.func44 (w110_) rfl #[.slice Ao14 t471.length co14, .int .i64 x35_3] rfl maz_ ?_; (with_reducible refine (impl_HasIndexed.calls k3 _ _ t471 x35_3 false true _ ?side1 ?side2 A162.out).mono ?_); (case side1 => exact ucz_ ((Kd.R_reads' HO_5.out).2.2)); (case side2 => exact (Kd.R_reads' HO_5.out).2.1); rintro e w214 ⟨rfl, hb⟩; refine ⟨_, rfl, ?_⟩; replace HO_5 := Az_ (Kd.R_below (w106_) hb); replace HO_6 := Az_ (Kd.R_below (w107_) hb); replace HO_7 := Az_ (Kd.R_below (w108_) hb); replace HO_11 := Az_ (Kd.R_below (w91_) hb); replace HO_15 := Az_ (Kd.R_below (w86_) hb); replace HB := Az_ (btz_ (ubz_ HB.out) hb); (try clear hb); clear A162) | ((with_reducible refine gate_callee (f := 44) rfl ?_); refine goesL_ (some 309) rfl rfl Tryz.func44 (w110_) rfl #[.slice Ao15 t472.length co15, .int .i64 x35_3] rfl maz_ ?_; (with_reducible refine (impl_HasIndexed.calls k3 _ _ t472 x35_3 t536 true _ ?side1 ?side2 A163.out).mono ?_); (case side1 => exact ucz_ ((Kd.R_reads' HO_6.out).2.2)); (case side2 => exact (Kd.R_reads' HO_6.out).2.1); rintro e w215 ⟨rfl, hb⟩; refine ⟨_, rfl, ?_⟩; replace HO_5 := Az_ (Kd.R_below (w106_) hb); replace HO_6 := Az_ (Kd.R_below (w107_) hb); replace HO_7 := Az_ (Kd.R_below (w108_) hb); replace HO_11 := Az_ (Kd.R_below (w91_) hb); replace HO_15 := Az_ (Kd.R_below (w86_) hb); replace HB := Az_ (btz_ (ubz_ HB.out) hb); (try clear hb); clear A163) | ((with_reducible refine gate_callee (f := 44) rfl ?_); refine goesL_ (some 315) rfl rfl Tryz.func44 (w110_) rfl #[.slice Ao76 t477.length co76, .int .i64 x35_3] rfl maz_ ?_; (with_reducible refine (impl_HasIndexed.calls k3 _ _ t477 x35_3 t536 true _ ?side1 ?side2 A164.out).mono ?_); (case side1 => exact ucz_ ((Kd.R_reads' HO_7.out).2.2)); (case side2 => exact (Kd.R_reads' HO_7.out).2.1); rintro e w216 ⟨rfl, hb⟩; refine ⟨_, rfl, ?_⟩; replace HO_5 := Az_ (Kd.R_below (w106_) hb); replace HO_6 := Az_ (Kd.R_below (w107_) hb); replace HO_7 := Az_ (Kd.R_below (w108_) hb); replace HO_11 := Az_ (Kd.R_below (w91_) hb); replace HO_15 := Az_ (Kd.R_below (w86_) hb); replace HB := Az_ (btz_ (ubz_ HB.out) hb); (try clear hb); clear A164) | ((with_reducible refine gate_callee (f := 44) rfl ?_); refine goesL_ (some 321) rfl rfl Tryz.func44 (w110_) rfl #[.slice Ao78 t485.length co78, .int .i64 x35_3] rfl maz_ ?_; (with_reducible refine (impl_HasIndexed.calls k3 _ _ t485 x35_3 t538 true _ ?side1 ?side2 A165.out).mono ?_); (case side1 => exact ucz_ ((Kd.R_reads' HO_11.out).2.2)); (case side2 => exact (Kd.R_reads' HO_11.out).2.1); rintro e w217 ⟨rfl, hb⟩; refine ⟨_, rfl, ?_⟩; replace HO_5 := Az_ (Kd.R_below (w106_) hb); replace HO_6 := Az_ (Kd.R_below (w107_) hb); replace HO_7 := Az_ (Kd.R_below (w108_) hb); replace HO_11 := Az_ (Kd.R_below (w91_) hb); replace HO_15 := Az_ (Kd.R_below (w86_) hb); replace HB := Az_ (btz_ (ubz_ HB.out) hb); (try clear hb); clear A165) | ((with_reducible refine gate_callee (f := 44) rfl ?_); refine goesL_ (some 327) rfl rfl Tryz.func44 (w110_) rfl #[.slice Ao80 t493.length co80, .int .i64 x35_3] rfl maz_ ?_; (with_reducible refine (impl_HasIndexed.calls k3 _ _ t493 x35_3 t540 true _ ?side1 ?side2 A166.out).mono ?_); (case side1 => exact ucz_ ((Kd.R_reads' HO_15.out).2.2)); (case side2 => exact (Kd.R_reads' HO_15.out).2.1); rintro e w218 ⟨rfl, hb⟩; refine ⟨_, rfl, ?_⟩; replace HO_5 := Az_ (Kd.R_below (w106_) hb); replace HO_6 := Az_ (Kd.R_below (w107_) hb); replace HO_7 := Az_ (Kd.R_below (w108_) hb); replace HO_11 := Az_ (Kd.R_below (w91_) hb); replace HO_15 := Az_ (Kd.R_below (w86_) hb); replace HB := Az_ (btz_ (ubz_ HB.out) hb); (try clear hb)))
                      go_roundg k3
                      case measure => have := HJ11.out; have := HJ72.out; have := HK3.out; omega
                      case rel => exact ⟨(wrap64 (x35_3 + 1)), qaz_, H', ⟨by have := HJ11.out; have := HJ72.out; have := HK3.out; omega⟩, ⟨w71_⟩, ⟨w72_⟩, ⟨w73_⟩, ⟨w65_⟩, ⟨w64_⟩, ⟨w109_⟩⟩
                 ·replace c171 := Bool.eq_false_iff.mpr c171
                  subst c171
                  rw [if_neg nfz_] at H
                  exact absurd ((Option.some.inj H).trans hrT) (by decide)
                ·replace c170 := Bool.eq_false_iff.mpr c170
                 subst c170
                 rw [if_neg nfz_] at H
                 exact absurd ((Option.some.inj H).trans hrT) (by decide)
               ·replace c169 := Bool.eq_false_iff.mpr c169
                subst c169
                rw [if_neg nfz_] at H
                exact absurd ((Option.some.inj H).trans hrT) (by decide)
              ·replace c168 := Bool.eq_false_iff.mpr c168
               subst c168
               rw [if_neg nfz_] at H
               exact absurd ((Option.some.inj H).trans hrT) (by decide)
             ·replace c167 := Bool.eq_false_iff.mpr c167
              subst c167
              rw [if_neg nfz_] at H
              exact absurd ((Option.some.inj H).trans hrT) (by decide)
            ·rw [if_neg c161] at H
             have c161b0 := decide_eq_false c161
             clear c161
             have H' := Az_ H
             clear H
             go_wp2
             go_meet
             case rel => exact ⟨_, H', ⟨by have := HJ11.out; have := HJ72.out; have := HK3.out; first | omega | exact Nat.le_refl _⟩, ⟨w109_⟩⟩
      ·replace c64 := Bool.eq_false_iff.mpr c64
       subst c64
       rw [if_neg nfz_] at H
       have H' := Az_ H
       clear H
       go_wp2
       go_meet
       case rel => exact ⟨_, H', ⟨by have := HJ11.out; first | omega | exact Nat.le_refl _⟩, ⟨w109_⟩⟩
     case rest => as_aux_lemma =>
      clear HC63
      obtain ⟨kq, HA, HJ62, HB⟩ := hcut
      cases kq with
      | zero => exact absurd HA.out (by simp [j3])
      | succ kj62 =>
       have H := HA.out
       clear HA
       simp only [j3] at H
       replace H := bqz_ H; obtain ⟨t542, A244, H⟩ := H
       replace H := bqz_ H; obtain ⟨⟨t545, t546⟩, A245, H⟩ := H
       replace H := bqz_ H; obtain ⟨⟨t549, t550⟩, A246, H⟩ := H
       replace H := bqz_ H; obtain ⟨t553, A247, H⟩ := H
       replace H := bqz_ H; obtain ⟨⟨t556, t557⟩, A248, H⟩ := H
       replace H := bqz_ H; obtain ⟨⟨t560, t561⟩, A249, H⟩ := H
       replace H := bqz_ H; obtain ⟨t564, A250, H⟩ := H
       replace H := bqz_ H; obtain ⟨⟨t567, t568⟩, A251, H⟩ := H
       replace H := bqz_ H; obtain ⟨⟨t571, t572⟩, A252, H⟩ := H
       replace H := bqz_ H; obtain ⟨⟨t575, t576⟩, A253, H⟩ := H
       replace H := bqz_ H; obtain ⟨⟨t577, t578⟩, A254, H⟩ := H
       replace H := bqz_ H; obtain ⟨⟨t579, t580⟩, A255, H⟩ := H
       replace H := bqz_ H; obtain ⟨⟨t581, t582⟩, A256, H⟩ := H
       replace H := bqz_ H; obtain ⟨t583, A257, H⟩ := H
       replace H := bqz_ H; obtain ⟨⟨t584, t585⟩, A258, H⟩ := H
       replace H := bqz_ H; obtain ⟨⟨t588, t589⟩, A259, H⟩ := H
       replace H : (if (t546 != t550) = true then (j4 kj62 t542 t545 t546 t553 t556 t557 t564 t567 t568 t575 t579 t583 t584 t585 true) else ((laws_fRanges.f kj62 t545 t549).bind fun t592 => (if t592 = true then (if (t557 != t561) = true then (j4 kj62 t542 t545 t546 t553 t556 t557 t564 t567 t568 t575 t579 t583 t584 t585 true) else ((laws_fRanges.f kj62 t556 t560).bind fun t593 => (if t593 = true then (if (t568 != t572) = true then (j4 kj62 t542 t545 t546 t553 t556 t557 t564 t567 t568 t575 t579 t583 t584 t585 true) else ((laws_fSame.f kj62 t567 t571).bind fun t594 => (if t594 = true then (if (t576 != t578) = true then (j4 kj62 t542 t545 t546 t553 t556 t557 t564 t567 t568 t575 t579 t583 t584 t585 true) else (if t575.toList = t577.toList then (if (t580 != t582) = true then (j4 kj62 t542 t545 t546 t553 t556 t557 t564 t567 t568 t575 t579 t583 t584 t585 true) else (if t579 = t581 then (if (t585 != t589) = true then (j4 kj62 t542 t545 t546 t553 t556 t557 t564 t567 t568 t575 t579 t583 t584 t585 true) else ((laws_fRanges.f kj62 t584 t588).bind fun t595 => (if t595 = true then ((impl_AreRanges.f kj62 t564).bind fun t596 => (if (t568 != t596) = true then (j4 kj62 t542 t545 t546 t553 t556 t557 t564 t567 t568 t575 t579 t583 t584 t585 true) else ((impl_AreRanges.f kj62 t564).bind fun t597 => ((spec_AreRanges.f kj62 t564).bind fun t598 => (if (t597 != t598) = true then (j4 kj62 t542 t545 t546 t553 t556 t557 t564 t567 t568 t575 t579 t583 t584 t585 true) else (if (t576 != t568) = true then (j4 kj62 t542 t545 t546 t553 t556 t557 t564 t567 t568 t575 t579 t583 t584 t585 true) else (j4 kj62 t542 t545 t546 t553 t556 t557 t564 t567 t568 t575 t579 t583 t584 t585 (t580 != t568)))))))) else (j4 kj62 t542 t545 t546 t553 t556 t557 t564 t567 t568 t575 t579 t583 t584 t585 true)))) else (j4 kj62 t542 t545 t546 t553 t556 t557 t564 t567 t568 t575 t579 t583 t584 t585 true))) else (j4 kj62 t542 t545 t546 t553 t556 t557 t564 t567 t568 t575 t579 t583 t584 t585 true))) else (j4 kj62 t542 t545 t546 t553 t556 t557 t564 t567 t568 t575 t579 t583 t584 t585 true)))) else (j4 kj62 t542 t545 t546 t553 t556 t557 t564 t567 t568 t575 t579 t583 t584 t585 true)))) else (j4 kj62 t542 t545 t546 t553 t556 t557 t564 t567 t568 t575 t579 t583 t584 t585 true)))) = some r := H
       have HC260 := Az_ H
       clear H
       go_upto_region 49 with (first | ((with_reducible refine gate_callee (f := 45) rfl ?_); refine goesL_ (some 374) rfl rfl Tryz.func45 (w110_) rfl #[.slice A1 l1.length c1] rfl maz_ ?_; (with_reducible refine (spec_DrawMergeRanges.calls kj62 _ _ l1 t542 _ ?side1 ?side2 A244.out).mono ?_); (case side1 => exact ucz_ ((Kd.C_below HR1.out HB.out))); (case side2 => exact HC1.out); rintro e w261 ⟨v543, rfl, ho0, hb⟩; refine ⟨_, rfl, ?_⟩; have HO544 := Az_ (Kd.R_lower ho0 (below_size (ubz_ HB.out))); replace HB := Az_ (btz_ (ubz_ HB.out) hb); (try clear hb); (try clear ho0); obtain ⟨Ao262, co262, eo262⟩ := Kd.R_slice HO544.out; subst eo262) | ((with_reducible refine gate_callee (f := 46) rfl ?_); refine goesL_ (some 377) rfl rfl Tryz.func46 (w110_) rfl #[.slice Ao262 t542.length co262] rfl maz_ ?_; (with_reducible refine (impl_MergeRanges.calls kj62 _ _ t542 t545 t546 _ ?side1 ?side2 A245.out).mono ?_); (case side1 => exact ucz_ ((Kd.R_reads' HO544.out).2.2)); (case side2 => exact (Kd.R_reads' HO544.out).2.1); rintro e w263 ⟨v547, rfl, ho0, hb⟩; refine ⟨_, rfl, ?_⟩; have HO548 := Az_ (Kd.R_lower (Kd.R_new' ho0 (Kd.R_lt (w92_))) (below_size (ubz_ HB.out))); replace HO544 := Az_ (rez_ (w92_) (Kd.R_base ho0) hb); replace HB := Az_ (btz_ (ubz_ HB.out) hb); (try clear hb); (try clear ho0)) | ((with_reducible refine gate_callee (f := 47) rfl ?_); refine goesL_ (some 382) rfl rfl Tryz.func47 (w110_) rfl #[.slice Ao262 t542.length co262] rfl maz_ ?_; (with_reducible refine (spec_MergeRanges.calls kj62 _ _ t542 t549 t550 _ ?side1 ?side2 A246.out).mono ?_); (case side1 => exact ucz_ ((Kd.R_reads' HO544.out).2.2)); (case side2 => exact (Kd.R_reads' HO544.out).2.1); rintro e w264 ⟨v551, rfl, ho0, hb⟩; refine ⟨_, rfl, ?_⟩; have HO552 := Az_ (Kd.R_lower (Kd.R_new' (Kd.R_new' ho0 (Kd.R_lt (w92_))) (Kd.R_lt (w93_))) (below_size (ubz_ HB.out))); replace HO544 := Az_ (rez_ (w92_) (Kd.R_base ho0) hb); replace HO548 := Az_ (rez_ (w93_) (Kd.R_base ho0) hb); replace HB := Az_ (btz_ (ubz_ HB.out) hb); (try clear hb); (try clear ho0)) | ((with_reducible refine gate_callee (f := 48) rfl ?_); refine goesL_ (some 386) rfl rfl Tryz.func48 (w110_) rfl #[.slice A1 l1.length c1] rfl maz_ ?_; (with_reducible refine (spec_DrawRangesOfPages.calls kj62 _ _ l1 t553 _ ?side1 ?side2 A247.out).mono ?_); (case side1 => exact ucz_ ((Kd.C_below HR1.out HB.out))); (case side2 => exact HC1.out); rintro e w265 ⟨v554, rfl, ho0, hb⟩; refine ⟨_, rfl, ?_⟩; replace HO544 := Az_ (Kd.R_below (w92_) hb); replace HO548 := Az_ (Kd.R_below (w93_) hb); replace HO552 := Az_ (Kd.R_below (w94_) hb); have HO555 := Az_ (Kd.R_lower ho0 (below_size (ubz_ HB.out))); replace HB := Az_ (btz_ (ubz_ HB.out) hb); (try clear hb); (try clear ho0); obtain ⟨Ao266, co266, eo266⟩ := Kd.R_slice HO555.out; subst eo266) | ((with_reducible refine gate_callee (f := 49) rfl ?_); refine goesL_ (some 389) rfl rfl Tryz.func49 (w110_) rfl #[.slice Ao266 t553.length co266] rfl maz_ ?_; (with_reducible refine (impl_RangesOfPages.calls kj62 _ _ t553 t556 t557 _ ?side1 ?side2 A248.out).mono ?_); (case side1 => exact ucz_ ((Kd.R_reads' HO555.out).2.2)); (case side2 => exact (Kd.R_reads' HO555.out).2.1); rintro e w267 ⟨v558, rfl, ho0, hb⟩; refine ⟨_, rfl, ?_⟩; replace HO555 := Az_ (Kd.R_below (w95_) hb); have HO559 := Az_ (Kd.R_lower (Kd.R_new' (Kd.R_new' (Kd.R_new' ho0 (Kd.R_lt (w92_))) (Kd.R_lt (w93_))) (Kd.R_lt (w94_))) (below_size (ubz_ HB.out))); replace HO544 := Az_ (rez_ (w92_) (Kd.R_base ho0) hb); replace HO548 := Az_ (rez_ (w93_) (Kd.R_base ho0) hb); replace HO552 := Az_ (rez_ (w94_) (Kd.R_base ho0) hb); replace HB := Az_ (btz_ (ubz_ HB.out) hb); (try clear hb); (try clear ho0)) | ((with_reducible refine gate_callee (f := 50) rfl ?_); refine goesL_ (some 394) rfl rfl Tryz.func50 (w110_) rfl #[.slice Ao266 t553.length co266] rfl maz_ ?_; (with_reducible refine (spec_RangesOfPages.calls kj62 _ _ t553 t560 t561 _ ?side1 ?side2 A249.out).mono ?_); (case side1 => exact ucz_ ((Kd.R_reads' HO555.out).2.2)); (case side2 => exact (Kd.R_reads' HO555.out).2.1); rintro e w268 ⟨v562, rfl, ho0, hb⟩; refine ⟨_, rfl, ?_⟩; replace HO555 := Az_ (Kd.R_below (w95_) hb); have HO563 := Az_ (Kd.R_lower (Kd.R_new' (Kd.R_new' (Kd.R_new' (Kd.R_new' ho0 (Kd.R_lt (w92_))) (Kd.R_lt (w93_))) (Kd.R_lt (w94_))) (Kd.R_lt (w96_))) (below_size (ubz_ HB.out))); replace HO544 := Az_ (rez_ (w92_) (Kd.R_base ho0) hb); replace HO548 := Az_ (rez_ (w93_) (Kd.R_base ho0) hb); replace HO552 := Az_ (rez_ (w94_) (Kd.R_base ho0) hb); replace HO559 := Az_ (rez_ (w96_) (Kd.R_base ho0) hb); replace HB := Az_ (btz_ (ubz_ HB.out) hb); (try clear hb); (try clear ho0)) | ((with_reducible refine gate_callee (f := 51) rfl ?_); refine goesL_ (some 398) rfl rfl Tryz.func51 (w110_) rfl #[.slice A1 l1.length c1] rfl maz_ ?_; (with_reducible refine (spec_DrawPagesOfRanges.calls kj62 _ _ l1 t564 _ ?side1 ?side2 A250.out).mono ?_); (case side1 => exact ucz_ ((Kd.C_below HR1.out HB.out))); (case side2 => exact HC1.out); rintro e w269 ⟨v565, rfl, ho0, hb⟩; refine ⟨_, rfl, ?_⟩; replace HO555 := Az_ (Kd.R_below (w95_) hb); have HO566 := Az_ (Kd.R_lower (Kd.R_new' (Kd.R_new' (Kd.R_new' (Kd.R_new' (Kd.R_new' ho0 (Kd.R_lt (w92_))) (Kd.R_lt (w93_))) (Kd.R_lt (w94_))) (Kd.R_lt (w96_))) (Kd.R_lt (w97_))) (below_size (ubz_ HB.out))); replace HO544 := Az_ (rez_ (w92_) (Kd.R_base ho0) hb); replace HO548 := Az_ (rez_ (w93_) (Kd.R_base ho0) hb); replace HO552 := Az_ (rez_ (w94_) (Kd.R_base ho0) hb); replace HO559 := Az_ (rez_ (w96_) (Kd.R_base ho0) hb); replace HO563 := Az_ (rez_ (w97_) (Kd.R_base ho0) hb); replace HB := Az_ (btz_ (ubz_ HB.out) hb); (try clear hb); (try clear ho0); obtain ⟨Ao270, co270, eo270⟩ := Kd.R_slice HO566.out; subst eo270) | ((with_reducible refine gate_callee (f := 52) rfl ?_); refine goesL_ (some 401) rfl rfl Tryz.func52 (w110_) rfl #[.slice Ao270 t564.length co270] rfl maz_ ?_; (with_reducible refine (impl_PagesOfRanges.calls kj62 _ _ t564 t567 t568 _ ?side1 ?side2 A251.out).mono ?_); (case side1 => exact ucz_ ((Kd.R_reads' HO566.out).2.2)); (case side2 => exact (Kd.R_reads' HO566.out).2.1); rintro e w271 ⟨v569, rfl, ho0, hb⟩; refine ⟨_, rfl, ?_⟩; replace HO544 := Az_ (Kd.R_below (w92_) hb); replace HO548 := Az_ (Kd.R_below (w93_) hb); replace HO552 := Az_ (Kd.R_below (w94_) hb); replace HO559 := Az_ (Kd.R_below (w96_) hb); replace HO563 := Az_ (Kd.R_below (w97_) hb); replace HO566 := Az_ (Kd.R_below (w98_) hb); have HO570 := Az_ (Kd.R_lower (Kd.R_new' ho0 (Kd.R_lt (w95_))) (below_size (ubz_ HB.out))); replace HO555 := Az_ (rez_ (w95_) (Kd.R_base ho0) hb); replace HB := Az_ (btz_ (ubz_ HB.out) hb); (try clear hb); (try clear ho0)) | ((with_reducible refine gate_callee (f := 53) rfl ?_); refine goesL_ (some 406) rfl rfl Tryz.func53 (w110_) rfl #[.slice Ao270 t564.length co270] rfl maz_ ?_; (with_reducible refine (spec_PagesOfRanges.calls kj62 _ _ t564 t571 t572 _ ?side1 ?side2 A252.out).mono ?_); (case side1 => exact ucz_ ((Kd.R_reads' HO566.out).2.2)); (case side2 => exact (Kd.R_reads' HO566.out).2.1); rintro e w272 ⟨v573, rfl, ho0, hb⟩; refine ⟨_, rfl, ?_⟩; replace HO544 := Az_ (Kd.R_below (w92_) hb); replace HO548 := Az_ (Kd.R_below (w93_) hb); replace HO552 := Az_ (Kd.R_below (w94_) hb); replace HO559 := Az_ (Kd.R_below (w96_) hb); replace HO563 := Az_ (Kd.R_below (w97_) hb); replace HO566 := Az_ (Kd.R_below (w98_) hb); have HO574 := Az_ (Kd.R_lower (Kd.R_new' (Kd.R_new' ho0 (Kd.R_lt (w95_))) (Kd.R_lt (w99_))) (below_size (ubz_ HB.out))); replace HO555 := Az_ (rez_ (w95_) (Kd.R_base ho0) hb); replace HO570 := Az_ (rez_ (w99_) (Kd.R_base ho0) hb); replace HB := Az_ (btz_ (ubz_ HB.out) hb); (try clear hb); (try clear ho0)) | ((with_reducible refine gate_callee (f := 54) rfl ?_); refine goesL_ (some 411) rfl rfl Tryz.func54 (w110_) rfl #[.slice Ao270 t564.length co270] rfl maz_ ?_; (with_reducible refine (impl_RangesText.calls kj62 _ _ t564 t575 t576 _ (libW_below HTAB.out (ubz_ HB.out)) ?side1 ?side2 A253.out).mono ?_); (case side1 => exact ucz_ ((Kd.R_reads' HO566.out).2.2)); (case side2 => exact (Kd.R_reads' HO566.out).2.1); rintro e w273 ⟨rfl, hb⟩; refine ⟨_, rfl, ?_⟩; replace HO544 := Az_ (Kd.R_below (w92_) hb); replace HO548 := Az_ (Kd.R_below (w93_) hb); replace HO552 := Az_ (Kd.R_below (w94_) hb); replace HO555 := Az_ (Kd.R_below (w95_) hb); replace HO559 := Az_ (Kd.R_below (w96_) hb); replace HO563 := Az_ (Kd.R_below (w97_) hb); replace HO566 := Az_ (Kd.R_below (w98_) hb); replace HO570 := Az_ (Kd.R_below (w99_) hb); replace HO574 := Az_ (Kd.R_below (w100_) hb); replace HB := Az_ (btz_ (ubz_ HB.out) hb); (try clear hb)) | ((with_reducible refine gate_callee (f := 55) rfl ?_); refine goesL_ (some 416) rfl rfl Tryz.func55 (w110_) rfl #[.slice Ao270 t564.length co270] rfl maz_ ?_; (with_reducible refine (spec_RangesText.calls kj62 _ _ t564 t577 t578 _ ?side1 ?side2 A254.out).mono ?_); (case side1 => exact ucz_ ((Kd.R_reads' HO566.out).2.2)); (case side2 => exact (Kd.R_reads' HO566.out).2.1); rintro e w274 ⟨rfl, hb⟩; refine ⟨_, rfl, ?_⟩; replace HO544 := Az_ (Kd.R_below (w92_) hb); replace HO548 := Az_ (Kd.R_below (w93_) hb); replace HO552 := Az_ (Kd.R_below (w94_) hb); replace HO555 := Az_ (Kd.R_below (w95_) hb); replace HO559 := Az_ (Kd.R_below (w96_) hb); replace HO563 := Az_ (Kd.R_below (w97_) hb); replace HO566 := Az_ (Kd.R_below (w98_) hb); replace HO570 := Az_ (Kd.R_below (w99_) hb); replace HO574 := Az_ (Kd.R_below (w100_) hb); replace HB := Az_ (btz_ (ubz_ HB.out) hb); (try clear hb)) | ((with_reducible refine gate_callee (f := 42) rfl ?_); refine goesL_ (some 421) rfl rfl Tryz.func42 (w110_) rfl #[.slice Ao270 t564.length co270] rfl maz_ ?_; (with_reducible refine (impl_CountIndexed.calls kj62 _ _ t564 t579 t580 _ ?side1 ?side2 A255.out).mono ?_); (case side1 => exact ucz_ ((Kd.R_reads' HO566.out).2.2)); (case side2 => exact (Kd.R_reads' HO566.out).2.1); rintro e w275 ⟨rfl, hb⟩; refine ⟨_, rfl, ?_⟩; replace HO544 := Az_ (Kd.R_below (w92_) hb); replace HO548 := Az_ (Kd.R_below (w93_) hb); replace HO552 := Az_ (Kd.R_below (w94_) hb); replace HO555 := Az_ (Kd.R_below (w95_) hb); replace HO559 := Az_ (Kd.R_below (w96_) hb); replace HO563 := Az_ (Kd.R_below (w97_) hb); replace HO566 := Az_ (Kd.R_below (w98_) hb); replace HO570 := Az_ (Kd.R_below (w99_) hb); replace HO574 := Az_ (Kd.R_below (w100_) hb); replace HB := Az_ (btz_ (ubz_ HB.out) hb); (try clear hb)) | ((with_reducible refine gate_callee (f := 56) rfl ?_); refine goesL_ (some 426) rfl rfl Tryz.func56 (w110_) rfl #[.slice Ao270 t564.length co270] rfl maz_ ?_; (with_reducible refine (spec_CountIndexed.calls kj62 _ _ t564 t581 t582 _ ?side1 ?side2 A256.out).mono ?_); (case side1 => exact ucz_ ((Kd.R_reads' HO566.out).2.2)); (case side2 => exact (Kd.R_reads' HO566.out).2.1); rintro e w276 ⟨rfl, hb⟩; refine ⟨_, rfl, ?_⟩; replace HO544 := Az_ (Kd.R_below (w92_) hb); replace HO548 := Az_ (Kd.R_below (w93_) hb); replace HO552 := Az_ (Kd.R_below (w94_) hb); replace HO555 := Az_ (Kd.R_below (w95_) hb); replace HO559 := Az_ (Kd.R_below (w96_) hb); replace HO563 := Az_ (Kd.R_below (w97_) hb); replace HO566 := Az_ (Kd.R_below (w98_) hb); replace HO570 := Az_ (Kd.R_below (w99_) hb); replace HO574 := Az_ (Kd.R_below (w100_) hb); replace HB := Az_ (btz_ (ubz_ HB.out) hb); (try clear hb)) | ((with_reducible refine gate_callee (f := 57) rfl ?_); refine goesL_ (some 430) rfl rfl Tryz.func57 (w110_) rfl #[.slice A1 l1.length c1] rfl maz_ ?_; (with_reducible refine (spec_DrawParseRanges.calls kj62 _ _ l1 t583 _ ?side1 ?side2 A257.out).mono ?_); (case side1 => exact ucz_ ((Kd.C_below HR1.out HB.out))); (case side2 => exact HC1.out); rintro e w277 ⟨rfl, hb⟩; refine ⟨_, rfl, ?_⟩; replace HO544 := Az_ (Kd.R_below (w92_) hb); replace HO548 := Az_ (Kd.R_below (w93_) hb); replace HO552 := Az_ (Kd.R_below (w94_) hb); replace HO555 := Az_ (Kd.R_below (w95_) hb); replace HO559 := Az_ (Kd.R_below (w96_) hb); replace HO563 := Az_ (Kd.R_below (w97_) hb); replace HO566 := Az_ (Kd.R_below (w98_) hb); replace HO570 := Az_ (Kd.R_below (w99_) hb); replace HO574 := Az_ (Kd.R_below (w100_) hb); replace HB := Az_ (btz_ (ubz_ HB.out) hb); (try clear hb)) | ((with_reducible refine gate_callee (f := 58) rfl ?_); refine goesL_ (some 433) rfl rfl Tryz.func58 (w110_) rfl #[.string t583] rfl maz_ ?_; (with_reducible refine (impl_ParseRanges.calls kj62 t583 t584 t585 _ (libW_below HTAB.out (ubz_ HB.out)) A258.out).mono ?_); rintro e w278 ⟨v586, rfl, ho0, hb⟩; refine ⟨_, rfl, ?_⟩; replace HO555 := Az_ (Kd.R_below (w95_) hb); replace HO570 := Az_ (Kd.R_below (w99_) hb); replace HO574 := Az_ (Kd.R_below (w100_) hb); have HO587 := Az_ (Kd.R_lower (Kd.R_new' (Kd.R_new' (Kd.R_new' (Kd.R_new' (Kd.R_new' (Kd.R_new' ho0 (Kd.R_lt (w92_))) (Kd.R_lt (w93_))) (Kd.R_lt (w94_))) (Kd.R_lt (w96_))) (Kd.R_lt (w97_))) (Kd.R_lt (w98_))) (below_size (ubz_ HB.out))); replace HO544 := Az_ (rez_ (w92_) (Kd.R_base ho0) hb); replace HO548 := Az_ (rez_ (w93_) (Kd.R_base ho0) hb); replace HO552 := Az_ (rez_ (w94_) (Kd.R_base ho0) hb); replace HO559 := Az_ (rez_ (w96_) (Kd.R_base ho0) hb); replace HO563 := Az_ (rez_ (w97_) (Kd.R_base ho0) hb); replace HO566 := Az_ (rez_ (w98_) (Kd.R_base ho0) hb); replace HB := Az_ (btz_ (ubz_ HB.out) hb); (try clear hb); (try clear ho0)) | ((with_reducible refine gate_callee (f := 59) rfl ?_); refine goesL_ (some 438) rfl rfl Tryz.func59 (w110_) rfl #[.string t583] rfl maz_ ?_; (with_reducible refine (spec_ParseRanges.calls kj62 t583 t588 t589 _ A259.out).mono ?_); rintro e w279 ⟨v590, rfl, ho0, hb⟩; refine ⟨_, rfl, ?_⟩; replace HO555 := Az_ (Kd.R_below (w95_) hb); replace HO570 := Az_ (Kd.R_below (w99_) hb); replace HO574 := Az_ (Kd.R_below (w100_) hb); have HO591 := Az_ (Kd.R_lower (Kd.R_new' (Kd.R_new' (Kd.R_new' (Kd.R_new' (Kd.R_new' (Kd.R_new' (Kd.R_new' ho0 (Kd.R_lt (w92_))) (Kd.R_lt (w93_))) (Kd.R_lt (w94_))) (Kd.R_lt (w96_))) (Kd.R_lt (w97_))) (Kd.R_lt (w98_))) (Kd.R_lt (by exact urz_ HO587.out))) (below_size (ubz_ HB.out))); replace HO544 := Az_ (rez_ (w92_) (Kd.R_base ho0) hb); replace HO548 := Az_ (rez_ (w93_) (Kd.R_base ho0) hb); replace HO552 := Az_ (rez_ (w94_) (Kd.R_base ho0) hb); replace HO559 := Az_ (rez_ (w96_) (Kd.R_base ho0) hb); replace HO563 := Az_ (rez_ (w97_) (Kd.R_base ho0) hb); replace HO566 := Az_ (rez_ (w98_) (Kd.R_base ho0) hb); replace HO587 := Az_ (rez_ (by exact urz_ HO587.out) (Kd.R_base ho0) hb); replace HB := Az_ (btz_ (ubz_ HB.out) hb); (try clear hb); (try clear ho0)))
       (try simp only [Act.put, List.setIfInBounds_toArray, List.set_cons_zero, List.set_cons_succ])
       go_cut [525] from 1 to 0 (fun v525 wc => ∃ (kq : Nat) (x525_259 : Bool), v525 = .bool x525_259 ∧ Aside0 (j4 kq t542 t545 t546 t553 t556 t557 t564 t567 t568 t575 t579 t583 t584 t585 x525_259 = some r) ∧ Aside0 (kq ≤ kj62) ∧ Aside0 (Kd.R k69 69 wc w.heap.size (fun k_ => some k_ ≠ (v547 : Value).ownBlock ∧ some k_ ≠ (v558 : Value).ownBlock ∧ some k_ ≠ ((.slice Ao270 t564.length co270) : Value).ownBlock ∧ some k_ ≠ (v586 : Value).ownBlock) (.slice Ao262 t542.length co262) t542) ∧ Aside0 (Kd.R k69 69 wc w.heap.size (fun k_ => some k_ ≠ ((.slice Ao262 t542.length co262) : Value).ownBlock ∧ some k_ ≠ (v558 : Value).ownBlock ∧ some k_ ≠ ((.slice Ao270 t564.length co270) : Value).ownBlock ∧ some k_ ≠ (v586 : Value).ownBlock) v547 t545) ∧ Aside0 (Kd.R (Kd.int .i64) 3 wc w.heap.size (fun k_ => some k_ ≠ (v569 : Value).ownBlock) (.slice Ao266 t553.length co266) t553) ∧ Aside0 (Kd.R k69 69 wc w.heap.size (fun k_ => some k_ ≠ ((.slice Ao262 t542.length co262) : Value).ownBlock ∧ some k_ ≠ (v547 : Value).ownBlock ∧ some k_ ≠ ((.slice Ao270 t564.length co270) : Value).ownBlock ∧ some k_ ≠ (v586 : Value).ownBlock) v558 t556) ∧ Aside0 (Kd.R k69 69 wc w.heap.size (fun k_ => some k_ ≠ ((.slice Ao262 t542.length co262) : Value).ownBlock ∧ some k_ ≠ (v547 : Value).ownBlock ∧ some k_ ≠ (v558 : Value).ownBlock ∧ some k_ ≠ (v586 : Value).ownBlock) (.slice Ao270 t564.length co270) t564) ∧ Aside0 (Kd.R (Kd.int .i64) 3 wc w.heap.size (fun k_ => some k_ ≠ ((.slice Ao266 t553.length co266) : Value).ownBlock) v569 t567) ∧ Aside0 (Kd.R k69 69 wc w.heap.size (fun k_ => some k_ ≠ ((.slice Ao262 t542.length co262) : Value).ownBlock ∧ some k_ ≠ (v547 : Value).ownBlock ∧ some k_ ≠ (v558 : Value).ownBlock ∧ some k_ ≠ ((.slice Ao270 t564.length co270) : Value).ownBlock) v586 t584) ∧ Aside0 (Below w.heap.size w wc))
       case first => as_aux_lemma =>
        have H := HC260.out
        clear HC260
        by_cases c280 : (t546 != t550) = true
        ·rw [if_pos c280] at H
         exact (laws_FnIndexesMerge.j4_no _ _ _ _ _ _ _ _ _ _ _ _ _ _ _ _ hrT H).elim
        ·rw [if_neg c280] at H
         obtain rfl : t546 = t550 := by simpa using c280
         clear c280
         replace H := bqz_ H; obtain ⟨t592, A281, H⟩ := H
         replace H : (if t592 = true then (if (t557 != t561) = true then (j4 kj62 t542 t545 t546 t553 t556 t557 t564 t567 t568 t575 t579 t583 t584 t585 true) else ((laws_fRanges.f kj62 t556 t560).bind fun t593 => (if t593 = true then (if (t568 != t572) = true then (j4 kj62 t542 t545 t546 t553 t556 t557 t564 t567 t568 t575 t579 t583 t584 t585 true) else ((laws_fSame.f kj62 t567 t571).bind fun t594 => (if t594 = true then (if (t576 != t578) = true then (j4 kj62 t542 t545 t546 t553 t556 t557 t564 t567 t568 t575 t579 t583 t584 t585 true) else (if t575.toList = t577.toList then (if (t580 != t582) = true then (j4 kj62 t542 t545 t546 t553 t556 t557 t564 t567 t568 t575 t579 t583 t584 t585 true) else (if t579 = t581 then (if (t585 != t589) = true then (j4 kj62 t542 t545 t546 t553 t556 t557 t564 t567 t568 t575 t579 t583 t584 t585 true) else ((laws_fRanges.f kj62 t584 t588).bind fun t595 => (if t595 = true then ((impl_AreRanges.f kj62 t564).bind fun t596 => (if (t568 != t596) = true then (j4 kj62 t542 t545 t546 t553 t556 t557 t564 t567 t568 t575 t579 t583 t584 t585 true) else ((impl_AreRanges.f kj62 t564).bind fun t597 => ((spec_AreRanges.f kj62 t564).bind fun t598 => (if (t597 != t598) = true then (j4 kj62 t542 t545 t546 t553 t556 t557 t564 t567 t568 t575 t579 t583 t584 t585 true) else (if (t576 != t568) = true then (j4 kj62 t542 t545 t546 t553 t556 t557 t564 t567 t568 t575 t579 t583 t584 t585 true) else (j4 kj62 t542 t545 t546 t553 t556 t557 t564 t567 t568 t575 t579 t583 t584 t585 (t580 != t568)))))))) else (j4 kj62 t542 t545 t546 t553 t556 t557 t564 t567 t568 t575 t579 t583 t584 t585 true)))) else (j4 kj62 t542 t545 t546 t553 t556 t557 t564 t567 t568 t575 t579 t583 t584 t585 true))) else (j4 kj62 t542 t545 t546 t553 t556 t557 t564 t567 t568 t575 t579 t583 t584 t585 true))) else (j4 kj62 t542 t545 t546 t553 t556 t557 t564 t567 t568 t575 t579 t583 t584 t585 true)))) else (j4 kj62 t542 t545 t546 t553 t556 t557 t564 t567 t568 t575 t579 t583 t584 t585 true)))) else (j4 kj62 t542 t545 t546 t553 t556 t557 t564 t567 t568 t575 t579 t583 t584 t585 true)) = some r := H
         by_cases c282 : t592 = true
         ·subst c282
          rw [if_pos rfl] at H
          by_cases c283 : (t557 != t561) = true
          ·rw [if_pos c283] at H
           exact (laws_FnIndexesMerge.j4_no _ _ _ _ _ _ _ _ _ _ _ _ _ _ _ _ hrT H).elim
          ·rw [if_neg c283] at H
           obtain rfl : t557 = t561 := by simpa using c283
           clear c283
           replace H := bqz_ H; obtain ⟨t593, A286, H⟩ := H
           replace H : (if t593 = true then (if (t568 != t572) = true then (j4 kj62 t542 t545 t546 t553 t556 t557 t564 t567 t568 t575 t579 t583 t584 t585 true) else ((laws_fSame.f kj62 t567 t571).bind fun t594 => (if t594 = true then (if (t576 != t578) = true then (j4 kj62 t542 t545 t546 t553 t556 t557 t564 t567 t568 t575 t579 t583 t584 t585 true) else (if t575.toList = t577.toList then (if (t580 != t582) = true then (j4 kj62 t542 t545 t546 t553 t556 t557 t564 t567 t568 t575 t579 t583 t584 t585 true) else (if t579 = t581 then (if (t585 != t589) = true then (j4 kj62 t542 t545 t546 t553 t556 t557 t564 t567 t568 t575 t579 t583 t584 t585 true) else ((laws_fRanges.f kj62 t584 t588).bind fun t595 => (if t595 = true then ((impl_AreRanges.f kj62 t564).bind fun t596 => (if (t568 != t596) = true then (j4 kj62 t542 t545 t546 t553 t556 t557 t564 t567 t568 t575 t579 t583 t584 t585 true) else ((impl_AreRanges.f kj62 t564).bind fun t597 => ((spec_AreRanges.f kj62 t564).bind fun t598 => (if (t597 != t598) = true then (j4 kj62 t542 t545 t546 t553 t556 t557 t564 t567 t568 t575 t579 t583 t584 t585 true) else (if (t576 != t568) = true then (j4 kj62 t542 t545 t546 t553 t556 t557 t564 t567 t568 t575 t579 t583 t584 t585 true) else (j4 kj62 t542 t545 t546 t553 t556 t557 t564 t567 t568 t575 t579 t583 t584 t585 (t580 != t568)))))))) else (j4 kj62 t542 t545 t546 t553 t556 t557 t564 t567 t568 t575 t579 t583 t584 t585 true)))) else (j4 kj62 t542 t545 t546 t553 t556 t557 t564 t567 t568 t575 t579 t583 t584 t585 true))) else (j4 kj62 t542 t545 t546 t553 t556 t557 t564 t567 t568 t575 t579 t583 t584 t585 true))) else (j4 kj62 t542 t545 t546 t553 t556 t557 t564 t567 t568 t575 t579 t583 t584 t585 true)))) else (j4 kj62 t542 t545 t546 t553 t556 t557 t564 t567 t568 t575 t579 t583 t584 t585 true)) = some r := H
           by_cases c287 : t593 = true
           ·subst c287
            rw [if_pos rfl] at H
            by_cases c288 : (t568 != t572) = true
            ·rw [if_pos c288] at H
             exact (laws_FnIndexesMerge.j4_no _ _ _ _ _ _ _ _ _ _ _ _ _ _ _ _ hrT H).elim
            ·rw [if_neg c288] at H
             obtain rfl : t568 = t572 := by simpa using c288
             clear c288
             replace H := bqz_ H; obtain ⟨t594, A293, H⟩ := H
             replace H : (if t594 = true then (if (t576 != t578) = true then (j4 kj62 t542 t545 t546 t553 t556 t557 t564 t567 t568 t575 t579 t583 t584 t585 true) else (if t575.toList = t577.toList then (if (t580 != t582) = true then (j4 kj62 t542 t545 t546 t553 t556 t557 t564 t567 t568 t575 t579 t583 t584 t585 true) else (if t579 = t581 then (if (t585 != t589) = true then (j4 kj62 t542 t545 t546 t553 t556 t557 t564 t567 t568 t575 t579 t583 t584 t585 true) else ((laws_fRanges.f kj62 t584 t588).bind fun t595 => (if t595 = true then ((impl_AreRanges.f kj62 t564).bind fun t596 => (if (t568 != t596) = true then (j4 kj62 t542 t545 t546 t553 t556 t557 t564 t567 t568 t575 t579 t583 t584 t585 true) else ((impl_AreRanges.f kj62 t564).bind fun t597 => ((spec_AreRanges.f kj62 t564).bind fun t598 => (if (t597 != t598) = true then (j4 kj62 t542 t545 t546 t553 t556 t557 t564 t567 t568 t575 t579 t583 t584 t585 true) else (if (t576 != t568) = true then (j4 kj62 t542 t545 t546 t553 t556 t557 t564 t567 t568 t575 t579 t583 t584 t585 true) else (j4 kj62 t542 t545 t546 t553 t556 t557 t564 t567 t568 t575 t579 t583 t584 t585 (t580 != t568)))))))) else (j4 kj62 t542 t545 t546 t553 t556 t557 t564 t567 t568 t575 t579 t583 t584 t585 true)))) else (j4 kj62 t542 t545 t546 t553 t556 t557 t564 t567 t568 t575 t579 t583 t584 t585 true))) else (j4 kj62 t542 t545 t546 t553 t556 t557 t564 t567 t568 t575 t579 t583 t584 t585 true))) else (j4 kj62 t542 t545 t546 t553 t556 t557 t564 t567 t568 t575 t579 t583 t584 t585 true)) = some r := H
             by_cases c294 : t594 = true
             ·subst c294
              rw [if_pos rfl] at H
              by_cases c295 : (t576 != t578) = true
              ·rw [if_pos c295] at H
               exact (laws_FnIndexesMerge.j4_no _ _ _ _ _ _ _ _ _ _ _ _ _ _ _ _ hrT H).elim
              ·rw [if_neg c295] at H
               obtain rfl : t576 = t578 := by simpa using c295
               clear c295
               by_cases c302 : t575.toList = t577.toList
               ·rw [if_pos c302] at H
                have c302b0 : (t575.toList == t577.toList) = true := beq_iff_eq.mpr c302
                have c302b1 : (t575.toList != t577.toList) = false := bne_eq_false_iff_eq.mpr c302
                clear c302
                by_cases c303 : (t580 != t582) = true
                ·rw [if_pos c303] at H
                 exact (laws_FnIndexesMerge.j4_no _ _ _ _ _ _ _ _ _ _ _ _ _ _ _ _ hrT H).elim
                ·rw [if_neg c303] at H
                 obtain rfl : t580 = t582 := by simpa using c303
                 clear c303
                 by_cases c310 : t579 = t581
                 ·rw [if_pos c310] at H
                  subst c310
                  by_cases c311 : (t585 != t589) = true
                  ·rw [if_pos c311] at H
                   exact (laws_FnIndexesMerge.j4_no _ _ _ _ _ _ _ _ _ _ _ _ _ _ _ _ hrT H).elim
                  ·rw [if_neg c311] at H
                   obtain rfl : t585 = t589 := by simpa using c311
                   clear c311
                   replace H := bqz_ H; obtain ⟨t595, A318, H⟩ := H
                   replace H : (if t595 = true then ((impl_AreRanges.f kj62 t564).bind fun t596 => (if (t568 != t596) = true then (j4 kj62 t542 t545 t546 t553 t556 t557 t564 t567 t568 t575 t579 t583 t584 t585 true) else ((impl_AreRanges.f kj62 t564).bind fun t597 => ((spec_AreRanges.f kj62 t564).bind fun t598 => (if (t597 != t598) = true then (j4 kj62 t542 t545 t546 t553 t556 t557 t564 t567 t568 t575 t579 t583 t584 t585 true) else (if (t576 != t568) = true then (j4 kj62 t542 t545 t546 t553 t556 t557 t564 t567 t568 t575 t579 t583 t584 t585 true) else (j4 kj62 t542 t545 t546 t553 t556 t557 t564 t567 t568 t575 t579 t583 t584 t585 (t580 != t568)))))))) else (j4 kj62 t542 t545 t546 t553 t556 t557 t564 t567 t568 t575 t579 t583 t584 t585 true)) = some r := H
                   by_cases c319 : t595 = true
                   ·subst c319
                    rw [if_pos rfl] at H
                    replace H := bqz_ H; obtain ⟨t596, A320, H⟩ := H
                    replace H : (if (t568 != t596) = true then (j4 kj62 t542 t545 t546 t553 t556 t557 t564 t567 t568 t575 t579 t583 t584 t585 true) else ((impl_AreRanges.f kj62 t564).bind fun t597 => ((spec_AreRanges.f kj62 t564).bind fun t598 => (if (t597 != t598) = true then (j4 kj62 t542 t545 t546 t553 t556 t557 t564 t567 t568 t575 t579 t583 t584 t585 true) else (if (t576 != t568) = true then (j4 kj62 t542 t545 t546 t553 t556 t557 t564 t567 t568 t575 t579 t583 t584 t585 true) else (j4 kj62 t542 t545 t546 t553 t556 t557 t564 t567 t568 t575 t579 t583 t584 t585 (t580 != t568))))))) = some r := H
                    by_cases c321 : (t568 != t596) = true
                    ·rw [if_pos c321] at H
                     exact (laws_FnIndexesMerge.j4_no _ _ _ _ _ _ _ _ _ _ _ _ _ _ _ _ hrT H).elim
                    ·rw [if_neg c321] at H
                     obtain rfl : t568 = t596 := by simpa using c321
                     clear c321
                     replace H := bqz_ H; obtain ⟨t597, A331, H⟩ := H
                     replace H := bqz_ H; obtain ⟨t598, A332, H⟩ := H
                     replace H : (if (t597 != t598) = true then (j4 kj62 t542 t545 t546 t553 t556 t557 t564 t567 t568 t575 t579 t583 t584 t585 true) else (if (t576 != t568) = true then (j4 kj62 t542 t545 t546 t553 t556 t557 t564 t567 t568 t575 t579 t583 t584 t585 true) else (j4 kj62 t542 t545 t546 t553 t556 t557 t564 t567 t568 t575 t579 t583 t584 t585 (t580 != t568)))) = some r := H
                     by_cases c333 : (t597 != t598) = true
                     ·rw [if_pos c333] at H
                      exact (laws_FnIndexesMerge.j4_no _ _ _ _ _ _ _ _ _ _ _ _ _ _ _ _ hrT H).elim
                     ·rw [if_neg c333] at H
                      obtain rfl : t597 = t598 := by simpa using c333
                      clear c333
                      by_cases c345 : (t576 != t568) = true
                      ·rw [if_pos c345] at H
                       exact (laws_FnIndexesMerge.j4_no _ _ _ _ _ _ _ _ _ _ _ _ _ _ _ _ hrT H).elim
                      ·rw [if_neg c345] at H
                       obtain rfl : t576 = t568 := by simpa using c345
                       clear c345
                       have H' := Az_ H
                       clear H
                       obtain ⟨Ao357, co357, eo357⟩ := Kd.R_slice HO548.out
                       subst eo357
                       obtain ⟨Ao358, co358, eo358⟩ := Kd.R_slice HO552.out
                       subst eo358
                       go_wp2_with (first | (go_at_call 41; (with_reducible refine (laws_fRanges.calls kj62 _ _ t545 _ _ t549 true _ ?side1 ?side2 ?side3 ?side4 A281.out).mono ?_); (case side1 => exact ucz_ ((Kd.R_reads' HO548.out).2.2)); (case side2 => exact (Kd.R_reads' HO548.out).2.1); (case side3 => exact ucz_ ((Kd.R_reads' HO552.out).2.2)); (case side4 => exact (Kd.R_reads' HO552.out).2.1); rintro e w' ⟨rfl, ⟨nd, rfl⟩⟩; obtain ⟨Ao359, co359, eo359⟩ := Kd.R_slice HO559.out; subst eo359; obtain ⟨Ao360, co360, eo360⟩ := Kd.R_slice HO563.out; subst eo360; clear A281) | (go_at_call 41; (with_reducible refine (laws_fRanges.calls kj62 _ _ t556 _ _ t560 true _ ?side1 ?side2 ?side3 ?side4 A286.out).mono ?_); (case side1 => exact ucz_ ((Kd.R_reads' HO559.out).2.2)); (case side2 => exact (Kd.R_reads' HO559.out).2.1); (case side3 => exact ucz_ ((Kd.R_reads' HO563.out).2.2)); (case side4 => exact (Kd.R_reads' HO563.out).2.1); rintro e w' ⟨rfl, ⟨nd, rfl⟩⟩; obtain ⟨Ao361, co361, eo361⟩ := Kd.R_slice HO570.out; subst eo361; obtain ⟨Ao362, co362, eo362⟩ := Kd.R_slice HO574.out; subst eo362; clear A286) | (go_at_call 20; (with_reducible refine (laws_fSame.calls kj62 _ _ t567 _ _ t571 true _ ?side1 ?side2 ?side3 ?side4 A293.out).mono ?_); (case side1 => exact ucz_ ((Kd.R_reads' HO570.out).2.2)); (case side2 => exact (Kd.R_reads' HO570.out).2.1); (case side3 => exact ucz_ ((Kd.R_reads' HO574.out).2.2)); (case side4 => exact (Kd.R_reads' HO574.out).2.1); rintro e w' ⟨rfl, ⟨nd, rfl⟩⟩; obtain ⟨Ao363, co363, eo363⟩ := Kd.R_slice HO587.out; subst eo363; obtain ⟨Ao364, co364, eo364⟩ := Kd.R_slice HO591.out; subst eo364) | (go_at_call 41; (with_reducible refine (laws_fRanges.calls kj62 _ _ t584 _ _ t588 true _ ?side1 ?side2 ?side3 ?side4 A318.out).mono ?_); (case side1 => exact ucz_ ((Kd.R_reads' HO587.out).2.2)); (case side2 => exact (Kd.R_reads' HO587.out).2.1); (case side3 => exact ucz_ ((Kd.R_reads' HO591.out).2.2)); (case side4 => exact (Kd.R_reads' HO591.out).2.1); rintro e w' ⟨rfl, ⟨nd, rfl⟩⟩) | (go_at_call 43; (with_reducible refine (impl_AreRanges.calls kj62 _ _ t564 t576 _ ?side1 ?side2 A320.out).mono ?_); (case side1 => exact ucz_ ((Kd.R_reads' HO566.out).2.2)); (case side2 => exact (Kd.R_reads' HO566.out).2.1); rintro e w365 ⟨rfl, hb⟩; replace HO544 := Az_ (Kd.R_below (w92_) hb); replace HO548 := Az_ (Kd.R_below (w93_) hb); replace HO552 := Az_ (Kd.R_below (w94_) hb); replace HO555 := Az_ (Kd.R_below (w95_) hb); replace HO559 := Az_ (Kd.R_below (w96_) hb); replace HO563 := Az_ (Kd.R_below (w97_) hb); replace HO566 := Az_ (Kd.R_below (w98_) hb); replace HO570 := Az_ (Kd.R_below (w99_) hb); replace HO574 := Az_ (Kd.R_below (w100_) hb); replace HO587 := Az_ (Kd.R_below (by exact urz_ HO587.out) hb); replace HO591 := Az_ (Kd.R_below (by exact urz_ HO591.out) hb); replace HB := Az_ (btz_ (ubz_ HB.out) hb); (try clear hb); clear A320) | (go_at_call 43; (with_reducible refine (impl_AreRanges.calls kj62 _ _ t564 t597 _ ?side1 ?side2 A331.out).mono ?_); (case side1 => exact ucz_ ((Kd.R_reads' HO566.out).2.2)); (case side2 => exact (Kd.R_reads' HO566.out).2.1); rintro e w366 ⟨rfl, hb⟩; replace HO544 := Az_ (Kd.R_below (w92_) hb); replace HO548 := Az_ (Kd.R_below (w93_) hb); replace HO552 := Az_ (Kd.R_below (w94_) hb); replace HO555 := Az_ (Kd.R_below (w95_) hb); replace HO559 := Az_ (Kd.R_below (w96_) hb); replace HO563 := Az_ (Kd.R_below (w97_) hb); replace HO566 := Az_ (Kd.R_below (w98_) hb); replace HO570 := Az_ (Kd.R_below (w99_) hb); replace HO574 := Az_ (Kd.R_below (w100_) hb); replace HO587 := Az_ (Kd.R_below (by exact urz_ HO587.out) hb); replace HO591 := Az_ (Kd.R_below (by exact urz_ HO591.out) hb); replace HB := Az_ (btz_ (ubz_ HB.out) hb); (try clear hb)) | (go_at_call 60; (with_reducible refine (spec_AreRanges.calls kj62 _ _ t564 t597 _ ?side1 ?side2 A332.out).mono ?_); (case side1 => exact ucz_ ((Kd.R_reads' HO566.out).2.2)); (case side2 => exact (Kd.R_reads' HO566.out).2.1); rintro e w367 ⟨rfl, hb⟩; replace HO544 := Az_ (Kd.R_below (w92_) hb); replace HO548 := Az_ (Kd.R_below (w93_) hb); replace HO552 := Az_ (Kd.R_below (w94_) hb); replace HO555 := Az_ (Kd.R_below (w95_) hb); replace HO559 := Az_ (Kd.R_below (w96_) hb); replace HO563 := Az_ (Kd.R_below (w97_) hb); replace HO566 := Az_ (Kd.R_below (w98_) hb); replace HO570 := Az_ (Kd.R_below (w99_) hb); replace HO574 := Az_ (Kd.R_below (w100_) hb); replace HO587 := Az_ (Kd.R_below (by exact urz_ HO587.out) hb); replace HO591 := Az_ (Kd.R_below (by exact urz_ HO591.out) hb); replace HB := Az_ (btz_ (ubz_ HB.out) hb); (try clear hb)))
                       go_meet
                       case rel => exact ⟨_, ((t580 != t576)), qaz_, H', ⟨by have := HJ11.out; have := HJ62.out; first | omega | exact Nat.le_refl _⟩, ⟨by (with_reducible repeat (first | apply raz_ | apply rnz_ | apply rdz_)); exact Kd.R_mono HO544.out (fun _ hk => ⟨hk.1.1.1.1.1.1.2, ⟨hk.1.1.1.1.2, ⟨hk.1.1.2, hk.1.2⟩⟩⟩)⟩, ⟨by (with_reducible repeat (first | apply raz_ | apply rnz_ | apply rdz_)); exact Kd.R_mono HO548.out (fun _ hk => ⟨hk.1.1.1.1.1.1.2, ⟨hk.1.1.1.1.2, ⟨hk.1.1.2, hk.1.2⟩⟩⟩)⟩, ⟨by (with_reducible repeat (first | apply raz_ | apply rnz_ | apply rdz_)); exact Kd.R_mono HO555.out (fun _ hk => hk.1.2)⟩, ⟨by (with_reducible repeat (first | apply raz_ | apply rnz_ | apply rdz_)); exact Kd.R_mono HO559.out (fun _ hk => ⟨hk.1.1.1.1.1.1.2, ⟨hk.1.1.1.1.1.2, ⟨hk.1.1.2, hk.1.2⟩⟩⟩)⟩, ⟨by (with_reducible repeat (first | apply raz_ | apply rnz_ | apply rdz_)); exact Kd.R_mono HO566.out (fun _ hk => ⟨hk.1.1.1.1.1.1.2, ⟨hk.1.1.1.1.1.2, ⟨hk.1.1.1.2, hk.1.2⟩⟩⟩)⟩, ⟨by (with_reducible repeat (first | apply raz_ | apply rnz_ | apply rdz_)); exact Kd.R_mono HO570.out (fun _ hk => hk.1.2)⟩, ⟨by (with_reducible repeat (first | apply raz_ | apply rnz_ | apply rdz_)); exact Kd.R_mono HO587.out (fun _ hk => ⟨hk.1.1.1.1.1.1.2, ⟨hk.1.1.1.1.1.2, ⟨hk.1.1.1.2, hk.1.2⟩⟩⟩)⟩, ⟨w109_⟩⟩
                   ·replace c319 := Bool.eq_false_iff.mpr c319
                    subst c319
                    have H1 : (j4 kj62 t542 t545 t546 t553 t556 t557 t564 t567 t568 t575 t579 t583 t584 t585 true) = some r := by rw [if_neg (show ¬ (false = true) by decide)] at H; exact H
                    clear H
                    have H := H1
                    exact (laws_FnIndexesMerge.j4_no _ _ _ _ _ _ _ _ _ _ _ _ _ _ _ _ hrT H).elim
                 ·rw [if_neg c310] at H
                  exact (laws_FnIndexesMerge.j4_no _ _ _ _ _ _ _ _ _ _ _ _ _ _ _ _ hrT H).elim
               ·rw [if_neg c302] at H
                exact (laws_FnIndexesMerge.j4_no _ _ _ _ _ _ _ _ _ _ _ _ _ _ _ _ hrT H).elim
             ·replace c294 := Bool.eq_false_iff.mpr c294
              subst c294
              have H1 : (j4 kj62 t542 t545 t546 t553 t556 t557 t564 t567 t568 t575 t579 t583 t584 t585 true) = some r := by rw [if_neg (show ¬ (false = true) by decide)] at H; exact H
              clear H
              have H := H1
              exact (laws_FnIndexesMerge.j4_no _ _ _ _ _ _ _ _ _ _ _ _ _ _ _ _ hrT H).elim
           ·replace c287 := Bool.eq_false_iff.mpr c287
            subst c287
            have H1 : (j4 kj62 t542 t545 t546 t553 t556 t557 t564 t567 t568 t575 t579 t583 t584 t585 true) = some r := by rw [if_neg (show ¬ (false = true) by decide)] at H; exact H
            clear H
            have H := H1
            exact (laws_FnIndexesMerge.j4_no _ _ _ _ _ _ _ _ _ _ _ _ _ _ _ _ hrT H).elim
         ·replace c282 := Bool.eq_false_iff.mpr c282
          subst c282
          have H1 : (j4 kj62 t542 t545 t546 t553 t556 t557 t564 t567 t568 t575 t579 t583 t584 t585 true) = some r := by rw [if_neg (show ¬ (false = true) by decide)] at H; exact H
          clear H
          have H := H1
          exact (laws_FnIndexesMerge.j4_no _ _ _ _ _ _ _ _ _ _ _ _ _ _ _ _ hrT H).elim
       case rest => as_aux_lemma =>
        clear HC260
        obtain ⟨kq, x525_259, rfl, HA, HJ259, HO_46, HO_47, HO_51, HO_52, HO_56, HO_57, HO_70, HB⟩ := hcut
        cases kq with
        | zero => exact absurd HA.out (by simp [j4])
        | succ kj259 =>
         have H := HA.out
         clear HA
         simp only [j4] at H
         by_cases c400 : x525_259 = true
         ·subst c400
          rw [if_pos rfl] at H
          exact absurd ((Option.some.inj H).trans hrT) (by decide)
         ·replace c400 := Bool.eq_false_iff.mpr c400
          subst c400
          rw [if_neg nfz_] at H
          have HC401 := Az_ H
          clear H
          go_upto_if 526 with (fail)
          go_cut [] from 1 to 0 (fun wc => ∃ (kq : Nat), Aside0 (j7 kq t553 t556 t557 t564 t567 t568 t575 t579 t583 t584 t585 = some r) ∧ Aside0 (kq ≤ kj259) ∧ Aside0 (Kd.R (Kd.int .i64) 3 wc w.heap.size (fun k_ => some k_ ≠ (v569 : Value).ownBlock) (.slice Ao266 t553.length co266) t553) ∧ Aside0 (Kd.R k69 69 wc w.heap.size (fun k_ => some k_ ≠ ((.slice Ao270 t564.length co270) : Value).ownBlock ∧ some k_ ≠ (v586 : Value).ownBlock) v558 t556) ∧ Aside0 (Kd.R k69 69 wc w.heap.size (fun k_ => some k_ ≠ (v558 : Value).ownBlock ∧ some k_ ≠ (v586 : Value).ownBlock) (.slice Ao270 t564.length co270) t564) ∧ Aside0 (Kd.R (Kd.int .i64) 3 wc w.heap.size (fun k_ => some k_ ≠ ((.slice Ao266 t553.length co266) : Value).ownBlock) v569 t567) ∧ Aside0 (Kd.R k69 69 wc w.heap.size (fun k_ => some k_ ≠ (v558 : Value).ownBlock ∧ some k_ ≠ ((.slice Ao270 t564.length co270) : Value).ownBlock) v586 t584) ∧ Aside0 (Below w.heap.size w wc))
          case first => as_aux_lemma =>
           have H := HC401.out
           clear HC401
           by_cases c402 : t546 = true
           ·subst c402
            rw [if_pos rfl] at H
            replace H := bqz_ H; obtain ⟨t599, A403, H⟩ := H
            replace H : (if t599 = true then (laws_FnIndexesMerge.l1 kj259 t542 t545 t553 t556 t557 t564 t567 t568 t575 t579 t583 t584 t585 1) else (some false)) = some r := H
            by_cases c404 : t599 = true
            ·subst c404
             rw [if_pos rfl] at H
             have H' := Az_ H
             clear H
             obtain ⟨Ao405, co405, eo405⟩ := Kd.R_slice HO_47.out
             subst eo405
             go_wp2_with (first | ((with_reducible refine gate_callee (f := 43) rfl ?_); refine goesL_ (some 528) rfl rfl Tryz.func43 (w110_) rfl #[.slice Ao405 t545.length co405] rfl maz_ ?_; (with_reducible refine (impl_AreRanges.calls kj259 _ _ t545 true _ ?side1 ?side2 A403.out).mono ?_); (case side1 => exact ucz_ ((Kd.R_reads' HO_47.out).2.2)); (case side2 => exact (Kd.R_reads' HO_47.out).2.1); rintro e w406 ⟨rfl, hb⟩; refine ⟨_, rfl, ?_⟩; replace HO_46 := Az_ (Kd.R_below (by exact urz_ HO_46.out) hb); replace HO_47 := Az_ (Kd.R_below (by exact urz_ HO_47.out) hb); replace HO_51 := Az_ (Kd.R_below (by exact urz_ HO_51.out) hb); replace HO_52 := Az_ (Kd.R_below (by exact urz_ HO_52.out) hb); replace HO_56 := Az_ (Kd.R_below (w101_) hb); replace HO_57 := Az_ (Kd.R_below (w102_) hb); replace HO_70 := Az_ (Kd.R_below (w103_) hb); replace HB := Az_ (btz_ (ubz_ HB.out) hb); (try clear hb)))
             go_loopg [74] kj259 (fun kq v74 w' => ∃ (x74_4 : Int), v74 = .int .i64 x74_4 ∧ Aside0 (laws_FnIndexesMerge.l1 kq t542 t545 t553 t556 t557 t564 t567 t568 t575 t579 t583 t584 t585 x74_4 = some r) ∧ Aside0 (kq ≤ kj259) ∧ Aside0 (Kd.R k69 69 w' w.heap.size (fun k_ => some k_ ≠ ((.slice Ao405 t545.length co405) : Value).ownBlock ∧ some k_ ≠ (v558 : Value).ownBlock ∧ some k_ ≠ ((.slice Ao270 t564.length co270) : Value).ownBlock ∧ some k_ ≠ (v586 : Value).ownBlock) (.slice Ao262 t542.length co262) t542) ∧ Aside0 (Kd.R k69 69 w' w.heap.size (fun k_ => some k_ ≠ ((.slice Ao262 t542.length co262) : Value).ownBlock ∧ some k_ ≠ (v558 : Value).ownBlock ∧ some k_ ≠ ((.slice Ao270 t564.length co270) : Value).ownBlock ∧ some k_ ≠ (v586 : Value).ownBlock) (.slice Ao405 t545.length co405) t545) ∧ Aside0 (Kd.R (Kd.int .i64) 3 w' w.heap.size (fun k_ => some k_ ≠ (v569 : Value).ownBlock) (.slice Ao266 t553.length co266) t553) ∧ Aside0 (Kd.R k69 69 w' w.heap.size (fun k_ => some k_ ≠ ((.slice Ao262 t542.length co262) : Value).ownBlock ∧ some k_ ≠ ((.slice Ao405 t545.length co405) : Value).ownBlock ∧ some k_ ≠ ((.slice Ao270 t564.length co270) : Value).ownBlock ∧ some k_ ≠ (v586 : Value).ownBlock) v558 t556) ∧ Aside0 (Kd.R k69 69 w' w.heap.size (fun k_ => some k_ ≠ ((.slice Ao262 t542.length co262) : Value).ownBlock ∧ some k_ ≠ ((.slice Ao405 t545.length co405) : Value).ownBlock ∧ some k_ ≠ (v558 : Value).ownBlock ∧ some k_ ≠ (v586 : Value).ownBlock) (.slice Ao270 t564.length co270) t564) ∧ Aside0 (Kd.R (Kd.int .i64) 3 w' w.heap.size (fun k_ => some k_ ≠ ((.slice Ao266 t553.length co266) : Value).ownBlock) v569 t567) ∧ Aside0 (Kd.R k69 69 w' w.heap.size (fun k_ => some k_ ≠ ((.slice Ao262 t542.length co262) : Value).ownBlock ∧ some k_ ≠ ((.slice Ao405 t545.length co405) : Value).ownBlock ∧ some k_ ≠ (v558 : Value).ownBlock ∧ some k_ ≠ ((.slice Ao270 t564.length co270) : Value).ownBlock) v586 t584) ∧ Aside0 (Below w.heap.size w w'))
             case atStart => exact ⟨(1), qaz_, H', ⟨Nat.le_refl _⟩, ⟨w66_⟩, ⟨by (with_reducible repeat (first | apply raz_ | apply rnz_ | apply rdz_)); exact HO_47.out⟩, ⟨w67_⟩, ⟨by (with_reducible repeat (first | apply raz_ | apply rnz_ | apply rdz_)); exact HO_52.out⟩, ⟨by (with_reducible repeat (first | apply raz_ | apply rnz_ | apply rdz_)); exact HO_56.out⟩, ⟨w68_⟩, ⟨by (with_reducible repeat (first | apply raz_ | apply rnz_ | apply rdz_)); exact HO_70.out⟩, ⟨w109_⟩⟩
             case round =>
              clear H'
              obtain ⟨x74_4, rfl, HA, HK4, HO_46, HO_47, HO_51, HO_52, HO_56, HO_57, HO_70, HB⟩ := hrel
              cases gk with
              | zero => exact absurd HA.out (by simp [laws_FnIndexesMerge.l1])
              | succ k4 =>
               have H := HA.out
               clear HA
               simp only [laws_FnIndexesMerge.l1] at H
               by_cases c407 : x74_4 ≤ 60
               ·rw [if_pos c407] at H
                have c407b0 := decide_eq_true c407
                clear c407
                (first | rw [c407b0] | (simp only [i64_w, i32_w]; rw [c407b0]) | skip)
                have H' := Az_ H
                clear H
                go_wp2
                go_loopg [75, 536] k4 (fun kq v75 v536 w' => ∃ (x75_5 : Bool) (x536_5 : Int), v75 = .bool x75_5 ∧ v536 = .int .i64 x536_5 ∧ Aside0 (laws_FnIndexesMerge.l2 kq t542 t545 t553 t556 t557 t564 t567 t568 t575 t579 t583 t584 t585 x74_4 x75_5 t542 (t542.length : Int) x536_5 = some r) ∧ Aside0 (kq ≤ k4) ∧ Aside0 (Kd.R k69 69 w' w.heap.size (fun k_ => some k_ ≠ ((.slice Ao405 t545.length co405) : Value).ownBlock ∧ some k_ ≠ (v558 : Value).ownBlock ∧ some k_ ≠ ((.slice Ao270 t564.length co270) : Value).ownBlock ∧ some k_ ≠ (v586 : Value).ownBlock) (.slice Ao262 t542.length co262) t542) ∧ Aside0 (Kd.R k69 69 w' w.heap.size (fun k_ => some k_ ≠ ((.slice Ao262 t542.length co262) : Value).ownBlock ∧ some k_ ≠ (v558 : Value).ownBlock ∧ some k_ ≠ ((.slice Ao270 t564.length co270) : Value).ownBlock ∧ some k_ ≠ (v586 : Value).ownBlock ∧ some k_ ≠ ((.slice Ao262 t542.length co262) : Value).ownBlock) (.slice Ao405 t545.length co405) t545) ∧ Aside0 (Kd.R (Kd.int .i64) 3 w' w.heap.size (fun k_ => some k_ ≠ (v569 : Value).ownBlock) (.slice Ao266 t553.length co266) t553) ∧ Aside0 (Kd.R k69 69 w' w.heap.size (fun k_ => some k_ ≠ ((.slice Ao262 t542.length co262) : Value).ownBlock ∧ some k_ ≠ ((.slice Ao405 t545.length co405) : Value).ownBlock ∧ some k_ ≠ ((.slice Ao270 t564.length co270) : Value).ownBlock ∧ some k_ ≠ (v586 : Value).ownBlock ∧ some k_ ≠ ((.slice Ao262 t542.length co262) : Value).ownBlock) v558 t556) ∧ Aside0 (Kd.R k69 69 w' w.heap.size (fun k_ => some k_ ≠ ((.slice Ao262 t542.length co262) : Value).ownBlock ∧ some k_ ≠ ((.slice Ao405 t545.length co405) : Value).ownBlock ∧ some k_ ≠ (v558 : Value).ownBlock ∧ some k_ ≠ (v586 : Value).ownBlock ∧ some k_ ≠ ((.slice Ao262 t542.length co262) : Value).ownBlock) (.slice Ao270 t564.length co270) t564) ∧ Aside0 (Kd.R (Kd.int .i64) 3 w' w.heap.size (fun k_ => some k_ ≠ ((.slice Ao266 t553.length co266) : Value).ownBlock) v569 t567) ∧ Aside0 (Kd.R k69 69 w' w.heap.size (fun k_ => some k_ ≠ ((.slice Ao262 t542.length co262) : Value).ownBlock ∧ some k_ ≠ ((.slice Ao405 t545.length co405) : Value).ownBlock ∧ some k_ ≠ (v558 : Value).ownBlock ∧ some k_ ≠ ((.slice Ao270 t564.length co270) : Value).ownBlock ∧ some k_ ≠ ((.slice Ao262 t542.length co262) : Value).ownBlock) v586 t584) ∧ Aside0 (Kd.R k69 69 w' w.heap.size (fun k_ => some k_ ≠ ((.slice Ao405 t545.length co405) : Value).ownBlock ∧ some k_ ≠ (v558 : Value).ownBlock ∧ some k_ ≠ ((.slice Ao270 t564.length co270) : Value).ownBlock ∧ some k_ ≠ (v586 : Value).ownBlock) (.slice Ao262 t542.length co262) t542) ∧ Aside0 (Below w.heap.size w w'))
                case atStart => exact ⟨(false), (0), qaz_, qaz_, H', ⟨Nat.le_refl _⟩, ⟨w66_⟩, ⟨by (with_reducible repeat (first | apply raz_ | apply rnz_ | apply rdz_)); exact Kd.R_mono HO_47.out (fun _ hk => ⟨hk.1, ⟨hk.2.1, ⟨hk.2.2.1, ⟨hk.2.2.2, hk.1⟩⟩⟩⟩)⟩, ⟨w67_⟩, ⟨by (with_reducible repeat (first | apply raz_ | apply rnz_ | apply rdz_)); exact Kd.R_mono HO_52.out (fun _ hk => ⟨hk.1, ⟨hk.2.1, ⟨hk.2.2.1, ⟨hk.2.2.2, hk.1⟩⟩⟩⟩)⟩, ⟨by (with_reducible repeat (first | apply raz_ | apply rnz_ | apply rdz_)); exact Kd.R_mono HO_56.out (fun _ hk => ⟨hk.1, ⟨hk.2.1, ⟨hk.2.2.1, ⟨hk.2.2.2, hk.1⟩⟩⟩⟩)⟩, ⟨w68_⟩, ⟨by (with_reducible repeat (first | apply raz_ | apply rnz_ | apply rdz_)); exact Kd.R_mono HO_70.out (fun _ hk => ⟨hk.1, ⟨hk.2.1, ⟨hk.2.2.1, ⟨hk.2.2.2, hk.1⟩⟩⟩⟩)⟩, ⟨w66_⟩, ⟨w109_⟩⟩
                case round =>
                 clear H'
                 clear c407b0
                 obtain ⟨x75_5, x536_5, rfl, rfl, HA, HK5, HO_46, HO_47, HO_51, HO_52, HO_56, HO_57, HO_70, HO_534, HB⟩ := hrel
                 cases gk with
                 | zero => exact absurd HA.out (by simp [laws_FnIndexesMerge.l2])
                 | succ k5 =>
                  have H := HA.out
                  clear HA
                  simp only [laws_FnIndexesMerge.l2] at H
                  by_cases c408 : x536_5 < (t542.length : Int)
                  ·rw [if_pos c408] at H
                   have c408b0 := decide_eq_true c408
                   clear c408
                   by_cases c409 : 0 ≤ x536_5
                   ·rw [if_pos c409] at H
                    have c409b0 := decide_eq_true c409
                    clear c409
                    by_cases c410 : x536_5 < (t542.length : Int)
                    ·rw [if_pos c410] at H
                     have c410b0 := decide_eq_true c410
                     clear c410
                     by_cases c411 : x75_5 = true
                     ·subst c411
                      rw [if_pos rfl] at H
                      have H' := Az_ H
                      clear H
                      have p600 : 0 ≤ (x536_5 : Int) := of_decide_eq_true asz_
                      have q600 : x536_5 < (t542.length : Int) := of_decide_eq_true asz_
                      obtain ⟨ad600, e600, hx600_0, hx600_1⟩ := at_T69 (Kd.R_reads' HO_534.out).2.2 x536_5 p600 q600
                      cases e600
                      replace p600 := eq_true p600
                      replace q600 := eq_true q600
                      go_wp2_with (first | ((with_reducible refine gate_dst (N := 77) rfl ?_); refine box_event ?hg (N := 77) ?hd (cs := #[.int .i64 0, .int .i64 0]) (t := 69) ?hr ?_; (case hd => rfl); (case hg => rfl); (case hr => first | (go_simp; done) | (go_simp; rfl)); intro gb601 hg w412 hbox hb; replace HO_46 := Az_ (Kd.R_below (Kd.R_elderB (by exact urz_ HO_46.out) gb601 (Nat.le_of_eq hg.symm)) hb); replace HO_47 := Az_ (Kd.R_below (Kd.R_elderB (by exact urz_ HO_47.out) gb601 (Nat.le_of_eq hg.symm)) hb); replace HO_51 := Az_ (Kd.R_below (by exact urz_ HO_51.out) hb); replace HO_52 := Az_ (Kd.R_below (Kd.R_elderB (by exact urz_ HO_52.out) gb601 (Nat.le_of_eq hg.symm)) hb); replace HO_56 := Az_ (Kd.R_below (Kd.R_elderB (w101_) gb601 (Nat.le_of_eq hg.symm)) hb); replace HO_57 := Az_ (Kd.R_below (w102_) hb); replace HO_70 := Az_ (Kd.R_below (Kd.R_elderB (w103_) gb601 (Nat.le_of_eq hg.symm)) hb); replace HO_534 := Az_ (Kd.R_below (Kd.R_elderB (by exact urz_ HO_534.out) gb601 (Nat.le_of_eq hg.symm)) hb); have BK601 := Az_ (hbox); have GW601 := Az_ ((by rw [hg]; exact (below_size (ubz_ HB.out)) : w.heap.size ≤ gb601)); have GE601 := Az_ ((by rw [hg]; exact (below_size (ubz_ HB.out)) : w.heap.size ≤ gb601)); replace HB := Az_ (btz_ (ubz_ HB.out) hb); clear hb hbox hg; have hcz413_0 : w412.cell? ⟨gb601, 0, none⟩ = some (.int .i64 0) := (blk_cell BK601.out 0).trans rfl; have hcz413_1 : w412.cell? ⟨gb601, 1, none⟩ = some (.int .i64 0) := (blk_cell BK601.out 1).trans rfl; have hfz413_0 := blk_frozen BK601.out 0; have hfz413_1 := blk_frozen BK601.out 1))
                      go_roundg k5
                      case measure => have := HJ11.out; have := HJ62.out; have := HJ259.out; have := HK4.out; have := HK5.out; omega
                      case rel => exact ⟨(true), (wrap64 (x536_5 + 1)), qaz_, qaz_, H', ⟨w62_⟩, ⟨w9_⟩, ⟨w3_⟩, ⟨w22_⟩, ⟨w4_⟩, ⟨w5_⟩, ⟨w23_⟩, ⟨w6_⟩, ⟨w8_⟩, ⟨w40_⟩⟩
                     ·replace c411 := Bool.eq_false_iff.mpr c411
                      subst c411
                      rw [if_neg nfz_] at H
                      by_cases c414 : ((rd_T69 t542 x536_5).f0) ≤ x74_4
                      ·rw [if_pos c414] at H
                       have c414b0 := decide_eq_true c414
                       clear c414
                       have H' := Az_ H
                       clear H
                       have p600 : 0 ≤ (x536_5 : Int) := of_decide_eq_true asz_
                       have q600 : x536_5 < (t542.length : Int) := of_decide_eq_true asz_
                       obtain ⟨ad600, e600, hx600_0, hx600_1⟩ := at_T69 (Kd.R_reads' HO_534.out).2.2 x536_5 p600 q600
                       cases e600
                       replace p600 := eq_true p600
                       replace q600 := eq_true q600
                       go_wp2_with (first | ((with_reducible refine gate_dst (N := 77) rfl ?_); refine box_event ?hg (N := 77) ?hd (cs := #[.int .i64 0, .int .i64 0]) (t := 69) ?hr ?_; (case hd => rfl); (case hg => rfl); (case hr => first | (go_simp; done) | (go_simp; rfl)); intro gb601 hg w415 hbox hb; replace HO_46 := Az_ (Kd.R_below (Kd.R_elderB (by exact urz_ HO_46.out) gb601 (Nat.le_of_eq hg.symm)) hb); replace HO_47 := Az_ (Kd.R_below (Kd.R_elderB (by exact urz_ HO_47.out) gb601 (Nat.le_of_eq hg.symm)) hb); replace HO_51 := Az_ (Kd.R_below (by exact urz_ HO_51.out) hb); replace HO_52 := Az_ (Kd.R_below (Kd.R_elderB (by exact urz_ HO_52.out) gb601 (Nat.le_of_eq hg.symm)) hb); replace HO_56 := Az_ (Kd.R_below (Kd.R_elderB (w101_) gb601 (Nat.le_of_eq hg.symm)) hb); replace HO_57 := Az_ (Kd.R_below (w102_) hb); replace HO_70 := Az_ (Kd.R_below (Kd.R_elderB (w103_) gb601 (Nat.le_of_eq hg.symm)) hb); replace HO_534 := Az_ (Kd.R_below (Kd.R_elderB (by exact urz_ HO_534.out) gb601 (Nat.le_of_eq hg.symm)) hb); have BK601 := Az_ (hbox); have GW601 := Az_ ((by rw [hg]; exact (below_size (ubz_ HB.out)) : w.heap.size ≤ gb601)); have GE601 := Az_ ((by rw [hg]; exact (below_size (ubz_ HB.out)) : w.heap.size ≤ gb601)); replace HB := Az_ (btz_ (ubz_ HB.out) hb); clear hb hbox hg; have hcz416_0 : w415.cell? ⟨gb601, 0, none⟩ = some (.int .i64 0) := (blk_cell BK601.out 0).trans rfl; have hcz416_1 : w415.cell? ⟨gb601, 1, none⟩ = some (.int .i64 0) := (blk_cell BK601.out 1).trans rfl; have hfz416_0 := blk_frozen BK601.out 0; have hfz416_1 := blk_frozen BK601.out 1))
                       go_roundg k5
                       case measure => have := HJ11.out; have := HJ62.out; have := HJ259.out; have := HK4.out; have := HK5.out; omega
                       case rel => exact ⟨(decide (x74_4 ≤ ((rd_T69 t542 x536_5).f1))), (wrap64 (x536_5 + 1)), qaz_, qaz_, H', ⟨w62_⟩, ⟨w9_⟩, ⟨w3_⟩, ⟨w22_⟩, ⟨w4_⟩, ⟨w5_⟩, ⟨w23_⟩, ⟨w6_⟩, ⟨w8_⟩, ⟨w40_⟩⟩
                      ·rw [if_neg c414] at H
                       have c414b0 := decide_eq_false c414
                       clear c414
                       have H' := Az_ H
                       clear H
                       have p600 : 0 ≤ (x536_5 : Int) := of_decide_eq_true asz_
                       have q600 : x536_5 < (t542.length : Int) := of_decide_eq_true asz_
                       obtain ⟨ad600, e600, hx600_0, hx600_1⟩ := at_T69 (Kd.R_reads' HO_534.out).2.2 x536_5 p600 q600
                       cases e600
                       replace p600 := eq_true p600
                       replace q600 := eq_true q600
                       go_wp2_with (first | ((with_reducible refine gate_dst (N := 77) rfl ?_); refine box_event ?hg (N := 77) ?hd (cs := #[.int .i64 0, .int .i64 0]) (t := 69) ?hr ?_; (case hd => rfl); (case hg => rfl); (case hr => first | (go_simp; done) | (go_simp; rfl)); intro gb601 hg w417 hbox hb; replace HO_46 := Az_ (Kd.R_below (Kd.R_elderB (by exact urz_ HO_46.out) gb601 (Nat.le_of_eq hg.symm)) hb); replace HO_47 := Az_ (Kd.R_below (Kd.R_elderB (by exact urz_ HO_47.out) gb601 (Nat.le_of_eq hg.symm)) hb); replace HO_51 := Az_ (Kd.R_below (by exact urz_ HO_51.out) hb); replace HO_52 := Az_ (Kd.R_below (Kd.R_elderB (by exact urz_ HO_52.out) gb601 (Nat.le_of_eq hg.symm)) hb); replace HO_56 := Az_ (Kd.R_below (Kd.R_elderB (w101_) gb601 (Nat.le_of_eq hg.symm)) hb); replace HO_57 := Az_ (Kd.R_below (w102_) hb); replace HO_70 := Az_ (Kd.R_below (Kd.R_elderB (w103_) gb601 (Nat.le_of_eq hg.symm)) hb); replace HO_534 := Az_ (Kd.R_below (Kd.R_elderB (by exact urz_ HO_534.out) gb601 (Nat.le_of_eq hg.symm)) hb); have BK601 := Az_ (hbox); have GW601 := Az_ ((by rw [hg]; exact (below_size (ubz_ HB.out)) : w.heap.size ≤ gb601)); have GE601 := Az_ ((by rw [hg]; exact (below_size (ubz_ HB.out)) : w.heap.size ≤ gb601)); replace HB := Az_ (btz_ (ubz_ HB.out) hb); clear hb hbox hg; have hcz418_0 : w417.cell? ⟨gb601, 0, none⟩ = some (.int .i64 0) := (blk_cell BK601.out 0).trans rfl; have hcz418_1 : w417.cell? ⟨gb601, 1, none⟩ = some (.int .i64 0) := (blk_cell BK601.out 1).trans rfl; have hfz418_0 := blk_frozen BK601.out 0; have hfz418_1 := blk_frozen BK601.out 1))
                       go_roundg k5
                       case measure => have := HJ11.out; have := HJ62.out; have := HJ259.out; have := HK4.out; have := HK5.out; omega
                       case rel => exact ⟨(false), (wrap64 (x536_5 + 1)), qaz_, qaz_, H', ⟨w62_⟩, ⟨w9_⟩, ⟨w3_⟩, ⟨w22_⟩, ⟨w4_⟩, ⟨w5_⟩, ⟨w23_⟩, ⟨w6_⟩, ⟨w8_⟩, ⟨w40_⟩⟩
                    ·rw [if_neg c410] at H
                     exact absurd H (by simp)
                   ·rw [if_neg c409] at H
                    exact absurd H (by simp)
                  ·rw [if_neg c408] at H
                   have c408b0 := decide_eq_false c408
                   clear c408
                   replace H := bqz_ H; obtain ⟨⟨t602, t603⟩, A419, H⟩ := H
                   replace H : (if t603 = true then (if (t602 != x75_5) = true then (some false) else (laws_FnIndexesMerge.l1 k5 t542 t545 t553 t556 t557 t564 t567 t568 t575 t579 t583 t584 t585 (wrap64 (x74_4 + 1)))) else (some false)) = some r := H
                   by_cases c420 : t603 = true
                   ·subst c420
                    rw [if_pos rfl] at H
                    by_cases c421 : (t602 != x75_5) = true
                    ·rw [if_pos c421] at H
                     have c421b0 : (t602 != x75_5) = true := c421
                     (try (have c421b1 : decide (t602 = x75_5) = false := by simpa using c421))
                     (try (have c421b2 : (t602 == x75_5) = false := by simpa using c421))
                     (try (have c421b3 : ¬ (t602 = x75_5) := by simpa using c421))
                     clear c421
                     exact absurd ((Option.some.inj H).trans hrT) (by decide)
                    ·rw [if_neg c421] at H
                     have c421b0 : (t602 != x75_5) = false := by simpa using c421
                     (try (have c421b1 : decide (t602 = x75_5) = true := by simpa using c421))
                     (try (have c421b2 : (t602 == x75_5) = true := by simpa using c421))
                     clear c421
                     have H' := Az_ H
                     clear H
                     go_wp2_with (first | ((with_reducible refine gate_callee (f := 44) rfl ?_); refine goesL_ (some 557) rfl rfl Tryz.func44 (w110_) rfl #[.slice Ao405 t545.length co405, .int .i64 x74_4] rfl maz_ ?_; (with_reducible refine (impl_HasIndexed.calls k5 _ _ t545 x74_4 t602 true _ ?side1 ?side2 A419.out).mono ?_); (case side1 => exact ucz_ ((Kd.R_reads' HO_47.out).2.2)); (case side2 => exact (Kd.R_reads' HO_47.out).2.1); rintro e w423 ⟨rfl, hb⟩; refine ⟨_, rfl, ?_⟩; replace HO_46 := Az_ (Kd.R_below (by exact urz_ HO_46.out) hb); replace HO_47 := Az_ (Kd.R_below (by exact urz_ HO_47.out) hb); replace HO_51 := Az_ (Kd.R_below (by exact urz_ HO_51.out) hb); replace HO_52 := Az_ (Kd.R_below (by exact urz_ HO_52.out) hb); replace HO_56 := Az_ (Kd.R_below (w101_) hb); replace HO_57 := Az_ (Kd.R_below (w102_) hb); replace HO_70 := Az_ (Kd.R_below (w103_) hb); replace HO_534 := Az_ (Kd.R_below (by exact urz_ HO_534.out) hb); replace HB := Az_ (btz_ (ubz_ HB.out) hb); (try clear hb)))
                     go_roundg k5
                     case measure => have := HJ11.out; have := HJ62.out; have := HJ259.out; have := HK4.out; have := HK5.out; omega
                     case rel => exact ⟨(wrap64 (x74_4 + 1)), qaz_, H', ⟨w62_⟩, ⟨w66_⟩, ⟨by (with_reducible repeat (first | apply raz_ | apply rnz_ | apply rdz_)); exact Kd.R_mono HO_47.out (fun _ hk => ⟨hk.1, ⟨hk.2.1, ⟨hk.2.2.1, hk.2.2.2.1⟩⟩⟩)⟩, ⟨w67_⟩, ⟨by (with_reducible repeat (first | apply raz_ | apply rnz_ | apply rdz_)); exact Kd.R_mono HO_52.out (fun _ hk => ⟨hk.1, ⟨hk.2.1, ⟨hk.2.2.1, hk.2.2.2.1⟩⟩⟩)⟩, ⟨by (with_reducible repeat (first | apply raz_ | apply rnz_ | apply rdz_)); exact Kd.R_mono HO_56.out (fun _ hk => ⟨hk.1, ⟨hk.2.1, ⟨hk.2.2.1, hk.2.2.2.1⟩⟩⟩)⟩, ⟨w68_⟩, ⟨by (with_reducible repeat (first | apply raz_ | apply rnz_ | apply rdz_)); exact Kd.R_mono HO_70.out (fun _ hk => ⟨hk.1, ⟨hk.2.1, ⟨hk.2.2.1, hk.2.2.2.1⟩⟩⟩)⟩, ⟨w109_⟩⟩
                   ·replace c420 := Bool.eq_false_iff.mpr c420
                    subst c420
                    rw [if_neg nfz_] at H
                    exact absurd ((Option.some.inj H).trans hrT) (by decide)
               ·rw [if_neg c407] at H
                have c407b0 := decide_eq_false c407
                clear c407
                (first | rw [c407b0] | (simp only [i64_w, i32_w]; rw [c407b0]) | skip)
                have H' := Az_ H
                clear H
                go_wp2
                go_meet
                case rel => exact ⟨_, H', ⟨by have := HJ11.out; have := HJ62.out; have := HJ259.out; have := HK4.out; first | omega | exact Nat.le_refl _⟩, ⟨w67_⟩, ⟨w44_⟩, ⟨w45_⟩, ⟨w68_⟩, ⟨w46_⟩, ⟨w109_⟩⟩
            ·replace c404 := Bool.eq_false_iff.mpr c404
             subst c404
             rw [if_neg nfz_] at H
             exact absurd ((Option.some.inj H).trans hrT) (by decide)
           ·replace c402 := Bool.eq_false_iff.mpr c402
            subst c402
            rw [if_neg nfz_] at H
            have H' := Az_ H
            clear H
            go_wp2
            go_meet
            case rel => exact ⟨_, H', ⟨by have := HJ11.out; have := HJ62.out; have := HJ259.out; first | omega | exact Nat.le_refl _⟩, ⟨w67_⟩, ⟨w44_⟩, ⟨w45_⟩, ⟨w68_⟩, ⟨w46_⟩, ⟨w109_⟩⟩
          case rest => as_aux_lemma =>
           clear HC401
           obtain ⟨kq, HA, HJ400, HO_51, HO_52, HO_56, HO_57, HO_70, HB⟩ := hcut
           cases kq with
           | zero => exact absurd HA.out (by simp [j7])
           | succ kj400 =>
            have H := HA.out
            clear HA
            simp only [j7] at H
            have HC427 := Az_ H
            clear H
            go_upto_if 567 with (fail)
            go_cut [] from 1 to 0 (fun wc => ∃ (kq : Nat), Aside0 (j8 kq t564 t567 t568 t575 t579 t583 t584 t585 = some r) ∧ Aside0 (kq ≤ kj400) ∧ Aside0 (Kd.R k69 69 wc w.heap.size (fun k_ => some k_ ≠ (v586 : Value).ownBlock) (.slice Ao270 t564.length co270) t564) ∧ Aside0 (Kd.R (Kd.int .i64) 3 wc w.heap.size (fun _ => True) v569 t567) ∧ Aside0 (Kd.R k69 69 wc w.heap.size (fun k_ => some k_ ≠ ((.slice Ao270 t564.length co270) : Value).ownBlock) v586 t584) ∧ Aside0 (Below w.heap.size w wc))
            case first => as_aux_lemma =>
             have H := HC427.out
             clear HC427
             by_cases c428 : t557 = true
             ·subst c428
              rw [if_pos rfl] at H
              replace H := bqz_ H; obtain ⟨⟨t604, t605⟩, A429, H⟩ := H
              replace H : (if t605 = true then ((laws_fSame.f kj400 t604 t553).bind fun t608 => (if t608 = true then (j8 kj400 t564 t567 t568 t575 t579 t583 t584 t585) else (some false))) else (some false)) = some r := H
              by_cases c430 : t605 = true
              ·subst c430
               rw [if_pos rfl] at H
               replace H := bqz_ H; obtain ⟨t608, A431, H⟩ := H
               replace H : (if t608 = true then (j8 kj400 t564 t567 t568 t575 t579 t583 t584 t585) else (some false)) = some r := H
               by_cases c432 : t608 = true
               ·subst c432
                rw [if_pos rfl] at H
                have H' := Az_ H
                clear H
                obtain ⟨Ao433, co433, eo433⟩ := Kd.R_slice HO_52.out
                subst eo433
                go_wp2_with (first | ((with_reducible refine gate_callee (f := 52) rfl ?_); refine goesL_ (some 570) rfl rfl Tryz.func52 (w110_) rfl #[.slice Ao433 t556.length co433] rfl maz_ ?_; (with_reducible refine (impl_PagesOfRanges.calls kj400 _ _ t556 t604 true _ ?side1 ?side2 A429.out).mono ?_); (case side1 => exact ucz_ ((Kd.R_reads' HO_52.out).2.2)); (case side2 => exact (Kd.R_reads' HO_52.out).2.1); rintro e w434 ⟨v606, rfl, ho0, hb⟩; refine ⟨_, rfl, ?_⟩; replace HO_52 := Az_ (Kd.R_below (by exact urz_ HO_52.out) hb); replace HO_56 := Az_ (Kd.R_below (w101_) hb); replace HO_70 := Az_ (Kd.R_below (w103_) hb); have HO607 := Az_ (Kd.R_lower (Kd.R_new' (Kd.R_new' ho0 (Kd.R_lt (by exact urz_ HO_51.out))) (Kd.R_lt (w102_))) (below_size (ubz_ HB.out))); replace HO_51 := Az_ (rez_ (by exact urz_ HO_51.out) (Kd.R_base ho0) hb); replace HO_57 := Az_ (rez_ (w102_) (Kd.R_base ho0) hb); replace HB := Az_ (btz_ (ubz_ HB.out) hb); (try clear hb); (try clear ho0); obtain ⟨Ao435, co435, eo435⟩ := Kd.R_slice HO607.out; subst eo435) | (go_at_call 20; (with_reducible refine (laws_fSame.calls kj400 _ _ t604 _ _ t553 true _ ?side1 ?side2 ?side3 ?side4 A431.out).mono ?_); (case side1 => exact ucz_ ((Kd.R_reads' HO607.out).2.2)); (case side2 => exact (Kd.R_reads' HO607.out).2.1); (case side3 => exact ucz_ ((Kd.R_reads' HO_51.out).2.2)); (case side4 => exact (Kd.R_reads' HO_51.out).2.1); rintro e w' ⟨rfl, ⟨nd, rfl⟩⟩))
                go_meet
                case rel => exact ⟨_, H', ⟨by have := HJ11.out; have := HJ62.out; have := HJ259.out; have := HJ400.out; first | omega | exact Nat.le_refl _⟩, ⟨by (with_reducible repeat (first | apply raz_ | apply rnz_ | apply rdz_)); exact Kd.R_mono HO_56.out (fun _ hk => hk.2)⟩, ⟨by (with_reducible repeat (first | apply raz_ | apply rnz_ | apply rdz_)); exact Kd.R_mono HO_57.out (fun _ hk => trivial)⟩, ⟨by (with_reducible repeat (first | apply raz_ | apply rnz_ | apply rdz_)); exact Kd.R_mono HO_70.out (fun _ hk => hk.2)⟩, ⟨w109_⟩⟩
               ·replace c432 := Bool.eq_false_iff.mpr c432
                subst c432
                rw [if_neg nfz_] at H
                exact absurd ((Option.some.inj H).trans hrT) (by decide)
              ·replace c430 := Bool.eq_false_iff.mpr c430
               subst c430
               rw [if_neg nfz_] at H
               exact absurd ((Option.some.inj H).trans hrT) (by decide)
             ·replace c428 := Bool.eq_false_iff.mpr c428
              subst c428
              rw [if_neg nfz_] at H
              have H' := Az_ H
              clear H
              go_wp2
              go_meet
              case rel => exact ⟨_, H', ⟨by have := HJ11.out; have := HJ62.out; have := HJ259.out; have := HJ400.out; first | omega | exact Nat.le_refl _⟩, ⟨by (with_reducible repeat (first | apply raz_ | apply rnz_ | apply rdz_)); exact Kd.R_mono HO_56.out (fun _ hk => hk.2)⟩, ⟨by (with_reducible repeat (first | apply raz_ | apply rnz_ | apply rdz_)); exact Kd.R_mono HO_57.out (fun _ hk => trivial)⟩, ⟨by (with_reducible repeat (first | apply raz_ | apply rnz_ | apply rdz_)); exact Kd.R_mono HO_70.out (fun _ hk => hk.2)⟩, ⟨w109_⟩⟩
            case rest => as_aux_lemma =>
             clear HC427
             obtain ⟨kq, HA, HJ426, HO_56, HO_57, HO_70, HB⟩ := hcut
             cases kq with
             | zero => exact absurd HA.out (by simp [j8])
             | succ kj426 =>
              have H := HA.out
              clear HA
              simp only [j8] at H
              by_cases c441 : t568 = true
              ·subst c441
               rw [if_pos rfl] at H
               replace H := bqz_ H; obtain ⟨⟨t609, t610⟩, A442, H⟩ := H
               replace H := bqz_ H; obtain ⟨⟨t613, t614⟩, A443, H⟩ := H
               replace H : (if (t567.length : Int) = t579 then ((laws_fRises.f kj426 t567).bind fun t617 => (if t617 = true then (if t610 = true then ((laws_fRanges.f kj426 t609 t564).bind fun t618 => (if t618 = true then (if t614 = true then ((laws_fRanges.f kj426 t613 t564).bind fun t619 => (j9 kj426 t583 t584 t585 (!t619))) else (j9 kj426 t583 t584 t585 true)) else (j9 kj426 t583 t584 t585 true))) else (j9 kj426 t583 t584 t585 true)) else (j9 kj426 t583 t584 t585 true))) else (j9 kj426 t583 t584 t585 true)) = some r := H
               have HC444 := Az_ H
               clear H
               obtain ⟨Ao445, co445, eo445⟩ := Kd.R_slice HO_57.out
               subst eo445
               go_upto_region 73 with (first | ((with_reducible refine gate_callee (f := 49) rfl ?_); refine goesL_ (some 584) rfl rfl Tryz.func49 (w110_) rfl #[.slice Ao445 t567.length co445] rfl maz_ ?_; (with_reducible refine (impl_RangesOfPages.calls kj426 _ _ t567 t609 t610 _ ?side1 ?side2 A442.out).mono ?_); (case side1 => exact ucz_ ((Kd.R_reads' HO_57.out).2.2)); (case side2 => exact (Kd.R_reads' HO_57.out).2.1); rintro e w446 ⟨v611, rfl, ho0, hb⟩; refine ⟨_, rfl, ?_⟩; replace HO_57 := Az_ (Kd.R_below (w102_) hb); have HO612 := Az_ (Kd.R_lower (Kd.R_new' (Kd.R_new' ho0 (Kd.R_lt (w101_))) (Kd.R_lt (w103_))) (below_size (ubz_ HB.out))); replace HO_56 := Az_ (rez_ (w101_) (Kd.R_base ho0) hb); replace HO_70 := Az_ (rez_ (w103_) (Kd.R_base ho0) hb); replace HB := Az_ (btz_ (ubz_ HB.out) hb); (try clear hb); (try clear ho0)) | ((with_reducible refine gate_callee (f := 58) rfl ?_); refine goesL_ (some 589) rfl rfl Tryz.func58 (w110_) rfl #[.string t575] rfl maz_ ?_; (with_reducible refine (impl_ParseRanges.calls kj426 t575 t613 t614 _ (libW_below HTAB.out (ubz_ HB.out)) A443.out).mono ?_); rintro e w447 ⟨v615, rfl, ho0, hb⟩; refine ⟨_, rfl, ?_⟩; replace HO_57 := Az_ (Kd.R_below (w102_) hb); have HO616 := Az_ (Kd.R_lower (Kd.R_new' (Kd.R_new' (Kd.R_new' ho0 (Kd.R_lt (w101_))) (Kd.R_lt (w103_))) (Kd.R_lt (by exact urz_ HO612.out))) (below_size (ubz_ HB.out))); replace HO_56 := Az_ (rez_ (w101_) (Kd.R_base ho0) hb); replace HO_70 := Az_ (rez_ (w103_) (Kd.R_base ho0) hb); replace HO612 := Az_ (rez_ (by exact urz_ HO612.out) (Kd.R_base ho0) hb); replace HB := Az_ (btz_ (ubz_ HB.out) hb); (try clear hb); (try clear ho0)))
               (try simp only [Act.put, List.setIfInBounds_toArray, List.set_cons_zero, List.set_cons_succ])
               go_cut [620] from 1 to 0 (fun v620 wc => ∃ (kq : Nat) (x620_443 : Bool), v620 = .bool x620_443 ∧ Aside0 (j9 kq t583 t584 t585 x620_443 = some r) ∧ Aside0 (kq ≤ kj426) ∧ Aside0 (Kd.R k69 69 wc w.heap.size (fun _ => True) v586 t584) ∧ Aside0 (Below w.heap.size w wc))
               case first => as_aux_lemma =>
                have H := HC444.out
                clear HC444
                by_cases c448 : (t567.length : Int) = t579
                ·rw [if_pos c448] at H
                 have c448b0 : ((t567.length : Int) == t579) = true := beq_iff_eq.mpr c448
                 have c448b1 : ((t567.length : Int) != t579) = false := bne_eq_false_iff_eq.mpr c448
                 clear c448
                 (first | rw [c448b0] | (simp only [i64_w, i32_w]; rw [c448b0]) | skip)
                 replace H := bqz_ H; obtain ⟨t617, A449, H⟩ := H
                 replace H : (if t617 = true then (if t610 = true then ((laws_fRanges.f kj426 t609 t564).bind fun t618 => (if t618 = true then (if t614 = true then ((laws_fRanges.f kj426 t613 t564).bind fun t619 => (j9 kj426 t583 t584 t585 (!t619))) else (j9 kj426 t583 t584 t585 true)) else (j9 kj426 t583 t584 t585 true))) else (j9 kj426 t583 t584 t585 true)) else (j9 kj426 t583 t584 t585 true)) = some r := H
                 by_cases c450 : t617 = true
                 ·subst c450
                  rw [if_pos rfl] at H
                  by_cases c451 : t610 = true
                  ·subst c451
                   rw [if_pos rfl] at H
                   replace H := bqz_ H; obtain ⟨t618, A452, H⟩ := H
                   replace H : (if t618 = true then (if t614 = true then ((laws_fRanges.f kj426 t613 t564).bind fun t619 => (j9 kj426 t583 t584 t585 (!t619))) else (j9 kj426 t583 t584 t585 true)) else (j9 kj426 t583 t584 t585 true)) = some r := H
                   by_cases c453 : t618 = true
                   ·subst c453
                    rw [if_pos rfl] at H
                    by_cases c454 : t614 = true
                    ·subst c454
                     rw [if_pos rfl] at H
                     replace H := bqz_ H; obtain ⟨t619, A455, H⟩ := H
                     replace H : (j9 kj426 t583 t584 t585 (!t619)) = some r := H
                     have H' := Az_ H
                     clear H
                     go_wp2_with (first | (go_at_call 24; (with_reducible refine (laws_fRises.calls kj426 _ _ t567 true _ ?side1 ?side2 A449.out).mono ?_); (case side1 => exact ucz_ ((Kd.R_reads' HO_57.out).2.2)); (case side2 => exact (Kd.R_reads' HO_57.out).2.1); rintro e w' ⟨rfl, ⟨nd, rfl⟩⟩; obtain ⟨Ao456, co456, eo456⟩ := Kd.R_slice HO612.out; subst eo456) | (go_at_call 41; (with_reducible refine (laws_fRanges.calls kj426 _ _ t609 _ _ t564 true _ ?side1 ?side2 ?side3 ?side4 A452.out).mono ?_); (case side1 => exact ucz_ ((Kd.R_reads' HO612.out).2.2)); (case side2 => exact (Kd.R_reads' HO612.out).2.1); (case side3 => exact ucz_ ((Kd.R_reads' HO_56.out).2.2)); (case side4 => exact (Kd.R_reads' HO_56.out).2.1); rintro e w' ⟨rfl, ⟨nd, rfl⟩⟩; obtain ⟨Ao457, co457, eo457⟩ := Kd.R_slice HO616.out; subst eo457; clear A452) | (go_at_call 41; (with_reducible refine (laws_fRanges.calls kj426 _ _ t613 _ _ t564 t619 _ ?side1 ?side2 ?side3 ?side4 A455.out).mono ?_); (case side1 => exact ucz_ ((Kd.R_reads' HO616.out).2.2)); (case side2 => exact (Kd.R_reads' HO616.out).2.1); (case side3 => exact ucz_ ((Kd.R_reads' HO_56.out).2.2)); (case side4 => exact (Kd.R_reads' HO_56.out).2.1); rintro e w' ⟨rfl, ⟨nd, rfl⟩⟩))
                     go_meet
                     case rel => exact ⟨_, (!t619), qaz_, H', ⟨by have := HJ11.out; have := HJ62.out; have := HJ259.out; have := HJ400.out; have := HJ426.out; first | omega | exact Nat.le_refl _⟩, ⟨by (with_reducible repeat (first | apply raz_ | apply rnz_ | apply rdz_)); exact Kd.R_mono HO_70.out (fun _ hk => trivial)⟩, ⟨w109_⟩⟩
                    ·replace c454 := Bool.eq_false_iff.mpr c454
                     subst c454
                     have H1 : (j9 kj426 t583 t584 t585 true) = some r := by rw [if_neg (show ¬ (false = true) by decide)] at H; exact H
                     clear H
                     have H := H1
                     exact (laws_FnIndexesMerge.j9_no _ _ _ _ _ hrT H).elim
                   ·replace c453 := Bool.eq_false_iff.mpr c453
                    subst c453
                    have H1 : (j9 kj426 t583 t584 t585 true) = some r := by rw [if_neg (show ¬ (false = true) by decide)] at H; exact H
                    clear H
                    have H := H1
                    exact (laws_FnIndexesMerge.j9_no _ _ _ _ _ hrT H).elim
                  ·replace c451 := Bool.eq_false_iff.mpr c451
                   subst c451
                   have H1 : (j9 kj426 t583 t584 t585 true) = some r := by rw [if_neg (show ¬ (false = true) by decide)] at H; exact H
                   clear H
                   have H := H1
                   exact (laws_FnIndexesMerge.j9_no _ _ _ _ _ hrT H).elim
                 ·replace c450 := Bool.eq_false_iff.mpr c450
                  subst c450
                  have H1 : (j9 kj426 t583 t584 t585 true) = some r := by rw [if_neg (show ¬ (false = true) by decide)] at H; exact H
                  clear H
                  have H := H1
                  exact (laws_FnIndexesMerge.j9_no _ _ _ _ _ hrT H).elim
                ·rw [if_neg c448] at H
                 exact (laws_FnIndexesMerge.j9_no _ _ _ _ _ hrT H).elim
               case rest => as_aux_lemma =>
                clear HC444
                obtain ⟨kq, x620_443, rfl, HA, HJ443, HO_70, HB⟩ := hcut
                cases kq with
                | zero => exact absurd HA.out (by simp [j9])
                | succ kj443 =>
                 have H := HA.out
                 clear HA
                 simp only [j9] at H
                 by_cases c460 : x620_443 = true
                 ·subst c460
                  rw [if_pos rfl] at H
                  exact absurd ((Option.some.inj H).trans hrT) (by decide)
                 ·replace c460 := Bool.eq_false_iff.mpr c460
                  subst c460
                  rw [if_neg nfz_] at H
                  by_cases c461 : t585 = true
                  ·subst c461
                   rw [if_pos rfl] at H
                   replace H := bqz_ H; obtain ⟨⟨t620, t621⟩, A462, H⟩ := H
                   replace H : (if t621 = true then (some (t620.toList == t583.toList)) else (some false)) = some r := H
                   by_cases c463 : t621 = true
                   ·subst c463
                    rw [if_pos rfl] at H
                    obtain rfl := Option.some.inj H; clear hrT
                    obtain ⟨Ao464, co464, eo464⟩ := Kd.R_slice HO_70.out
                    subst eo464
                    go_wp2_with (first | ((with_reducible refine gate_callee (f := 54) rfl ?_); refine goesL_ (some 624) rfl rfl Tryz.func54 (w110_) rfl #[.slice Ao464 t584.length co464] rfl maz_ ?_; (with_reducible refine (impl_RangesText.calls kj443 _ _ t584 t620 true _ (libW_below HTAB.out (ubz_ HB.out)) ?side1 ?side2 A462.out).mono ?_); (case side1 => exact ucz_ ((Kd.R_reads' HO_70.out).2.2)); (case side2 => exact (Kd.R_reads' HO_70.out).2.1); rintro e w465 ⟨rfl, hb⟩; refine ⟨_, rfl, ?_⟩; replace HO_70 := Az_ (Kd.R_below (w103_) hb); replace HB := Az_ (btz_ (ubz_ HB.out) hb); (try clear hb)))
                    go_ret
                    exact ⟨w61_, w109_⟩
                   ·replace c463 := Bool.eq_false_iff.mpr c463
                    subst c463
                    rw [if_neg nfz_] at H
                    exact absurd ((Option.some.inj H).trans hrT) (by decide)
                  ·replace c461 := Bool.eq_false_iff.mpr c461
                   subst c461
                   rw [if_neg nfz_] at H
                   obtain rfl := Option.some.inj H; clear hrT
                   go_wp2
                   go_ret
                   exact ⟨w61_, w109_⟩
              ·replace c441 := Bool.eq_false_iff.mpr c441
               subst c441
               rw [if_neg nfz_] at H
               by_cases c468 : t585 = true
               ·subst c468
                rw [if_pos rfl] at H
                replace H := bqz_ H; obtain ⟨⟨t622, t623⟩, A469, H⟩ := H
                replace H : (if t623 = true then (some (t622.toList == t583.toList)) else (some false)) = some r := H
                by_cases c470 : t623 = true
                ·subst c470
                 rw [if_pos rfl] at H
                 obtain rfl := Option.some.inj H; clear hrT
                 obtain ⟨Ao471, co471, eo471⟩ := Kd.R_slice HO_70.out
                 subst eo471
                 go_wp2_with (first | ((with_reducible refine gate_callee (f := 54) rfl ?_); refine goesL_ (some 624) rfl rfl Tryz.func54 (w110_) rfl #[.slice Ao471 t584.length co471] rfl maz_ ?_; (with_reducible refine (impl_RangesText.calls kj426 _ _ t584 t622 true _ (libW_below HTAB.out (ubz_ HB.out)) ?side1 ?side2 A469.out).mono ?_); (case side1 => exact ucz_ ((Kd.R_reads' HO_70.out).2.2)); (case side2 => exact (Kd.R_reads' HO_70.out).2.1); rintro e w472 ⟨rfl, hb⟩; refine ⟨_, rfl, ?_⟩; replace HO_56 := Az_ (Kd.R_below (w101_) hb); replace HO_57 := Az_ (Kd.R_below (w102_) hb); replace HO_70 := Az_ (Kd.R_below (w103_) hb); replace HB := Az_ (btz_ (ubz_ HB.out) hb); (try clear hb)))
                 go_ret
                 exact ⟨w61_, w109_⟩
                ·replace c470 := Bool.eq_false_iff.mpr c470
                 subst c470
                 rw [if_neg nfz_] at H
                 exact absurd ((Option.some.inj H).trans hrT) (by decide)
               ·replace c468 := Bool.eq_false_iff.mpr c468
                subst c468
                rw [if_neg nfz_] at H
                obtain rfl := Option.some.inj H; clear hrT
                go_wp2
                go_ret
                exact ⟨w61_, w109_⟩
end Go.Proofs.YtppbpefehpbejaaGreatDoor.P
end

section
namespace Go.Proofs.YtppbpefehpbejaaGreatDoor.Base
open Go.RowKit Go.Proofs.YtppbpefehpbejaaGreatDoorW.PrintWords
set_option linter.unusedVariables false

theorem w64 {x : Int} (h1 : -4611686018427387904 ≤ x) (h2 : x ≤ 4611686018427387904) : wrap64 x = x := by
  unfold wrap64
  omega
theorem getD_at {α : Type} (l : List α) (z : α) {i : Nat} (h : i < l.length) : l.getD i z = l[i] := by
  rw [List.getD_eq_getElem?_getD, List.getElem?_eq_getElem h]
  rfl
theorem Ev_bind {α β : Type} {g : Nat → Option α} {f : Nat → α → Option β} {a : α} {r : β} (h : Ev g a) (k : Ev (fun n => f n a) r) : Ev (fun n => (g n).bind (f n)) r := Ev.bind h k
theorem Ev_some {α β : Type} {x : Option α} {f : Nat → α → Option β} {a : α} {r : β} (h : x = some a) (k : Ev (fun n => f n a) r) : Ev (fun n => x.bind (f n)) r := by
  subst h
  exact k
theorem Ev_pos {α : Type} {c : Prop} [Decidable c] {f g : Nat → Option α} {r : α} (h : c) (k : Ev f r) : Ev (fun n => if c then f n else g n) r := by
  simp only [if_pos h]
  exact k
theorem Ev_neg {α : Type} {c : Prop} [Decidable c] {f g : Nat → Option α} {r : α} (h : ¬ c) (k : Ev g r) : Ev (fun n => if c then f n else g n) r := by
  simp only [if_neg h]
  exact k
theorem getD_set_self {α : Type} (l : List α) (z v : α) {i : Nat} (h : i < l.length) : (l.set i v).getD i z = v := by
  rw [List.getD_eq_getElem?_getD, List.getElem?_set_self h]
  rfl
theorem Ev_step {α : Type} {g f : Nat → Option α} {r : α} (h : ∀ k, g (k + 1) = f k) (k : Ev f r) : Ev g r := Ev.step h k
def inB (n lo hi : Int) : Bool := decide (lo ≤ n ∧ n ≤ hi)
end Go.Proofs.YtppbpefehpbejaaGreatDoor.Base
end

section
namespace Go.Proofs.YtppbpefehpbejaaGreatDoor.P
open Go.RowKit Go.Proofs.YtppbpefehpbejaaGreatDoorW.PrintWords Go.Proofs.YtppbpefehpbejaaGreatDoorW.PrintLast Go.Proofs.YtppbpefehpbejaaGreatDoorW.PrintMore Go.Proofs.YtppbpefehpbejaaGreatDoor.Base

theorem l1In_eq (n lo hi : Int) : spec_l1In.f n lo hi = some (inB n lo hi) := by
  unfold spec_l1In.f inB
  by_cases h : lo ≤ n <;> simp [h]
theorem within_eq (n lo hi : Int) : impl_within.f n lo hi = some (inB n lo hi) := by
  unfold impl_within.f inB
  by_cases h : lo ≤ n <;> simp [h]
end Go.Proofs.YtppbpefehpbejaaGreatDoor.P
end

section
namespace Go.Proofs.YtppbpefehpbejaaGreatDoor.P
open Go.RowKit Go.Proofs.YtppbpefehpbejaaGreatDoorW.PrintWords Go.Proofs.YtppbpefehpbejaaGreatDoor.Base
set_option linter.unusedVariables false

theorem rd_nat (l : List Int) (i : Nat) : rd l (i : Int) = l.getD i 0 := by unfold rd; rw [Int.toNat_natCast]
theorem nextI (n : Nat) (h : n ≤ 4000000) : wrap64 ((n : Int) + 1) = ((n + 1 : Nat) : Int) := by
  rw [w64 (by omega) (by omega)]; omega
end Go.Proofs.YtppbpefehpbejaaGreatDoor.P
end

section
namespace Go.Proofs.YtppbpefehpbejaaGreatDoor.P
open Go.RowKit Go.Proofs.YtppbpefehpbejaaGreatDoorW.PrintWords Go.Proofs.YtppbpefehpbejaaGreatDoorW.PrintLast Go.Proofs.YtppbpefehpbejaaGreatDoorW.PrintMore Go.Proofs.YtppbpefehpbejaaGreatDoor.Base
set_option linter.unusedVariables false

def rangeB (a b : Int) : Bool := decide (1 ≤ a ∧ a ≤ b ∧ b ≤ 2000)
theorem ixRange_eq (a b : Int) : spec_ixRange.f a b = some (rangeB a b) := by
  rw [spec_ixRange.f, l1In_eq]
  simp only [Option.bind_some]
  unfold inB rangeB
  by_cases h : 1 ≤ a ∧ a ≤ 2000
  · rw [decide_eq_true h, if_pos rfl, l1In_eq]
    simp only [Option.bind_some]
    unfold inB
    rw [show decide (1 ≤ a ∧ a ≤ b ∧ b ≤ 2000) = decide (a ≤ b ∧ b ≤ 2000) from decide_eq_decide.2 (by omega)]
  · rw [decide_eq_false h, show decide (1 ≤ a ∧ a ≤ b ∧ b ≤ 2000) = false from decide_eq_false (by omega)]
    rfl
theorem isRange_eq (a b : Int) : impl_isRange.f a b = some (rangeB a b) := by
  rw [impl_isRange.f, within_eq]
  simp only [Option.bind_some]
  unfold inB rangeB
  by_cases h : 1 ≤ b ∧ b ≤ 2000
  · rw [decide_eq_true h, if_pos rfl, within_eq]
    simp only [Option.bind_some]
    unfold inB
    rw [show decide (1 ≤ a ∧ a ≤ b ∧ b ≤ 2000) = decide (1 ≤ a ∧ a ≤ b) from decide_eq_decide.2 (by omega)]
  · rw [decide_eq_false h, show decide (1 ≤ a ∧ a ≤ b ∧ b ≤ 2000) = false from decide_eq_false (by omega)]
    rfl
end Go.Proofs.YtppbpefehpbejaaGreatDoor.P
end

section
namespace Go.Proofs.YtppbpefehpbejaaGreatDoor.P
open Go.RowKit Go.Proofs.YtppbpefehpbejaaGreatDoorW.PrintWords Go.Proofs.YtppbpefehpbejaaGreatDoorW.PrintLast Go.Proofs.YtppbpefehpbejaaGreatDoorW.PrintMore Go.Proofs.YtppbpefehpbejaaGreatDoor.Base
set_option linter.unusedVariables false

theorem set_more (xs ys : List Bool) (p : Nat) (b : Bool) (h : p < xs.length) : (xs ++ ys).set p b = xs.set p b ++ ys := List.set_append_left _ _ h
theorem getD_set_far (xs : List Bool) (p q : Nat) (b : Bool) (h : p ≠ q) : (xs.set p b).getD q false = xs.getD q false := by
  rw [List.getD_eq_getElem?_getD, List.getElem?_set_ne h, ← List.getD_eq_getElem?_getD]
theorem getD_more (xs ys : List Bool) (q : Nat) (h : q < xs.length) : (xs ++ ys).getD q false = xs.getD q false := by
  rw [List.getD_eq_getElem?_getD, List.getElem?_append_left h, ← List.getD_eq_getElem?_getD]
structure Set1 (xs : List Bool) : Prop where
  len : xs.length = 2001
  none : xs.getD 0 false = false
theorem rep_none (m q : Nat) : (List.replicate m false).getD q false = false := by
  rw [List.getD_eq_getElem?_getD]
  cases e : (List.replicate m false)[q]? with
  | none => rfl
  | some b => exact (List.mem_replicate.1 (List.mem_of_getElem? e)).2
theorem Set1.empty : Set1 (List.replicate 2001 false) := ⟨List.length_replicate, rep_none _ _⟩
theorem Set1.put {xs : List Bool} (h : Set1 xs) {p : Nat} (h1 : 1 ≤ p) (b : Bool) : Set1 (xs.set p b) := ⟨by rw [List.length_set]; exact h.len, by rw [getD_set_far _ _ _ _ (by omega)]; exact h.none⟩

section
variable (l : List S69) (hn : l.length ≤ 1048576)
end
structure Upto (xs : List Bool) (out : List S69) (p : Nat) : Prop where
  len : out.length + 1 ≤ p
  last : xs.getD (p - 1) false = true → out ≠ [] ∧ (out.getD (out.length - 1) z69).f1 = (p : Int) - 1
  old : out ≠ [] → (out.getD (out.length - 1) z69).f1 ≤ (p : Int) - 1
  not : xs.getD (p - 1) false = false → out ≠ [] → (out.getD (out.length - 1) z69).f1 ≠ (p : Int) - 1
def few (r : List S69) : List S69 × Bool := if (r.length : Int) > 20 then ([], false) else (r, true)
theorem ixOf_end (marks : List Bool) (hm : marks.length ≤ 1048576) (out : List S69) : ∀ (n p : Nat), p + n = marks.length → (∀ q, p ≤ q → marks.getD q false = false) → Ev (fun k => spec_ixOf.l0 k marks out marks (marks.length : Int) (p : Int)) (few out) := by
  intro n
  induction n with
  | zero =>
    intro p hp hq
    refine Ev_step (fun k => ?_) (Ev.now _)
    rw [spec_ixOf.l0, if_neg (by omega)]
    by_cases h : (out.length : Int) > 20
    · rw [if_pos h, show few out = ([], false) from if_pos h]
    · rw [if_neg h, show few out = (out, true) from if_neg h]
  | succ n ih =>
    intro p hp hq
    refine Ev_step (fun k => ?_) (ih (p + 1) (by omega) (fun q h => hq q (by omega)))
    have e : rdOf false marks (p : Int) = false := by unfold rdOf; rw [Int.toNat_natCast]; exact hq p (Nat.le_refl _)
    rw [spec_ixOf.l0, if_pos (by omega), if_pos (by omega), if_pos (by omega), e, if_neg (by decide), nextI p (by omega)]
theorem rdOf_nat (xs : List Bool) (p : Nat) : rdOf false xs (p : Int) = xs.getD p false := by unfold rdOf; rw [Int.toNat_natCast]
theorem getD_snoc (out : List S69) (x : S69) : (out ++ [x]).getD ((out ++ [x]).length - 1) z69 = x := by
  rw [List.getD_eq_getElem?_getD, List.length_append, List.length_singleton, Nat.add_sub_cancel, List.getElem?_append_right (Nat.le_refl _), Nat.sub_self]
  rfl
theorem getD_last (out : List S69) (x : S69) (h : out ≠ []) : (out.set (out.length - 1) x).getD ((out.set (out.length - 1) x).length - 1) z69 = x := by
  have := List.length_pos_iff.2 h
  rw [List.length_set, getD_set_self _ _ _ (by omega)]
end Go.Proofs.YtppbpefehpbejaaGreatDoor.P
end

section
namespace Go.Proofs.YtppbpefehpbejaaGreatDoor.Runs
open Go.Proofs.YtppbpefehpbejaaGreatDoor.P
set_option linter.unusedVariables false

abbrev RG := S69
def GoodF (lo : Int) : List RG → Prop
  | [] => True
  | r :: l => lo ≤ r.f0 ∧ r.f0 ≤ r.f1 ∧ r.f1 ≤ 2000 ∧ GoodF (r.f1 + 2) l
def has (l : List RG) (p : Int) : Bool := l.any fun r => decide (r.f0 ≤ p ∧ p ≤ r.f1)
theorem has_nil (p : Int) : has [] p = false := rfl
theorem has_cons (r : RG) (l : List RG) (p : Int) : has (r :: l) p = (decide (r.f0 ≤ p ∧ p ≤ r.f1) || has l p) := rfl
theorem has_append (l m : List RG) (p : Int) : has (l ++ m) p = (has l p || has m p) := by unfold has; rw [List.any_append]
theorem GoodF.mono {lo lo' : Int} {l : List RG} (h : GoodF lo l) (hl : lo' ≤ lo) : GoodF lo' l := by
  cases l with
  | nil => trivial
  | cons r l => exact ⟨Int.le_trans hl h.1, h.2⟩
theorem has_below : ∀ {l : List RG} {lo p : Int}, GoodF lo l → p < lo → has l p = false := by
  intro l
  induction l with
  | nil => intro lo p _ _; rfl
  | cons r l ih =>
    intro lo p h hp
    obtain ⟨h1, h2, h3, h4⟩ := h
    rw [has_cons, ih h4 (by omega), Bool.or_false]
    exact decide_eq_false (by omega)
theorem has_above : ∀ {l : List RG} {lo p : Int}, GoodF lo l → 2000 < p → has l p = false := by
  intro l
  induction l with
  | nil => intro lo p _ _; rfl
  | cons r l ih =>
    intro lo p h hp
    obtain ⟨h1, h2, h3, h4⟩ := h
    rw [has_cons, ih h4 hp, Bool.or_false]
    exact decide_eq_false (by omega)
theorem has_head {r : RG} {l : List RG} {lo p : Int} (h : GoodF lo (r :: l)) (hp : p ≤ r.f1 + 1) : has (r :: l) p = decide (r.f0 ≤ p ∧ p ≤ r.f1) := by
  obtain ⟨h1, h2, h3, h4⟩ := h
  rw [has_cons, has_below h4 (by omega), Bool.or_false]
theorem good_one : ∀ {l m : List RG} {lo : Int}, GoodF lo l → GoodF lo m → (∀ p, has l p = has m p) → l = m := by
  intro l
  induction l with
  | nil =>
    intro m lo _ hm he
    cases m with
    | nil => rfl
    | cons r m =>
      have := he r.f0
      rw [has_nil, has_head hm (by have := hm.2.1; omega), decide_eq_true ⟨Int.le_refl _, hm.2.1⟩] at this
      cases this
  | cons r l ih =>
    intro m lo hl hm he
    cases m with
    | nil =>
      have := he r.f0
      rw [has_nil, has_head hl (by have := hl.2.1; omega), decide_eq_true ⟨Int.le_refl _, hl.2.1⟩] at this
      cases this
    | cons q m =>
      have hl2 := hl.2.1
      have hm2 := hm.2.1
      have e0 : r.f0 = q.f0 := by
        have a := he r.f0
        have b := he q.f0
        rw [has_head hl (by omega), decide_eq_true (show r.f0 ≤ r.f0 ∧ r.f0 ≤ r.f1 by omega)] at a
        rw [has_head hm (show q.f0 ≤ q.f1 + 1 by omega), decide_eq_true (show q.f0 ≤ q.f0 ∧ q.f0 ≤ q.f1 by omega)] at b
        rcases Int.lt_trichotomy r.f0 q.f0 with h | h | h
        · rw [has_head hm (by omega), decide_eq_false (by omega)] at a
          cases a
        · exact h
        · rw [has_head hl (by omega), decide_eq_false (by omega)] at b
          cases b
      have e1 : r.f1 = q.f1 := by
        rcases Int.lt_trichotomy r.f1 q.f1 with h | h | h
        · have a := he (r.f1 + 1)
          rw [has_head hl (by omega), has_head hm (by omega), decide_eq_false (by omega), decide_eq_true (by omega)] at a
          cases a
        · exact h
        · have a := he (q.f1 + 1)
          rw [has_head hl (by omega), has_head hm (by omega), decide_eq_true (by omega), decide_eq_false (by omega)] at a
          cases a
      have er : r = q := by
        cases r; cases q
        simp only at e0 e1
        rw [e0, e1]
      subst er
      have := ih hl.2.2.2 hm.2.2.2 (fun p => by
        rcases Int.lt_or_le p (r.f1 + 2) with h | h
        · rw [has_below hl.2.2.2 h, has_below hm.2.2.2 h]
        · have a := he p
          rw [has_cons, has_cons, decide_eq_false (by omega), Bool.false_or, Bool.false_or] at a
          exact a)
      rw [this]
def cnt (f : Int → Bool) (a : Int) : Nat → Nat
  | 0 => 0
  | n + 1 => (if f a = true then 1 else 0) + cnt f (a + 1) n
theorem cnt_congr {f g : Int → Bool} : ∀ {n : Nat} {a : Int}, (∀ p, a ≤ p → p < a + n → f p = g p) → cnt f a n = cnt g a n := by
  intro n
  induction n with
  | zero => intro a _; rfl
  | succ n ih =>
    intro a h
    rw [cnt, cnt, h a (Int.le_refl _) (by omega), ih (fun p h1 h2 => h p (by omega) (by omega))]
theorem cnt_add (f : Int → Bool) : ∀ (n m : Nat) (a : Int), cnt f a (n + m) = cnt f a n + cnt f (a + n) m := by
  intro n
  induction n with
  | zero => intro m a; rw [Nat.zero_add, cnt, Nat.zero_add, show a + ((0 : Nat) : Int) = a by omega]
  | succ n ih => intro m a; rw [show n + 1 + m = (n + m) + 1 by omega, cnt, cnt, ih, Nat.add_assoc, show a + 1 + (n : Int) = a + ((n + 1 : Nat) : Int) by omega]
theorem cnt_all {f : Int → Bool} : ∀ {n : Nat} {a : Int}, (∀ p, a ≤ p → p < a + n → f p = true) → cnt f a n = n := by
  intro n
  induction n with
  | zero => intro a _; rfl
  | succ n ih =>
    intro a h
    rw [cnt, h a (Int.le_refl _) (by omega), ih (fun p h1 h2 => h p (by omega) (by omega)), if_pos rfl]
    omega
theorem cnt_none {f : Int → Bool} : ∀ {n : Nat} {a : Int}, (∀ p, a ≤ p → p < a + n → f p = false) → cnt f a n = 0 := by
  intro n
  induction n with
  | zero => intro a _; rfl
  | succ n ih =>
    intro a h
    rw [cnt, h a (Int.le_refl _) (by omega), ih (fun p h1 h2 => h p (by omega) (by omega))]
    rfl
theorem cnt_two (f g h k : Int → Bool) (e : ∀ p, (if f p = true then 1 else 0) + (if g p = true then 1 else 0) = (if h p = true then (1 : Nat) else 0) + (if k p = true then 1 else 0)) : ∀ (n : Nat) (a : Int), cnt f a n + cnt g a n = cnt h a n + cnt k a n := by
  intro n
  induction n with
  | zero => intro a; rfl
  | succ n ih =>
    intro a
    have := ih (a + 1)
    have := e a
    rw [cnt, cnt, cnt, cnt]
    omega
theorem cnt_le {f g : Int → Bool} : ∀ {n : Nat} {a : Int}, (∀ p, a ≤ p → p < a + n → f p = true → g p = true) → cnt f a n ≤ cnt g a n := by
  intro n
  induction n with
  | zero => intro a _; exact Nat.le_refl _
  | succ n ih =>
    intro a h
    have h1 := ih (a := a + 1) (fun p h1 h2 => h p (by omega) (by omega))
    rw [cnt, cnt]
    by_cases hf : f a = true
    · rw [if_pos hf, if_pos (h a (Int.le_refl _) (by omega) hf)]
      omega
    · rw [if_neg hf]
      omega
def size : List RG → Int
  | [] => 0
  | r :: l => (r.f1 - r.f0 + 1) + size l
theorem size_cnt : ∀ {l : List RG} {lo : Int} {n : Nat}, GoodF lo l → lo + n = 2001 → size l = (cnt (has l) lo n : Int) := by
  intro l
  induction l with
  | nil =>
    intro lo n _ _
    rw [cnt_none (fun p _ _ => has_nil p)]
    rfl
  | cons r l ih =>
    intro lo n h hn
    have h1 := h.1
    have h2 := h.2.1
    have h3 := h.2.2.1
    have hg := h.2.2.2
    obtain ⟨a, ha⟩ := Int.eq_ofNat_of_zero_le (show 0 ≤ r.f0 - lo by omega)
    obtain ⟨b, hb⟩ := Int.eq_ofNat_of_zero_le (show 0 ≤ r.f1 - r.f0 + 1 by omega)
    obtain ⟨c, hc⟩ := Int.eq_ofNat_of_zero_le (show 0 ≤ 2000 - r.f1 by omega)
    have e : n = a + (b + c) := by omega
    rw [e, cnt_add, cnt_add, size]
    have z1 : cnt (has (r :: l)) lo a = 0 := cnt_none (fun p p1 p2 => by rw [has_head h (by omega)]; exact decide_eq_false (by omega))
    have z2 : cnt (has (r :: l)) (lo + a) b = b := cnt_all (fun p p1 p2 => by rw [has_head h (by omega)]; exact decide_eq_true (by omega))
    have z3 : cnt (has (r :: l)) (lo + a + b) c = cnt (has l) (lo + a + b) c := cnt_congr (fun p p1 p2 => by rw [has_cons, decide_eq_false (by omega), Bool.false_or])
    rw [z1, z2, z3]
    cases c with
    | zero =>
      have : l = [] := by
        cases l with
        | nil => rfl
        | cons q l => have := hg.1; have := hg.2.1; have := hg.2.2.1; omega
      subst this
      rw [cnt]
      show r.f1 - r.f0 + 1 + 0 = _
      omega
    | succ c =>
      rw [cnt, has_below hg (by omega), if_neg (by decide), Nat.zero_add, ih (n := c) hg (by omega), show lo + (a : Int) + (b : Int) + 1 = r.f1 + 2 by omega]
      omega
def rise (f : Int → Bool) (p : Int) : Bool := f p && !f (p - 1)
def fall (f : Int → Bool) (p : Int) : Bool := f p && !f (p + 1)
theorem len_rise : ∀ {l : List RG} {lo : Int} {n : Nat}, GoodF lo l → lo + n = 2001 → l.length = cnt (rise (has l)) lo n := by
  intro l
  induction l with
  | nil =>
    intro lo n _ _
    rw [cnt_none (f := rise (has [])) (fun p _ _ => rfl)]
    rfl
  | cons r l ih =>
    intro lo n h hn
    have h1 := h.1
    have h2 := h.2.1
    have h3 := h.2.2.1
    have hg := h.2.2.2
    obtain ⟨a, ha⟩ := Int.eq_ofNat_of_zero_le (show 0 ≤ r.f0 - lo by omega)
    obtain ⟨b, hb⟩ := Int.eq_ofNat_of_zero_le (show 0 ≤ r.f1 - r.f0 by omega)
    obtain ⟨c, hc⟩ := Int.eq_ofNat_of_zero_le (show 0 ≤ 2000 - r.f1 by omega)
    have e : n = a + ((b + c) + 1) := by omega
    rw [e, cnt_add, cnt, cnt_add, List.length_cons]
    have z1 : cnt (rise (has (r :: l))) lo a = 0 := cnt_none (fun p p1 p2 => by unfold rise; rw [has_head h (by omega), decide_eq_false (by omega)]; rfl)
    have z2 : rise (has (r :: l)) (lo + a) = true := by unfold rise; rw [has_head h (by omega), has_head h (by omega), decide_eq_true (by omega), decide_eq_false (by omega)]; rfl
    have z3 : cnt (rise (has (r :: l))) (lo + a + 1) b = 0 := cnt_none (fun p p1 p2 => by unfold rise; rw [has_head h (by omega), has_head h (show p - 1 ≤ r.f1 + 1 by omega), decide_eq_true (show r.f0 ≤ p - 1 ∧ p - 1 ≤ r.f1 by omega)]; simp)
    have z4 : cnt (rise (has (r :: l))) (lo + a + 1 + b) c = cnt (rise (has l)) (lo + a + 1 + b) c := cnt_congr (fun p p1 p2 => by
      unfold rise
      rw [has_cons, has_cons, decide_eq_false (show ¬ (r.f0 ≤ p ∧ p ≤ r.f1) by omega), Bool.false_or]
      by_cases hp : p = r.f1 + 1
      · subst hp
        rw [has_below hg (show r.f1 + 1 < r.f1 + 2 by omega)]
        rfl
      · rw [decide_eq_false (show ¬ (r.f0 ≤ p - 1 ∧ p - 1 ≤ r.f1) by omega), Bool.false_or])
    rw [z1, z2, if_pos rfl, z3, z4]
    cases c with
    | zero =>
      have : l = [] := by
        cases l with
        | nil => rfl
        | cons q l => have := hg.1; have := hg.2.1; have := hg.2.2.1; omega
      subst this
      rfl
    | succ c =>
      have z5 : rise (has l) (lo + a + 1 + b) = false := by unfold rise; rw [has_below hg (by omega)]; rfl
      rw [cnt, z5, if_neg (by decide), ih (n := c) hg (by omega), show lo + (a : Int) + 1 + (b : Int) + 1 = r.f1 + 2 by omega]
      omega
theorem len_fall : ∀ {l : List RG} {lo : Int} {n : Nat}, GoodF lo l → lo + n = 2001 → l.length = cnt (fall (has l)) lo n := by
  intro l
  induction l with
  | nil =>
    intro lo n _ _
    rw [cnt_none (f := fall (has [])) (fun p _ _ => rfl)]
    rfl
  | cons r l ih =>
    intro lo n h hn
    have h1 := h.1
    have h2 := h.2.1
    have h3 := h.2.2.1
    have hg := h.2.2.2
    obtain ⟨a, ha⟩ := Int.eq_ofNat_of_zero_le (show 0 ≤ r.f1 - lo by omega)
    obtain ⟨c, hc⟩ := Int.eq_ofNat_of_zero_le (show 0 ≤ 2000 - r.f1 by omega)
    have e : n = a + (c + 1) := by omega
    rw [e, cnt_add, cnt, List.length_cons]
    have z1 : cnt (fall (has (r :: l))) lo a = 0 := cnt_none (fun p p1 p2 => by
      unfold fall
      rw [has_head h (by omega), has_head h (show p + 1 ≤ r.f1 + 1 by omega)]
      by_cases hp : r.f0 ≤ p
      · rw [decide_eq_true (show r.f0 ≤ p + 1 ∧ p + 1 ≤ r.f1 by omega)]
        simp
      · rw [decide_eq_false (show ¬ (r.f0 ≤ p ∧ p ≤ r.f1) by omega)]
        rfl)
    have z2 : fall (has (r :: l)) (lo + a) = true := by unfold fall; rw [has_head h (by omega), has_head h (by omega), decide_eq_true (by omega), decide_eq_false (by omega)]; rfl
    have z4 : cnt (fall (has (r :: l))) (lo + a + 1) c = cnt (fall (has l)) (lo + a + 1) c := cnt_congr (fun p p1 p2 => by
      unfold fall
      rw [has_cons, has_cons, decide_eq_false (show ¬ (r.f0 ≤ p ∧ p ≤ r.f1) by omega), decide_eq_false (show ¬ (r.f0 ≤ p + 1 ∧ p + 1 ≤ r.f1) by omega), Bool.false_or, Bool.false_or])
    rw [z1, z2, if_pos rfl, z4]
    cases c with
    | zero =>
      have : l = [] := by
        cases l with
        | nil => rfl
        | cons q l => have := hg.1; have := hg.2.1; have := hg.2.2.1; omega
      subst this
      rfl
    | succ c =>
      have z5 : fall (has l) (lo + a + 1) = false := by unfold fall; rw [has_below hg (by omega)]; rfl
      rw [cnt, z5, if_neg (by decide), ih (n := c) hg (by omega), show lo + (a : Int) + 1 + 1 = r.f1 + 2 by omega]
      omega
theorem cnt_or {f g h : Int → Bool} : ∀ {n : Nat} {a : Int}, (∀ p, a ≤ p → p < a + n → f p = true → g p = true ∨ h p = true) → cnt f a n ≤ cnt g a n + cnt h a n := by
  intro n
  induction n with
  | zero => intro a _; exact Nat.le_refl _
  | succ n ih =>
    intro a e
    have h1 := ih (a := a + 1) (fun p h1 h2 => e p (by omega) (by omega))
    rw [cnt, cnt, cnt]
    by_cases hf : f a = true
    · rw [if_pos hf]
      rcases e a (Int.le_refl _) (by omega) hf with hg | hh
      · rw [if_pos hg]
        omega
      · rw [if_pos hh]
        omega
    · rw [if_neg hf]
      omega
theorem cnt_shift (f : Int → Bool) : ∀ (n : Nat) (a : Int), cnt (fun p => f (p - 1)) (a + 1) n = cnt f a n := by
  intro n
  induction n with
  | zero => intro a; rfl
  | succ n ih => intro a; rw [cnt, cnt, ih, show a + 1 - 1 = a by omega]
theorem few_or {a b c : List RG} (ha : GoodF 1 a) (hb : GoodF 1 b) (hc : GoodF 1 c) (e : ∀ p, has c p = (has a p || has b p)) : c.length ≤ a.length + b.length := by
  rw [len_rise (n := 2000) ha rfl, len_rise (n := 2000) hb rfl, len_rise (n := 2000) hc rfl]
  refine cnt_or (fun p _ _ h => ?_)
  unfold rise at h ⊢
  rw [e, e] at h
  revert h
  cases has a p <;> cases has b p <;> cases has a (p - 1) <;> cases has b (p - 1) <;> simp
theorem few_and {a b c : List RG} (ha : GoodF 1 a) (hb : GoodF 1 b) (hc : GoodF 1 c) (e : ∀ p, has c p = (has a p && has b p)) : c.length ≤ a.length + b.length := by
  rw [len_rise (n := 2000) ha rfl, len_rise (n := 2000) hb rfl, len_rise (n := 2000) hc rfl]
  refine cnt_or (fun p _ _ h => ?_)
  unfold rise at h ⊢
  rw [e, e] at h
  revert h
  cases has a p <;> cases has b p <;> cases has a (p - 1) <;> cases has b (p - 1) <;> simp
theorem few_not {a b c : List RG} (ha : GoodF 1 a) (hb : GoodF 1 b) (hc : GoodF 1 c) (e : ∀ p, has c p = (has a p && !has b p)) : c.length ≤ a.length + b.length := by
  have h0 : cnt (fall (has b)) 0 2000 ≤ b.length := by
    rw [len_fall (n := 2001) (hb.mono (show (0 : Int) ≤ 1 by decide)) rfl, show 2001 = 2000 + 1 from rfl, cnt_add]
    omega
  refine Nat.le_trans ?_ (Nat.add_le_add_left h0 _)
  rw [len_rise (n := 2000) ha rfl, len_rise (n := 2000) hc rfl, ← cnt_shift (fall (has b)) 2000 0]
  refine cnt_or (fun p _ _ h => ?_)
  unfold rise at h ⊢
  unfold fall
  simp only [Int.sub_add_cancel]
  rw [e, e] at h
  revert h
  cases has a p <;> cases has b p <;> cases has a (p - 1) <;> cases has b (p - 1) <;> simp
end Go.Proofs.YtppbpefehpbejaaGreatDoor.Runs
end

section
namespace Go.Proofs.YtppbpefehpbejaaGreatDoor.P
open Go.RowKit Go.Proofs.YtppbpefehpbejaaGreatDoorW.PrintWords Go.Proofs.YtppbpefehpbejaaGreatDoorW.PrintLast Go.Proofs.YtppbpefehpbejaaGreatDoorW.PrintMore Go.Proofs.YtppbpefehpbejaaGreatDoor.Base Go.Proofs.YtppbpefehpbejaaGreatDoor.Runs
set_option linter.unusedVariables false

theorem rdT_mem (l : List RG) (i : Nat) (h : i < l.length) : rd_T69 l (i : Int) = l[i] := by unfold rd_T69; rw [Int.toNat_natCast, getD_at l _ h]
def goodB (lo : Int) : List RG → Bool
  | [] => true
  | r :: l => decide (lo ≤ r.f0 ∧ r.f0 ≤ r.f1 ∧ r.f1 ≤ 2000) && goodB (r.f1 + 2) l
theorem goodB_iff : ∀ {l : List RG} {lo : Int}, goodB lo l = true ↔ GoodF lo l := by
  intro l
  induction l with
  | nil => intro lo; exact ⟨fun _ => trivial, fun _ => rfl⟩
  | cons r l ih =>
    intro lo
    rw [goodB, Bool.and_eq_true, decide_eq_true_eq, ih, GoodF]
    exact ⟨fun ⟨⟨a, b, c⟩, d⟩ => ⟨a, b, c, d⟩, fun ⟨a, b, c, d⟩ => ⟨⟨a, b, c⟩, d⟩⟩
theorem areR_l0 (l : List RG) (hn : l.length ≤ 1048576) : ∀ (n i : Nat), i + n = l.length → 1 ≤ i → (h : i - 1 < l.length) → 1 ≤ l[i - 1].f1 → l[i - 1].f1 ≤ 2000 →
    Ev (fun k => spec_ixGood.l0 k l l (l.length : Int) (i : Int)) (goodB (l[i - 1].f1 + 2) (l.drop i)) ∧ Ev (fun k => impl_AreRanges.l0 k l l (l.length : Int) (i : Int)) (goodB (l[i - 1].f1 + 2) (l.drop i) && decide ((l.length : Int) ≤ 20)) := by
  intro n
  induction n with
  | zero =>
    intro i hi h1 hp p1 p2
    rw [List.drop_of_length_le (by omega)]
    refine ⟨Ev_step (fun k => ?_) (Ev.now _), Ev_step (fun k => ?_) (Ev.now _)⟩
    · rw [spec_ixGood.l0, if_neg (by omega)]
      rfl
    · rw [impl_AreRanges.l0, if_neg (by omega), goodB, Bool.true_and]
  | succ n ih =>
    intro i hi h1 hp p1 p2
    have h : i < l.length := by omega
    have w : wrap64 ((i : Int) - 1) = ((i - 1 : Nat) : Int) := by rw [w64 (by omega) (by omega)]; omega
    have w2 : wrap64 (l[i - 1].f1 + 2) = l[i - 1].f1 + 2 := w64 (by omega) (by omega)
    have e1 := rdT_mem l i h
    have e2 := rdT_mem l (i - 1) hp
    rw [List.drop_eq_getElem_cons h, goodB]
    have s1 : ∀ k, spec_ixGood.l0 (k + 1) l l (l.length : Int) (i : Int) = (if rangeB l[i].f0 l[i].f1 = true then (if l[i].f0 < l[i - 1].f1 + 2 then some false else spec_ixGood.l0 k l l (l.length : Int) ((i + 1 : Nat) : Int)) else some false) := fun k => by
      rw [spec_ixGood.l0, if_pos (by omega), if_pos (by omega), if_pos (by omega), ixRange_eq, w, nextI i (by omega), e1, e2, w2]
      simp only [Option.bind_some]
      rw [if_pos (show (i : Int) > 0 by omega), if_pos (show (0 : Int) ≤ ((i - 1 : Nat) : Int) by omega), if_pos (show ((i - 1 : Nat) : Int) < (l.length : Int) by omega)]
    have s2 : ∀ k, impl_AreRanges.l0 (k + 1) l l (l.length : Int) (i : Int) = (if rangeB l[i].f0 l[i].f1 = true then (if l[i].f0 < l[i - 1].f1 + 2 then some false else impl_AreRanges.l0 k l l (l.length : Int) ((i + 1 : Nat) : Int)) else some false) := fun k => by
      rw [impl_AreRanges.l0, if_pos (by omega), if_pos (by omega), if_pos (by omega), isRange_eq, w, nextI i (by omega), e1, e2, w2]
      simp only [Option.bind_some]
      rw [if_pos (show (i : Int) > 0 by omega), if_pos (show (0 : Int) ≤ ((i - 1 : Nat) : Int) by omega), if_pos (show ((i - 1 : Nat) : Int) < (l.length : Int) by omega)]
    by_cases hr : rangeB l[i].f0 l[i].f1 = true
    · have hr2 := hr
      unfold rangeB at hr2
      rw [decide_eq_true_eq] at hr2
      by_cases hg : l[i].f0 < l[i - 1].f1 + 2
      · rw [decide_eq_false (by omega), Bool.false_and, Bool.false_and]
        exact ⟨Ev_step s1 (Ev_pos hr (Ev_pos hg (Ev.now _))), Ev_step s2 (Ev_pos hr (Ev_pos hg (Ev.now _)))⟩
      · rw [decide_eq_true (by omega), Bool.true_and]
        obtain ⟨a, b⟩ := ih (i + 1) (by omega) (by omega) (by omega) (by simp only [Nat.add_sub_cancel]; omega) (by simp only [Nat.add_sub_cancel]; omega)
        simp only [Nat.add_sub_cancel] at a b
        exact ⟨Ev_step s1 (Ev_pos hr (Ev_neg hg a)), Ev_step s2 (Ev_pos hr (Ev_neg hg b))⟩
    · have hr2 := hr
      unfold rangeB at hr2
      rw [decide_eq_true_eq] at hr2
      rw [decide_eq_false (by omega), Bool.false_and, Bool.false_and]
      exact ⟨Ev_step s1 (Ev_neg hr (Ev.now _)), Ev_step s2 (Ev_neg hr (Ev.now _))⟩
def areB (l : List RG) : Bool := goodB 1 l && decide (l.length ≤ 20)
theorem areR_ev (l : List RG) (hn : l.length ≤ 1048576) : Ev (fun k => spec_ixGood.f k l) (areB l) ∧ Ev (fun k => impl_AreRanges.f k l) (areB l) := by
  have key : Ev (fun k => spec_ixGood.l0 k l l (l.length : Int) 0) (goodB 1 l) ∧ Ev (fun k => impl_AreRanges.l0 k l l (l.length : Int) 0) (goodB 1 l && decide ((l.length : Int) ≤ 20)) := by
    cases hl : l with
    | nil =>
      refine ⟨Ev_step (fun k => ?_) (Ev.now _), Ev_step (fun k => ?_) (Ev.now _)⟩
      · rw [spec_ixGood.l0, if_neg (by simp)]
        rfl
      · rw [impl_AreRanges.l0, if_neg (by simp)]
        rfl
    | cons r m =>
      rw [← hl]
      have h : 0 < l.length := by rw [hl]; simp
      have e0 : l[0] = r := by simp [hl]
      have e1 : rd_T69 l 0 = r := (rdT_mem l 0 h).trans e0
      have s1 : ∀ k, spec_ixGood.l0 (k + 1) l l (l.length : Int) 0 = (if rangeB r.f0 r.f1 = true then spec_ixGood.l0 k l l (l.length : Int) ((1 : Nat) : Int) else some false) := fun k => by
        rw [spec_ixGood.l0, if_pos (by omega), if_pos (by omega), if_pos (by omega), ixRange_eq, e1]
        simp only [Option.bind_some]
        rw [if_neg (show ¬ (0 : Int) > 0 by decide), show wrap64 (0 + 1) = ((1 : Nat) : Int) from by rw [w64 (by omega) (by omega)]; rfl]
      have s2 : ∀ k, impl_AreRanges.l0 (k + 1) l l (l.length : Int) 0 = (if rangeB r.f0 r.f1 = true then impl_AreRanges.l0 k l l (l.length : Int) ((1 : Nat) : Int) else some false) := fun k => by
        rw [impl_AreRanges.l0, if_pos (by omega), if_pos (by omega), if_pos (by omega), isRange_eq, e1]
        simp only [Option.bind_some]
        rw [if_neg (show ¬ (0 : Int) > 0 by decide), show wrap64 (0 + 1) = ((1 : Nat) : Int) from by rw [w64 (by omega) (by omega)]; rfl]
      have eg : goodB 1 l = (decide (1 ≤ r.f0 ∧ r.f0 ≤ r.f1 ∧ r.f1 ≤ 2000) && goodB (r.f1 + 2) (l.drop 1)) := by rw [hl, goodB]; rfl
      rw [eg]
      by_cases hr : rangeB r.f0 r.f1 = true
      · have hr2 := hr
        unfold rangeB at hr2
        rw [decide_eq_true_eq] at hr2
        obtain ⟨a, b⟩ := areR_l0 l hn (l.length - 1) 1 (by omega) (Nat.le_refl _) h (by rw [e0]; omega) (by rw [e0]; omega)
        rw [e0] at a b
        rw [decide_eq_true (by omega), Bool.true_and]
        exact ⟨Ev_step s1 (Ev_pos hr a), Ev_step s2 (Ev_pos hr b)⟩
      · have hr2 := hr
        unfold rangeB at hr2
        rw [decide_eq_true_eq] at hr2
        rw [decide_eq_false (by omega), Bool.false_and, Bool.false_and]
        exact ⟨Ev_step s1 (Ev_neg hr (Ev.now _)), Ev_step s2 (Ev_neg hr (Ev.now _))⟩
  have ed : decide (l.length ≤ 20) = decide ((l.length : Int) ≤ 20) := decide_eq_decide.2 (by omega)
  unfold areB
  rw [ed]
  refine ⟨?_, Ev.congr (fun k => by rw [impl_AreRanges.f]) key.2⟩
  simp only [spec_ixGood.f]
  by_cases h : (l.length : Int) > 20
  · rw [decide_eq_false (by omega), Bool.and_false]
    exact Ev_pos h (Ev.now _)
  · rw [decide_eq_true (by omega), Bool.and_true]
    exact Ev_neg h key.1
theorem areB_iff {l : List RG} : areB l = true ↔ GoodF 1 l ∧ l.length ≤ 20 := by
  unfold areB
  rw [Bool.and_eq_true, goodB_iff, decide_eq_true_eq]
theorem good_mem : ∀ {l : List RG} {lo : Int}, GoodF lo l → ∀ x ∈ l, lo ≤ x.f0 ∧ x.f0 ≤ x.f1 ∧ x.f1 ≤ 2000 := by
  intro l
  induction l with
  | nil => intro lo _ x hx; cases hx
  | cons r l ih =>
    intro lo h x hx
    rcases List.mem_cons.1 hx with rfl | hx
    · exact ⟨h.1, h.2.1, h.2.2.1⟩
    · have := ih h.2.2.2 x hx
      have := h.1
      have := h.2.1
      omega
theorem good_snoc : ∀ {l : List RG} {lo : Int} {r : RG}, GoodF lo l → (∀ x ∈ l, x.f1 + 2 ≤ r.f0) → lo ≤ r.f0 → r.f0 ≤ r.f1 → r.f1 ≤ 2000 → GoodF lo (l ++ [r]) := by
  intro l
  induction l with
  | nil => intro lo r _ _ h1 h2 h3; exact ⟨h1, h2, h3, trivial⟩
  | cons q l ih =>
    intro lo r h ha h1 h2 h3
    exact ⟨h.1, h.2.1, h.2.2.1, ih h.2.2.2 (fun x hx => ha x (List.mem_cons_of_mem _ hx)) (ha q (List.mem_cons_self)) h2 h3⟩
theorem good_last : ∀ {l : List RG} {lo : Int} {x : RG} {y : Int}, GoodF lo (l ++ [x]) → x.f0 ≤ y → y ≤ 2000 → GoodF lo (l ++ [⟨x.f0, y⟩]) := by
  intro l
  induction l with
  | nil => intro lo x y h h1 h2; exact ⟨h.1, h1, h2, trivial⟩
  | cons q l ih => intro lo x y h h1 h2; exact ⟨h.1, h.2.1, h.2.2.1, ih h.2.2.2 h1 h2⟩
theorem has_past {l : List RG} {p : Int} (h : ∀ x ∈ l, x.f1 < p) : has l p = false := by
  unfold has
  rw [List.any_eq_false]
  intro x hx
  have := h x hx
  rw [decide_eq_true_eq]
  omega
structure Sem (xs : List Bool) (out : List RG) (p : Nat) : Prop where
  good : GoodF 1 out
  past : ∀ x ∈ out, x.f1 < (p : Int)
  sem : ∀ q : Nat, q < p → has out (q : Int) = xs.getD q false
theorem all_sem (xs : List Bool) (hx : Set1 xs) (m : Nat) (hm : m ≤ 1000000) : ∀ (n p : Nat) (out : List RG), p + n = 2001 → 1 ≤ p → Upto xs out p → Sem xs out p →
    ∃ r, Ev (fun k => impl_pageSet_all.l0 k xs out (p : Int)) r ∧ Ev (fun k => spec_ixOf.l0 k (xs ++ List.replicate m false) out (xs ++ List.replicate m false) ((xs ++ List.replicate m false).length : Int) (p : Int)) (few r) ∧ Sem xs r 2001 := by
  have hl := hx.len
  have hlm : (xs ++ List.replicate m false).length = 2001 + m := by rw [List.length_append, hl, List.length_replicate]
  intro n
  induction n with
  | zero =>
    intro p out hp hp1 hu hs
    obtain rfl : p = 2001 := by omega
    refine ⟨out, Ev_step (fun k => ?_) (Ev.now _), ?_, hs⟩
    · rw [impl_pageSet_all.l0, if_neg (by omega)]
    · refine ixOf_end _ (by omega) out m 2001 hlm.symm (fun q hq => ?_)
      rw [List.getD_eq_getElem?_getD, List.getElem?_append_right (by omega), ← List.getD_eq_getElem?_getD]
      exact rep_none _ _
  | succ n ih =>
    intro p out hp hp1 hu hs
    have hn1 : ((p + 1 : Nat) : Int) - 1 = (p : Int) := by omega
    have w1 : wrap64 ((p : Int) - 1) = ((p - 1 : Nat) : Int) := by rw [w64 (by omega) (by omega)]; omega
    have hmk : ∀ q, q < 2001 → rdOf false (xs ++ List.replicate m false) ((q : Nat) : Int) = xs.getD q false := fun q hq => by rw [rdOf_nat, getD_more _ _ _ (by omega)]
    cases hb : xs.getD p false with
    | false =>
      have hs2 : Sem xs out (p + 1) := ⟨hs.good, fun x hx => by have := hs.past x hx; omega, fun q hq => by
        by_cases h : q = p
        · subst h
          rw [hb]
          exact has_past hs.past
        · exact hs.sem q (by omega)⟩
      obtain ⟨r, a, b, c⟩ := ih (p + 1) out (by omega) (by omega) ⟨by have := hu.len; omega, (fun h => by rw [Nat.add_sub_cancel, hb] at h; cases h), (fun h => by have := hu.old h; omega), (fun _ h => by have := hu.old h; omega)⟩ hs2
      refine ⟨r, Ev_step (fun k => ?_) a, Ev_step (fun k => ?_) b, c⟩
      · rw [impl_pageSet_all.l0, if_pos (by omega), if_pos (by omega), if_pos (by omega), rdOf_nat, hb, if_neg (by decide), nextI p (by omega)]
      · rw [spec_ixOf.l0, if_pos (by omega), if_pos (by omega), if_pos (by omega), hmk p (by omega), hb, if_neg (by decide), nextI p (by omega)]
    | true =>
      cases hc : xs.getD (p - 1) false with
      | true =>
        obtain ⟨h1, h2⟩ := hu.last hc
        have h3 := List.length_pos_iff.2 h1
        have hol := hu.len
        have w2 : wrap64 ((out.length : Int) - 1) = ((out.length - 1 : Nat) : Int) := by rw [w64 (by omega) (by omega)]; omega
        have hs2 : Sem xs (out.set (out.length - 1) ⟨(rd_T69 out ((out.length - 1 : Nat) : Int)).f0, (p : Int)⟩) (p + 1) := by
          rw [rdT_mem out (out.length - 1) (by omega)]
          rw [getD_at out _ (show out.length - 1 < out.length by omega)] at h2
          obtain ⟨init, x, rfl⟩ : ∃ init x, out = init ++ [x] := ⟨out.dropLast, out.getLast h1, (List.dropLast_concat_getLast h1).symm⟩
          have el : (init ++ [x]).length - 1 = init.length := by simp
          simp only [el] at h2 ⊢
          have ex : (init ++ [x])[init.length]'(by simp) = x := by simp
          rw [ex] at h2 ⊢
          rw [List.set_append_right _ _ (Nat.le_refl _), Nat.sub_self, List.set_cons_zero]
          have hmx := good_mem hs.good x (by simp)
          refine ⟨good_last hs.good (by omega) (by omega), fun y hy => ?_, fun q hq => ?_⟩
          · rcases List.mem_append.1 hy with h | h
            · have := hs.past y (List.mem_append_left _ h)
              omega
            · rw [List.mem_singleton.1 h]
              show (p : Int) < _
              omega
          · by_cases h : q = p
            · subst h
              rw [hb, has_append, has_cons, has_nil, Bool.or_false]
              rw [decide_eq_true (show x.f0 ≤ (q : Int) ∧ (q : Int) ≤ q by omega), Bool.or_true]
            · have := hs.sem q (by omega)
              rw [has_append, has_cons, has_nil, Bool.or_false] at this ⊢
              rw [← this, show decide (x.f0 ≤ (q : Int) ∧ (q : Int) ≤ (p : Int)) = decide (x.f0 ≤ (q : Int) ∧ (q : Int) ≤ x.f1) from decide_eq_decide.2 (by omega)]
        obtain ⟨r, a, b, c⟩ := ih (p + 1) (out.set (out.length - 1) ⟨(rd_T69 out ((out.length - 1 : Nat) : Int)).f0, (p : Int)⟩) (by omega) (by omega)
          ⟨by rw [List.length_set]; omega, fun _ => ⟨fun h => h1 ((List.set_eq_nil_iff _ _).1 h), by rw [getD_last _ _ h1, hn1]⟩, (fun _ => by rw [getD_last _ _ h1, hn1]; exact Int.le_refl _), (fun h => by rw [Nat.add_sub_cancel, hb] at h; cases h)⟩ hs2
        refine ⟨r, Ev_step (fun k => ?_) a, Ev_step (fun k => ?_) b, c⟩
        · have e : (rd_T69 out ((out.length - 1 : Nat) : Int)).f1 = ((p - 1 : Nat) : Int) := by unfold rd_T69; rw [Int.toNat_natCast, h2]; omega
          rw [impl_pageSet_all.l0, if_pos (by omega), if_pos (by omega), if_pos (by omega), rdOf_nat, hb, if_pos rfl, if_pos (by omega), w2, if_pos (by omega), if_pos (by omega), w1, if_pos e, nextI p (by omega), Int.toNat_natCast]
        · rw [spec_ixOf.l0, if_pos (by omega), if_pos (by omega), if_pos (by omega), hmk p (by omega), hb, if_pos rfl, if_pos (by omega), w1, if_pos (by omega), if_pos (by omega), hmk (p - 1) (by omega), hc, if_pos rfl, w2, if_pos (by omega), if_pos (by omega), nextI p (by omega), Int.toNat_natCast]
      | false =>
        have hol := hu.len
        have hfar : ∀ x ∈ out, x.f1 + 2 ≤ (p : Int) := fun x hx => by
          have h1 := hs.past x hx
          have h2 := good_mem hs.good x hx
          have h3 := hs.sem (p - 1) (by omega)
          rw [hc] at h3
          rcases Int.lt_or_le (x.f1 + 1) (p : Int) with h | h
          · omega
          · exfalso
            have : has out ((p - 1 : Nat) : Int) = true := by
              unfold has
              rw [List.any_eq_true]
              exact ⟨x, hx, decide_eq_true (by omega)⟩
            rw [this] at h3
            cases h3
        have hs2 : Sem xs (out ++ [⟨(p : Int), (p : Int)⟩]) (p + 1) := by
          refine ⟨good_snoc hs.good hfar (by show (1 : Int) ≤ (p : Int); omega) (Int.le_refl _) (by show (p : Int) ≤ 2000; omega), fun y hy => ?_, fun q hq => ?_⟩
          · rcases List.mem_append.1 hy with h | h
            · have := hs.past y h
              omega
            · rw [List.mem_singleton.1 h]
              show (p : Int) < _
              omega
          · rw [has_append, has_cons, has_nil, Bool.or_false]
            by_cases h : q = p
            · subst h
              rw [hb, decide_eq_true (show (q : Int) ≤ q ∧ (q : Int) ≤ q by omega), Bool.or_true]
            · rw [decide_eq_false (show ¬ ((p : Int) ≤ q ∧ (q : Int) ≤ p) by omega), Bool.or_false]
              exact hs.sem q (by omega)
        obtain ⟨r, a, b, c⟩ := ih (p + 1) (out ++ [⟨(p : Int), (p : Int)⟩]) (by omega) (by omega)
          ⟨w75_, fun _ => ⟨by simp, by rw [getD_snoc, hn1]⟩, (fun _ => by rw [getD_snoc, hn1]; exact Int.le_refl _), (fun h => by rw [Nat.add_sub_cancel, hb] at h; cases h)⟩ hs2
        refine ⟨r, Ev_step (fun k => ?_) a, Ev_step (fun k => ?_) b, c⟩
        · rw [impl_pageSet_all.l0, if_pos (by omega), if_pos (by omega), if_pos (by omega), rdOf_nat, hb, if_pos rfl]
          by_cases h0 : (out.length : Int) > 0
          · have w2 : wrap64 ((out.length : Int) - 1) = ((out.length - 1 : Nat) : Int) := by rw [w64 (by omega) (by omega)]; omega
            have hne := hu.not hc (by intro h; rw [h] at h0; simp at h0)
            have e : ¬ (rd_T69 out ((out.length - 1 : Nat) : Int)).f1 = ((p - 1 : Nat) : Int) := by unfold rd_T69; rw [Int.toNat_natCast]; intro h; exact hne (by rw [h]; omega)
            rw [if_pos h0, w2, if_pos (by omega), if_pos (by omega), w1, if_neg e, if_pos (by omega), nextI p (by omega)]
          · rw [if_neg h0, if_pos (by omega), nextI p (by omega)]
        · rw [spec_ixOf.l0, if_pos (by omega), if_pos (by omega), if_pos (by omega), hmk p (by omega), hb, if_pos rfl, if_pos (by omega), w1, if_pos (by omega), if_pos (by omega), hmk (p - 1) (by omega), hc, if_neg (by decide), if_pos (by omega), nextI p (by omega)]
theorem ranges_sem (xs : List Bool) (hx : Set1 xs) (m : Nat) (hm : m ≤ 1000000) : ∃ r : List RG, GoodF 1 r ∧ (∀ q : Nat, q ≤ 2000 → has r (q : Int) = xs.getD q false) ∧ Ev (fun k => impl_pageSet_ranges.f k xs) (few r) ∧ Ev (fun k => spec_ixOf.f k (xs ++ List.replicate m false)) (few r) := by
  have h0 : Sem xs [] 1 := ⟨trivial, fun x hx => (by cases hx), fun q hq => by
    obtain rfl : q = 0 := by omega
    rw [hx.none]
    rfl⟩
  obtain ⟨r, a, b, c⟩ := all_sem xs hx m hm 2000 1 [] (by omega) (by omega) ⟨by simp, (fun h => by rw [Nat.sub_self, hx.none] at h; cases h), fun h => absurd rfl h, fun _ h => absurd rfl h⟩ h0
  refine ⟨r, c.good, fun q hq => c.sem q (by omega), ?_, ?_⟩
  · simp only [impl_pageSet_ranges.f]
    refine Ev_bind (a := r) (Ev.congr (fun k => by rw [impl_pageSet_all.f]; rfl) a) ?_
    by_cases h : (r.length : Int) > 20
    · rw [show few r = ([], false) from if_pos h]
      exact Ev_pos h (Ev.now _)
    · rw [show few r = (r, true) from if_neg h]
      exact Ev_neg h (Ev.now _)
  · refine Ev_step (fun k => ?_) b
    have hl := hx.len
    have e : rdOf false (xs ++ List.replicate m false) 0 = false := by rw [show (0 : Int) = ((0 : Nat) : Int) from rfl, rdOf_nat, getD_more _ _ _ (by omega)]; exact hx.none
    have hlm : (xs ++ List.replicate m false).length = 2001 + m := by rw [List.length_append, hl, List.length_replicate]
    rw [spec_ixOf.f, spec_ixOf.l0, if_pos (by omega), if_pos (by omega), if_pos (by omega), e, if_neg (by decide), show wrap64 (0 + 1) = ((1 : Nat) : Int) from by rw [w64 (by omega) (by omega)]; rfl]
def fill (xs : List Bool) (p : Nat) : Nat → List Bool
  | 0 => xs
  | n + 1 => fill (xs.set p true) (p + 1) n
theorem fill_set : ∀ (n p : Nat) (xs : List Bool), Set1 xs → 1 ≤ p → Set1 (fill xs p n) := by
  intro n
  induction n with
  | zero => intro p xs h _; exact h
  | succ n ih => intro p xs h hp; exact ih (p + 1) _ (h.put hp true) (by omega)
theorem fill_at : ∀ (n p : Nat) (xs : List Bool), p + n ≤ xs.length → ∀ q, (fill xs p n).getD q false = (xs.getD q false || decide (p ≤ q ∧ q < p + n)) := by
  intro n
  induction n with
  | zero => intro p xs _ q; rw [fill, decide_eq_false (by omega), Bool.or_false]
  | succ n ih =>
    intro p xs h q
    rw [fill, ih (p + 1) _ (by rw [List.length_set]; omega) q]
    by_cases hq : q = p
    · subst hq
      rw [getD_set_self _ _ _ (by omega), decide_eq_true (show q ≤ q ∧ q < q + (n + 1) by omega), Bool.or_true, Bool.true_or]
    · rw [getD_set_far _ _ _ _ (fun h => hq h.symm), show decide (p + 1 ≤ q ∧ q < p + 1 + n) = decide (p ≤ q ∧ q < p + (n + 1)) from decide_eq_decide.2 (by omega)]
def marksL (xs : List Bool) : List RG → List Bool
  | [] => xs
  | r :: l => marksL (fill xs r.f0.toNat (r.f1 + 1 - r.f0).toNat) l
def Valid (l : List RG) : Prop := ∀ x ∈ l, 1 ≤ x.f0 ∧ x.f0 ≤ x.f1 ∧ x.f1 ≤ 2000
theorem marksL_set : ∀ {l : List RG} {xs : List Bool}, Valid l → Set1 xs → Set1 (marksL xs l) := by
  intro l
  induction l with
  | nil => intro xs _ h; exact h
  | cons r l ih =>
    intro xs hv h
    have := hv r (List.mem_cons_self)
    exact ih (fun x hx => hv x (List.mem_cons_of_mem _ hx)) (fill_set _ _ _ h (by omega))
theorem marksL_at : ∀ {l : List RG} {xs : List Bool}, Valid l → Set1 xs → ∀ q : Nat, (marksL xs l).getD q false = (xs.getD q false || has l (q : Int)) := by
  intro l
  induction l with
  | nil => intro xs _ _ q; rw [marksL, has_nil, Bool.or_false]
  | cons r l ih =>
    intro xs hv h q
    have hr := hv r (List.mem_cons_self)
    rw [marksL, ih (fun x hx => hv x (List.mem_cons_of_mem _ hx)) (fill_set _ _ _ h (by omega)), fill_at _ _ _ (by rw [h.len]; omega), has_cons, Bool.or_assoc]
    rw [show decide (r.f0.toNat ≤ q ∧ q < r.f0.toNat + (r.f1 + 1 - r.f0).toNat) = decide (r.f0 ≤ (q : Int) ∧ (q : Int) ≤ r.f1) from decide_eq_decide.2 (by omega)]
theorem marksS_l1 (l : List RG) (hn : l.length ≤ 1048576) (i : Nat) (f0 f1 : Int) (h1 : f1 ≤ 2000) (hi : i < l.length) {r : List Bool} : ∀ (n p : Nat), (p : Int) + n = f1 + 1 → 1 ≤ p → ∀ xs, Set1 xs →
    Ev (fun k => impl_setOf.l0 k (fill xs p n) l (l.length : Int) ((i + 1 : Nat) : Int)) r → Ev (fun k => spec_ixMarks.l0 k (fill xs p n ++ [false]) l (l.length : Int) ((i + 1 : Nat) : Int)) (r ++ [false]) →
    Ev (fun k => impl_setOf.l1 k xs (p : Int) l (l.length : Int) (i : Int) f0 f1) r ∧ Ev (fun k => spec_ixMarks.l1 k (xs ++ [false]) (p : Int) l (l.length : Int) (i : Int) f0 f1) (r ++ [false]) := by
  intro n
  induction n with
  | zero =>
    intro p hp hp1 xs hx a b
    refine ⟨Ev_step (fun k => ?_) a, Ev_step (fun k => ?_) b⟩
    · rw [impl_setOf.l1, if_neg (by omega), nextI i (by omega), fill]
    · rw [spec_ixMarks.l1, if_neg (by omega), nextI i (by omega), fill]
  | succ n ih =>
    intro p hp hp1 xs hx a b
    have hl := hx.len
    obtain ⟨a, b⟩ := ih (p + 1) (by omega) (by omega) (xs.set p true) (hx.put hp1 true) a b
    refine ⟨Ev_step (fun k => ?_) a, Ev_step (fun k => ?_) b⟩
    · rw [impl_setOf.l1, if_pos (by omega), if_pos (by omega), if_pos (by omega), nextI p (by omega), Int.toNat_natCast]
    · rw [spec_ixMarks.l1, if_pos (by omega), if_pos (by omega), if_pos (by rw [List.length_append, hl]; simp only [List.length_singleton]; omega), nextI p (by omega), Int.toNat_natCast, set_more _ _ _ _ (by omega)]
theorem marksS_l0 (l : List RG) (hn : l.length ≤ 1048576) (hv : Valid l) : ∀ (n i : Nat), i + n = l.length → ∀ xs, Set1 xs →
    Ev (fun k => impl_setOf.l0 k xs l (l.length : Int) (i : Int)) (marksL xs (l.drop i)) ∧ Ev (fun k => spec_ixMarks.l0 k (xs ++ [false]) l (l.length : Int) (i : Int)) (marksL xs (l.drop i) ++ [false]) := by
  intro n
  induction n with
  | zero =>
    intro i hi xs hx
    rw [List.drop_of_length_le (by omega), marksL]
    refine ⟨Ev_step (fun k => ?_) (Ev.now _), Ev_step (fun k => ?_) (Ev.now _)⟩
    · rw [impl_setOf.l0, if_neg (by omega)]
    · rw [spec_ixMarks.l0, if_neg (by omega)]
  | succ n ih =>
    intro i hi xs hx
    have h : i < l.length := by omega
    have hr := hv _ (List.getElem_mem h)
    have e := rdT_mem l i h
    obtain ⟨p, hp⟩ := Int.eq_ofNat_of_zero_le (show 0 ≤ l[i].f0 by omega)
    obtain ⟨m, hm⟩ := Int.eq_ofNat_of_zero_le (show 0 ≤ l[i].f1 + 1 - l[i].f0 by omega)
    rw [List.drop_eq_getElem_cons h, marksL, hm, hp, Int.toNat_natCast, Int.toNat_natCast]
    obtain ⟨a, b⟩ := ih (i + 1) (by omega) (fill xs p m) (fill_set _ _ _ hx (by omega))
    obtain ⟨a, b⟩ := marksS_l1 l hn i l[i].f0 l[i].f1 hr.2.2 h m p (by omega) (by omega) xs hx a b
    rw [hp] at a b
    refine ⟨Ev_step (fun k => ?_) a, Ev_step (fun k => ?_) b⟩
    · rw [impl_setOf.l0, if_pos (by omega), if_pos (by omega), if_pos (by omega), e, hp]
    · rw [spec_ixMarks.l0, if_pos (by omega), if_pos (by omega), if_pos (by omega), e, hp]
theorem marks_sem (l : List RG) (hn : l.length ≤ 1048576) (hv : Valid l) : ∃ xs, Ev (fun k => impl_setOf.f k l) xs ∧ Ev (fun k => spec_ixMarks.f k l) (xs ++ [false]) ∧ Set1 xs ∧ ∀ q : Nat, xs.getD q false = has l (q : Int) := by
  obtain ⟨a, b⟩ := marksS_l0 l hn hv l.length 0 (by omega) _ Set1.empty
  rw [List.drop_zero] at a b
  refine ⟨_, Ev.congr (fun k => ?_) a, Ev.congr (fun k => ?_) b, marksL_set hv Set1.empty, fun q => ?_⟩
  · rw [impl_setOf.f, if_pos (by omega)]
    rfl
  · rw [spec_ixMarks.f, if_pos (by omega), show List.replicate 2002 false = List.replicate 2001 false ++ [false] from List.replicate_succ']
    rfl
  · rw [marksL_at hv Set1.empty, rep_none, Bool.false_or]
theorem good_valid {l : List RG} (h : GoodF 1 l) : Valid l := fun x hx => good_mem h x hx
end Go.Proofs.YtppbpefehpbejaaGreatDoor.P
end

section
namespace Go.Proofs.YtppbpefehpbejaaGreatDoor.P
open Go.RowKit Go.Proofs.YtppbpefehpbejaaGreatDoorW.PrintWords Go.Proofs.YtppbpefehpbejaaGreatDoorW.PrintLast Go.Proofs.YtppbpefehpbejaaGreatDoorW.PrintMore Go.Proofs.YtppbpefehpbejaaGreatDoor.Base Go.Proofs.YtppbpefehpbejaaGreatDoor.Runs
set_option linter.unusedVariables false

theorem Set1.putw {xs : List Bool} (h : Set1 xs) (p : Nat) (b : Bool) (hb : p = 0 → b = false) : Set1 (xs.set p b) := by
  rcases Nat.eq_zero_or_pos p with e | e
  · subst e
    refine ⟨by rw [List.length_set]; exact h.len, ?_⟩
    rw [getD_set_self _ _ _ (by rw [h.len]; omega)]
    exact hb rfl
  · exact h.put e b
def StepOK (kind : Int) (op : Bool → Bool → Bool) : Prop := ∀ (k : Nat) (X Y : List Bool) (p : Nat), X.length = 2002 → Y.length = 2002 → p < 2002 →
  spec_ixBoth.l0 (k + 1) kind X Y 2002 (p : Int) = spec_ixBoth.l0 k kind (X.set p (op (X.getD p false) (Y.getD p false))) Y 2002 ((p + 1 : Nat) : Int)
theorem step_or : StepOK 0 (fun a b => a || b) := by
  intro k X Y p hX hY hp
  rw [spec_ixBoth.l0, if_pos (by omega), if_pos rfl, if_pos (by omega), if_pos (by omega), rdOf_nat, nextI p (by omega), Int.toNat_natCast]
  cases X.getD p false with
  | true => rw [if_pos rfl]; rfl
  | false => rw [if_neg (by decide), if_pos (by omega), rdOf_nat]; rfl
theorem step_and : StepOK 1 (fun a b => a && b) := by
  intro k X Y p hX hY hp
  rw [spec_ixBoth.l0, if_pos (by omega), if_neg (by decide), if_pos rfl, if_pos (by omega), if_pos (by omega), rdOf_nat, nextI p (by omega), Int.toNat_natCast]
  cases X.getD p false with
  | true => rw [if_pos rfl, if_pos (by omega), rdOf_nat]; rfl
  | false => rw [if_neg (by decide)]; rfl
theorem step_not : StepOK 2 (fun a b => a && !b) := by
  intro k X Y p hX hY hp
  rw [spec_ixBoth.l0, if_pos (by omega), if_neg (by decide), if_neg (by decide), if_pos (by omega), if_pos (by omega), rdOf_nat, nextI p (by omega), Int.toNat_natCast]
  cases X.getD p false with
  | true => rw [if_pos rfl, if_pos (by omega), rdOf_nat]; rfl
  | false => rw [if_neg (by decide)]; rfl
theorem more1S (ys : List Bool) (hy : Set1 ys) : (ys ++ [false]).length = 2002 := by rw [List.length_append, hy.len]; rfl
theorem bothS_l0 (kind : Int) (op : Bool → Bool → Bool) (hs : StepOK kind op) (h0 : op false false = false) (ys : List Bool) (hy : Set1 ys) : ∀ n p : Nat, p + n = 2001 → ∀ xs, Set1 xs →
    ∃ r : List RG, Ev (fun k => impl_combined.l0 op k xs ys (p : Int)) (few r) ∧ Ev (fun k => spec_ixBoth.l0 k kind (xs ++ [false]) (ys ++ [false]) 2002 (p : Int)) (few r) ∧ GoodF 1 r ∧ ∀ q : Nat, q ≤ 2000 → has r (q : Int) = if p ≤ q then op (xs.getD q false) (ys.getD q false) else xs.getD q false := by
  have hyl := hy.len
  intro n
  induction n with
  | zero =>
    intro p hp xs hx
    obtain rfl : p = 2001 := by omega
    obtain ⟨r, hg, hq, a, b⟩ := ranges_sem xs hx 1 (by omega)
    refine ⟨r, ?_, ?_, hg, fun q h => by rw [if_neg (by omega)]; exact hq q h⟩
    · refine Ev_step (fun k => by rw [impl_combined.l0, if_neg (by omega)]) ?_
      exact Ev_bind a (Ev.now _)
    · refine Ev_step (fun k => hs k _ _ 2001 (more1S xs hx) (more1S ys hy) (by omega)) ?_
      have e1 : (xs ++ [false]).getD 2001 false = false := by
        rw [List.getD_eq_getElem?_getD, List.getElem?_append_right (by rw [hx.len]; omega), hx.len]; rfl
      have e2 : (ys ++ [false]).getD 2001 false = false := by
        rw [List.getD_eq_getElem?_getD, List.getElem?_append_right (by rw [hy.len]; omega), hy.len]; rfl
      have e3 : (xs ++ [false]).set 2001 false = xs ++ [false] := by
        rw [List.set_append_right _ _ (by rw [hx.len]; omega), hx.len]; rfl
      rw [e1, e2, h0, e3]
      refine Ev_step (fun k => by rw [spec_ixBoth.l0, if_neg (by omega)]) ?_
      exact Ev_bind b (Ev.now _)
  | succ n ih =>
    intro p hp xs hx
    have hxl := hx.len
    have hv : p = 0 → op (xs.getD p false) (ys.getD p false) = false := by
      intro e
      subst e
      rw [hx.none, hy.none, h0]
    obtain ⟨r, a, b, c, d⟩ := ih (p + 1) (by omega) (xs.set p (op (xs.getD p false) (ys.getD p false))) (hx.putw p _ hv)
    refine ⟨r, ?_, ?_, c, fun q hq => ?_⟩
    · refine Ev_step (fun k => ?_) a
      rw [impl_combined.l0, if_pos (by omega), if_pos (by omega), if_pos (by omega), if_pos (by omega), rdOf_nat, rdOf_nat]
      simp only [Option.bind_some]
      rw [nextI p (by omega), Int.toNat_natCast]
    · refine Ev_step (fun k => hs k _ _ p (more1S xs hx) (more1S ys hy) (by omega)) ?_
      rw [getD_more _ _ _ (by omega), getD_more _ _ _ (by omega), set_more _ _ _ _ (by omega)]
      exact b
    · rw [d q hq]
      by_cases h : q = p
      · subst h
        rw [if_neg (by omega), if_pos (Nat.le_refl _), getD_set_self _ _ _ (by omega)]
      · rw [getD_set_far _ _ _ _ (fun e => h e.symm)]
        by_cases h2 : p ≤ q
        · rw [if_pos (by omega), if_pos h2]
        · rw [if_neg (by omega), if_neg h2]
theorem bothS_no (kind : Int) (op : Bool → Bool → Bool) (l m : List RG) (hl : l.length ≤ 1048576) (hm : m.length ≤ 1048576) (h : (areB l && areB m) = false) :
    Ev (fun k => spec_ixBoth.f k l m kind) ([], false) ∧ Ev (fun k => impl_combined.f op k l m) ([], false) := by
  obtain ⟨h1, h2⟩ := areR_ev l hl
  obtain ⟨h1', h2'⟩ := areR_ev m hm
  simp only [spec_ixBoth.f, impl_combined.f]
  have no : Ev (fun k => spec_ixBoth.j0 k l m kind true) ([], false) ∧ Ev (fun k => impl_combined.j0 op k l m true) ([], false) := by
    constructor
    · refine Ev_step (fun k => by rw [spec_ixBoth.j0]) ?_
      exact Ev_pos rfl (Ev.now _)
    · refine Ev_step (fun k => by rw [impl_combined.j0]) ?_
      exact Ev_pos rfl (Ev.now _)
  cases ha : areB l with
  | false =>
    rw [ha] at h1 h2
    exact ⟨Ev_bind h1 (Ev_neg Bool.false_ne_true no.1), Ev_bind h2 (Ev_neg Bool.false_ne_true no.2)⟩
  | true =>
    rw [ha, Bool.true_and] at h
    rw [ha] at h1 h2
    rw [h] at h1' h2'
    exact ⟨Ev_bind h1 (Ev_pos rfl (Ev_bind h1' no.1)), Ev_bind h2 (Ev_pos rfl (Ev_bind h2' no.2))⟩
theorem bothS_yes (kind : Int) (op : Bool → Bool → Bool) (hs : StepOK kind op) (h0 : op false false = false) (l m : List RG) (hl : areB l = true) (hm : areB m = true) :
    ∃ r : List RG, GoodF 1 r ∧ (∀ p, has r p = op (has l p) (has m p)) ∧ Ev (fun k => spec_ixBoth.f k l m kind) (few r) ∧ Ev (fun k => impl_combined.f op k l m) (few r) := by
  obtain ⟨gl, nl⟩ := areB_iff.1 hl
  obtain ⟨gm, nm⟩ := areB_iff.1 hm
  obtain ⟨h1, h2⟩ := areR_ev l (by omega)
  obtain ⟨h1', h2'⟩ := areR_ev m (by omega)
  rw [hl] at h1 h2
  rw [hm] at h1' h2'
  obtain ⟨xs, a, b, hx, mx⟩ := marks_sem l (by omega) (good_valid gl)
  obtain ⟨ys, a', b', hy, my⟩ := marks_sem m (by omega) (good_valid gm)
  obtain ⟨r, c, d, hg, e⟩ := bothS_l0 kind op hs h0 ys hy 2001 0 (by omega) xs hx
  refine ⟨r, hg, fun p => ?_, ?_, ?_⟩
  · by_cases h : p < 1
    · rw [has_below hg h, has_below gl h, has_below gm h, h0]
    · by_cases h' : 2000 < p
      · rw [has_above hg h', has_above gl h', has_above gm h', h0]
      · obtain ⟨q, rfl⟩ := Int.eq_ofNat_of_zero_le (show 0 ≤ p by omega)
        rw [e q (by omega), if_pos (Nat.zero_le _), mx, my]
  · simp only [spec_ixBoth.f]
    refine Ev_bind h1 (Ev_pos rfl (Ev_bind h1' ?_))
    refine Ev_step (fun k => by rw [spec_ixBoth.j0]) ?_
    refine Ev_neg Bool.false_ne_true (Ev_bind b (Ev_bind b' ?_))
    refine Ev.congr (fun k => ?_) d
    rw [more1S xs hx]
    rfl
  · simp only [impl_combined.f]
    refine Ev_bind h2 (Ev_pos rfl (Ev_bind h2' ?_))
    refine Ev_step (fun k => by rw [impl_combined.j0]) ?_
    exact Ev_neg Bool.false_ne_true (Ev_bind a (Ev_bind a' c))
end Go.Proofs.YtppbpefehpbejaaGreatDoor.P
end

section
namespace Go.Proofs.YtppbpefehpbejaaGreatDoor.P
open Go.RowKit Go.Proofs.YtppbpefehpbejaaGreatDoorW.PrintWords Go.Proofs.YtppbpefehpbejaaGreatDoorW.PrintLast Go.Proofs.YtppbpefehpbejaaGreatDoorW.PrintMore Go.Proofs.YtppbpefehpbejaaGreatDoor.Base Go.Proofs.YtppbpefehpbejaaGreatDoor.Runs
set_option linter.unusedVariables false

theorem mergeS_good (l : List S69) (hn : l.length ≤ 1048576) (r : List S69 × Bool) (hend : Ev (fun k => (spec_ixMarks.f k l).bind fun t => (spec_ixOf.f k t).bind fun bt => (some (bt.1, bt.2))) r) (hr : ∀ i : Nat, i < l.length → rangeB (rd_T69 l (i : Int)).f0 (rd_T69 l (i : Int)).f1 = true) :
    ∀ n i : Nat, i + n = l.length → Ev (fun k => spec_MergeRanges.l0 k l l (l.length : Int) (i : Int)) r := by
  intro n
  induction n with
  | zero =>
    intro i hi
    refine Ev_step (fun k => ?_) hend
    rw [spec_MergeRanges.l0, if_neg (by omega)]
  | succ n ih =>
    intro i hi
    refine Ev_step (fun k => ?_) (ih (i + 1) (by omega))
    rw [spec_MergeRanges.l0, if_pos (by omega), if_pos (by omega), if_pos (by omega), ixRange_eq, hr i (by omega), nextI i (by omega)]
    rfl
theorem mergeS_bad (l : List S69) (hn : l.length ≤ 1048576) : ∀ n i : Nat, i + n = l.length → (∃ j, i ≤ j ∧ j < l.length ∧ rangeB (rd_T69 l (j : Int)).f0 (rd_T69 l (j : Int)).f1 = false) → Ev (fun k => spec_MergeRanges.l0 k l l (l.length : Int) (i : Int)) ([], false) := by
  intro n
  induction n with
  | zero =>
    rintro i hi ⟨j, h1, h2, _⟩
    omega
  | succ n ih =>
    rintro i hi ⟨j, h1, h2, h3⟩
    cases hb : rangeB (rd_T69 l (i : Int)).f0 (rd_T69 l (i : Int)).f1 with
    | true =>
      have hne : j ≠ i := by
        intro e
        subst e
        rw [hb] at h3
        cases h3
      refine Ev_step (fun k => ?_) (ih (i + 1) (by omega) ⟨j, by omega, h2, h3⟩)
      rw [spec_MergeRanges.l0, if_pos (by omega), if_pos (by omega), if_pos (by omega), ixRange_eq, hb, nextI i (by omega)]
      rfl
    | false =>
      refine Ev_step (fun k => ?_) (Ev.now _)
      rw [spec_MergeRanges.l0, if_pos (by omega), if_pos (by omega), if_pos (by omega), ixRange_eq, hb]
      rfl
theorem isR_eq (x : S69) : isR x = rangeB x.f0 x.f1 := by unfold isR; rw [isRange_eq]; rfl
theorem rd_mem (l : List S69) (i : Nat) (h : i < l.length) : rd_T69 l (i : Int) = l[i] := by unfold rd_T69; rw [Int.toNat_natCast, getD_at l _ h]
theorem merge_sem (l : List RG) (hn : l.length ≤ 1048576) : ∃ r : List RG × Bool, Ev (fun k => spec_MergeRanges.f k l) r ∧ Ev (fun k => impl_MergeRanges.f k l) r ∧ (r = ([], false) ∨ ∃ m, GoodF 1 m ∧ (∀ p, 1 ≤ p → p ≤ 2000 → has m p = has l p) ∧ r = few m) := by
  simp only [spec_MergeRanges.f, impl_MergeRanges.f]
  by_cases h1 : 100 < l.length
  · exact ⟨([], false), Ev_pos (by omega) (Ev.now _), Ev_pos h1 (Ev.now _), Or.inl rfl⟩
  · have hall : l.all (fun x => (impl_isRange.f x.f0 x.f1).isSome) = true := by
      rw [List.all_eq_true]
      intro x _
      rw [isRange_eq]
      rfl
    cases hb : l.any (fun x => !isR x) with
    | true =>
      refine ⟨([], false), Ev_neg (by omega) ?_, Ev_neg h1 (Ev_pos hall (Ev_pos rfl (Ev.now _))), Or.inl rfl⟩
      refine mergeS_bad l hn l.length 0 (by omega) ?_
      obtain ⟨x, hx, hx'⟩ := List.any_eq_true.1 hb
      obtain ⟨j, hj, rfl⟩ := List.mem_iff_getElem.1 hx
      refine ⟨j, Nat.zero_le _, hj, ?_⟩
      rw [rd_mem l j hj, ← isR_eq]
      simpa using hx'
    | false =>
      have hr : ∀ i : Nat, i < l.length → rangeB (rd_T69 l (i : Int)).f0 (rd_T69 l (i : Int)).f1 = true := by
        intro i hi
        have := List.any_eq_false.1 hb l[i] (List.getElem_mem hi)
        rw [rd_mem l i hi, ← isR_eq]
        simpa using this
      have hv : Valid l := fun x hx => by
        obtain ⟨i, hi, rfl⟩ := List.mem_iff_getElem.1 hx
        have := hr i hi
        rw [rd_mem l i hi] at this
        exact of_decide_eq_true this
      obtain ⟨xs, a, b, hx, mx⟩ := marks_sem l hn hv
      obtain ⟨m, hg, hq, c, d⟩ := ranges_sem xs hx 1 (by omega)
      refine ⟨few m, Ev_neg (by omega) (mergeS_good l hn (few m) (Ev_bind b (Ev_bind d (Ev.now _))) hr l.length 0 (by omega)), Ev_neg h1 (Ev_pos hall (Ev_neg Bool.false_ne_true (Ev_bind a c))), Or.inr ⟨m, hg, fun p h1 h2 => ?_, rfl⟩⟩
      obtain ⟨q, rfl⟩ := Int.eq_ofNat_of_zero_le (show 0 ≤ p by omega)
      rw [hq q (by omega), mx]
end Go.Proofs.YtppbpefehpbejaaGreatDoor.P
end

section
namespace Go.Proofs.YtppbpefehpbejaaGreatDoor.P
open Go.RowKit Go.Proofs.YtppbpefehpbejaaGreatDoorW.PrintWords Go.Proofs.YtppbpefehpbejaaGreatDoorW.PrintLast Go.Proofs.YtppbpefehpbejaaGreatDoorW.PrintMore Go.Proofs.YtppbpefehpbejaaGreatDoor.Base
set_option linter.unusedVariables false

def num (n : Nat) : ByteArray := ⟨(Lib.decDigits n).toArray⟩
theorem num_data (n : Nat) : (num n).data.toList = Lib.decDigits n := rfl
theorem mk_app (a b : List UInt8) : (⟨a.toArray⟩ : ByteArray) ++ (⟨b.toArray⟩ : ByteArray) = ⟨(a ++ b).toArray⟩ := by
  apply ByteArray.ext
  rw [ByteArray.data_append]
  simp
theorem mk_data (a : ByteArray) : (⟨a.data.toList.toArray⟩ : ByteArray) = a := by
  apply ByteArray.ext
  simp
theorem ten (a : Nat) (h : a < 10) : a = 0 ∨ a = 1 ∨ a = 2 ∨ a = 3 ∨ a = 4 ∨ a = 5 ∨ a = 6 ∨ a = 7 ∨ a = 8 ∨ a = 9 := by omega
theorem digitP (a : Nat) (h : a < 10) : strOfNums [wrap64 (48 + (a : Int)) % 256] = (⟨[UInt8.ofNat (48 + a)].toArray⟩ : ByteArray) := by
  rw [w64 (by omega) (by omega)]
  rcases ten a h with rfl | rfl | rfl | rfl | rfl | rfl | rfl | rfl | rfl | rfl <;> rfl
theorem num_small (a : Nat) (h : a < 10) : num a = ⟨[UInt8.ofNat (48 + a)].toArray⟩ := by unfold num; rw [Lib.decDigits_one h]
theorem num_big (a : Nat) (h : ¬ a < 10) : num a = num (a / 10) ++ (⟨[UInt8.ofNat (48 + a % 10)].toArray⟩ : ByteArray) := by
  unfold num
  rw [mk_app, Lib.decDigits, dif_neg h]
theorem num_size1 (a : Nat) (h : a < 10) : (num a).size = 1 := by rw [num_small a h]; rfl
theorem num_size : ∀ (n a : Nat), a < 10 ^ (n + 1) → (num a).size ≤ n + 1 := by
  intro n
  induction n with
  | zero => intro a h; rw [num_size1 a (by omega)]; omega
  | succ n ih =>
    intro a h
    by_cases h1 : a < 10
    · rw [num_size1 a h1]; omega
    · rw [num_big a h1, ByteArray.size_append]
      have := ih (a / 10) (by rw [Nat.pow_succ] at h; omega)
      have e : (⟨[UInt8.ofNat (48 + a % 10)].toArray⟩ : ByteArray).size = 1 := rfl
      omega
theorem num_ev (n : Nat) : ∀ (a : Nat), a < 10 ^ (n + 1) → a ≤ 1000000 → Ev (fun k => spec_l1Num.f k (a : Int)) (num a) := by
  induction n with
  | zero =>
    intro a h h2
    refine Ev_step (fun k => by rw [spec_l1Num.f, if_pos (by omega), digitP a (by omega), ← num_small a (by omega)]) (Ev.now _)
  | succ n ih =>
    intro a h h2
    by_cases h1 : a < 10
    · exact Ev_step (fun k => by rw [spec_l1Num.f, if_pos (by omega), digitP a (by omega), ← num_small a (by omega)]) (Ev.now _)
    · have e1 : wrap64 (Int.tdiv (a : Int) 10) = ((a / 10 : Nat) : Int) := by
        have : Int.tdiv (a : Int) 10 = ((a / 10 : Nat) : Int) := rfl
        rw [this, w64 (by omega) (by omega)]
      have e2 : Int.tmod (a : Int) 10 = ((a % 10 : Nat) : Int) := rfl
      refine Ev_step (fun k => by rw [spec_l1Num.f, if_neg (by omega), e1, e2]) ?_
      refine Ev_bind (ih (a / 10) (by rw [Nat.pow_succ] at h; omega) (by omega)) ?_
      refine Ev_some rfl ?_
      rw [digitP (a % 10) (by omega)]
      have := num_size 6 (a / 10) (by omega)
      have e : (⟨[UInt8.ofNat (48 + a % 10)].toArray⟩ : ByteArray).size = 1 := rfl
      refine Ev_pos (by omega) ?_
      rw [← num_big a h1]
      exact Ev.now _
theorem itoaP (a : Nat) (h : a ≤ 1000000) : itoa.f (a : Int) = some (num a) := by
  unfold itoa.f
  rw [if_pos (by omega)]
  unfold Lib.itoa
  rw [if_neg (by omega)]
  rfl
theorem app_data (a b : ByteArray) : (a ++ b).data.toList = a.data.toList ++ b.data.toList := by
  rw [ByteArray.data_append]
  simp
theorem size_list (a : ByteArray) : a.data.toList.length = a.size := by rw [Array.length_toList]; rfl
def J (l : List ByteArray) : ByteArray := ⟨(joinB l (⟨#[44]⟩ : ByteArray)).toArray⟩
theorem J_one (y : ByteArray) : J [y] = y := by
  unfold J joinB
  rw [List.map_cons, List.map_nil, Lib.join_one, mk_data]
theorem J_snoc (x : ByteArray) (l : List ByteArray) (y : ByteArray) : J ((x :: l) ++ [y]) = (J (x :: l) ++ (⟨#[44]⟩ : ByteArray)) ++ y := by
  apply ByteArray.ext
  apply Array.toList_inj.1
  rw [app_data, app_data]
  unfold J joinB
  simp only [List.cons_append, List.map_cons, List.map_append, List.map_nil, Lib.join_cons, Lib.joinTail, List.flatten_append, List.flatten_cons, List.flatten_nil, List.append_nil, List.append_assoc]
end Go.Proofs.YtppbpefehpbejaaGreatDoor.P
end
