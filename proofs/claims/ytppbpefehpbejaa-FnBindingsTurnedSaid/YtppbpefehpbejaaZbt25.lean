/- Lean functions with the answers of the program's Go functions, and for each the proof that the Go code comes to these answers; no condition. -/
import Derived.Test.YtppbpefehpbejaaZbt24
import Derived.Test.YtppbpefehpbejaaZbt21
import Derived.Test.YtppbpefehpbejaaZbt22
import Derived.Test.YtppbpefehpbejaaZbt23
import Derived.Laws.BitsLemmas
import Derived.OpenShut
section
namespace Go.Proofs.Ytppbpefehpbejaa.P
open Go.RowKit Go.Proofs.YtppbpefehpbejaaW.PrintWords Go.Proofs.YtppbpefehpbejaaW.PrintLast Go.Proofs.YtppbpefehpbejaaW.PrintMore
attribute [local go_sem] max2_int min2_int max_two min_two max_three min_three max_four min_four   -- for this text's walks alone
set_option linter.unusedVariables false
set_option linter.unusedSimpArgs false

set_option maxHeartbeats 8000000 in
set_option maxRecDepth 100000 in
theorem laws_FnBindingsTurned.calls (k : Nat) (A0 : Option Addr) (c0 : Nat) (l0 : List Int) (A1 : Option Addr) (c1 : Nat) (l1 : List Int) (r : Bool) (w : World) (hr0 : Kd.C (Kd.int .u8) w A0 l0.length l0) (hc0 : l0.length ≤ c0) (hr1 : Kd.C (Kd.int .u8) w A1 l1.length l1) (hc1 : l1.length ≤ c1) (h : laws_FnBindingsTurned.f k l0 l1 = some r) (hrT : r = true) :
  Calls Try.prog 4 #[.slice A0 l0.length c0, .slice A1 l1.length c1] w fun e w' => e = .returned (.bool r) ∧ Below w.heap.size w w' := by
 have HR0 := Az_ hr0
 have HC0 := Az_ hc0
 clear hr0 hc0
 have HR1 := Az_ hr1
 have HC1 := Az_ hc1
 clear hr1 hc1
 have HB := Az_ (Below.refl w.heap.size w)
 have H : ((laws_big.f l0 l1).bind fun t461 => (if t461 = true then (some true) else ((spec_DrawFirstTurns.f k l0).bind fun t462 => ((impl_FirstTurns.f k t462).bind fun bt465 => ((spec_FirstTurns.f k t462).bind fun bt469 => ((impl_FewestTurns.f k t462).bind fun bt473 => ((spec_FewestTurns.f k t462).bind fun bt475 => ((impl_BreaksOf.f k t462).bind fun bt477 => ((spec_BreaksOf.f k t462).bind fun bt479 => ((impl_FewestCuts.f k t462).bind fun bt481 => ((spec_FewestCuts.f k t462).bind fun bt483 => ((impl_RankOfBinding.f k t462).bind fun bt485 => ((spec_RankOfBinding.f k t462).bind fun bt487 => (if (bt465.2 != bt469.2) = true then (j0 k l1 t462 bt465.1 bt465.2 bt473.1 bt477.1 bt477.2 bt481.1 bt485.1 true) else ((laws_fRows.f k bt465.1 bt469.1).bind fun t489 => (if t489 = true then (if (bt473.2 != bt475.2) = true then (j0 k l1 t462 bt465.1 bt465.2 bt473.1 bt477.1 bt477.2 bt481.1 bt485.1 true) else (if bt473.1 = bt475.1 then (if (bt477.2 != bt479.2) = true then (j0 k l1 t462 bt465.1 bt465.2 bt473.1 bt477.1 bt477.2 bt481.1 bt485.1 true) else (if bt477.1 = bt479.1 then (if (bt481.2 != bt483.2) = true then (j0 k l1 t462 bt465.1 bt465.2 bt473.1 bt477.1 bt477.2 bt481.1 bt485.1 true) else (if bt481.1 = bt483.1 then (if (bt485.2 != bt487.2) = true then (j0 k l1 t462 bt465.1 bt465.2 bt473.1 bt477.1 bt477.2 bt481.1 bt485.1 true) else (if bt485.1 = bt487.1 then (if (bt473.2 != bt465.2) = true then (j0 k l1 t462 bt465.1 bt465.2 bt473.1 bt477.1 bt477.2 bt481.1 bt485.1 true) else ((impl_IsBinding.f k t462).bind fun t490 => (if (bt477.2 != t490) = true then (j0 k l1 t462 bt465.1 bt465.2 bt473.1 bt477.1 bt477.2 bt481.1 bt485.1 true) else ((impl_IsBinding.f k t462).bind fun t491 => ((spec_IsBinding.f k t462).bind fun t492 => (if (t491 != t492) = true then (j0 k l1 t462 bt465.1 bt465.2 bt473.1 bt477.1 bt477.2 bt481.1 bt485.1 true) else (if (bt481.2 != bt477.2) = true then (j0 k l1 t462 bt465.1 bt465.2 bt473.1 bt477.1 bt477.2 bt481.1 bt485.1 true) else (if (bt485.2 != bt477.2) = true then (j0 k l1 t462 bt465.1 bt465.2 bt473.1 bt477.1 bt477.2 bt481.1 bt485.1 true) else (if bt465.2 = true then (if bt477.2 = true then (j0 k l1 t462 bt465.1 bt465.2 bt473.1 bt477.1 bt477.2 bt481.1 bt485.1 (bt465.2 != (decide ((t462.length : Int) ≤ 5)))) else (j0 k l1 t462 bt465.1 bt465.2 bt473.1 bt477.1 bt477.2 bt481.1 bt485.1 true)) else (if bt477.2 = true then (j0 k l1 t462 bt465.1 bt465.2 bt473.1 bt477.1 bt477.2 bt481.1 bt485.1 (bt465.2 != (decide ((t462.length : Int) ≤ 5)))) else (j0 k l1 t462 bt465.1 bt465.2 bt473.1 bt477.1 bt477.2 bt481.1 bt485.1 (bt465.2 != false)))))))))))) else (j0 k l1 t462 bt465.1 bt465.2 bt473.1 bt477.1 bt477.2 bt481.1 bt485.1 true))) else (j0 k l1 t462 bt465.1 bt465.2 bt473.1 bt477.1 bt477.2 bt481.1 bt485.1 true))) else (j0 k l1 t462 bt465.1 bt465.2 bt473.1 bt477.1 bt477.2 bt481.1 bt485.1 true))) else (j0 k l1 t462 bt465.1 bt465.2 bt473.1 bt477.1 bt477.2 bt481.1 bt485.1 true))) else (j0 k l1 t462 bt465.1 bt465.2 bt473.1 bt477.1 bt477.2 bt481.1 bt485.1 true))))))))))))))))) = some r := h
 clear h
 replace H := Option.bind_eq_some_iff.mp H
 obtain ⟨t461, A30, H⟩ := H
 replace H : (if t461 = true then (some true) else ((spec_DrawFirstTurns.f k l0).bind fun t462 => ((impl_FirstTurns.f k t462).bind fun bt465 => ((spec_FirstTurns.f k t462).bind fun bt469 => ((impl_FewestTurns.f k t462).bind fun bt473 => ((spec_FewestTurns.f k t462).bind fun bt475 => ((impl_BreaksOf.f k t462).bind fun bt477 => ((spec_BreaksOf.f k t462).bind fun bt479 => ((impl_FewestCuts.f k t462).bind fun bt481 => ((spec_FewestCuts.f k t462).bind fun bt483 => ((impl_RankOfBinding.f k t462).bind fun bt485 => ((spec_RankOfBinding.f k t462).bind fun bt487 => (if (bt465.2 != bt469.2) = true then (j0 k l1 t462 bt465.1 bt465.2 bt473.1 bt477.1 bt477.2 bt481.1 bt485.1 true) else ((laws_fRows.f k bt465.1 bt469.1).bind fun t489 => (if t489 = true then (if (bt473.2 != bt475.2) = true then (j0 k l1 t462 bt465.1 bt465.2 bt473.1 bt477.1 bt477.2 bt481.1 bt485.1 true) else (if bt473.1 = bt475.1 then (if (bt477.2 != bt479.2) = true then (j0 k l1 t462 bt465.1 bt465.2 bt473.1 bt477.1 bt477.2 bt481.1 bt485.1 true) else (if bt477.1 = bt479.1 then (if (bt481.2 != bt483.2) = true then (j0 k l1 t462 bt465.1 bt465.2 bt473.1 bt477.1 bt477.2 bt481.1 bt485.1 true) else (if bt481.1 = bt483.1 then (if (bt485.2 != bt487.2) = true then (j0 k l1 t462 bt465.1 bt465.2 bt473.1 bt477.1 bt477.2 bt481.1 bt485.1 true) else (if bt485.1 = bt487.1 then (if (bt473.2 != bt465.2) = true then (j0 k l1 t462 bt465.1 bt465.2 bt473.1 bt477.1 bt477.2 bt481.1 bt485.1 true) else ((impl_IsBinding.f k t462).bind fun t490 => (if (bt477.2 != t490) = true then (j0 k l1 t462 bt465.1 bt465.2 bt473.1 bt477.1 bt477.2 bt481.1 bt485.1 true) else ((impl_IsBinding.f k t462).bind fun t491 => ((spec_IsBinding.f k t462).bind fun t492 => (if (t491 != t492) = true then (j0 k l1 t462 bt465.1 bt465.2 bt473.1 bt477.1 bt477.2 bt481.1 bt485.1 true) else (if (bt481.2 != bt477.2) = true then (j0 k l1 t462 bt465.1 bt465.2 bt473.1 bt477.1 bt477.2 bt481.1 bt485.1 true) else (if (bt485.2 != bt477.2) = true then (j0 k l1 t462 bt465.1 bt465.2 bt473.1 bt477.1 bt477.2 bt481.1 bt485.1 true) else (if bt465.2 = true then (if bt477.2 = true then (j0 k l1 t462 bt465.1 bt465.2 bt473.1 bt477.1 bt477.2 bt481.1 bt485.1 (bt465.2 != (decide ((t462.length : Int) ≤ 5)))) else (j0 k l1 t462 bt465.1 bt465.2 bt473.1 bt477.1 bt477.2 bt481.1 bt485.1 true)) else (if bt477.2 = true then (j0 k l1 t462 bt465.1 bt465.2 bt473.1 bt477.1 bt477.2 bt481.1 bt485.1 (bt465.2 != (decide ((t462.length : Int) ≤ 5)))) else (j0 k l1 t462 bt465.1 bt465.2 bt473.1 bt477.1 bt477.2 bt481.1 bt485.1 (bt465.2 != false)))))))))))) else (j0 k l1 t462 bt465.1 bt465.2 bt473.1 bt477.1 bt477.2 bt481.1 bt485.1 true))) else (j0 k l1 t462 bt465.1 bt465.2 bt473.1 bt477.1 bt477.2 bt481.1 bt485.1 true))) else (j0 k l1 t462 bt465.1 bt465.2 bt473.1 bt477.1 bt477.2 bt481.1 bt485.1 true))) else (j0 k l1 t462 bt465.1 bt465.2 bt473.1 bt477.1 bt477.2 bt481.1 bt485.1 true))) else (j0 k l1 t462 bt465.1 bt465.2 bt473.1 bt477.1 bt477.2 bt481.1 bt485.1 true)))))))))))))))) = some r := H
 have A3 := Az_ A30
 clear A30
 by_cases c4 : t461 = true
 ·subst c4
  have H1 : (some true) = some r := by rw [if_pos rfl] at H; exact H
  clear H
  have H := H1
  clear H1
  obtain rfl := Option.some.inj H; clear hrT
  go_enter Try.func4, Try.ntmps4
  (try simp only [List.append_eq, List.append, List.cons_append, List.nil_append])
  go_wp2_with (first | ((with_reducible refine gate_callee (f := 5) rfl ?_); refine goesL_ (some 69) rfl rfl Try.func5 (by kernel_rfl) rfl #[.slice A0 l0.length c0, .slice A1 l1.length c1] rfl maz_ ?_; (with_reducible refine (laws_big.calls _ _ l0 _ _ l1 true _ ?side1 ?side2 ?side3 ?side4 A3.out).mono ?_); (case side1 => exact ucz_ (HR0.out)); (case side2 => exact HC0.out); (case side3 => exact ucz_ (HR1.out)); (case side4 => exact HC1.out); rintro e w' ⟨rfl, ⟨nd, rfl⟩⟩; refine ⟨_, rfl, ?_⟩))
  go_ret
  exact ⟨by first | rfl | (simp [errW_none, errW_some] <;> rfl) | (simp [*, errW_none, errW_some] <;> rfl), by exact ubz_ HB.out⟩
 ·replace c4 := Bool.eq_false_iff.mpr c4
  subst c4
  have H1 : ((spec_DrawFirstTurns.f k l0).bind fun t462 => ((impl_FirstTurns.f k t462).bind fun bt465 => ((spec_FirstTurns.f k t462).bind fun bt469 => ((impl_FewestTurns.f k t462).bind fun bt473 => ((spec_FewestTurns.f k t462).bind fun bt475 => ((impl_BreaksOf.f k t462).bind fun bt477 => ((spec_BreaksOf.f k t462).bind fun bt479 => ((impl_FewestCuts.f k t462).bind fun bt481 => ((spec_FewestCuts.f k t462).bind fun bt483 => ((impl_RankOfBinding.f k t462).bind fun bt485 => ((spec_RankOfBinding.f k t462).bind fun bt487 => (if (bt465.2 != bt469.2) = true then (j0 k l1 t462 bt465.1 bt465.2 bt473.1 bt477.1 bt477.2 bt481.1 bt485.1 true) else ((laws_fRows.f k bt465.1 bt469.1).bind fun t489 => (if t489 = true then (if (bt473.2 != bt475.2) = true then (j0 k l1 t462 bt465.1 bt465.2 bt473.1 bt477.1 bt477.2 bt481.1 bt485.1 true) else (if bt473.1 = bt475.1 then (if (bt477.2 != bt479.2) = true then (j0 k l1 t462 bt465.1 bt465.2 bt473.1 bt477.1 bt477.2 bt481.1 bt485.1 true) else (if bt477.1 = bt479.1 then (if (bt481.2 != bt483.2) = true then (j0 k l1 t462 bt465.1 bt465.2 bt473.1 bt477.1 bt477.2 bt481.1 bt485.1 true) else (if bt481.1 = bt483.1 then (if (bt485.2 != bt487.2) = true then (j0 k l1 t462 bt465.1 bt465.2 bt473.1 bt477.1 bt477.2 bt481.1 bt485.1 true) else (if bt485.1 = bt487.1 then (if (bt473.2 != bt465.2) = true then (j0 k l1 t462 bt465.1 bt465.2 bt473.1 bt477.1 bt477.2 bt481.1 bt485.1 true) else ((impl_IsBinding.f k t462).bind fun t490 => (if (bt477.2 != t490) = true then (j0 k l1 t462 bt465.1 bt465.2 bt473.1 bt477.1 bt477.2 bt481.1 bt485.1 true) else ((impl_IsBinding.f k t462).bind fun t491 => ((spec_IsBinding.f k t462).bind fun t492 => (if (t491 != t492) = true then (j0 k l1 t462 bt465.1 bt465.2 bt473.1 bt477.1 bt477.2 bt481.1 bt485.1 true) else (if (bt481.2 != bt477.2) = true then (j0 k l1 t462 bt465.1 bt465.2 bt473.1 bt477.1 bt477.2 bt481.1 bt485.1 true) else (if (bt485.2 != bt477.2) = true then (j0 k l1 t462 bt465.1 bt465.2 bt473.1 bt477.1 bt477.2 bt481.1 bt485.1 true) else (if bt465.2 = true then (if bt477.2 = true then (j0 k l1 t462 bt465.1 bt465.2 bt473.1 bt477.1 bt477.2 bt481.1 bt485.1 (bt465.2 != (decide ((t462.length : Int) ≤ 5)))) else (j0 k l1 t462 bt465.1 bt465.2 bt473.1 bt477.1 bt477.2 bt481.1 bt485.1 true)) else (if bt477.2 = true then (j0 k l1 t462 bt465.1 bt465.2 bt473.1 bt477.1 bt477.2 bt481.1 bt485.1 (bt465.2 != (decide ((t462.length : Int) ≤ 5)))) else (j0 k l1 t462 bt465.1 bt465.2 bt473.1 bt477.1 bt477.2 bt481.1 bt485.1 (bt465.2 != false)))))))))))) else (j0 k l1 t462 bt465.1 bt465.2 bt473.1 bt477.1 bt477.2 bt481.1 bt485.1 true))) else (j0 k l1 t462 bt465.1 bt465.2 bt473.1 bt477.1 bt477.2 bt481.1 bt485.1 true))) else (j0 k l1 t462 bt465.1 bt465.2 bt473.1 bt477.1 bt477.2 bt481.1 bt485.1 true))) else (j0 k l1 t462 bt465.1 bt465.2 bt473.1 bt477.1 bt477.2 bt481.1 bt485.1 true))) else (j0 k l1 t462 bt465.1 bt465.2 bt473.1 bt477.1 bt477.2 bt481.1 bt485.1 true))))))))))))))) = some r := by rw [if_neg (show ¬ (false = true) by decide)] at H; exact H
  clear H
  have H := H1
  clear H1
  replace H := Option.bind_eq_some_iff.mp H
  obtain ⟨t462, A50, H⟩ := H
  replace H : ((impl_FirstTurns.f k t462).bind fun bt465 => ((spec_FirstTurns.f k t462).bind fun bt469 => ((impl_FewestTurns.f k t462).bind fun bt473 => ((spec_FewestTurns.f k t462).bind fun bt475 => ((impl_BreaksOf.f k t462).bind fun bt477 => ((spec_BreaksOf.f k t462).bind fun bt479 => ((impl_FewestCuts.f k t462).bind fun bt481 => ((spec_FewestCuts.f k t462).bind fun bt483 => ((impl_RankOfBinding.f k t462).bind fun bt485 => ((spec_RankOfBinding.f k t462).bind fun bt487 => (if (bt465.2 != bt469.2) = true then (j0 k l1 t462 bt465.1 bt465.2 bt473.1 bt477.1 bt477.2 bt481.1 bt485.1 true) else ((laws_fRows.f k bt465.1 bt469.1).bind fun t489 => (if t489 = true then (if (bt473.2 != bt475.2) = true then (j0 k l1 t462 bt465.1 bt465.2 bt473.1 bt477.1 bt477.2 bt481.1 bt485.1 true) else (if bt473.1 = bt475.1 then (if (bt477.2 != bt479.2) = true then (j0 k l1 t462 bt465.1 bt465.2 bt473.1 bt477.1 bt477.2 bt481.1 bt485.1 true) else (if bt477.1 = bt479.1 then (if (bt481.2 != bt483.2) = true then (j0 k l1 t462 bt465.1 bt465.2 bt473.1 bt477.1 bt477.2 bt481.1 bt485.1 true) else (if bt481.1 = bt483.1 then (if (bt485.2 != bt487.2) = true then (j0 k l1 t462 bt465.1 bt465.2 bt473.1 bt477.1 bt477.2 bt481.1 bt485.1 true) else (if bt485.1 = bt487.1 then (if (bt473.2 != bt465.2) = true then (j0 k l1 t462 bt465.1 bt465.2 bt473.1 bt477.1 bt477.2 bt481.1 bt485.1 true) else ((impl_IsBinding.f k t462).bind fun t490 => (if (bt477.2 != t490) = true then (j0 k l1 t462 bt465.1 bt465.2 bt473.1 bt477.1 bt477.2 bt481.1 bt485.1 true) else ((impl_IsBinding.f k t462).bind fun t491 => ((spec_IsBinding.f k t462).bind fun t492 => (if (t491 != t492) = true then (j0 k l1 t462 bt465.1 bt465.2 bt473.1 bt477.1 bt477.2 bt481.1 bt485.1 true) else (if (bt481.2 != bt477.2) = true then (j0 k l1 t462 bt465.1 bt465.2 bt473.1 bt477.1 bt477.2 bt481.1 bt485.1 true) else (if (bt485.2 != bt477.2) = true then (j0 k l1 t462 bt465.1 bt465.2 bt473.1 bt477.1 bt477.2 bt481.1 bt485.1 true) else (if bt465.2 = true then (if bt477.2 = true then (j0 k l1 t462 bt465.1 bt465.2 bt473.1 bt477.1 bt477.2 bt481.1 bt485.1 (bt465.2 != (decide ((t462.length : Int) ≤ 5)))) else (j0 k l1 t462 bt465.1 bt465.2 bt473.1 bt477.1 bt477.2 bt481.1 bt485.1 true)) else (if bt477.2 = true then (j0 k l1 t462 bt465.1 bt465.2 bt473.1 bt477.1 bt477.2 bt481.1 bt485.1 (bt465.2 != (decide ((t462.length : Int) ≤ 5)))) else (j0 k l1 t462 bt465.1 bt465.2 bt473.1 bt477.1 bt477.2 bt481.1 bt485.1 (bt465.2 != false)))))))))))) else (j0 k l1 t462 bt465.1 bt465.2 bt473.1 bt477.1 bt477.2 bt481.1 bt485.1 true))) else (j0 k l1 t462 bt465.1 bt465.2 bt473.1 bt477.1 bt477.2 bt481.1 bt485.1 true))) else (j0 k l1 t462 bt465.1 bt465.2 bt473.1 bt477.1 bt477.2 bt481.1 bt485.1 true))) else (j0 k l1 t462 bt465.1 bt465.2 bt473.1 bt477.1 bt477.2 bt481.1 bt485.1 true))) else (j0 k l1 t462 bt465.1 bt465.2 bt473.1 bt477.1 bt477.2 bt481.1 bt485.1 true)))))))))))))) = some r := H
  have A5 := Az_ A50
  clear A50
  replace H := Option.bind_eq_some_iff.mp H
  obtain ⟨⟨t465, t466⟩, A60, H⟩ := H
  replace H : ((spec_FirstTurns.f k t462).bind fun bt469 => ((impl_FewestTurns.f k t462).bind fun bt473 => ((spec_FewestTurns.f k t462).bind fun bt475 => ((impl_BreaksOf.f k t462).bind fun bt477 => ((spec_BreaksOf.f k t462).bind fun bt479 => ((impl_FewestCuts.f k t462).bind fun bt481 => ((spec_FewestCuts.f k t462).bind fun bt483 => ((impl_RankOfBinding.f k t462).bind fun bt485 => ((spec_RankOfBinding.f k t462).bind fun bt487 => (if (t466 != bt469.2) = true then (j0 k l1 t462 t465 t466 bt473.1 bt477.1 bt477.2 bt481.1 bt485.1 true) else ((laws_fRows.f k t465 bt469.1).bind fun t489 => (if t489 = true then (if (bt473.2 != bt475.2) = true then (j0 k l1 t462 t465 t466 bt473.1 bt477.1 bt477.2 bt481.1 bt485.1 true) else (if bt473.1 = bt475.1 then (if (bt477.2 != bt479.2) = true then (j0 k l1 t462 t465 t466 bt473.1 bt477.1 bt477.2 bt481.1 bt485.1 true) else (if bt477.1 = bt479.1 then (if (bt481.2 != bt483.2) = true then (j0 k l1 t462 t465 t466 bt473.1 bt477.1 bt477.2 bt481.1 bt485.1 true) else (if bt481.1 = bt483.1 then (if (bt485.2 != bt487.2) = true then (j0 k l1 t462 t465 t466 bt473.1 bt477.1 bt477.2 bt481.1 bt485.1 true) else (if bt485.1 = bt487.1 then (if (bt473.2 != t466) = true then (j0 k l1 t462 t465 t466 bt473.1 bt477.1 bt477.2 bt481.1 bt485.1 true) else ((impl_IsBinding.f k t462).bind fun t490 => (if (bt477.2 != t490) = true then (j0 k l1 t462 t465 t466 bt473.1 bt477.1 bt477.2 bt481.1 bt485.1 true) else ((impl_IsBinding.f k t462).bind fun t491 => ((spec_IsBinding.f k t462).bind fun t492 => (if (t491 != t492) = true then (j0 k l1 t462 t465 t466 bt473.1 bt477.1 bt477.2 bt481.1 bt485.1 true) else (if (bt481.2 != bt477.2) = true then (j0 k l1 t462 t465 t466 bt473.1 bt477.1 bt477.2 bt481.1 bt485.1 true) else (if (bt485.2 != bt477.2) = true then (j0 k l1 t462 t465 t466 bt473.1 bt477.1 bt477.2 bt481.1 bt485.1 true) else (if t466 = true then (if bt477.2 = true then (j0 k l1 t462 t465 t466 bt473.1 bt477.1 bt477.2 bt481.1 bt485.1 (t466 != (decide ((t462.length : Int) ≤ 5)))) else (j0 k l1 t462 t465 t466 bt473.1 bt477.1 bt477.2 bt481.1 bt485.1 true)) else (if bt477.2 = true then (j0 k l1 t462 t465 t466 bt473.1 bt477.1 bt477.2 bt481.1 bt485.1 (t466 != (decide ((t462.length : Int) ≤ 5)))) else (j0 k l1 t462 t465 t466 bt473.1 bt477.1 bt477.2 bt481.1 bt485.1 (t466 != false)))))))))))) else (j0 k l1 t462 t465 t466 bt473.1 bt477.1 bt477.2 bt481.1 bt485.1 true))) else (j0 k l1 t462 t465 t466 bt473.1 bt477.1 bt477.2 bt481.1 bt485.1 true))) else (j0 k l1 t462 t465 t466 bt473.1 bt477.1 bt477.2 bt481.1 bt485.1 true))) else (j0 k l1 t462 t465 t466 bt473.1 bt477.1 bt477.2 bt481.1 bt485.1 true))) else (j0 k l1 t462 t465 t466 bt473.1 bt477.1 bt477.2 bt481.1 bt485.1 true))))))))))))) = some r := H
  have A6 := Az_ A60
  clear A60
  replace H := Option.bind_eq_some_iff.mp H
  obtain ⟨⟨t469, t472⟩, A70, H⟩ := H
  replace H : ((impl_FewestTurns.f k t462).bind fun bt473 => ((spec_FewestTurns.f k t462).bind fun bt475 => ((impl_BreaksOf.f k t462).bind fun bt477 => ((spec_BreaksOf.f k t462).bind fun bt479 => ((impl_FewestCuts.f k t462).bind fun bt481 => ((spec_FewestCuts.f k t462).bind fun bt483 => ((impl_RankOfBinding.f k t462).bind fun bt485 => ((spec_RankOfBinding.f k t462).bind fun bt487 => (if (t466 != t472) = true then (j0 k l1 t462 t465 t466 bt473.1 bt477.1 bt477.2 bt481.1 bt485.1 true) else ((laws_fRows.f k t465 t469).bind fun t489 => (if t489 = true then (if (bt473.2 != bt475.2) = true then (j0 k l1 t462 t465 t466 bt473.1 bt477.1 bt477.2 bt481.1 bt485.1 true) else (if bt473.1 = bt475.1 then (if (bt477.2 != bt479.2) = true then (j0 k l1 t462 t465 t466 bt473.1 bt477.1 bt477.2 bt481.1 bt485.1 true) else (if bt477.1 = bt479.1 then (if (bt481.2 != bt483.2) = true then (j0 k l1 t462 t465 t466 bt473.1 bt477.1 bt477.2 bt481.1 bt485.1 true) else (if bt481.1 = bt483.1 then (if (bt485.2 != bt487.2) = true then (j0 k l1 t462 t465 t466 bt473.1 bt477.1 bt477.2 bt481.1 bt485.1 true) else (if bt485.1 = bt487.1 then (if (bt473.2 != t466) = true then (j0 k l1 t462 t465 t466 bt473.1 bt477.1 bt477.2 bt481.1 bt485.1 true) else ((impl_IsBinding.f k t462).bind fun t490 => (if (bt477.2 != t490) = true then (j0 k l1 t462 t465 t466 bt473.1 bt477.1 bt477.2 bt481.1 bt485.1 true) else ((impl_IsBinding.f k t462).bind fun t491 => ((spec_IsBinding.f k t462).bind fun t492 => (if (t491 != t492) = true then (j0 k l1 t462 t465 t466 bt473.1 bt477.1 bt477.2 bt481.1 bt485.1 true) else (if (bt481.2 != bt477.2) = true then (j0 k l1 t462 t465 t466 bt473.1 bt477.1 bt477.2 bt481.1 bt485.1 true) else (if (bt485.2 != bt477.2) = true then (j0 k l1 t462 t465 t466 bt473.1 bt477.1 bt477.2 bt481.1 bt485.1 true) else (if t466 = true then (if bt477.2 = true then (j0 k l1 t462 t465 t466 bt473.1 bt477.1 bt477.2 bt481.1 bt485.1 (t466 != (decide ((t462.length : Int) ≤ 5)))) else (j0 k l1 t462 t465 t466 bt473.1 bt477.1 bt477.2 bt481.1 bt485.1 true)) else (if bt477.2 = true then (j0 k l1 t462 t465 t466 bt473.1 bt477.1 bt477.2 bt481.1 bt485.1 (t466 != (decide ((t462.length : Int) ≤ 5)))) else (j0 k l1 t462 t465 t466 bt473.1 bt477.1 bt477.2 bt481.1 bt485.1 (t466 != false)))))))))))) else (j0 k l1 t462 t465 t466 bt473.1 bt477.1 bt477.2 bt481.1 bt485.1 true))) else (j0 k l1 t462 t465 t466 bt473.1 bt477.1 bt477.2 bt481.1 bt485.1 true))) else (j0 k l1 t462 t465 t466 bt473.1 bt477.1 bt477.2 bt481.1 bt485.1 true))) else (j0 k l1 t462 t465 t466 bt473.1 bt477.1 bt477.2 bt481.1 bt485.1 true))) else (j0 k l1 t462 t465 t466 bt473.1 bt477.1 bt477.2 bt481.1 bt485.1 true)))))))))))) = some r := H
  have A7 := Az_ A70
  clear A70
  replace H := Option.bind_eq_some_iff.mp H
  obtain ⟨⟨t473, t474⟩, A80, H⟩ := H
  replace H : ((spec_FewestTurns.f k t462).bind fun bt475 => ((impl_BreaksOf.f k t462).bind fun bt477 => ((spec_BreaksOf.f k t462).bind fun bt479 => ((impl_FewestCuts.f k t462).bind fun bt481 => ((spec_FewestCuts.f k t462).bind fun bt483 => ((impl_RankOfBinding.f k t462).bind fun bt485 => ((spec_RankOfBinding.f k t462).bind fun bt487 => (if (t466 != t472) = true then (j0 k l1 t462 t465 t466 t473 bt477.1 bt477.2 bt481.1 bt485.1 true) else ((laws_fRows.f k t465 t469).bind fun t489 => (if t489 = true then (if (t474 != bt475.2) = true then (j0 k l1 t462 t465 t466 t473 bt477.1 bt477.2 bt481.1 bt485.1 true) else (if t473 = bt475.1 then (if (bt477.2 != bt479.2) = true then (j0 k l1 t462 t465 t466 t473 bt477.1 bt477.2 bt481.1 bt485.1 true) else (if bt477.1 = bt479.1 then (if (bt481.2 != bt483.2) = true then (j0 k l1 t462 t465 t466 t473 bt477.1 bt477.2 bt481.1 bt485.1 true) else (if bt481.1 = bt483.1 then (if (bt485.2 != bt487.2) = true then (j0 k l1 t462 t465 t466 t473 bt477.1 bt477.2 bt481.1 bt485.1 true) else (if bt485.1 = bt487.1 then (if (t474 != t466) = true then (j0 k l1 t462 t465 t466 t473 bt477.1 bt477.2 bt481.1 bt485.1 true) else ((impl_IsBinding.f k t462).bind fun t490 => (if (bt477.2 != t490) = true then (j0 k l1 t462 t465 t466 t473 bt477.1 bt477.2 bt481.1 bt485.1 true) else ((impl_IsBinding.f k t462).bind fun t491 => ((spec_IsBinding.f k t462).bind fun t492 => (if (t491 != t492) = true then (j0 k l1 t462 t465 t466 t473 bt477.1 bt477.2 bt481.1 bt485.1 true) else (if (bt481.2 != bt477.2) = true then (j0 k l1 t462 t465 t466 t473 bt477.1 bt477.2 bt481.1 bt485.1 true) else (if (bt485.2 != bt477.2) = true then (j0 k l1 t462 t465 t466 t473 bt477.1 bt477.2 bt481.1 bt485.1 true) else (if t466 = true then (if bt477.2 = true then (j0 k l1 t462 t465 t466 t473 bt477.1 bt477.2 bt481.1 bt485.1 (t466 != (decide ((t462.length : Int) ≤ 5)))) else (j0 k l1 t462 t465 t466 t473 bt477.1 bt477.2 bt481.1 bt485.1 true)) else (if bt477.2 = true then (j0 k l1 t462 t465 t466 t473 bt477.1 bt477.2 bt481.1 bt485.1 (t466 != (decide ((t462.length : Int) ≤ 5)))) else (j0 k l1 t462 t465 t466 t473 bt477.1 bt477.2 bt481.1 bt485.1 (t466 != false)))))))))))) else (j0 k l1 t462 t465 t466 t473 bt477.1 bt477.2 bt481.1 bt485.1 true))) else (j0 k l1 t462 t465 t466 t473 bt477.1 bt477.2 bt481.1 bt485.1 true))) else (j0 k l1 t462 t465 t466 t473 bt477.1 bt477.2 bt481.1 bt485.1 true))) else (j0 k l1 t462 t465 t466 t473 bt477.1 bt477.2 bt481.1 bt485.1 true))) else (j0 k l1 t462 t465 t466 t473 bt477.1 bt477.2 bt481.1 bt485.1 true))))))))))) = some r := H
  have A8 := Az_ A80
  clear A80
  replace H := Option.bind_eq_some_iff.mp H
  obtain ⟨⟨t475, t476⟩, A90, H⟩ := H
  replace H : ((impl_BreaksOf.f k t462).bind fun bt477 => ((spec_BreaksOf.f k t462).bind fun bt479 => ((impl_FewestCuts.f k t462).bind fun bt481 => ((spec_FewestCuts.f k t462).bind fun bt483 => ((impl_RankOfBinding.f k t462).bind fun bt485 => ((spec_RankOfBinding.f k t462).bind fun bt487 => (if (t466 != t472) = true then (j0 k l1 t462 t465 t466 t473 bt477.1 bt477.2 bt481.1 bt485.1 true) else ((laws_fRows.f k t465 t469).bind fun t489 => (if t489 = true then (if (t474 != t476) = true then (j0 k l1 t462 t465 t466 t473 bt477.1 bt477.2 bt481.1 bt485.1 true) else (if t473 = t475 then (if (bt477.2 != bt479.2) = true then (j0 k l1 t462 t465 t466 t473 bt477.1 bt477.2 bt481.1 bt485.1 true) else (if bt477.1 = bt479.1 then (if (bt481.2 != bt483.2) = true then (j0 k l1 t462 t465 t466 t473 bt477.1 bt477.2 bt481.1 bt485.1 true) else (if bt481.1 = bt483.1 then (if (bt485.2 != bt487.2) = true then (j0 k l1 t462 t465 t466 t473 bt477.1 bt477.2 bt481.1 bt485.1 true) else (if bt485.1 = bt487.1 then (if (t474 != t466) = true then (j0 k l1 t462 t465 t466 t473 bt477.1 bt477.2 bt481.1 bt485.1 true) else ((impl_IsBinding.f k t462).bind fun t490 => (if (bt477.2 != t490) = true then (j0 k l1 t462 t465 t466 t473 bt477.1 bt477.2 bt481.1 bt485.1 true) else ((impl_IsBinding.f k t462).bind fun t491 => ((spec_IsBinding.f k t462).bind fun t492 => (if (t491 != t492) = true then (j0 k l1 t462 t465 t466 t473 bt477.1 bt477.2 bt481.1 bt485.1 true) else (if (bt481.2 != bt477.2) = true then (j0 k l1 t462 t465 t466 t473 bt477.1 bt477.2 bt481.1 bt485.1 true) else (if (bt485.2 != bt477.2) = true then (j0 k l1 t462 t465 t466 t473 bt477.1 bt477.2 bt481.1 bt485.1 true) else (if t466 = true then (if bt477.2 = true then (j0 k l1 t462 t465 t466 t473 bt477.1 bt477.2 bt481.1 bt485.1 (t466 != (decide ((t462.length : Int) ≤ 5)))) else (j0 k l1 t462 t465 t466 t473 bt477.1 bt477.2 bt481.1 bt485.1 true)) else (if bt477.2 = true then (j0 k l1 t462 t465 t466 t473 bt477.1 bt477.2 bt481.1 bt485.1 (t466 != (decide ((t462.length : Int) ≤ 5)))) else (j0 k l1 t462 t465 t466 t473 bt477.1 bt477.2 bt481.1 bt485.1 (t466 != false)))))))))))) else (j0 k l1 t462 t465 t466 t473 bt477.1 bt477.2 bt481.1 bt485.1 true))) else (j0 k l1 t462 t465 t466 t473 bt477.1 bt477.2 bt481.1 bt485.1 true))) else (j0 k l1 t462 t465 t466 t473 bt477.1 bt477.2 bt481.1 bt485.1 true))) else (j0 k l1 t462 t465 t466 t473 bt477.1 bt477.2 bt481.1 bt485.1 true))) else (j0 k l1 t462 t465 t466 t473 bt477.1 bt477.2 bt481.1 bt485.1 true)))))))))) = some r := H
  have A9 := Az_ A90
  clear A90
  replace H := Option.bind_eq_some_iff.mp H
  obtain ⟨⟨t477, t478⟩, A100, H⟩ := H
  replace H : ((spec_BreaksOf.f k t462).bind fun bt479 => ((impl_FewestCuts.f k t462).bind fun bt481 => ((spec_FewestCuts.f k t462).bind fun bt483 => ((impl_RankOfBinding.f k t462).bind fun bt485 => ((spec_RankOfBinding.f k t462).bind fun bt487 => (if (t466 != t472) = true then (j0 k l1 t462 t465 t466 t473 t477 t478 bt481.1 bt485.1 true) else ((laws_fRows.f k t465 t469).bind fun t489 => (if t489 = true then (if (t474 != t476) = true then (j0 k l1 t462 t465 t466 t473 t477 t478 bt481.1 bt485.1 true) else (if t473 = t475 then (if (t478 != bt479.2) = true then (j0 k l1 t462 t465 t466 t473 t477 t478 bt481.1 bt485.1 true) else (if t477 = bt479.1 then (if (bt481.2 != bt483.2) = true then (j0 k l1 t462 t465 t466 t473 t477 t478 bt481.1 bt485.1 true) else (if bt481.1 = bt483.1 then (if (bt485.2 != bt487.2) = true then (j0 k l1 t462 t465 t466 t473 t477 t478 bt481.1 bt485.1 true) else (if bt485.1 = bt487.1 then (if (t474 != t466) = true then (j0 k l1 t462 t465 t466 t473 t477 t478 bt481.1 bt485.1 true) else ((impl_IsBinding.f k t462).bind fun t490 => (if (t478 != t490) = true then (j0 k l1 t462 t465 t466 t473 t477 t478 bt481.1 bt485.1 true) else ((impl_IsBinding.f k t462).bind fun t491 => ((spec_IsBinding.f k t462).bind fun t492 => (if (t491 != t492) = true then (j0 k l1 t462 t465 t466 t473 t477 t478 bt481.1 bt485.1 true) else (if (bt481.2 != t478) = true then (j0 k l1 t462 t465 t466 t473 t477 t478 bt481.1 bt485.1 true) else (if (bt485.2 != t478) = true then (j0 k l1 t462 t465 t466 t473 t477 t478 bt481.1 bt485.1 true) else (if t466 = true then (if t478 = true then (j0 k l1 t462 t465 t466 t473 t477 t478 bt481.1 bt485.1 (t466 != (decide ((t462.length : Int) ≤ 5)))) else (j0 k l1 t462 t465 t466 t473 t477 t478 bt481.1 bt485.1 true)) else (if t478 = true then (j0 k l1 t462 t465 t466 t473 t477 t478 bt481.1 bt485.1 (t466 != (decide ((t462.length : Int) ≤ 5)))) else (j0 k l1 t462 t465 t466 t473 t477 t478 bt481.1 bt485.1 (t466 != false)))))))))))) else (j0 k l1 t462 t465 t466 t473 t477 t478 bt481.1 bt485.1 true))) else (j0 k l1 t462 t465 t466 t473 t477 t478 bt481.1 bt485.1 true))) else (j0 k l1 t462 t465 t466 t473 t477 t478 bt481.1 bt485.1 true))) else (j0 k l1 t462 t465 t466 t473 t477 t478 bt481.1 bt485.1 true))) else (j0 k l1 t462 t465 t466 t473 t477 t478 bt481.1 bt485.1 true))))))))) = some r := H
  have A10 := Az_ A100
  clear A100
  replace H := Option.bind_eq_some_iff.mp H
  obtain ⟨⟨t479, t480⟩, A110, H⟩ := H
  replace H : ((impl_FewestCuts.f k t462).bind fun bt481 => ((spec_FewestCuts.f k t462).bind fun bt483 => ((impl_RankOfBinding.f k t462).bind fun bt485 => ((spec_RankOfBinding.f k t462).bind fun bt487 => (if (t466 != t472) = true then (j0 k l1 t462 t465 t466 t473 t477 t478 bt481.1 bt485.1 true) else ((laws_fRows.f k t465 t469).bind fun t489 => (if t489 = true then (if (t474 != t476) = true then (j0 k l1 t462 t465 t466 t473 t477 t478 bt481.1 bt485.1 true) else (if t473 = t475 then (if (t478 != t480) = true then (j0 k l1 t462 t465 t466 t473 t477 t478 bt481.1 bt485.1 true) else (if t477 = t479 then (if (bt481.2 != bt483.2) = true then (j0 k l1 t462 t465 t466 t473 t477 t478 bt481.1 bt485.1 true) else (if bt481.1 = bt483.1 then (if (bt485.2 != bt487.2) = true then (j0 k l1 t462 t465 t466 t473 t477 t478 bt481.1 bt485.1 true) else (if bt485.1 = bt487.1 then (if (t474 != t466) = true then (j0 k l1 t462 t465 t466 t473 t477 t478 bt481.1 bt485.1 true) else ((impl_IsBinding.f k t462).bind fun t490 => (if (t478 != t490) = true then (j0 k l1 t462 t465 t466 t473 t477 t478 bt481.1 bt485.1 true) else ((impl_IsBinding.f k t462).bind fun t491 => ((spec_IsBinding.f k t462).bind fun t492 => (if (t491 != t492) = true then (j0 k l1 t462 t465 t466 t473 t477 t478 bt481.1 bt485.1 true) else (if (bt481.2 != t478) = true then (j0 k l1 t462 t465 t466 t473 t477 t478 bt481.1 bt485.1 true) else (if (bt485.2 != t478) = true then (j0 k l1 t462 t465 t466 t473 t477 t478 bt481.1 bt485.1 true) else (if t466 = true then (if t478 = true then (j0 k l1 t462 t465 t466 t473 t477 t478 bt481.1 bt485.1 (t466 != (decide ((t462.length : Int) ≤ 5)))) else (j0 k l1 t462 t465 t466 t473 t477 t478 bt481.1 bt485.1 true)) else (if t478 = true then (j0 k l1 t462 t465 t466 t473 t477 t478 bt481.1 bt485.1 (t466 != (decide ((t462.length : Int) ≤ 5)))) else (j0 k l1 t462 t465 t466 t473 t477 t478 bt481.1 bt485.1 (t466 != false)))))))))))) else (j0 k l1 t462 t465 t466 t473 t477 t478 bt481.1 bt485.1 true))) else (j0 k l1 t462 t465 t466 t473 t477 t478 bt481.1 bt485.1 true))) else (j0 k l1 t462 t465 t466 t473 t477 t478 bt481.1 bt485.1 true))) else (j0 k l1 t462 t465 t466 t473 t477 t478 bt481.1 bt485.1 true))) else (j0 k l1 t462 t465 t466 t473 t477 t478 bt481.1 bt485.1 true)))))))) = some r := H
  have A11 := Az_ A110
  clear A110
  replace H := Option.bind_eq_some_iff.mp H
  obtain ⟨⟨t481, t482⟩, A120, H⟩ := H
  replace H : ((spec_FewestCuts.f k t462).bind fun bt483 => ((impl_RankOfBinding.f k t462).bind fun bt485 => ((spec_RankOfBinding.f k t462).bind fun bt487 => (if (t466 != t472) = true then (j0 k l1 t462 t465 t466 t473 t477 t478 t481 bt485.1 true) else ((laws_fRows.f k t465 t469).bind fun t489 => (if t489 = true then (if (t474 != t476) = true then (j0 k l1 t462 t465 t466 t473 t477 t478 t481 bt485.1 true) else (if t473 = t475 then (if (t478 != t480) = true then (j0 k l1 t462 t465 t466 t473 t477 t478 t481 bt485.1 true) else (if t477 = t479 then (if (t482 != bt483.2) = true then (j0 k l1 t462 t465 t466 t473 t477 t478 t481 bt485.1 true) else (if t481 = bt483.1 then (if (bt485.2 != bt487.2) = true then (j0 k l1 t462 t465 t466 t473 t477 t478 t481 bt485.1 true) else (if bt485.1 = bt487.1 then (if (t474 != t466) = true then (j0 k l1 t462 t465 t466 t473 t477 t478 t481 bt485.1 true) else ((impl_IsBinding.f k t462).bind fun t490 => (if (t478 != t490) = true then (j0 k l1 t462 t465 t466 t473 t477 t478 t481 bt485.1 true) else ((impl_IsBinding.f k t462).bind fun t491 => ((spec_IsBinding.f k t462).bind fun t492 => (if (t491 != t492) = true then (j0 k l1 t462 t465 t466 t473 t477 t478 t481 bt485.1 true) else (if (t482 != t478) = true then (j0 k l1 t462 t465 t466 t473 t477 t478 t481 bt485.1 true) else (if (bt485.2 != t478) = true then (j0 k l1 t462 t465 t466 t473 t477 t478 t481 bt485.1 true) else (if t466 = true then (if t478 = true then (j0 k l1 t462 t465 t466 t473 t477 t478 t481 bt485.1 (t466 != (decide ((t462.length : Int) ≤ 5)))) else (j0 k l1 t462 t465 t466 t473 t477 t478 t481 bt485.1 true)) else (if t478 = true then (j0 k l1 t462 t465 t466 t473 t477 t478 t481 bt485.1 (t466 != (decide ((t462.length : Int) ≤ 5)))) else (j0 k l1 t462 t465 t466 t473 t477 t478 t481 bt485.1 (t466 != false)))))))))))) else (j0 k l1 t462 t465 t466 t473 t477 t478 t481 bt485.1 true))) else (j0 k l1 t462 t465 t466 t473 t477 t478 t481 bt485.1 true))) else (j0 k l1 t462 t465 t466 t473 t477 t478 t481 bt485.1 true))) else (j0 k l1 t462 t465 t466 t473 t477 t478 t481 bt485.1 true))) else (j0 k l1 t462 t465 t466 t473 t477 t478 t481 bt485.1 true))))))) = some r := H
  have A12 := Az_ A120
  clear A120
  replace H := Option.bind_eq_some_iff.mp H
  obtain ⟨⟨t483, t484⟩, A130, H⟩ := H
  replace H : ((impl_RankOfBinding.f k t462).bind fun bt485 => ((spec_RankOfBinding.f k t462).bind fun bt487 => (if (t466 != t472) = true then (j0 k l1 t462 t465 t466 t473 t477 t478 t481 bt485.1 true) else ((laws_fRows.f k t465 t469).bind fun t489 => (if t489 = true then (if (t474 != t476) = true then (j0 k l1 t462 t465 t466 t473 t477 t478 t481 bt485.1 true) else (if t473 = t475 then (if (t478 != t480) = true then (j0 k l1 t462 t465 t466 t473 t477 t478 t481 bt485.1 true) else (if t477 = t479 then (if (t482 != t484) = true then (j0 k l1 t462 t465 t466 t473 t477 t478 t481 bt485.1 true) else (if t481 = t483 then (if (bt485.2 != bt487.2) = true then (j0 k l1 t462 t465 t466 t473 t477 t478 t481 bt485.1 true) else (if bt485.1 = bt487.1 then (if (t474 != t466) = true then (j0 k l1 t462 t465 t466 t473 t477 t478 t481 bt485.1 true) else ((impl_IsBinding.f k t462).bind fun t490 => (if (t478 != t490) = true then (j0 k l1 t462 t465 t466 t473 t477 t478 t481 bt485.1 true) else ((impl_IsBinding.f k t462).bind fun t491 => ((spec_IsBinding.f k t462).bind fun t492 => (if (t491 != t492) = true then (j0 k l1 t462 t465 t466 t473 t477 t478 t481 bt485.1 true) else (if (t482 != t478) = true then (j0 k l1 t462 t465 t466 t473 t477 t478 t481 bt485.1 true) else (if (bt485.2 != t478) = true then (j0 k l1 t462 t465 t466 t473 t477 t478 t481 bt485.1 true) else (if t466 = true then (if t478 = true then (j0 k l1 t462 t465 t466 t473 t477 t478 t481 bt485.1 (t466 != (decide ((t462.length : Int) ≤ 5)))) else (j0 k l1 t462 t465 t466 t473 t477 t478 t481 bt485.1 true)) else (if t478 = true then (j0 k l1 t462 t465 t466 t473 t477 t478 t481 bt485.1 (t466 != (decide ((t462.length : Int) ≤ 5)))) else (j0 k l1 t462 t465 t466 t473 t477 t478 t481 bt485.1 (t466 != false)))))))))))) else (j0 k l1 t462 t465 t466 t473 t477 t478 t481 bt485.1 true))) else (j0 k l1 t462 t465 t466 t473 t477 t478 t481 bt485.1 true))) else (j0 k l1 t462 t465 t466 t473 t477 t478 t481 bt485.1 true))) else (j0 k l1 t462 t465 t466 t473 t477 t478 t481 bt485.1 true))) else (j0 k l1 t462 t465 t466 t473 t477 t478 t481 bt485.1 true)))))) = some r := H
  have A13 := Az_ A130
  clear A130
  replace H := Option.bind_eq_some_iff.mp H
  obtain ⟨⟨t485, t486⟩, A140, H⟩ := H
  replace H : ((spec_RankOfBinding.f k t462).bind fun bt487 => (if (t466 != t472) = true then (j0 k l1 t462 t465 t466 t473 t477 t478 t481 t485 true) else ((laws_fRows.f k t465 t469).bind fun t489 => (if t489 = true then (if (t474 != t476) = true then (j0 k l1 t462 t465 t466 t473 t477 t478 t481 t485 true) else (if t473 = t475 then (if (t478 != t480) = true then (j0 k l1 t462 t465 t466 t473 t477 t478 t481 t485 true) else (if t477 = t479 then (if (t482 != t484) = true then (j0 k l1 t462 t465 t466 t473 t477 t478 t481 t485 true) else (if t481 = t483 then (if (t486 != bt487.2) = true then (j0 k l1 t462 t465 t466 t473 t477 t478 t481 t485 true) else (if t485 = bt487.1 then (if (t474 != t466) = true then (j0 k l1 t462 t465 t466 t473 t477 t478 t481 t485 true) else ((impl_IsBinding.f k t462).bind fun t490 => (if (t478 != t490) = true then (j0 k l1 t462 t465 t466 t473 t477 t478 t481 t485 true) else ((impl_IsBinding.f k t462).bind fun t491 => ((spec_IsBinding.f k t462).bind fun t492 => (if (t491 != t492) = true then (j0 k l1 t462 t465 t466 t473 t477 t478 t481 t485 true) else (if (t482 != t478) = true then (j0 k l1 t462 t465 t466 t473 t477 t478 t481 t485 true) else (if (t486 != t478) = true then (j0 k l1 t462 t465 t466 t473 t477 t478 t481 t485 true) else (if t466 = true then (if t478 = true then (j0 k l1 t462 t465 t466 t473 t477 t478 t481 t485 (t466 != (decide ((t462.length : Int) ≤ 5)))) else (j0 k l1 t462 t465 t466 t473 t477 t478 t481 t485 true)) else (if t478 = true then (j0 k l1 t462 t465 t466 t473 t477 t478 t481 t485 (t466 != (decide ((t462.length : Int) ≤ 5)))) else (j0 k l1 t462 t465 t466 t473 t477 t478 t481 t485 (t466 != false)))))))))))) else (j0 k l1 t462 t465 t466 t473 t477 t478 t481 t485 true))) else (j0 k l1 t462 t465 t466 t473 t477 t478 t481 t485 true))) else (j0 k l1 t462 t465 t466 t473 t477 t478 t481 t485 true))) else (j0 k l1 t462 t465 t466 t473 t477 t478 t481 t485 true))) else (j0 k l1 t462 t465 t466 t473 t477 t478 t481 t485 true))))) = some r := H
  have A14 := Az_ A140
  clear A140
  replace H := Option.bind_eq_some_iff.mp H
  obtain ⟨⟨t487, t488⟩, A150, H⟩ := H
  replace H : (if (t466 != t472) = true then (j0 k l1 t462 t465 t466 t473 t477 t478 t481 t485 true) else ((laws_fRows.f k t465 t469).bind fun t489 => (if t489 = true then (if (t474 != t476) = true then (j0 k l1 t462 t465 t466 t473 t477 t478 t481 t485 true) else (if t473 = t475 then (if (t478 != t480) = true then (j0 k l1 t462 t465 t466 t473 t477 t478 t481 t485 true) else (if t477 = t479 then (if (t482 != t484) = true then (j0 k l1 t462 t465 t466 t473 t477 t478 t481 t485 true) else (if t481 = t483 then (if (t486 != t488) = true then (j0 k l1 t462 t465 t466 t473 t477 t478 t481 t485 true) else (if t485 = t487 then (if (t474 != t466) = true then (j0 k l1 t462 t465 t466 t473 t477 t478 t481 t485 true) else ((impl_IsBinding.f k t462).bind fun t490 => (if (t478 != t490) = true then (j0 k l1 t462 t465 t466 t473 t477 t478 t481 t485 true) else ((impl_IsBinding.f k t462).bind fun t491 => ((spec_IsBinding.f k t462).bind fun t492 => (if (t491 != t492) = true then (j0 k l1 t462 t465 t466 t473 t477 t478 t481 t485 true) else (if (t482 != t478) = true then (j0 k l1 t462 t465 t466 t473 t477 t478 t481 t485 true) else (if (t486 != t478) = true then (j0 k l1 t462 t465 t466 t473 t477 t478 t481 t485 true) else (if t466 = true then (if t478 = true then (j0 k l1 t462 t465 t466 t473 t477 t478 t481 t485 (t466 != (decide ((t462.length : Int) ≤ 5)))) else (j0 k l1 t462 t465 t466 t473 t477 t478 t481 t485 true)) else (if t478 = true then (j0 k l1 t462 t465 t466 t473 t477 t478 t481 t485 (t466 != (decide ((t462.length : Int) ≤ 5)))) else (j0 k l1 t462 t465 t466 t473 t477 t478 t481 t485 (t466 != false)))))))))))) else (j0 k l1 t462 t465 t466 t473 t477 t478 t481 t485 true))) else (j0 k l1 t462 t465 t466 t473 t477 t478 t481 t485 true))) else (j0 k l1 t462 t465 t466 t473 t477 t478 t481 t485 true))) else (j0 k l1 t462 t465 t466 t473 t477 t478 t481 t485 true))) else (j0 k l1 t462 t465 t466 t473 t477 t478 t481 t485 true)))) = some r := H
  have A15 := Az_ A150
  clear A150
  have HC16 := Az_ H
  clear H
  go_enter Try.func4, Try.ntmps4
  (try simp only [List.append_eq, List.append, List.cons_append, List.nil_append])
  go_upto_region 14 with (first | ((with_reducible refine gate_callee (f := 5) rfl ?_); refine goesL_ (some 69) rfl rfl Try.func5 (by kernel_rfl) rfl #[.slice A0 l0.length c0, .slice A1 l1.length c1] rfl maz_ ?_; (with_reducible refine (laws_big.calls _ _ l0 _ _ l1 false _ ?side1 ?side2 ?side3 ?side4 A3.out).mono ?_); (case side1 => exact ucz_ (HR0.out)); (case side2 => exact HC0.out); (case side3 => exact ucz_ (HR1.out)); (case side4 => exact HC1.out); rintro e w' ⟨rfl, ⟨nd, rfl⟩⟩; refine ⟨_, rfl, ?_⟩) | ((with_reducible refine gate_callee (f := 30) rfl ?_); refine goesL_ (some 71) rfl rfl Try.func30 (by kernel_rfl) rfl #[.slice A0 l0.length c0] rfl maz_ ?_; (with_reducible refine (spec_DrawFirstTurns.calls k _ _ l0 t462 _ ?side1 ?side2 A5.out).mono ?_); (case side1 => exact ucz_ (HR0.out)); (case side2 => exact HC0.out); rintro e w17 ⟨v463, rfl, ho0, hb⟩; refine ⟨_, rfl, ?_⟩; have n0_ := Az_ (Kd.V_lower (Kd.V_mono (ok' := fun k_ => True) ho0 (fun k_ hk_ => trivial)) (below_size (ubz_ HB.out))); have n1_ := Az_ (btz_ (ubz_ HB.out) hb); clear HB; have HO464 := n0_; have HB := n1_; clear n0_ n1_; (try clear hb); (try clear hb2); (try clear hk); (try clear hi); (try clear ho0); obtain ⟨Ao18, co18, eo18⟩ := Kd.V_slice HO464.out; subst eo18) | ((with_reducible refine gate_callee (f := 31) rfl ?_); refine goesL_ (some 74) rfl rfl Try.func31 (by kernel_rfl) rfl #[.slice Ao18 t462.length co18] rfl maz_ ?_; (with_reducible refine (impl_FirstTurns.calls k _ _ t462 t465 t466 _ ?side1 ?side2 A6.out).mono ?_); (case side1 => exact ucz_ ((Kd.V_reads' HO464.out).2.2)); (case side2 => exact (Kd.V_reads' HO464.out).2.1); rintro e w19 ⟨v467, rfl, ho0, hb⟩; refine ⟨_, rfl, ?_⟩; have n0_ := Az_ (Kd.V_elder' (by (with_reducible repeat (first | apply Kd.V_alloc | apply Kd.V_drewN | apply Kd.V_drew)); exact HO464.out) (Kd.S_base ho0) hb); have n1_ := Az_ (Kd.S_lower ho0 (below_size (ubz_ HB.out))); have n2_ := Az_ (btz_ (ubz_ HB.out) hb); clear HO464; clear HB; have HO464 := n0_; have HO468 := n1_; have HB := n2_; clear n0_ n1_ n2_; (try clear hb); (try clear hb2); (try clear hk); (try clear hi); (try clear ho0)) | ((with_reducible refine gate_callee (f := 32) rfl ?_); refine goesL_ (some 79) rfl rfl Try.func32 (by kernel_rfl) rfl #[.slice Ao18 t462.length co18] rfl maz_ ?_; (with_reducible refine (spec_FirstTurns.calls k (fun k_ => (True ∧ some k_ ≠ (v467 : Value).ownBlock)) _ _ t462 t469 t472 _ ?side1 A7.out).mono ?_); (case side1 => exact HO464.out); rintro e w20 ⟨v470, rfl, ho0, hb⟩; refine ⟨_, rfl, ?_⟩; have n0_ := Az_ (Kd.V_elder' (by (with_reducible repeat (first | apply Kd.V_alloc | apply Kd.V_drewN | apply Kd.V_drew)); exact HO464.out) (Kd.S_base ho0) hb); have n1_ := Az_ (Kd.S_elder' (by (with_reducible repeat (first | apply Kd.S_alloc | apply Kd.S_drewN | apply Kd.S_drew)); exact HO468.out) (Kd.S_base ho0) hb); have n2_ := Az_ (Kd.S_lower (Kd.S_new' (Kd.S_mono (ok' := fun k_ => True) ho0 (fun _ hk_ => trivial)) (Kd.S_lt (by (with_reducible repeat (first | apply Kd.S_alloc | apply Kd.S_drewN | apply Kd.S_drew)); exact HO468.out))) (below_size (ubz_ HB.out))); have n3_ := Az_ (btz_ (ubz_ HB.out) hb); clear HO464; clear HO468; clear HB; have HO464 := n0_; have HO468 := n1_; have HO471 := n2_; have HB := n3_; clear n0_ n1_ n2_ n3_; (try clear hb); (try clear hb2); (try clear hk); (try clear hi); (try clear ho0)) | ((with_reducible refine gate_callee (f := 33) rfl ?_); refine goesL_ (some 84) rfl rfl Try.func33 (by kernel_rfl) rfl #[.slice Ao18 t462.length co18] rfl maz_ ?_; (with_reducible refine (impl_FewestTurns.calls k _ _ t462 t473 t474 _ ?side1 ?side2 A8.out).mono ?_); (case side1 => exact ucz_ ((Kd.V_reads' HO464.out).2.2)); (case side2 => exact (Kd.V_reads' HO464.out).2.1); rintro e w21 ⟨rfl, hb⟩; refine ⟨_, rfl, ?_⟩; have n0_ := Az_ (Kd.V_below (by (with_reducible repeat (first | apply Kd.V_alloc | apply Kd.V_drewN | apply Kd.V_drew)); exact HO464.out) hb); have n1_ := Az_ (Kd.S_below (by (with_reducible repeat (first | apply Kd.S_alloc | apply Kd.S_drewN | apply Kd.S_drew)); exact HO468.out) hb); have n2_ := Az_ (Kd.S_below (by (with_reducible repeat (first | apply Kd.S_alloc | apply Kd.S_drewN | apply Kd.S_drew)); exact HO471.out) hb); have n3_ := Az_ (btz_ (ubz_ HB.out) hb); clear HO464; clear HO468; clear HO471; clear HB; have HO464 := n0_; have HO468 := n1_; have HO471 := n2_; have HB := n3_; clear n0_ n1_ n2_ n3_; (try clear hb); (try clear hb2); (try clear hk); (try clear hi)) | ((with_reducible refine gate_callee (f := 34) rfl ?_); refine goesL_ (some 89) rfl rfl Try.func34 (by kernel_rfl) rfl #[.slice Ao18 t462.length co18] rfl maz_ ?_; (with_reducible refine (spec_FewestTurns.calls k _ _ t462 t475 t476 _ ?side1 ?side2 A9.out).mono ?_); (case side1 => exact ucz_ ((Kd.V_reads' HO464.out).2.2)); (case side2 => exact (Kd.V_reads' HO464.out).2.1); rintro e w22 ⟨rfl, hb⟩; refine ⟨_, rfl, ?_⟩; have n0_ := Az_ (Kd.V_below (by (with_reducible repeat (first | apply Kd.V_alloc | apply Kd.V_drewN | apply Kd.V_drew)); exact HO464.out) hb); have n1_ := Az_ (Kd.S_below (by (with_reducible repeat (first | apply Kd.S_alloc | apply Kd.S_drewN | apply Kd.S_drew)); exact HO468.out) hb); have n2_ := Az_ (Kd.S_below (by (with_reducible repeat (first | apply Kd.S_alloc | apply Kd.S_drewN | apply Kd.S_drew)); exact HO471.out) hb); have n3_ := Az_ (btz_ (ubz_ HB.out) hb); clear HO464; clear HO468; clear HO471; clear HB; have HO464 := n0_; have HO468 := n1_; have HO471 := n2_; have HB := n3_; clear n0_ n1_ n2_ n3_; (try clear hb); (try clear hb2); (try clear hk); (try clear hi)) | ((with_reducible refine gate_callee (f := 35) rfl ?_); refine goesL_ (some 94) rfl rfl Try.func35 (by kernel_rfl) rfl #[.slice Ao18 t462.length co18] rfl maz_ ?_; (with_reducible refine (impl_BreaksOf.calls k (fun k_ => ((True ∧ some k_ ≠ (v467 : Value).ownBlock) ∧ some k_ ≠ (v470 : Value).ownBlock)) _ _ t462 t477 t478 _ ?side1 A10.out).mono ?_); (case side1 => exact HO464.out); rintro e w23 ⟨rfl, hb⟩; refine ⟨_, rfl, ?_⟩; have n0_ := Az_ (Kd.V_below (by (with_reducible repeat (first | apply Kd.V_alloc | apply Kd.V_drewN | apply Kd.V_drew)); exact HO464.out) hb); have n1_ := Az_ (Kd.S_below (by (with_reducible repeat (first | apply Kd.S_alloc | apply Kd.S_drewN | apply Kd.S_drew)); exact HO468.out) hb); have n2_ := Az_ (Kd.S_below (by (with_reducible repeat (first | apply Kd.S_alloc | apply Kd.S_drewN | apply Kd.S_drew)); exact HO471.out) hb); have n3_ := Az_ (btz_ (ubz_ HB.out) hb); clear HO464; clear HO468; clear HO471; clear HB; have HO464 := n0_; have HO468 := n1_; have HO471 := n2_; have HB := n3_; clear n0_ n1_ n2_ n3_; (try clear hb); (try clear hb2); (try clear hk); (try clear hi)) | ((with_reducible refine gate_callee (f := 36) rfl ?_); refine goesL_ (some 99) rfl rfl Try.func36 (by kernel_rfl) rfl #[.slice Ao18 t462.length co18] rfl maz_ ?_; (with_reducible refine (spec_BreaksOf.calls k _ _ t462 t479 t480 _ ?side1 ?side2 A11.out).mono ?_); (case side1 => exact ucz_ ((Kd.V_reads' HO464.out).2.2)); (case side2 => exact (Kd.V_reads' HO464.out).2.1); rintro e w24 ⟨rfl, hb⟩; refine ⟨_, rfl, ?_⟩; have n0_ := Az_ (Kd.V_below (by (with_reducible repeat (first | apply Kd.V_alloc | apply Kd.V_drewN | apply Kd.V_drew)); exact HO464.out) hb); have n1_ := Az_ (Kd.S_below (by (with_reducible repeat (first | apply Kd.S_alloc | apply Kd.S_drewN | apply Kd.S_drew)); exact HO468.out) hb); have n2_ := Az_ (Kd.S_below (by (with_reducible repeat (first | apply Kd.S_alloc | apply Kd.S_drewN | apply Kd.S_drew)); exact HO471.out) hb); have n3_ := Az_ (btz_ (ubz_ HB.out) hb); clear HO464; clear HO468; clear HO471; clear HB; have HO464 := n0_; have HO468 := n1_; have HO471 := n2_; have HB := n3_; clear n0_ n1_ n2_ n3_; (try clear hb); (try clear hb2); (try clear hk); (try clear hi)) | ((with_reducible refine gate_callee (f := 37) rfl ?_); refine goesL_ (some 104) rfl rfl Try.func37 (by kernel_rfl) rfl #[.slice Ao18 t462.length co18] rfl maz_ ?_; (with_reducible refine (impl_FewestCuts.calls k _ _ t462 t481 t482 _ ?side1 ?side2 A12.out).mono ?_); (case side1 => exact ucz_ ((Kd.V_reads' HO464.out).2.2)); (case side2 => exact (Kd.V_reads' HO464.out).2.1); rintro e w25 ⟨rfl, hb⟩; refine ⟨_, rfl, ?_⟩; have n0_ := Az_ (Kd.V_below (by (with_reducible repeat (first | apply Kd.V_alloc | apply Kd.V_drewN | apply Kd.V_drew)); exact HO464.out) hb); have n1_ := Az_ (Kd.S_below (by (with_reducible repeat (first | apply Kd.S_alloc | apply Kd.S_drewN | apply Kd.S_drew)); exact HO468.out) hb); have n2_ := Az_ (Kd.S_below (by (with_reducible repeat (first | apply Kd.S_alloc | apply Kd.S_drewN | apply Kd.S_drew)); exact HO471.out) hb); have n3_ := Az_ (btz_ (ubz_ HB.out) hb); clear HO464; clear HO468; clear HO471; clear HB; have HO464 := n0_; have HO468 := n1_; have HO471 := n2_; have HB := n3_; clear n0_ n1_ n2_ n3_; (try clear hb); (try clear hb2); (try clear hk); (try clear hi)) | ((with_reducible refine gate_callee (f := 38) rfl ?_); refine goesL_ (some 109) rfl rfl Try.func38 (by kernel_rfl) rfl #[.slice Ao18 t462.length co18] rfl maz_ ?_; (with_reducible refine (spec_FewestCuts.calls k _ _ t462 t483 t484 _ ?side1 ?side2 A13.out).mono ?_); (case side1 => exact ucz_ ((Kd.V_reads' HO464.out).2.2)); (case side2 => exact (Kd.V_reads' HO464.out).2.1); rintro e w26 ⟨rfl, hb⟩; refine ⟨_, rfl, ?_⟩; have n0_ := Az_ (Kd.V_below (by (with_reducible repeat (first | apply Kd.V_alloc | apply Kd.V_drewN | apply Kd.V_drew)); exact HO464.out) hb); have n1_ := Az_ (Kd.S_below (by (with_reducible repeat (first | apply Kd.S_alloc | apply Kd.S_drewN | apply Kd.S_drew)); exact HO468.out) hb); have n2_ := Az_ (Kd.S_below (by (with_reducible repeat (first | apply Kd.S_alloc | apply Kd.S_drewN | apply Kd.S_drew)); exact HO471.out) hb); have n3_ := Az_ (btz_ (ubz_ HB.out) hb); clear HO464; clear HO468; clear HO471; clear HB; have HO464 := n0_; have HO468 := n1_; have HO471 := n2_; have HB := n3_; clear n0_ n1_ n2_ n3_; (try clear hb); (try clear hb2); (try clear hk); (try clear hi)) | ((with_reducible refine gate_callee (f := 39) rfl ?_); refine goesL_ (some 114) rfl rfl Try.func39 (by kernel_rfl) rfl #[.slice Ao18 t462.length co18] rfl maz_ ?_; (with_reducible refine (impl_RankOfBinding.calls k _ _ t462 t485 t486 _ ?side1 ?side2 A14.out).mono ?_); (case side1 => exact ucz_ ((Kd.V_reads' HO464.out).2.2)); (case side2 => exact (Kd.V_reads' HO464.out).2.1); rintro e w27 ⟨rfl, hb⟩; refine ⟨_, rfl, ?_⟩; have n0_ := Az_ (Kd.V_below (by (with_reducible repeat (first | apply Kd.V_alloc | apply Kd.V_drewN | apply Kd.V_drew)); exact HO464.out) hb); have n1_ := Az_ (Kd.S_below (by (with_reducible repeat (first | apply Kd.S_alloc | apply Kd.S_drewN | apply Kd.S_drew)); exact HO468.out) hb); have n2_ := Az_ (Kd.S_below (by (with_reducible repeat (first | apply Kd.S_alloc | apply Kd.S_drewN | apply Kd.S_drew)); exact HO471.out) hb); have n3_ := Az_ (btz_ (ubz_ HB.out) hb); clear HO464; clear HO468; clear HO471; clear HB; have HO464 := n0_; have HO468 := n1_; have HO471 := n2_; have HB := n3_; clear n0_ n1_ n2_ n3_; (try clear hb); (try clear hb2); (try clear hk); (try clear hi)) | ((with_reducible refine gate_callee (f := 40) rfl ?_); refine goesL_ (some 119) rfl rfl Try.func40 (by kernel_rfl) rfl #[.slice Ao18 t462.length co18] rfl maz_ ?_; (with_reducible refine (spec_RankOfBinding.calls k _ _ t462 t487 t488 _ ?side1 ?side2 A15.out).mono ?_); (case side1 => exact ucz_ ((Kd.V_reads' HO464.out).2.2)); (case side2 => exact (Kd.V_reads' HO464.out).2.1); rintro e w' ⟨rfl, ⟨nd, rfl⟩⟩; refine ⟨_, rfl, ?_⟩))
  (try simp only [Act.put, List.setIfInBounds_toArray, List.set_cons_zero, List.set_cons_succ])
  go_cut [215] from 1 to 0 (fun v215 wc => ∃ (kq : Nat) (x215_15 : Bool), v215 = .bool x215_15 ∧ Aside0 (j0 kq l1 t462 t465 t466 t473 t477 t478 t481 t485 x215_15 = some r) ∧ Aside0 (kq ≤ k) ∧ Aside0 (Kd.V (Kd.int .i64) 3 wc w.heap.size (fun k_ => some k_ ≠ (v467 : Value).ownBlock) (.slice Ao18 t462.length co18) t462) ∧ Aside0 (Kd.S (Kd.slice 3 (Kd.int .i64)) 24 wc w.heap.size (fun _ => True) v467 t465) ∧ Aside0 (Below w.heap.size w wc))
  case first => as_aux_lemma =>
   have H := HC16.out
   clear HC16
   by_cases c28 : (t466 != t472) = true
   ·rw [if_pos c28] at H
    exact (laws_FnBindingsTurned.j0_no _ _ _ _ _ _ _ _ _ _ _ hrT H).elim
   ·rw [if_neg c28] at H
    obtain rfl : t466 = t472 := by simpa using c28
    clear c28
    replace H := Option.bind_eq_some_iff.mp H
    obtain ⟨t489, A290, H⟩ := H
    replace H : (if t489 = true then (if (t474 != t476) = true then (j0 k l1 t462 t465 t466 t473 t477 t478 t481 t485 true) else (if t473 = t475 then (if (t478 != t480) = true then (j0 k l1 t462 t465 t466 t473 t477 t478 t481 t485 true) else (if t477 = t479 then (if (t482 != t484) = true then (j0 k l1 t462 t465 t466 t473 t477 t478 t481 t485 true) else (if t481 = t483 then (if (t486 != t488) = true then (j0 k l1 t462 t465 t466 t473 t477 t478 t481 t485 true) else (if t485 = t487 then (if (t474 != t466) = true then (j0 k l1 t462 t465 t466 t473 t477 t478 t481 t485 true) else ((impl_IsBinding.f k t462).bind fun t490 => (if (t478 != t490) = true then (j0 k l1 t462 t465 t466 t473 t477 t478 t481 t485 true) else ((impl_IsBinding.f k t462).bind fun t491 => ((spec_IsBinding.f k t462).bind fun t492 => (if (t491 != t492) = true then (j0 k l1 t462 t465 t466 t473 t477 t478 t481 t485 true) else (if (t482 != t478) = true then (j0 k l1 t462 t465 t466 t473 t477 t478 t481 t485 true) else (if (t486 != t478) = true then (j0 k l1 t462 t465 t466 t473 t477 t478 t481 t485 true) else (if t466 = true then (if t478 = true then (j0 k l1 t462 t465 t466 t473 t477 t478 t481 t485 (t466 != (decide ((t462.length : Int) ≤ 5)))) else (j0 k l1 t462 t465 t466 t473 t477 t478 t481 t485 true)) else (if t478 = true then (j0 k l1 t462 t465 t466 t473 t477 t478 t481 t485 (t466 != (decide ((t462.length : Int) ≤ 5)))) else (j0 k l1 t462 t465 t466 t473 t477 t478 t481 t485 (t466 != false)))))))))))) else (j0 k l1 t462 t465 t466 t473 t477 t478 t481 t485 true))) else (j0 k l1 t462 t465 t466 t473 t477 t478 t481 t485 true))) else (j0 k l1 t462 t465 t466 t473 t477 t478 t481 t485 true))) else (j0 k l1 t462 t465 t466 t473 t477 t478 t481 t485 true))) else (j0 k l1 t462 t465 t466 t473 t477 t478 t481 t485 true)) = some r := H
    have A29 := Az_ A290
    clear A290
    by_cases c30 : t489 = true
    ·subst c30
     have H1 : (if (t474 != t476) = true then (j0 k l1 t462 t465 t466 t473 t477 t478 t481 t485 true) else (if t473 = t475 then (if (t478 != t480) = true then (j0 k l1 t462 t465 t466 t473 t477 t478 t481 t485 true) else (if t477 = t479 then (if (t482 != t484) = true then (j0 k l1 t462 t465 t466 t473 t477 t478 t481 t485 true) else (if t481 = t483 then (if (t486 != t488) = true then (j0 k l1 t462 t465 t466 t473 t477 t478 t481 t485 true) else (if t485 = t487 then (if (t474 != t466) = true then (j0 k l1 t462 t465 t466 t473 t477 t478 t481 t485 true) else ((impl_IsBinding.f k t462).bind fun t490 => (if (t478 != t490) = true then (j0 k l1 t462 t465 t466 t473 t477 t478 t481 t485 true) else ((impl_IsBinding.f k t462).bind fun t491 => ((spec_IsBinding.f k t462).bind fun t492 => (if (t491 != t492) = true then (j0 k l1 t462 t465 t466 t473 t477 t478 t481 t485 true) else (if (t482 != t478) = true then (j0 k l1 t462 t465 t466 t473 t477 t478 t481 t485 true) else (if (t486 != t478) = true then (j0 k l1 t462 t465 t466 t473 t477 t478 t481 t485 true) else (if t466 = true then (if t478 = true then (j0 k l1 t462 t465 t466 t473 t477 t478 t481 t485 (t466 != (decide ((t462.length : Int) ≤ 5)))) else (j0 k l1 t462 t465 t466 t473 t477 t478 t481 t485 true)) else (if t478 = true then (j0 k l1 t462 t465 t466 t473 t477 t478 t481 t485 (t466 != (decide ((t462.length : Int) ≤ 5)))) else (j0 k l1 t462 t465 t466 t473 t477 t478 t481 t485 (t466 != false)))))))))))) else (j0 k l1 t462 t465 t466 t473 t477 t478 t481 t485 true))) else (j0 k l1 t462 t465 t466 t473 t477 t478 t481 t485 true))) else (j0 k l1 t462 t465 t466 t473 t477 t478 t481 t485 true))) else (j0 k l1 t462 t465 t466 t473 t477 t478 t481 t485 true))) = some r := by rw [if_pos rfl] at H; exact H
     clear H
     have H := H1
     clear H1
     by_cases c31 : (t474 != t476) = true
     ·rw [if_pos c31] at H
      exact (laws_FnBindingsTurned.j0_no _ _ _ _ _ _ _ _ _ _ _ hrT H).elim
     ·rw [if_neg c31] at H
      obtain rfl : t474 = t476 := by simpa using c31
      clear c31
      by_cases c34 : t473 = t475
      ·rw [if_pos c34] at H
       subst c34
       by_cases c35 : (t478 != t480) = true
       ·rw [if_pos c35] at H
        exact (laws_FnBindingsTurned.j0_no _ _ _ _ _ _ _ _ _ _ _ hrT H).elim
       ·rw [if_neg c35] at H
        obtain rfl : t478 = t480 := by simpa using c35
        clear c35
        by_cases c38 : t477 = t479
        ·rw [if_pos c38] at H
         subst c38
         by_cases c39 : (t482 != t484) = true
         ·rw [if_pos c39] at H
          exact (laws_FnBindingsTurned.j0_no _ _ _ _ _ _ _ _ _ _ _ hrT H).elim
         ·rw [if_neg c39] at H
          obtain rfl : t482 = t484 := by simpa using c39
          clear c39
          by_cases c42 : t481 = t483
          ·rw [if_pos c42] at H
           subst c42
           by_cases c43 : (t486 != t488) = true
           ·rw [if_pos c43] at H
            exact (laws_FnBindingsTurned.j0_no _ _ _ _ _ _ _ _ _ _ _ hrT H).elim
           ·rw [if_neg c43] at H
            obtain rfl : t486 = t488 := by simpa using c43
            clear c43
            by_cases c46 : t485 = t487
            ·rw [if_pos c46] at H
             subst c46
             by_cases c47 : (t474 != t466) = true
             ·rw [if_pos c47] at H
              exact (laws_FnBindingsTurned.j0_no _ _ _ _ _ _ _ _ _ _ _ hrT H).elim
             ·rw [if_neg c47] at H
              obtain rfl : t474 = t466 := by simpa using c47
              clear c47
              replace H := Option.bind_eq_some_iff.mp H
              obtain ⟨t490, A500, H⟩ := H
              replace H : (if (t478 != t490) = true then (j0 k l1 t462 t465 t474 t473 t477 t478 t481 t485 true) else ((impl_IsBinding.f k t462).bind fun t491 => ((spec_IsBinding.f k t462).bind fun t492 => (if (t491 != t492) = true then (j0 k l1 t462 t465 t474 t473 t477 t478 t481 t485 true) else (if (t482 != t478) = true then (j0 k l1 t462 t465 t474 t473 t477 t478 t481 t485 true) else (if (t486 != t478) = true then (j0 k l1 t462 t465 t474 t473 t477 t478 t481 t485 true) else (if t474 = true then (if t478 = true then (j0 k l1 t462 t465 t474 t473 t477 t478 t481 t485 (t474 != (decide ((t462.length : Int) ≤ 5)))) else (j0 k l1 t462 t465 t474 t473 t477 t478 t481 t485 true)) else (if t478 = true then (j0 k l1 t462 t465 t474 t473 t477 t478 t481 t485 (t474 != (decide ((t462.length : Int) ≤ 5)))) else (j0 k l1 t462 t465 t474 t473 t477 t478 t481 t485 (t474 != false)))))))))) = some r := H
              have A50 := Az_ A500
              clear A500
              by_cases c51 : (t478 != t490) = true
              ·rw [if_pos c51] at H
               exact (laws_FnBindingsTurned.j0_no _ _ _ _ _ _ _ _ _ _ _ hrT H).elim
              ·rw [if_neg c51] at H
               obtain rfl : t478 = t490 := by simpa using c51
               clear c51
               replace H := Option.bind_eq_some_iff.mp H
               obtain ⟨t491, A550, H⟩ := H
               replace H : ((spec_IsBinding.f k t462).bind fun t492 => (if (t491 != t492) = true then (j0 k l1 t462 t465 t474 t473 t477 t478 t481 t485 true) else (if (t482 != t478) = true then (j0 k l1 t462 t465 t474 t473 t477 t478 t481 t485 true) else (if (t486 != t478) = true then (j0 k l1 t462 t465 t474 t473 t477 t478 t481 t485 true) else (if t474 = true then (if t478 = true then (j0 k l1 t462 t465 t474 t473 t477 t478 t481 t485 (t474 != (decide ((t462.length : Int) ≤ 5)))) else (j0 k l1 t462 t465 t474 t473 t477 t478 t481 t485 true)) else (if t478 = true then (j0 k l1 t462 t465 t474 t473 t477 t478 t481 t485 (t474 != (decide ((t462.length : Int) ≤ 5)))) else (j0 k l1 t462 t465 t474 t473 t477 t478 t481 t485 (t474 != false)))))))) = some r := H
               have A55 := Az_ A550
               clear A550
               replace H := Option.bind_eq_some_iff.mp H
               obtain ⟨t492, A560, H⟩ := H
               replace H : (if (t491 != t492) = true then (j0 k l1 t462 t465 t474 t473 t477 t478 t481 t485 true) else (if (t482 != t478) = true then (j0 k l1 t462 t465 t474 t473 t477 t478 t481 t485 true) else (if (t486 != t478) = true then (j0 k l1 t462 t465 t474 t473 t477 t478 t481 t485 true) else (if t474 = true then (if t478 = true then (j0 k l1 t462 t465 t474 t473 t477 t478 t481 t485 (t474 != (decide ((t462.length : Int) ≤ 5)))) else (j0 k l1 t462 t465 t474 t473 t477 t478 t481 t485 true)) else (if t478 = true then (j0 k l1 t462 t465 t474 t473 t477 t478 t481 t485 (t474 != (decide ((t462.length : Int) ≤ 5)))) else (j0 k l1 t462 t465 t474 t473 t477 t478 t481 t485 (t474 != false))))))) = some r := H
               have A56 := Az_ A560
               clear A560
               by_cases c57 : (t491 != t492) = true
               ·rw [if_pos c57] at H
                exact (laws_FnBindingsTurned.j0_no _ _ _ _ _ _ _ _ _ _ _ hrT H).elim
               ·rw [if_neg c57] at H
                obtain rfl : t491 = t492 := by simpa using c57
                clear c57
                by_cases c62 : (t482 != t478) = true
                ·rw [if_pos c62] at H
                 exact (laws_FnBindingsTurned.j0_no _ _ _ _ _ _ _ _ _ _ _ hrT H).elim
                ·rw [if_neg c62] at H
                 obtain rfl : t482 = t478 := by simpa using c62
                 clear c62
                 by_cases c67 : (t486 != t482) = true
                 ·rw [if_pos c67] at H
                  exact (laws_FnBindingsTurned.j0_no _ _ _ _ _ _ _ _ _ _ _ hrT H).elim
                 ·rw [if_neg c67] at H
                  obtain rfl : t486 = t482 := by simpa using c67
                  clear c67
                  by_cases c72 : t474 = true
                  ·subst c72
                   have H1 : (if t486 = true then (j0 k l1 t462 t465 true t473 t477 t486 t481 t485 (true != (decide ((t462.length : Int) ≤ 5)))) else (j0 k l1 t462 t465 true t473 t477 t486 t481 t485 true)) = some r := by rw [if_pos rfl] at H; exact H
                   clear H
                   have H := H1
                   clear H1
                   by_cases c73 : t486 = true
                   ·subst c73
                    have H1 : (j0 k l1 t462 t465 true t473 t477 true t481 t485 (true != (decide ((t462.length : Int) ≤ 5)))) = some r := by rw [if_pos rfl] at H; exact H
                    clear H
                    have H := H1
                    clear H1
                    have H' := Az_ H
                    clear H
                    obtain ⟨Ao74, co74, eo74⟩ := Kd.S_slice HO468.out
                    subst eo74
                    obtain ⟨Ao75, co75, eo75⟩ := Kd.S_slice HO471.out
                    subst eo75
                    go_wp2_with (first | (go_at_call 41; (with_reducible refine (laws_fRows.calls k _ _ t465 _ _ t469 true _ ?side1 ?side2 ?side3 ?side4 A29.out).mono ?_); (case side1 => exact ucz_ ((Kd.S_reads' HO468.out).2.2)); (case side2 => exact (Kd.S_reads' HO468.out).2.1); (case side3 => exact ucz_ ((Kd.S_reads' HO471.out).2.2)); (case side4 => exact (Kd.S_reads' HO471.out).2.1); rintro e w' ⟨rfl, ⟨nd, rfl⟩⟩) | (go_at_call 42; (with_reducible refine (impl_IsBinding.calls k _ _ t462 true _ ?side1 ?side2 A50.out).mono ?_); (case side1 => exact ucz_ ((Kd.V_reads' HO464.out).2.2)); (case side2 => exact (Kd.V_reads' HO464.out).2.1); rintro e w76 ⟨rfl, hb⟩; have n0_ := Az_ (Kd.V_below (by (with_reducible repeat (first | apply Kd.V_alloc | apply Kd.V_drewN | apply Kd.V_drew)); exact HO464.out) hb); have n1_ := Az_ (Kd.S_below (by (with_reducible repeat (first | apply Kd.S_alloc | apply Kd.S_drewN | apply Kd.S_drew)); exact HO468.out) hb); have n2_ := Az_ (Kd.S_below (by (with_reducible repeat (first | apply Kd.S_alloc | apply Kd.S_drewN | apply Kd.S_drew)); exact HO471.out) hb); have n3_ := Az_ (btz_ (ubz_ HB.out) hb); clear HO464; clear HO468; clear HO471; clear HB; have HO464 := n0_; have HO468 := n1_; have HO471 := n2_; have HB := n3_; clear n0_ n1_ n2_ n3_; (try clear hb); (try clear hb2); (try clear hk); (try clear hi); clear A50) | (go_at_call 42; (with_reducible refine (impl_IsBinding.calls k _ _ t462 t491 _ ?side1 ?side2 A55.out).mono ?_); (case side1 => exact ucz_ ((Kd.V_reads' HO464.out).2.2)); (case side2 => exact (Kd.V_reads' HO464.out).2.1); rintro e w77 ⟨rfl, hb⟩; have n0_ := Az_ (Kd.V_below (by (with_reducible repeat (first | apply Kd.V_alloc | apply Kd.V_drewN | apply Kd.V_drew)); exact HO464.out) hb); have n1_ := Az_ (Kd.S_below (by (with_reducible repeat (first | apply Kd.S_alloc | apply Kd.S_drewN | apply Kd.S_drew)); exact HO468.out) hb); have n2_ := Az_ (Kd.S_below (by (with_reducible repeat (first | apply Kd.S_alloc | apply Kd.S_drewN | apply Kd.S_drew)); exact HO471.out) hb); have n3_ := Az_ (btz_ (ubz_ HB.out) hb); clear HO464; clear HO468; clear HO471; clear HB; have HO464 := n0_; have HO468 := n1_; have HO471 := n2_; have HB := n3_; clear n0_ n1_ n2_ n3_; (try clear hb); (try clear hb2); (try clear hk); (try clear hi)) | (go_at_call 43; (with_reducible refine (spec_IsBinding.calls k _ _ t462 t491 _ ?side1 ?side2 A56.out).mono ?_); (case side1 => exact ucz_ ((Kd.V_reads' HO464.out).2.2)); (case side2 => exact (Kd.V_reads' HO464.out).2.1); rintro e w' ⟨rfl, ⟨nd, rfl⟩⟩))
                    go_meet
                    case rel => exact ⟨_, ((true != (decide ((t462.length : Int) ≤ 5)))), qaz_, H', ⟨by first | omega | exact Nat.le_refl _⟩, ⟨by (with_reducible repeat (first | apply Kd.V_alloc | apply Kd.V_drewN | apply Kd.V_drew)); exact Kd.V_mono HO464.out (fun _ hk => hk.1.2)⟩, ⟨by (with_reducible repeat (first | apply Kd.S_alloc | apply Kd.S_drewN | apply Kd.S_drew)); exact Kd.S_mono HO468.out (fun _ hk => trivial)⟩, ⟨by exact ubz_ HB.out⟩⟩
                   ·replace c73 := Bool.eq_false_iff.mpr c73
                    subst c73
                    have H1 : (j0 k l1 t462 t465 true t473 t477 false t481 t485 true) = some r := by rw [if_neg (show ¬ (false = true) by decide)] at H; exact H
                    clear H
                    have H := H1
                    exact (laws_FnBindingsTurned.j0_no _ _ _ _ _ _ _ _ _ _ _ hrT H).elim
                  ·replace c72 := Bool.eq_false_iff.mpr c72
                   subst c72
                   have H1 : (if t486 = true then (j0 k l1 t462 t465 false t473 t477 t486 t481 t485 (false != (decide ((t462.length : Int) ≤ 5)))) else (j0 k l1 t462 t465 false t473 t477 t486 t481 t485 (false != false))) = some r := by rw [if_neg (show ¬ (false = true) by decide)] at H; exact H
                   clear H
                   have H := H1
                   clear H1
                   by_cases c82 : t486 = true
                   ·subst c82
                    have H1 : (j0 k l1 t462 t465 false t473 t477 true t481 t485 (false != (decide ((t462.length : Int) ≤ 5)))) = some r := by rw [if_pos rfl] at H; exact H
                    clear H
                    have H := H1
                    clear H1
                    have H' := Az_ H
                    clear H
                    obtain ⟨Ao83, co83, eo83⟩ := Kd.S_slice HO468.out
                    subst eo83
                    obtain ⟨Ao84, co84, eo84⟩ := Kd.S_slice HO471.out
                    subst eo84
                    go_wp2_with (first | (go_at_call 41; (with_reducible refine (laws_fRows.calls k _ _ t465 _ _ t469 true _ ?side1 ?side2 ?side3 ?side4 A29.out).mono ?_); (case side1 => exact ucz_ ((Kd.S_reads' HO468.out).2.2)); (case side2 => exact (Kd.S_reads' HO468.out).2.1); (case side3 => exact ucz_ ((Kd.S_reads' HO471.out).2.2)); (case side4 => exact (Kd.S_reads' HO471.out).2.1); rintro e w' ⟨rfl, ⟨nd, rfl⟩⟩) | (go_at_call 42; (with_reducible refine (impl_IsBinding.calls k _ _ t462 true _ ?side1 ?side2 A50.out).mono ?_); (case side1 => exact ucz_ ((Kd.V_reads' HO464.out).2.2)); (case side2 => exact (Kd.V_reads' HO464.out).2.1); rintro e w85 ⟨rfl, hb⟩; have n0_ := Az_ (Kd.V_below (by (with_reducible repeat (first | apply Kd.V_alloc | apply Kd.V_drewN | apply Kd.V_drew)); exact HO464.out) hb); have n1_ := Az_ (Kd.S_below (by (with_reducible repeat (first | apply Kd.S_alloc | apply Kd.S_drewN | apply Kd.S_drew)); exact HO468.out) hb); have n2_ := Az_ (Kd.S_below (by (with_reducible repeat (first | apply Kd.S_alloc | apply Kd.S_drewN | apply Kd.S_drew)); exact HO471.out) hb); have n3_ := Az_ (btz_ (ubz_ HB.out) hb); clear HO464; clear HO468; clear HO471; clear HB; have HO464 := n0_; have HO468 := n1_; have HO471 := n2_; have HB := n3_; clear n0_ n1_ n2_ n3_; (try clear hb); (try clear hb2); (try clear hk); (try clear hi); clear A50) | (go_at_call 42; (with_reducible refine (impl_IsBinding.calls k _ _ t462 t491 _ ?side1 ?side2 A55.out).mono ?_); (case side1 => exact ucz_ ((Kd.V_reads' HO464.out).2.2)); (case side2 => exact (Kd.V_reads' HO464.out).2.1); rintro e w86 ⟨rfl, hb⟩; have n0_ := Az_ (Kd.V_below (by (with_reducible repeat (first | apply Kd.V_alloc | apply Kd.V_drewN | apply Kd.V_drew)); exact HO464.out) hb); have n1_ := Az_ (Kd.S_below (by (with_reducible repeat (first | apply Kd.S_alloc | apply Kd.S_drewN | apply Kd.S_drew)); exact HO468.out) hb); have n2_ := Az_ (Kd.S_below (by (with_reducible repeat (first | apply Kd.S_alloc | apply Kd.S_drewN | apply Kd.S_drew)); exact HO471.out) hb); have n3_ := Az_ (btz_ (ubz_ HB.out) hb); clear HO464; clear HO468; clear HO471; clear HB; have HO464 := n0_; have HO468 := n1_; have HO471 := n2_; have HB := n3_; clear n0_ n1_ n2_ n3_; (try clear hb); (try clear hb2); (try clear hk); (try clear hi)) | (go_at_call 43; (with_reducible refine (spec_IsBinding.calls k _ _ t462 t491 _ ?side1 ?side2 A56.out).mono ?_); (case side1 => exact ucz_ ((Kd.V_reads' HO464.out).2.2)); (case side2 => exact (Kd.V_reads' HO464.out).2.1); rintro e w' ⟨rfl, ⟨nd, rfl⟩⟩))
                    go_meet
                    case rel => exact ⟨_, ((false != (decide ((t462.length : Int) ≤ 5)))), qaz_, H', ⟨by first | omega | exact Nat.le_refl _⟩, ⟨by (with_reducible repeat (first | apply Kd.V_alloc | apply Kd.V_drewN | apply Kd.V_drew)); exact Kd.V_mono HO464.out (fun _ hk => hk.1.2)⟩, ⟨by (with_reducible repeat (first | apply Kd.S_alloc | apply Kd.S_drewN | apply Kd.S_drew)); exact Kd.S_mono HO468.out (fun _ hk => trivial)⟩, ⟨by exact ubz_ HB.out⟩⟩
                   ·replace c82 := Bool.eq_false_iff.mpr c82
                    subst c82
                    have H1 : (j0 k l1 t462 t465 false t473 t477 false t481 t485 (false != false)) = some r := by rw [if_neg (show ¬ (false = true) by decide)] at H; exact H
                    clear H
                    have H := H1
                    clear H1
                    have H' := Az_ H
                    clear H
                    obtain ⟨Ao87, co87, eo87⟩ := Kd.S_slice HO468.out
                    subst eo87
                    obtain ⟨Ao88, co88, eo88⟩ := Kd.S_slice HO471.out
                    subst eo88
                    go_wp2_with (first | (go_at_call 41; (with_reducible refine (laws_fRows.calls k _ _ t465 _ _ t469 true _ ?side1 ?side2 ?side3 ?side4 A29.out).mono ?_); (case side1 => exact ucz_ ((Kd.S_reads' HO468.out).2.2)); (case side2 => exact (Kd.S_reads' HO468.out).2.1); (case side3 => exact ucz_ ((Kd.S_reads' HO471.out).2.2)); (case side4 => exact (Kd.S_reads' HO471.out).2.1); rintro e w' ⟨rfl, ⟨nd, rfl⟩⟩) | (go_at_call 42; (with_reducible refine (impl_IsBinding.calls k _ _ t462 false _ ?side1 ?side2 A50.out).mono ?_); (case side1 => exact ucz_ ((Kd.V_reads' HO464.out).2.2)); (case side2 => exact (Kd.V_reads' HO464.out).2.1); rintro e w89 ⟨rfl, hb⟩; have n0_ := Az_ (Kd.V_below (by (with_reducible repeat (first | apply Kd.V_alloc | apply Kd.V_drewN | apply Kd.V_drew)); exact HO464.out) hb); have n1_ := Az_ (Kd.S_below (by (with_reducible repeat (first | apply Kd.S_alloc | apply Kd.S_drewN | apply Kd.S_drew)); exact HO468.out) hb); have n2_ := Az_ (Kd.S_below (by (with_reducible repeat (first | apply Kd.S_alloc | apply Kd.S_drewN | apply Kd.S_drew)); exact HO471.out) hb); have n3_ := Az_ (btz_ (ubz_ HB.out) hb); clear HO464; clear HO468; clear HO471; clear HB; have HO464 := n0_; have HO468 := n1_; have HO471 := n2_; have HB := n3_; clear n0_ n1_ n2_ n3_; (try clear hb); (try clear hb2); (try clear hk); (try clear hi); clear A50) | (go_at_call 42; (with_reducible refine (impl_IsBinding.calls k _ _ t462 t491 _ ?side1 ?side2 A55.out).mono ?_); (case side1 => exact ucz_ ((Kd.V_reads' HO464.out).2.2)); (case side2 => exact (Kd.V_reads' HO464.out).2.1); rintro e w90 ⟨rfl, hb⟩; have n0_ := Az_ (Kd.V_below (by (with_reducible repeat (first | apply Kd.V_alloc | apply Kd.V_drewN | apply Kd.V_drew)); exact HO464.out) hb); have n1_ := Az_ (Kd.S_below (by (with_reducible repeat (first | apply Kd.S_alloc | apply Kd.S_drewN | apply Kd.S_drew)); exact HO468.out) hb); have n2_ := Az_ (Kd.S_below (by (with_reducible repeat (first | apply Kd.S_alloc | apply Kd.S_drewN | apply Kd.S_drew)); exact HO471.out) hb); have n3_ := Az_ (btz_ (ubz_ HB.out) hb); clear HO464; clear HO468; clear HO471; clear HB; have HO464 := n0_; have HO468 := n1_; have HO471 := n2_; have HB := n3_; clear n0_ n1_ n2_ n3_; (try clear hb); (try clear hb2); (try clear hk); (try clear hi)) | (go_at_call 43; (with_reducible refine (spec_IsBinding.calls k _ _ t462 t491 _ ?side1 ?side2 A56.out).mono ?_); (case side1 => exact ucz_ ((Kd.V_reads' HO464.out).2.2)); (case side2 => exact (Kd.V_reads' HO464.out).2.1); rintro e w' ⟨rfl, ⟨nd, rfl⟩⟩))
                    go_meet
                    case rel => exact ⟨_, ((false != false)), qaz_, H', ⟨by first | omega | exact Nat.le_refl _⟩, ⟨by (with_reducible repeat (first | apply Kd.V_alloc | apply Kd.V_drewN | apply Kd.V_drew)); exact Kd.V_mono HO464.out (fun _ hk => hk.1.2)⟩, ⟨by (with_reducible repeat (first | apply Kd.S_alloc | apply Kd.S_drewN | apply Kd.S_drew)); exact Kd.S_mono HO468.out (fun _ hk => trivial)⟩, ⟨by exact ubz_ HB.out⟩⟩
            ·rw [if_neg c46] at H
             exact (laws_FnBindingsTurned.j0_no _ _ _ _ _ _ _ _ _ _ _ hrT H).elim
          ·rw [if_neg c42] at H
           exact (laws_FnBindingsTurned.j0_no _ _ _ _ _ _ _ _ _ _ _ hrT H).elim
        ·rw [if_neg c38] at H
         exact (laws_FnBindingsTurned.j0_no _ _ _ _ _ _ _ _ _ _ _ hrT H).elim
      ·rw [if_neg c34] at H
       exact (laws_FnBindingsTurned.j0_no _ _ _ _ _ _ _ _ _ _ _ hrT H).elim
    ·replace c30 := Bool.eq_false_iff.mpr c30
     subst c30
     have H1 : (j0 k l1 t462 t465 t466 t473 t477 t478 t481 t485 true) = some r := by rw [if_neg (show ¬ (false = true) by decide)] at H; exact H
     clear H
     have H := H1
     exact (laws_FnBindingsTurned.j0_no _ _ _ _ _ _ _ _ _ _ _ hrT H).elim
  case rest => as_aux_lemma =>
   clear HC16
   (try clear c1); (try clear c2); (try clear p2); (try clear c3); (try clear c4); (try clear c5); (try clear c6); (try clear c7); (try clear c8); (try clear c28); (try clear c28b0); (try clear c28b1); (try clear c28b2); (try clear c30); (try clear c31); (try clear c31b0); (try clear c31b1); (try clear c31b2); (try clear c32); (try clear c33); (try clear c34); (try clear c34b0); (try clear c34b1); (try clear c35); (try clear c35b0); (try clear c35b1); (try clear c35b2); (try clear c36); (try clear c37); (try clear c38); (try clear c38b0); (try clear c38b1); (try clear c39); (try clear c39b0); (try clear c39b1); (try clear c39b2); (try clear c40); (try clear c42); (try clear c42b0); (try clear c42b1); (try clear c43); (try clear c43b0); (try clear c43b1); (try clear c43b2); (try clear c46); (try clear c46b0); (try clear c46b1); (try clear c47); (try clear c47b0); (try clear c47b1); (try clear c47b2); (try clear c51); (try clear c51b0); (try clear c51b1); (try clear c51b2); (try clear c57); (try clear c57b0); (try clear c57b1); (try clear c57b2); (try clear c62); (try clear c62b0); (try clear c62b1); (try clear c62b2); (try clear c67); (try clear c67b0); (try clear c67b1); (try clear c67b2); (try clear c72); (try clear c73); (try clear c82)
   obtain ⟨kq, x215_15, rfl, HA, HJ15, HO_5, HO_6, HB⟩ := hcut
   cases kq with
   | zero => exact absurd HA.out (by simp [j0])
   | succ kj15 =>
    have H := HA.out
    clear HA
    simp only [j0] at H
    by_cases c101 : x215_15 = true
    ·subst c101
     have H1 : (some false) = some r := by rw [if_pos rfl] at H; exact H
     clear H
     have H := H1
     clear H1
     exact absurd ((Option.some.inj H).trans hrT) (by decide)
    ·replace c101 := Bool.eq_false_iff.mpr c101
     subst c101
     have H1 : (if t478 = true then ((impl_BindingOfRank.f kj15 (t462.length : Int) t485).bind fun bt493 => ((impl_CountTurned.f kj15 t462).bind fun bt497 => (if bt493.2 = true then ((laws_fSame.f kj15 bt493.1 t462).bind fun t499 => (if t499 = true then (if bt497.2 = true then (if t477 < 0 then (some false) else (if t477 > (wrap64 ((t462.length : Int) + 1)) then (some false) else (if t477 = 1 then (some false) else (if t481 < bt497.1 then (some false) else (if t481 > (t462.length : Int) then (some false) else (if ((t477 == 0) != (t481 == 0)) = true then (some false) else (j1 kj15 l1 t462 t465 t466 t473 t477))))))) else (some false)) else (some false))) else (some false)))) else (j1 kj15 l1 t462 t465 t466 t473 t477)) = some r := by rw [if_neg (show ¬ (false = true) by decide)] at H; exact H
     clear H
     have H := H1
     clear H1
     have HC102 := Az_ H
     clear H
     go_upto_if 216 with (fail)
     go_cut [] from 1 to 0 (fun wc => ∃ (kq : Nat), Aside0 (j1 kq l1 t462 t465 t466 t473 t477 = some r) ∧ Aside0 (kq ≤ kj15) ∧ Aside0 (Kd.V (Kd.int .i64) 3 wc w.heap.size (fun k_ => some k_ ≠ (v467 : Value).ownBlock) (.slice Ao18 t462.length co18) t462) ∧ Aside0 (Kd.S (Kd.slice 3 (Kd.int .i64)) 24 wc w.heap.size (fun _ => True) v467 t465) ∧ Aside0 (Below w.heap.size w wc))
     case first => as_aux_lemma =>
      have H := HC102.out
      clear HC102
      by_cases c103 : t478 = true
      ·subst c103
       have H1 : ((impl_BindingOfRank.f kj15 (t462.length : Int) t485).bind fun bt493 => ((impl_CountTurned.f kj15 t462).bind fun bt497 => (if bt493.2 = true then ((laws_fSame.f kj15 bt493.1 t462).bind fun t499 => (if t499 = true then (if bt497.2 = true then (if t477 < 0 then (some false) else (if t477 > (wrap64 ((t462.length : Int) + 1)) then (some false) else (if t477 = 1 then (some false) else (if t481 < bt497.1 then (some false) else (if t481 > (t462.length : Int) then (some false) else (if ((t477 == 0) != (t481 == 0)) = true then (some false) else (j1 kj15 l1 t462 t465 t466 t473 t477))))))) else (some false)) else (some false))) else (some false)))) = some r := by rw [if_pos rfl] at H; exact H
       clear H
       have H := H1
       clear H1
       replace H := Option.bind_eq_some_iff.mp H
       obtain ⟨⟨t493, t494⟩, A1040, H⟩ := H
       replace H : ((impl_CountTurned.f kj15 t462).bind fun bt497 => (if t494 = true then ((laws_fSame.f kj15 t493 t462).bind fun t499 => (if t499 = true then (if bt497.2 = true then (if t477 < 0 then (some false) else (if t477 > (wrap64 ((t462.length : Int) + 1)) then (some false) else (if t477 = 1 then (some false) else (if t481 < bt497.1 then (some false) else (if t481 > (t462.length : Int) then (some false) else (if ((t477 == 0) != (t481 == 0)) = true then (some false) else (j1 kj15 l1 t462 t465 t466 t473 t477))))))) else (some false)) else (some false))) else (some false))) = some r := H
       have A104 := Az_ A1040
       clear A1040
       replace H := Option.bind_eq_some_iff.mp H
       obtain ⟨⟨t497, t498⟩, A1050, H⟩ := H
       replace H : (if t494 = true then ((laws_fSame.f kj15 t493 t462).bind fun t499 => (if t499 = true then (if t498 = true then (if t477 < 0 then (some false) else (if t477 > (wrap64 ((t462.length : Int) + 1)) then (some false) else (if t477 = 1 then (some false) else (if t481 < t497 then (some false) else (if t481 > (t462.length : Int) then (some false) else (if ((t477 == 0) != (t481 == 0)) = true then (some false) else (j1 kj15 l1 t462 t465 t466 t473 t477))))))) else (some false)) else (some false))) else (some false)) = some r := H
       have A105 := Az_ A1050
       clear A1050
       by_cases c106 : t494 = true
       ·subst c106
        have H1 : ((laws_fSame.f kj15 t493 t462).bind fun t499 => (if t499 = true then (if t498 = true then (if t477 < 0 then (some false) else (if t477 > (wrap64 ((t462.length : Int) + 1)) then (some false) else (if t477 = 1 then (some false) else (if t481 < t497 then (some false) else (if t481 > (t462.length : Int) then (some false) else (if ((t477 == 0) != (t481 == 0)) = true then (some false) else (j1 kj15 l1 t462 t465 t466 t473 t477))))))) else (some false)) else (some false))) = some r := by rw [if_pos rfl] at H; exact H
        clear H
        have H := H1
        clear H1
        replace H := Option.bind_eq_some_iff.mp H
        obtain ⟨t499, A1070, H⟩ := H
        replace H : (if t499 = true then (if t498 = true then (if t477 < 0 then (some false) else (if t477 > (wrap64 ((t462.length : Int) + 1)) then (some false) else (if t477 = 1 then (some false) else (if t481 < t497 then (some false) else (if t481 > (t462.length : Int) then (some false) else (if ((t477 == 0) != (t481 == 0)) = true then (some false) else (j1 kj15 l1 t462 t465 t466 t473 t477))))))) else (some false)) else (some false)) = some r := H
        have A107 := Az_ A1070
        clear A1070
        by_cases c108 : t499 = true
        ·subst c108
         have H1 : (if t498 = true then (if t477 < 0 then (some false) else (if t477 > (wrap64 ((t462.length : Int) + 1)) then (some false) else (if t477 = 1 then (some false) else (if t481 < t497 then (some false) else (if t481 > (t462.length : Int) then (some false) else (if ((t477 == 0) != (t481 == 0)) = true then (some false) else (j1 kj15 l1 t462 t465 t466 t473 t477))))))) else (some false)) = some r := by rw [if_pos rfl] at H; exact H
         clear H
         have H := H1
         clear H1
         by_cases c109 : t498 = true
         ·subst c109
          have H1 : (if t477 < 0 then (some false) else (if t477 > (wrap64 ((t462.length : Int) + 1)) then (some false) else (if t477 = 1 then (some false) else (if t481 < t497 then (some false) else (if t481 > (t462.length : Int) then (some false) else (if ((t477 == 0) != (t481 == 0)) = true then (some false) else (j1 kj15 l1 t462 t465 t466 t473 t477))))))) = some r := by rw [if_pos rfl] at H; exact H
          clear H
          have H := H1
          clear H1
          by_cases c110 : t477 < 0
          ·rw [if_pos c110] at H
           have c110b0 := decide_eq_true c110
           clear c110
           (first | rw [c110b0] | (simp only [i64_w, i32_w]; rw [c110b0]) | skip)
           exact absurd ((Option.some.inj H).trans hrT) (by decide)
          ·rw [if_neg c110] at H
           have c110b0 := decide_eq_false c110
           clear c110
           (first | rw [c110b0] | (simp only [i64_w, i32_w]; rw [c110b0]) | skip)
           by_cases c114 : t477 > (wrap64 ((t462.length : Int) + 1))
           ·rw [if_pos c114] at H
            have c114b0 := decide_eq_true c114
            clear c114
            exact absurd ((Option.some.inj H).trans hrT) (by decide)
           ·rw [if_neg c114] at H
            have c114b0 := decide_eq_false c114
            clear c114
            by_cases c118 : t477 = 1
            ·rw [if_pos c118] at H
             have c118b0 : (t477 == 1) = true := beq_iff_eq.mpr c118
             have c118b1 : (t477 != 1) = false := bne_eq_false_iff_eq.mpr c118
             clear c118
             exact absurd ((Option.some.inj H).trans hrT) (by decide)
            ·rw [if_neg c118] at H
             have c118b0 : (t477 == 1) = false := beq_eq_false_iff_ne.mpr c118
             have c118b1 : (t477 != 1) = true := bne_iff_ne.mpr c118
             by_cases c122 : t481 < t497
             ·rw [if_pos c122] at H
              have c122b0 := decide_eq_true c122
              clear c122
              exact absurd ((Option.some.inj H).trans hrT) (by decide)
             ·rw [if_neg c122] at H
              have c122b0 := decide_eq_false c122
              clear c122
              by_cases c126 : t481 > (t462.length : Int)
              ·rw [if_pos c126] at H
               have c126b0 := decide_eq_true c126
               clear c126
               exact absurd ((Option.some.inj H).trans hrT) (by decide)
              ·rw [if_neg c126] at H
               have c126b0 := decide_eq_false c126
               clear c126
               by_cases c130 : ((t477 == 0) != (t481 == 0)) = true
               ·rw [if_pos c130] at H
                have c130b0 : ((t477 == 0) != (t481 == 0)) = true := c130
                (try (have c130b1 : decide ((t477 == 0) = (t481 == 0)) = false := by simpa using c130))
                (try (have c130b2 : ((t477 == 0) == (t481 == 0)) = false := by simpa using c130))
                (try (have c130b3 : ¬ ((t477 == 0) = (t481 == 0)) := by simpa using c130))
                clear c130
                exact absurd ((Option.some.inj H).trans hrT) (by decide)
               ·rw [if_neg c130] at H
                have c130b0 : ((t477 == 0) != (t481 == 0)) = false := by simpa using c130
                (try (have c130b1 : decide ((t477 == 0) = (t481 == 0)) = true := by simpa using c130))
                (try (have c130b2 : ((t477 == 0) == (t481 == 0)) = true := by simpa using c130))
                clear c130
                have H' := Az_ H
                clear H
                go_wp2_with (first | ((with_reducible refine gate_callee (f := 44) rfl ?_); refine goesL_ (some 221) rfl rfl Try.func44 (by kernel_rfl) rfl #[.int .i64 (t462.length : Int), .int .i64 t485] rfl maz_ ?_; (with_reducible refine (impl_BindingOfRank.calls kj15 (t462.length : Int) t485 t493 true _ A104.out).mono ?_); rintro e w134 ⟨v495, rfl, ho0, hb⟩; refine ⟨_, rfl, ?_⟩; have n0_ := Az_ (Kd.V_elder' (by (with_reducible repeat (first | apply Kd.V_alloc | apply Kd.V_drewN | apply Kd.V_drew)); exact HO_5.out) (Kd.R_base ho0) hb); have n1_ := Az_ (Kd.S_elder' (by (with_reducible repeat (first | apply Kd.S_alloc | apply Kd.S_drewN | apply Kd.S_drew)); exact HO_6.out) (Kd.R_base ho0) hb); have n2_ := Az_ (Kd.R_lower ho0 (below_size (ubz_ HB.out))); have n3_ := Az_ (btz_ (ubz_ HB.out) hb); clear HO_5; clear HO_6; clear HB; have HO_5 := n0_; have HO_6 := n1_; have HO496 := n2_; have HB := n3_; clear n0_ n1_ n2_ n3_; (try clear hb); (try clear hb2); (try clear hk); (try clear hi); (try clear ho0)) | ((with_reducible refine gate_callee (f := 45) rfl ?_); refine goesL_ (some 226) rfl rfl Try.func45 (by kernel_rfl) rfl #[.slice Ao18 t462.length co18] rfl maz_ ?_; (with_reducible refine (impl_CountTurned.calls kj15 _ _ t462 t497 true _ ?side1 ?side2 A105.out).mono ?_); (case side1 => exact ucz_ ((Kd.V_reads' HO_5.out).2.2)); (case side2 => exact (Kd.V_reads' HO_5.out).2.1); rintro e w135 ⟨rfl, hb⟩; refine ⟨_, rfl, ?_⟩; have n0_ := Az_ (Kd.V_below (by (with_reducible repeat (first | apply Kd.V_alloc | apply Kd.V_drewN | apply Kd.V_drew)); exact HO_5.out) hb); have n1_ := Az_ (Kd.S_below (by (with_reducible repeat (first | apply Kd.S_alloc | apply Kd.S_drewN | apply Kd.S_drew)); exact HO_6.out) hb); have n2_ := Az_ (Kd.R_below (by exact urz_ HO496.out) hb); have n3_ := Az_ (btz_ (ubz_ HB.out) hb); clear HO_5; clear HO_6; clear HO496; clear HB; have HO_5 := n0_; have HO_6 := n1_; have HO496 := n2_; have HB := n3_; clear n0_ n1_ n2_ n3_; (try clear hb); (try clear hb2); (try clear hk); (try clear hi); obtain ⟨Ao136, co136, eo136⟩ := Kd.R_slice HO496.out; subst eo136) | (go_at_call 15; (with_reducible refine (laws_fSame.calls kj15 _ _ t493 _ _ t462 true _ ?side1 ?side2 ?side3 ?side4 A107.out).mono ?_); (case side1 => exact ucz_ ((Kd.R_reads' HO496.out).2.2)); (case side2 => exact (Kd.R_reads' HO496.out).2.1); (case side3 => exact ucz_ ((Kd.V_reads' HO_5.out).2.2)); (case side4 => exact (Kd.V_reads' HO_5.out).2.1); rintro e w' ⟨rfl, ⟨nd, rfl⟩⟩))
                go_meet
                case rel => exact ⟨_, H', ⟨by have := HJ15.out; first | omega | exact Nat.le_refl _⟩, ⟨by (with_reducible repeat (first | apply Kd.V_alloc | apply Kd.V_drewN | apply Kd.V_drew)); exact Kd.V_mono HO_5.out (fun _ hk => hk.1)⟩, ⟨by (with_reducible repeat (first | apply Kd.S_alloc | apply Kd.S_drewN | apply Kd.S_drew)); exact Kd.S_mono HO_6.out (fun _ hk => trivial)⟩, ⟨by exact ubz_ HB.out⟩⟩
         ·replace c109 := Bool.eq_false_iff.mpr c109
          subst c109
          have H1 : (some false) = some r := by rw [if_neg (show ¬ (false = true) by decide)] at H; exact H
          clear H
          have H := H1
          clear H1
          exact absurd ((Option.some.inj H).trans hrT) (by decide)
        ·replace c108 := Bool.eq_false_iff.mpr c108
         subst c108
         have H1 : (some false) = some r := by rw [if_neg (show ¬ (false = true) by decide)] at H; exact H
         clear H
         have H := H1
         clear H1
         exact absurd ((Option.some.inj H).trans hrT) (by decide)
       ·replace c106 := Bool.eq_false_iff.mpr c106
        subst c106
        have H1 : (some false) = some r := by rw [if_neg (show ¬ (false = true) by decide)] at H; exact H
        clear H
        have H := H1
        clear H1
        exact absurd ((Option.some.inj H).trans hrT) (by decide)
      ·replace c103 := Bool.eq_false_iff.mpr c103
       subst c103
       have H1 : (j1 kj15 l1 t462 t465 t466 t473 t477) = some r := by rw [if_neg (show ¬ (false = true) by decide)] at H; exact H
       clear H
       have H := H1
       clear H1
       have H' := Az_ H
       clear H
       go_wp2
       go_meet
       case rel => exact ⟨_, H', ⟨by have := HJ15.out; first | omega | exact Nat.le_refl _⟩, ⟨by (with_reducible repeat (first | apply Kd.V_alloc | apply Kd.V_drewN | apply Kd.V_drew)); exact HO_5.out⟩, ⟨by (with_reducible repeat (first | apply Kd.S_alloc | apply Kd.S_drewN | apply Kd.S_drew)); exact HO_6.out⟩, ⟨by exact ubz_ HB.out⟩⟩
     case rest => as_aux_lemma =>
      clear HC102
      (try clear c1); (try clear c2); (try clear p2); (try clear c3); (try clear c4); (try clear c5); (try clear c6); (try clear p6); (try clear c7); (try clear c8); (try clear c10); (try clear c11); (try clear c12); (try clear c13); (try clear c28); (try clear c28b0); (try clear c28b1); (try clear c28b2); (try clear c30); (try clear c31); (try clear c31b0); (try clear c31b1); (try clear c31b2); (try clear c32); (try clear c33); (try clear c34); (try clear c34b0); (try clear c34b1); (try clear c35); (try clear c35b0); (try clear c35b1); (try clear c35b2); (try clear c36); (try clear c37); (try clear c38); (try clear c38b0); (try clear c38b1); (try clear c39); (try clear c39b0); (try clear c39b1); (try clear c39b2); (try clear c40); (try clear c42); (try clear c42b0); (try clear c42b1); (try clear c43); (try clear c43b0); (try clear c43b1); (try clear c43b2); (try clear c44); (try clear c45); (try clear c46); (try clear c46b0); (try clear c46b1); (try clear c47); (try clear c47b0); (try clear c47b1); (try clear c47b2); (try clear c51); (try clear c51b0); (try clear c51b1); (try clear c51b2); (try clear c57); (try clear c57b0); (try clear c57b1); (try clear c57b2); (try clear c62); (try clear c62b0); (try clear c62b1); (try clear c62b2); (try clear p64); (try clear c67); (try clear c67b0); (try clear c67b1); (try clear c67b2); (try clear c72); (try clear c73); (try clear c82); (try clear c101); (try clear c103); (try clear c106); (try clear c108); (try clear c109); (try clear c110); (try clear c110b0); (try clear c114); (try clear c114b0); (try clear c118); (try clear c118b0); (try clear c118b1); (try clear c122); (try clear c122b0); (try clear c126); (try clear c126b0); (try clear c130); (try clear c130b0); (try clear c130b1); (try clear c130b2); (try clear p2)
      obtain ⟨kq, HA, HJ101, HO_5, HO_6, HB⟩ := hcut
      cases kq with
      | zero => exact absurd HA.out (by simp [j1])
      | succ kj101 =>
       have H := HA.out
       clear HA
       simp only [j1] at H
       have HC145 := Az_ H
       clear H
       go_upto_if 274 with (fail)
       go_cut [] from 1 to 0 (fun wc => ∃ (kq : Nat), Aside0 (j3 kq l1 = some r) ∧ Aside0 (kq ≤ kj101) ∧ Aside0 (Below w.heap.size w wc))
       case first => as_aux_lemma =>
        have H := HC145.out
        clear HC145
        by_cases c146 : t466 = true
        ·subst c146
         have H1 : ((impl_TurnParts.f kj101 t462 t465).bind fun bt500 => ((impl_BreaksOf.f kj101 bt500.1).bind fun bt504 => ((impl_FarthestBinding.f kj101 (t462.length : Int)).bind fun bt506 => (if (t465.length : Int) = t473 then (if bt500.2 = true then (if bt504.2 = true then (if bt504.1 = 0 then (if (wrap64 (2 * t473)) < t477 then (j2 kj101 l1 t462 t465 t473 true) else (if t473 > (wrap64 ((t462.length : Int) + 1)) then (j2 kj101 l1 t462 t465 t473 true) else (if bt506.2.2 = true then (if t473 > bt506.2.1 then (j2 kj101 l1 t462 t465 t473 true) else (j2 kj101 l1 t462 t465 t473 ((t473 == 0) != (t477 == 0)))) else (j2 kj101 l1 t462 t465 t473 true)))) else (j2 kj101 l1 t462 t465 t473 true)) else (j2 kj101 l1 t462 t465 t473 true)) else (j2 kj101 l1 t462 t465 t473 true)) else (j2 kj101 l1 t462 t465 t473 true))))) = some r := by rw [if_pos rfl] at H; exact H
         clear H
         have H := H1
         clear H1
         replace H := Option.bind_eq_some_iff.mp H
         obtain ⟨⟨t500, t501⟩, A1470, H⟩ := H
         replace H : ((impl_BreaksOf.f kj101 t500).bind fun bt504 => ((impl_FarthestBinding.f kj101 (t462.length : Int)).bind fun bt506 => (if (t465.length : Int) = t473 then (if t501 = true then (if bt504.2 = true then (if bt504.1 = 0 then (if (wrap64 (2 * t473)) < t477 then (j2 kj101 l1 t462 t465 t473 true) else (if t473 > (wrap64 ((t462.length : Int) + 1)) then (j2 kj101 l1 t462 t465 t473 true) else (if bt506.2.2 = true then (if t473 > bt506.2.1 then (j2 kj101 l1 t462 t465 t473 true) else (j2 kj101 l1 t462 t465 t473 ((t473 == 0) != (t477 == 0)))) else (j2 kj101 l1 t462 t465 t473 true)))) else (j2 kj101 l1 t462 t465 t473 true)) else (j2 kj101 l1 t462 t465 t473 true)) else (j2 kj101 l1 t462 t465 t473 true)) else (j2 kj101 l1 t462 t465 t473 true)))) = some r := H
         have A147 := Az_ A1470
         clear A1470
         replace H := Option.bind_eq_some_iff.mp H
         obtain ⟨⟨t504, t505⟩, A1480, H⟩ := H
         replace H : ((impl_FarthestBinding.f kj101 (t462.length : Int)).bind fun bt506 => (if (t465.length : Int) = t473 then (if t501 = true then (if t505 = true then (if t504 = 0 then (if (wrap64 (2 * t473)) < t477 then (j2 kj101 l1 t462 t465 t473 true) else (if t473 > (wrap64 ((t462.length : Int) + 1)) then (j2 kj101 l1 t462 t465 t473 true) else (if bt506.2.2 = true then (if t473 > bt506.2.1 then (j2 kj101 l1 t462 t465 t473 true) else (j2 kj101 l1 t462 t465 t473 ((t473 == 0) != (t477 == 0)))) else (j2 kj101 l1 t462 t465 t473 true)))) else (j2 kj101 l1 t462 t465 t473 true)) else (j2 kj101 l1 t462 t465 t473 true)) else (j2 kj101 l1 t462 t465 t473 true)) else (j2 kj101 l1 t462 t465 t473 true))) = some r := H
         have A148 := Az_ A1480
         clear A1480
         replace H := Option.bind_eq_some_iff.mp H
         obtain ⟨⟨t506, t507, t508⟩, A1490, H⟩ := H
         replace H : (if (t465.length : Int) = t473 then (if t501 = true then (if t505 = true then (if t504 = 0 then (if (wrap64 (2 * t473)) < t477 then (j2 kj101 l1 t462 t465 t473 true) else (if t473 > (wrap64 ((t462.length : Int) + 1)) then (j2 kj101 l1 t462 t465 t473 true) else (if t508 = true then (if t473 > t507 then (j2 kj101 l1 t462 t465 t473 true) else (j2 kj101 l1 t462 t465 t473 ((t473 == 0) != (t477 == 0)))) else (j2 kj101 l1 t462 t465 t473 true)))) else (j2 kj101 l1 t462 t465 t473 true)) else (j2 kj101 l1 t462 t465 t473 true)) else (j2 kj101 l1 t462 t465 t473 true)) else (j2 kj101 l1 t462 t465 t473 true)) = some r := H
         have A149 := Az_ A1490
         clear A1490
         have HC150 := Az_ H
         clear H
         obtain ⟨Ao151, co151, eo151⟩ := Kd.S_slice HO_6.out
         subst eo151
         go_upto_region 25 with (first | ((with_reducible refine gate_callee (f := 46) rfl ?_); refine goesL_ (some 278) rfl rfl Try.func46 (by kernel_rfl) rfl #[.slice Ao18 t462.length co18, .slice Ao151 t465.length co151] rfl maz_ ?_; (with_reducible refine (impl_TurnParts.calls kj101 _ _ t462 _ _ t465 t500 t501 _ ?side1 ?side2 ?side3 ?side4 A147.out).mono ?_); (case side1 => exact ucz_ ((Kd.V_reads' HO_5.out).2.2)); (case side2 => exact (Kd.V_reads' HO_5.out).2.1); (case side3 => exact ucz_ ((Kd.S_reads' HO_6.out).2.2)); (case side4 => exact (Kd.S_reads' HO_6.out).2.1); rintro e w152 ⟨v502, rfl, ho0, hb⟩; refine ⟨_, rfl, ?_⟩; have n0_ := Az_ (Kd.V_elder' (by (with_reducible repeat (first | apply Kd.V_alloc | apply Kd.V_drewN | apply Kd.V_drew)); exact HO_5.out) (Kd.R_base ho0) hb); have n1_ := Az_ (Kd.S_elder' (by (with_reducible repeat (first | apply Kd.S_alloc | apply Kd.S_drewN | apply Kd.S_drew)); exact HO_6.out) (Kd.R_base ho0) hb); have n2_ := Az_ (Kd.R_lower ho0 (below_size (ubz_ HB.out))); have n3_ := Az_ (btz_ (ubz_ HB.out) hb); clear HO_5; clear HO_6; clear HB; have HO_5 := n0_; have HO_6 := n1_; have HO503 := n2_; have HB := n3_; clear n0_ n1_ n2_ n3_; (try clear hb); (try clear hb2); (try clear hk); (try clear hi); (try clear ho0); obtain ⟨Ao153, co153, eo153⟩ := Kd.R_slice HO503.out; subst eo153) | ((with_reducible refine gate_callee (f := 35) rfl ?_); refine goesL_ (some 283) rfl rfl Try.func35 (by kernel_rfl) rfl #[.slice Ao153 t500.length co153] rfl maz_ ?_; (with_reducible refine (impl_BreaksOf.calls kj101 (fun k_ => some k_ = (.slice Ao153 t500.length co153 : Value).ownBlock) _ _ t500 t504 t505 _ ?side1 A148.out).mono ?_); (case side1 => exact Kd.R_V (Kd.R_tight rfl (Kd.R_apart' (HO503.out) (Kd.S_typed HO_6.out) (by decide)))); rintro e w154 ⟨rfl, hb⟩; refine ⟨_, rfl, ?_⟩; have n0_ := Az_ (Kd.V_below (by (with_reducible repeat (first | apply Kd.V_alloc | apply Kd.V_drewN | apply Kd.V_drew)); exact HO_5.out) hb); have n1_ := Az_ (Kd.S_below (by (with_reducible repeat (first | apply Kd.S_alloc | apply Kd.S_drewN | apply Kd.S_drew)); exact HO_6.out) hb); have n2_ := Az_ (Kd.R_below (by exact urz_ HO503.out) hb); have n3_ := Az_ (btz_ (ubz_ HB.out) hb); clear HO_5; clear HO_6; clear HO503; clear HB; have HO_5 := n0_; have HO_6 := n1_; have HO503 := n2_; have HB := n3_; clear n0_ n1_ n2_ n3_; (try clear hb); (try clear hb2); (try clear hk); (try clear hi)) | ((with_reducible refine gate_callee (f := 47) rfl ?_); refine goesL_ (some 289) rfl rfl Try.func47 (by kernel_rfl) rfl #[.int .i64 (t462.length : Int)] rfl maz_ ?_; (with_reducible refine (impl_FarthestBinding.calls kj101 (t462.length : Int) t506 t507 t508 _ A149.out).mono ?_); rintro e w155 ⟨v509, rfl, ho0, hb⟩; refine ⟨_, rfl, ?_⟩; have n0_ := Az_ (Kd.V_elder' (by (with_reducible repeat (first | apply Kd.V_alloc | apply Kd.V_drewN | apply Kd.V_drew)); exact HO_5.out) (Kd.R_base ho0) hb); have n1_ := Az_ (Kd.S_elder' (by (with_reducible repeat (first | apply Kd.S_alloc | apply Kd.S_drewN | apply Kd.S_drew)); exact HO_6.out) (Kd.R_base ho0) hb); have n2_ := Az_ (rez_ (by exact urz_ HO503.out) (Kd.R_base ho0) hb); have n3_ := Az_ (Kd.R_lower (Kd.R_new' ho0 (Kd.R_lt (by exact urz_ HO503.out))) (below_size (ubz_ HB.out))); have n4_ := Az_ (btz_ (ubz_ HB.out) hb); clear HO_5; clear HO_6; clear HO503; clear HB; have HO_5 := n0_; have HO_6 := n1_; have HO503 := n2_; have HO510 := n3_; have HB := n4_; clear n0_ n1_ n2_ n3_ n4_; (try clear hb); (try clear hb2); (try clear hk); (try clear hi); (try clear ho0)))
         (try simp only [Act.put, List.setIfInBounds_toArray, List.set_cons_zero, List.set_cons_succ])
         go_cut [337] from 1 to 0 (fun v337 wc => ∃ (kq : Nat) (x337_149 : Bool), v337 = .bool x337_149 ∧ Aside0 (j2 kq l1 t462 t465 t473 x337_149 = some r) ∧ Aside0 (kq ≤ kj101) ∧ Aside0 (Kd.V (Kd.int .i64) 3 wc w.heap.size (fun k_ => some k_ ≠ ((.slice Ao151 t465.length co151) : Value).ownBlock) (.slice Ao18 t462.length co18) t462) ∧ Aside0 (Kd.S (Kd.slice 3 (Kd.int .i64)) 24 wc w.heap.size (fun _ => True) (.slice Ao151 t465.length co151) t465) ∧ Aside0 (Below w.heap.size w wc))
         case first => as_aux_lemma =>
          have H := HC150.out
          clear HC150
          by_cases c156 : (t465.length : Int) = t473
          ·rw [if_pos c156] at H
           have c156b0 : ((t465.length : Int) == t473) = true := beq_iff_eq.mpr c156
           have c156b1 : ((t465.length : Int) != t473) = false := bne_eq_false_iff_eq.mpr c156
           clear c156
           (first | rw [c156b0] | (simp only [i64_w, i32_w]; rw [c156b0]) | skip)
           by_cases c157 : t501 = true
           ·subst c157
            have H1 : (if t505 = true then (if t504 = 0 then (if (wrap64 (2 * t473)) < t477 then (j2 kj101 l1 t462 t465 t473 true) else (if t473 > (wrap64 ((t462.length : Int) + 1)) then (j2 kj101 l1 t462 t465 t473 true) else (if t508 = true then (if t473 > t507 then (j2 kj101 l1 t462 t465 t473 true) else (j2 kj101 l1 t462 t465 t473 ((t473 == 0) != (t477 == 0)))) else (j2 kj101 l1 t462 t465 t473 true)))) else (j2 kj101 l1 t462 t465 t473 true)) else (j2 kj101 l1 t462 t465 t473 true)) = some r := by rw [if_pos rfl] at H; exact H
            clear H
            have H := H1
            clear H1
            by_cases c158 : t505 = true
            ·subst c158
             have H1 : (if t504 = 0 then (if (wrap64 (2 * t473)) < t477 then (j2 kj101 l1 t462 t465 t473 true) else (if t473 > (wrap64 ((t462.length : Int) + 1)) then (j2 kj101 l1 t462 t465 t473 true) else (if t508 = true then (if t473 > t507 then (j2 kj101 l1 t462 t465 t473 true) else (j2 kj101 l1 t462 t465 t473 ((t473 == 0) != (t477 == 0)))) else (j2 kj101 l1 t462 t465 t473 true)))) else (j2 kj101 l1 t462 t465 t473 true)) = some r := by rw [if_pos rfl] at H; exact H
             clear H
             have H := H1
             clear H1
             by_cases c159 : t504 = 0
             ·rw [if_pos c159] at H
              have c159b0 : (t504 == 0) = true := beq_iff_eq.mpr c159
              have c159b1 : (t504 != 0) = false := bne_eq_false_iff_eq.mpr c159
              clear c159
              by_cases c160 : (wrap64 (2 * t473)) < t477
              ·rw [if_pos c160] at H
               exact (laws_FnBindingsTurned.j2_no _ _ _ _ _ _ hrT H).elim
              ·rw [if_neg c160] at H
               have c160b0 := decide_eq_false c160
               clear c160
               by_cases c161 : t473 > (wrap64 ((t462.length : Int) + 1))
               ·rw [if_pos c161] at H
                exact (laws_FnBindingsTurned.j2_no _ _ _ _ _ _ hrT H).elim
               ·rw [if_neg c161] at H
                have c161b0 := decide_eq_false c161
                clear c161
                by_cases c162 : t508 = true
                ·subst c162
                 have H1 : (if t473 > t507 then (j2 kj101 l1 t462 t465 t473 true) else (j2 kj101 l1 t462 t465 t473 ((t473 == 0) != (t477 == 0)))) = some r := by rw [if_pos rfl] at H; exact H
                 clear H
                 have H := H1
                 clear H1
                 by_cases c163 : t473 > t507
                 ·rw [if_pos c163] at H
                  exact (laws_FnBindingsTurned.j2_no _ _ _ _ _ _ hrT H).elim
                 ·rw [if_neg c163] at H
                  have c163b0 := decide_eq_false c163
                  clear c163
                  have H' := Az_ H
                  clear H
                  go_wp2
                  go_meet
                  case rel => exact ⟨_, (((t473 == 0) != (t477 == 0))), qaz_, H', ⟨by have := HJ15.out; have := HJ101.out; first | omega | exact Nat.le_refl _⟩, ⟨by (with_reducible repeat (first | apply Kd.V_alloc | apply Kd.V_drewN | apply Kd.V_drew)); exact Kd.V_mono HO_5.out (fun _ hk => hk.1.1)⟩, ⟨by (with_reducible repeat (first | apply Kd.S_alloc | apply Kd.S_drewN | apply Kd.S_drew)); exact Kd.S_mono HO_6.out (fun _ hk => trivial)⟩, ⟨by exact ubz_ HB.out⟩⟩
                ·replace c162 := Bool.eq_false_iff.mpr c162
                 subst c162
                 have H1 : (j2 kj101 l1 t462 t465 t473 true) = some r := by rw [if_neg (show ¬ (false = true) by decide)] at H; exact H
                 clear H
                 have H := H1
                 exact (laws_FnBindingsTurned.j2_no _ _ _ _ _ _ hrT H).elim
             ·rw [if_neg c159] at H
              exact (laws_FnBindingsTurned.j2_no _ _ _ _ _ _ hrT H).elim
            ·replace c158 := Bool.eq_false_iff.mpr c158
             subst c158
             have H1 : (j2 kj101 l1 t462 t465 t473 true) = some r := by rw [if_neg (show ¬ (false = true) by decide)] at H; exact H
             clear H
             have H := H1
             exact (laws_FnBindingsTurned.j2_no _ _ _ _ _ _ hrT H).elim
           ·replace c157 := Bool.eq_false_iff.mpr c157
            subst c157
            have H1 : (j2 kj101 l1 t462 t465 t473 true) = some r := by rw [if_neg (show ¬ (false = true) by decide)] at H; exact H
            clear H
            have H := H1
            exact (laws_FnBindingsTurned.j2_no _ _ _ _ _ _ hrT H).elim
          ·rw [if_neg c156] at H
           exact (laws_FnBindingsTurned.j2_no _ _ _ _ _ _ hrT H).elim
         case rest => as_aux_lemma =>
          clear HC150
          (try clear c1); (try clear c2); (try clear p2); (try clear c3); (try clear c4); (try clear c5); (try clear c6); (try clear p6); (try clear c7); (try clear c8); (try clear c10); (try clear c11); (try clear c12); (try clear c13); (try clear c14); (try clear c15); (try clear c16); (try clear c28); (try clear c28b0); (try clear c28b1); (try clear c28b2); (try clear c30); (try clear c31); (try clear c31b0); (try clear c31b1); (try clear c31b2); (try clear c32); (try clear c33); (try clear c34); (try clear c34b0); (try clear c34b1); (try clear c35); (try clear c35b0); (try clear c35b1); (try clear c35b2); (try clear c36); (try clear c37); (try clear c38); (try clear c38b0); (try clear c38b1); (try clear c39); (try clear c39b0); (try clear c39b1); (try clear c39b2); (try clear c40); (try clear c42); (try clear c42b0); (try clear c42b1); (try clear c43); (try clear c43b0); (try clear c43b1); (try clear c43b2); (try clear c44); (try clear c45); (try clear c46); (try clear c46b0); (try clear c46b1); (try clear c47); (try clear c47b0); (try clear c47b1); (try clear c47b2); (try clear c51); (try clear c51b0); (try clear c51b1); (try clear c51b2); (try clear c57); (try clear c57b0); (try clear c57b1); (try clear c57b2); (try clear c62); (try clear c62b0); (try clear c62b1); (try clear c62b2); (try clear p64); (try clear c67); (try clear c67b0); (try clear c67b1); (try clear c67b2); (try clear c72); (try clear c73); (try clear c82); (try clear c101); (try clear c103); (try clear c106); (try clear c108); (try clear c109); (try clear c110); (try clear c110b0); (try clear c114); (try clear c114b0); (try clear c118); (try clear c118b0); (try clear c118b1); (try clear c122); (try clear c122b0); (try clear c126); (try clear c126b0); (try clear c130); (try clear c130b0); (try clear c130b1); (try clear c130b2); (try clear c146); (try clear c156); (try clear c156b0); (try clear c156b1); (try clear c157); (try clear c158); (try clear c159); (try clear c159b0); (try clear c159b1); (try clear c160); (try clear c160b0); (try clear c161); (try clear c161b0); (try clear c162); (try clear c163); (try clear c163b0); (try clear p2); (try clear p6); (try clear p64)
          obtain ⟨kq, x337_149, rfl, HA, HJ149, HO_5, HO_6, HB⟩ := hcut
          cases kq with
          | zero => exact absurd HA.out (by simp [j2])
          | succ kj149 =>
           have H := HA.out
           clear HA
           simp only [j2] at H
           by_cases c164 : x337_149 = true
           ·subst c164
            have H1 : (some false) = some r := by rw [if_pos rfl] at H; exact H
            clear H
            have H := H1
            clear H1
            exact absurd ((Option.some.inj H).trans hrT) (by decide)
           ·replace c164 := Bool.eq_false_iff.mpr c164
            subst c164
            have H1 : (if t473 > 0 then (if 0 < (t465.length : Int) then (if 0 < ((rd_L2 t465 0).length : Int) then (if 1 < ((rd_L2 t465 0).length : Int) then ((impl_TurnPart.f kj149 t462 (rd (rd_L2 t465 0) 0) (rd (rd_L2 t465 0) 1)).bind fun bt515 => ((impl_FewestTurns.f kj149 bt515.1).bind fun bt519 => (if bt515.2 = true then (if bt519.2 = true then (if bt519.1 = (wrap64 (t473 - 1)) then (j3 kj149 l1) else (some false)) else (some false)) else (some false)))) else (none)) else (none)) else (none)) else (j3 kj149 l1)) = some r := by rw [if_neg (show ¬ (false = true) by decide)] at H; exact H
            clear H
            have H := H1
            clear H1
            by_cases c165 : t473 > 0
            ·rw [if_pos c165] at H
             have c165b0 := decide_eq_true c165
             clear c165
             by_cases c166 : 0 < (t465.length : Int)
             ·rw [if_pos c166] at H
              have c166b0 := decide_eq_true c166
              have c166b1 : decide (0 < t465.length) = true := decide_eq_true (by omega)
              clear c166
              by_cases c167 : 0 < ((rd_L2 t465 0).length : Int)
              ·rw [if_pos c167] at H
               have c167b0 := decide_eq_true c167
               have c167b1 : decide (0 < (rd_L2 t465 0).length) = true := decide_eq_true (by omega)
               clear c167
               by_cases c168 : 1 < ((rd_L2 t465 0).length : Int)
               ·rw [if_pos c168] at H
                have c168b0 := decide_eq_true c168
                have c168b1 : decide (1 < (rd_L2 t465 0).length) = true := decide_eq_true (by omega)
                clear c168
                replace H := Option.bind_eq_some_iff.mp H
                obtain ⟨⟨t515, t516⟩, A1690, H⟩ := H
                replace H : ((impl_FewestTurns.f kj149 t515).bind fun bt519 => (if t516 = true then (if bt519.2 = true then (if bt519.1 = (wrap64 (t473 - 1)) then (j3 kj149 l1) else (some false)) else (some false)) else (some false))) = some r := H
                have A169 := Az_ A1690
                clear A1690
                replace H := Option.bind_eq_some_iff.mp H
                obtain ⟨⟨t519, t520⟩, A1700, H⟩ := H
                replace H : (if t516 = true then (if t520 = true then (if t519 = (wrap64 (t473 - 1)) then (j3 kj149 l1) else (some false)) else (some false)) else (some false)) = some r := H
                have A170 := Az_ A1700
                clear A1700
                by_cases c171 : t516 = true
                ·subst c171
                 have H1 : (if t520 = true then (if t519 = (wrap64 (t473 - 1)) then (j3 kj149 l1) else (some false)) else (some false)) = some r := by rw [if_pos rfl] at H; exact H
                 clear H
                 have H := H1
                 clear H1
                 by_cases c172 : t520 = true
                 ·subst c172
                  have H1 : (if t519 = (wrap64 (t473 - 1)) then (j3 kj149 l1) else (some false)) = some r := by rw [if_pos rfl] at H; exact H
                  clear H
                  have H := H1
                  clear H1
                  by_cases c173 : t519 = (wrap64 (t473 - 1))
                  ·rw [if_pos c173] at H
                   have c173b0 : (t519 == (wrap64 (t473 - 1))) = true := beq_iff_eq.mpr c173
                   have c173b1 : (t519 != (wrap64 (t473 - 1))) = false := bne_eq_false_iff_eq.mpr c173
                   clear c173
                   have H' := Az_ H
                   clear H
                   try go_wp2
                   have n0_ := Az_ (Kd.V_drew HO_5.out)
                   have n1_ := Az_ (Kd.S_drew HO_6.out)
                   have n2_ := Az_ (bdz_ HB.out)
                   clear HO_5 HO_6 HB
                   have HO_5 := n0_
                   have HO_6 := n1_
                   have HB := n2_
                   clear n0_ n1_ n2_
                   have p511 : 0 ≤ (0 : Int) := (by omega)
                   have q511 : 0 < (t465.length : Int) := of_decide_eq_true asz_
                   obtain ⟨ad511, A511_0, c511_0, e511, hx511_0, hl511_0, hi511_0⟩ := at_L2 (Kd.S_reads' HO_6.out).2.2 0 p511 q511
                   cases e511
                   obtain ⟨ce511, hce511, hMe511, hcc511⟩ := Kd.S_get HO_6.out [] 0 p511 (by first | exact q511 | exact of_decide_eq_true asz_ | (have e_ := (Kd.S_reads' HO_6.out).1; omega))
                   obtain ⟨ve511_0, rfl, ge511_0⟩ := hMe511
                   have hv511_0 := hcc511 0 _ rfl
                   rw [Nat.add_zero, show ((Kd.slice 3 (Kd.int .i64))).sz = 1 from rfl, Nat.mul_one] at hv511_0
                   replace hv511_0 := Option.some.inj (hv511_0.symm.trans hx511_0)
                   rw [hv511_0] at ge511_0
                   have HL511_0 := Az_ (show Kd.R (Kd.int .i64) 3 _ _ _ _ (rd_L2 t465 0) from ge511_0)
                   clear hv511_0 ge511_0 hcc511 hce511
                   have qi511 : (0 < t465.length) = True := eq_true (by omega)
                   (try rw [show ((0 : Int)).toNat = 0 from rfl] at hx511_0)
                   (try rw [Addr.add_zero'] at hx511_0)
                   have HR511_0 := Az_ hi511_0
                   have HC511_0 := Az_ hl511_0
                   clear hi511_0 hl511_0
                   replace p511 := eq_true p511
                   replace q511 := eq_true q511
                   have p512 : 0 ≤ (0 : Int) := (by omega)
                   have q512 : 0 < ((rd_L2 t465 0).length : Int) := of_decide_eq_true asz_
                   obtain ⟨ad512, e512, hx512_0⟩ := Kd.at_int (by repeat (first | (with_reducible exact HR511_0.out) | (with_reducible refine Kd.C_alloc ?_ _) | (with_reducible refine Kd.C_drewN ?_ _) | (with_reducible refine Kd.C_drew ?_) | exact HR511_0.out)) 0 p512 q512
                   cases e512
                   have qi512 : (0 < (rd_L2 t465 0).length) = True := eq_true (by omega)
                   (try rw [show ((0 : Int)).toNat = 0 from rfl] at hx512_0)
                   (try rw [Addr.add_zero'] at hx512_0)
                   replace p512 := eq_true p512
                   replace q512 := eq_true q512
                   have p513 : 0 ≤ (0 : Int) := (by omega)
                   have q513 : 0 < (t465.length : Int) := of_decide_eq_true asz_
                   obtain ⟨ad513, A513_0, c513_0, e513, hx513_0, hl513_0, hi513_0⟩ := at_L2 (Kd.S_reads' HO_6.out).2.2 0 p513 q513
                   obtain rfl : ad511 = ad513 := (by injection e513)
                   obtain ⟨ce513, hce513, hMe513, hcc513⟩ := Kd.S_get HO_6.out [] 0 p513 (by first | exact q513 | exact of_decide_eq_true asz_ | (have e_ := (Kd.S_reads' HO_6.out).1; omega))
                   obtain ⟨ve513_0, rfl, ge513_0⟩ := hMe513
                   have hv513_0 := hcc513 0 _ rfl
                   rw [Nat.add_zero, show ((Kd.slice 3 (Kd.int .i64))).sz = 1 from rfl, Nat.mul_one] at hv513_0
                   replace hv513_0 := Option.some.inj (hv513_0.symm.trans hx513_0)
                   rw [hv513_0] at ge513_0
                   have HL513_0 := Az_ (show Kd.R (Kd.int .i64) 3 _ _ _ _ (rd_L2 t465 0) from ge513_0)
                   clear hv513_0 ge513_0 hcc513 hce513
                   have qi513 : (0 < t465.length) = True := eq_true (by omega)
                   (try rw [show ((0 : Int)).toNat = 0 from rfl] at hx513_0)
                   (try rw [Addr.add_zero'] at hx513_0)
                   have HR513_0 := Az_ hi513_0
                   have HC513_0 := Az_ hl513_0
                   clear hi513_0 hl513_0
                   replace p513 := eq_true p513
                   replace q513 := eq_true q513
                   have ea_ := Option.some.inj (hx511_0.symm.trans hx513_0)
                   injection ea_ with ea_ en_ ec_
                   subst ea_
                   subst ec_
                   clear en_
                   have p514 : 0 ≤ (1 : Int) := (by omega)
                   have q514 : 1 < ((rd_L2 t465 0).length : Int) := of_decide_eq_true asz_
                   obtain ⟨ad514, e514, hx514_0⟩ := Kd.at_int (by repeat (first | (with_reducible exact HR513_0.out) | (with_reducible refine Kd.C_alloc ?_ _) | (with_reducible refine Kd.C_drewN ?_ _) | (with_reducible refine Kd.C_drew ?_) | exact HR513_0.out)) 1 p514 q514
                   cases e514
                   (try simp only [show (1 : Int).toNat = 1 from rfl, Nat.reduceMul, Nat.reduceEqDiff, Go.Addr.add, ↓reduceIte] at hx514_0)
                   have qi514 : (1 < (rd_L2 t465 0).length) = True := eq_true (by omega)
                   (try rw [show ((1 : Int)).toNat = 1 from rfl] at hx514_0)
                   replace p514 := eq_true p514
                   replace q514 := eq_true q514
                   refine start_ (n := 17) (S := fun w' => w'.cell? ad511 = some (.slice (some ad512) (rd_L2 t465 0).length c511_0) ∧ w'.cell? ad512 = some (.int .i64 (rd (rd_L2 t465 0) 0)) ∧ w'.cell? ad511 = some (.slice (some ad512) (rd_L2 t465 0).length c511_0) ∧ w'.cell? ⟨ad512.block, ad512.off + 1, none⟩ = some (.int .i64 (rd (rd_L2 t465 0) 1))) (ds := []) #[false, false, false, false, false, false, false, false, false, false, false, false, false, false, false, false, false] (by kernel_rfl) rfl rfl ⟨hx511_0, hx512_0, hx513_0, hx514_0⟩ (fun hHeld => ?_); refine with_tabW laws_FnBindingsTurned.tab28 laws_FnBindingsTurned.bits28 (fun HT_ HW_ => ?_)
                   generalize wc.drew = w174 at HO_5 HO_6 HB HL511_0 HL513_0 HR511_0 HR513_0 hx511_0 hx512_0 hx513_0 hx514_0 hHeld ⊢
                   refine pure_ (i := 0) (N := some 341) (v := ?_) (a' := ?_) #[true, false, false, false, false, false, false, false, false, false, false, false, false, false, false, false, false] rfl rfl (any_of HT_.out (by kernel_rfl)) (fun _ _ _ h => h) (Or.inl ⟨by rfl, ?_⟩) ?_ ?_
                   rotate_left
                   ·intro w'
                    go_simp
                    with_reducible rfl
                   rotate_left
                   ·simp only [Act.put, usz_, utz_, uvz_, i64_w, i32_w]
                    rfl
                   refine pure_ (i := 1) (N := some 342) (v := ?_) (a' := ?_) #[true, true, false, false, false, false, false, false, false, false, false, false, false, false, false, false, false] rfl rfl (any_of HT_.out (by kernel_rfl)) (fun _ _ _ h => h) (Or.inl ⟨by rfl, ?_⟩) ?_ ?_
                   rotate_left
                   ·intro w'
                    go_simp
                    with_reducible rfl
                   rotate_left
                   ·simp only [Act.put, usz_, utz_, uvz_, i64_w, i32_w]
                    rfl
                   refine pure_ (i := 2) (N := some 343) (v := ?_) (a' := ?_) #[true, true, true, false, false, false, false, false, false, false, false, false, false, false, false, false, false] rfl rfl (any_of HT_.out (by kernel_rfl)) (fun _ _ _ h => h) (Or.inl ⟨by rfl, ?_⟩) ?_ ?_
                   rotate_left
                   ·intro w'
                    go_simp
                    with_reducible rfl
                   rotate_left
                   ·simp only [Act.put, usz_, utz_, uvz_, i64_w, i32_w]
                    rfl
                   refine pure_ (i := 6) (N := some 347) (v := ?_) (a' := ?_) #[true, true, true, false, false, false, true, false, false, false, false, false, false, false, false, false, false] rfl rfl (any_of HT_.out (by kernel_rfl)) (fun _ _ _ h => h) (Or.inl ⟨by rfl, ?_⟩) ?_ ?_
                   rotate_left
                   ·intro w'
                    go_simp
                    with_reducible rfl
                   rotate_left
                   ·simp only [Act.put, usz_, utz_, uvz_, i64_w, i32_w]
                    rfl
                   refine pure_ (i := 7) (N := some 348) (v := ?_) (a' := ?_) #[true, true, true, false, false, false, true, true, false, false, false, false, false, false, false, false, false] rfl rfl (any_of HT_.out (by kernel_rfl)) (fun _ _ _ h => h) (Or.inl ⟨by rfl, ?_⟩) ?_ ?_
                   rotate_left
                   ·intro w'
                    go_simp
                    with_reducible rfl
                   rotate_left
                   ·simp only [Act.put, usz_, utz_, uvz_, i64_w, i32_w]
                    rfl
                   refine take_ (i := 3) (N := some 344) (v := ?_) (a' := ?_) #[true, true, true, true, false, false, true, true, false, false, false, false, false, false, false, false, false] rfl rfl (take_ofW HT_.out HW_.out (by kernel_rfl)) (fun _ _ _ h => h) (Or.inl ⟨by rfl, ?_⟩) hHeld ?_ ?_
                   rotate_left
                   ·rintro w' ⟨s0, s1, s2, s3⟩
                    go_simp
                    with_reducible rfl
                   rotate_left
                   ·simp only [Act.put, usz_, utz_, uvz_, i64_w, i32_w]
                    rfl
                   refine pure_ (i := 4) (N := some 345) (v := ?_) (a' := ?_) #[true, true, true, true, true, false, true, true, false, false, false, false, false, false, false, false, false] rfl rfl (any_of HT_.out (by kernel_rfl)) (fun _ _ _ h => h) (Or.inl ⟨by rfl, ?_⟩) ?_ ?_
                   rotate_left
                   ·intro w'
                    go_simp
                    with_reducible rfl
                   rotate_left
                   ·simp only [Act.put, usz_, utz_, uvz_, i64_w, i32_w]
                    rfl
                   refine take_ (i := 5) (N := some 346) (v := ?_) (a' := ?_) #[true, true, true, true, true, true, true, true, false, false, false, false, false, false, false, false, false] rfl rfl (take_ofW HT_.out HW_.out (by kernel_rfl)) (fun _ _ _ h => h) (Or.inl ⟨by rfl, ?_⟩) hHeld ?_ ?_
                   rotate_left
                   ·rintro w' ⟨s0, s1, s2, s3⟩
                    go_simp
                    with_reducible rfl
                   rotate_left
                   ·simp only [Act.put, usz_, utz_, uvz_, i64_w, i32_w]
                    rfl
                   refine take_ (i := 8) (N := some 349) (v := ?_) (a' := ?_) #[true, true, true, true, true, true, true, true, true, false, false, false, false, false, false, false, false] rfl rfl (take_ofW HT_.out HW_.out (by kernel_rfl)) (fun _ _ _ h => h) (Or.inl ⟨by rfl, ?_⟩) hHeld ?_ ?_
                   rotate_left
                   ·rintro w' ⟨s0, s1, s2, s3⟩
                    go_simp
                    with_reducible rfl
                   rotate_left
                   ·simp only [Act.put, usz_, utz_, uvz_, i64_w, i32_w]
                    rfl
                   refine pure_ (i := 9) (N := some 350) (v := ?_) (a' := ?_) #[true, true, true, true, true, true, true, true, true, true, false, false, false, false, false, false, false] rfl rfl (any_of HT_.out (by kernel_rfl)) (fun _ _ _ h => h) (Or.inl ⟨by rfl, ?_⟩) ?_ ?_
                   rotate_left
                   ·intro w'
                    go_simp
                    with_reducible rfl
                   rotate_left
                   ·simp only [Act.put, usz_, utz_, uvz_, i64_w, i32_w]
                    rfl
                   refine take_ (i := 10) (N := some 351) (v := ?_) (a' := ?_) #[true, true, true, true, true, true, true, true, true, true, true, false, false, false, false, false, false] rfl rfl (take_ofW HT_.out HW_.out (by kernel_rfl)) (fun _ _ _ h => h) (Or.inl ⟨by rfl, ?_⟩) hHeld ?_ ?_
                   rotate_left
                   ·rintro w' ⟨s0, s1, s2, s3⟩
                    go_simp
                    with_reducible rfl
                   rotate_left
                   ·simp only [Act.put, usz_, utz_, uvz_, i64_w, i32_w]
                    rfl
                   refine one_ (i := 11) (N := some 352) #[true, true, true, true, true, true, true, true, true, true, true, true, false, false, false, false, false] rfl rfl (one_of HT_.out (by kernel_rfl)) (by decide) (fun K hK => ?_)
                   refine goes_ Try.func48 (by kernel_rfl) rfl #[.slice Ao18 t462.length co18, .int .i64 (rd (rd_L2 t465 0) 0), .int .i64 (rd (rd_L2 t465 0) 1)] (by rfl) rfl rfl maz_ ?_
                   with_reducible refine (impl_TurnPart.calls kj149 _ _ t462 (rd (rd_L2 t465 0) 0) (rd (rd_L2 t465 0) 1) t515 true _ ?side1 ?side2 A169.out).mono ?_
                   (case side1 => repeat (first | exact (Kd.V_reads' HO_5.out).2.2 | (with_reducible refine Kd.C_alloc ?_ _) | (with_reducible refine Kd.C_drewN ?_ _) | (with_reducible refine Kd.C_drew ?_)))
                   (case side2 => exact (Kd.V_reads' HO_5.out).2.1)
                   rintro e w175 ⟨v517, rfl, ho0, hb⟩
                   have HS0_ := (hb.cell (World.block_lt_of_cell? _ _ (hHeld.1))).trans (hHeld.1)
                   have HS1_ := (hb.cell (World.block_lt_of_cell? _ _ (hHeld.2.1))).trans (hHeld.2.1)
                   have HS2_ := (hb.cell (World.block_lt_of_cell? _ _ (hHeld.2.2.1))).trans (hHeld.2.2.1)
                   have HS3_ := (hb.cell (World.block_lt_of_cell? _ _ (hHeld.2.2.2))).trans (hHeld.2.2.2)
                   refine ⟨_, rfl, ?_⟩
                   have n0_ := Az_ (Kd.V_elder' (by (with_reducible repeat (first | apply Kd.V_alloc | apply Kd.V_drewN | apply Kd.V_drew)); exact HO_5.out) (Kd.R_base ho0) hb)
                   have n1_ := Az_ (Kd.S_elder' (by (with_reducible repeat (first | apply Kd.S_alloc | apply Kd.S_drewN | apply Kd.S_drew)); exact HO_6.out) (Kd.R_base ho0) hb)
                   have n2_ := Az_ (rez_ (by (with_reducible repeat (first | apply raz_ | apply rnz_ | apply rdz_)); exact HL511_0.out) (Kd.R_base ho0) hb)
                   have n3_ := Az_ (rez_ (by (with_reducible repeat (first | apply raz_ | apply rnz_ | apply rdz_)); exact HL513_0.out) (Kd.R_base ho0) hb)
                   have n4_ := Az_ (Kd.R_lower (Kd.R_new' (Kd.R_new' ho0 (Kd.R_lt (by (with_reducible repeat (first | apply raz_ | apply rnz_ | apply rdz_)); exact HL511_0.out))) (Kd.R_lt (by (with_reducible repeat (first | apply raz_ | apply rnz_ | apply rdz_)); exact HL513_0.out))) (below_size (ubz_ HB.out)))
                   have n5_ := Az_ (Kd.C_below (by repeat (first | (with_reducible exact HR511_0.out) | (with_reducible refine Kd.C_alloc ?_ _) | (with_reducible refine Kd.C_drewN ?_ _) | (with_reducible refine Kd.C_drew ?_) | exact HR511_0.out)) hb)
                   have n6_ := Az_ (Kd.C_below (by repeat (first | (with_reducible exact HR513_0.out) | (with_reducible refine Kd.C_alloc ?_ _) | (with_reducible refine Kd.C_drewN ?_ _) | (with_reducible refine Kd.C_drew ?_) | exact HR513_0.out)) hb)
                   have n7_ := Az_ (btz_ (ubz_ HB.out) hb)
                   clear HO_5 HO_6 HL511_0 HL513_0 HR511_0 HR513_0 HB
                   have HO_5 := n0_
                   have HO_6 := n1_
                   have HL511_0 := n2_
                   have HL513_0 := n3_
                   have HO518 := n4_
                   have HR511_0 := n5_
                   have HR513_0 := n6_
                   have HB := n7_
                   clear n0_ n1_ n2_ n3_ n4_ n5_ n6_ n7_
                   (try clear hb)
                   (try clear hb2)
                   (try clear hk)
                   (try clear hi)
                   (try clear ho0)
                   refine hK.out _ _ ⟨HS0_, HS1_, HS2_, HS3_⟩ (fun hHeld => ?_)
                   clear hK K
                   refine norm_ (a' := ?_) ?_ ?_
                   rotate_left
                   ·show Act.put _ (some 352) _ = _
                    simp only [Act.put, usz_, utz_, uvz_, i64_w, i32_w]
                    rfl
                   refine pure_ (i := 12) (N := some 340) (v := ?_) (a' := ?_) #[true, true, true, true, true, true, true, true, true, true, true, true, true, false, false, false, false] rfl rfl (any_of HT_.out (by kernel_rfl)) (fun _ _ _ h => h) (Or.inl ⟨by rfl, ?_⟩) ?_ ?_
                   rotate_left
                   ·intro w'
                    go_simp
                    with_reducible rfl
                   rotate_left
                   ·simp only [Act.put, usz_, utz_, uvz_, i64_w, i32_w]
                    rfl
                   refine pure_ (i := 13) (N := some 353) (v := ?_) (a' := ?_) #[true, true, true, true, true, true, true, true, true, true, true, true, true, true, false, false, false] rfl rfl (any_of HT_.out (by kernel_rfl)) (fun _ _ _ h => h) (Or.inl ⟨by rfl, ?_⟩) ?_ ?_
                   rotate_left
                   ·intro w'
                    go_simp
                    with_reducible rfl
                   rotate_left
                   ·simp only [Act.put, usz_, utz_, uvz_, i64_w, i32_w]
                    rfl
                   refine pure_ (i := 14) (N := some 354) (v := ?_) (a' := ?_) #[true, true, true, true, true, true, true, true, true, true, true, true, true, true, true, false, false] rfl rfl (any_of HT_.out (by kernel_rfl)) (fun _ _ _ h => h) (Or.inl ⟨by rfl, ?_⟩) ?_ ?_
                   rotate_left
                   ·intro w'
                    go_simp
                    with_reducible rfl
                   rotate_left
                   ·simp only [Act.put, usz_, utz_, uvz_, i64_w, i32_w]
                    rfl
                   refine pure_ (i := 15) (N := some 37) (v := ?_) (a' := ?_) #[true, true, true, true, true, true, true, true, true, true, true, true, true, true, true, true, false] rfl rfl (any_of HT_.out (by kernel_rfl)) (fun _ _ _ h => h) (Or.inl ⟨by rfl, ?_⟩) ?_ ?_
                   rotate_left
                   ·intro w'
                    go_simp
                    with_reducible rfl
                   rotate_left
                   ·simp only [Act.put, usz_, utz_, uvz_, i64_w, i32_w]
                    rfl
                   refine pure_ (i := 16) (N := some 38) (v := ?_) (a' := ?_) #[true, true, true, true, true, true, true, true, true, true, true, true, true, true, true, true, true] rfl rfl (any_of HT_.out (by kernel_rfl)) (fun _ _ _ h => h) (Or.inl ⟨by rfl, ?_⟩) ?_ ?_
                   rotate_left
                   ·intro w'
                    go_simp
                    with_reducible rfl
                   rotate_left
                   ·simp only [Act.put, usz_, utz_, uvz_, i64_w, i32_w]
                    rfl
                   refine done_ (done_of HT_.out (by kernel_rfl)) ?_
                   obtain ⟨Ao176, co176, eo176⟩ := Kd.R_slice HO518.out
                   subst eo176
                   try go_wp2_with (first | ((with_reducible refine gate_callee (f := 33) rfl ?_); refine goesL_ (some 357) rfl rfl Try.func33 (by kernel_rfl) rfl #[.slice Ao176 t515.length co176] rfl maz_ ?_; (with_reducible refine (impl_FewestTurns.calls kj149 _ _ t515 t519 true _ ?side1 ?side2 A170.out).mono ?_); (case side1 => exact ucz_ ((Kd.R_reads' HO518.out).2.2)); (case side2 => exact (Kd.R_reads' HO518.out).2.1); rintro e w177 ⟨rfl, hb⟩; refine ⟨_, rfl, ?_⟩; have n0_ := Az_ (Kd.V_below (by (with_reducible repeat (first | apply Kd.V_alloc | apply Kd.V_drewN | apply Kd.V_drew)); exact HO_5.out) hb); have n1_ := Az_ (Kd.S_below (by (with_reducible repeat (first | apply Kd.S_alloc | apply Kd.S_drewN | apply Kd.S_drew)); exact HO_6.out) hb); have n2_ := Az_ (Kd.R_below (by (with_reducible repeat (first | apply raz_ | apply rnz_ | apply rdz_)); exact HL511_0.out) hb); have n3_ := Az_ (Kd.R_below (by (with_reducible repeat (first | apply raz_ | apply rnz_ | apply rdz_)); exact HL513_0.out) hb); have n4_ := Az_ (Kd.R_below (by exact urz_ HO518.out) hb); have n5_ := Az_ (Kd.C_below (by repeat (first | (with_reducible exact HR511_0.out) | (with_reducible refine Kd.C_alloc ?_ _) | (with_reducible refine Kd.C_drewN ?_ _) | (with_reducible refine Kd.C_drew ?_) | exact HR511_0.out)) hb); have n6_ := Az_ (Kd.C_below (by repeat (first | (with_reducible exact HR513_0.out) | (with_reducible refine Kd.C_alloc ?_ _) | (with_reducible refine Kd.C_drewN ?_ _) | (with_reducible refine Kd.C_drew ?_) | exact HR513_0.out)) hb); have n7_ := Az_ (btz_ (ubz_ HB.out) hb); clear HO_5; clear HO_6; clear HL511_0; clear HL513_0; clear HO518; clear HR511_0; clear HR513_0; clear HB; have HO_5 := n0_; have HO_6 := n1_; have HL511_0 := n2_; have HL513_0 := n3_; have HO518 := n4_; have HR511_0 := n5_; have HR513_0 := n6_; have HB := n7_; clear n0_ n1_ n2_ n3_ n4_ n5_ n6_ n7_; (try clear hb); (try clear hb2); (try clear hk); (try clear hi)))
                   go_meet
                   case rel => exact ⟨_, H', ⟨by have := HJ15.out; have := HJ101.out; have := HJ149.out; first | omega | exact Nat.le_refl _⟩, ⟨by exact ubz_ HB.out⟩⟩
                  ·rw [if_neg c173] at H
                   have c173b0 : (t519 == (wrap64 (t473 - 1))) = false := beq_eq_false_iff_ne.mpr c173
                   have c173b1 : (t519 != (wrap64 (t473 - 1))) = true := bne_iff_ne.mpr c173
                   exact absurd ((Option.some.inj H).trans hrT) (by decide)
                 ·replace c172 := Bool.eq_false_iff.mpr c172
                  subst c172
                  have H1 : (some false) = some r := by rw [if_neg (show ¬ (false = true) by decide)] at H; exact H
                  clear H
                  have H := H1
                  clear H1
                  exact absurd ((Option.some.inj H).trans hrT) (by decide)
                ·replace c171 := Bool.eq_false_iff.mpr c171
                 subst c171
                 have H1 : (some false) = some r := by rw [if_neg (show ¬ (false = true) by decide)] at H; exact H
                 clear H
                 have H := H1
                 clear H1
                 exact absurd ((Option.some.inj H).trans hrT) (by decide)
               ·rw [if_neg c168] at H
                exact absurd H (by simp)
              ·rw [if_neg c167] at H
               exact absurd H (by simp)
             ·rw [if_neg c166] at H
              exact absurd H (by simp)
            ·rw [if_neg c165] at H
             have c165b0 := decide_eq_false c165
             clear c165
             have H' := Az_ H
             clear H
             go_wp2
             go_meet
             case rel => exact ⟨_, H', ⟨by have := HJ15.out; have := HJ101.out; have := HJ149.out; first | omega | exact Nat.le_refl _⟩, ⟨by exact ubz_ HB.out⟩⟩
        ·replace c146 := Bool.eq_false_iff.mpr c146
         subst c146
         have H1 : (j3 kj101 l1) = some r := by rw [if_neg (show ¬ (false = true) by decide)] at H; exact H
         clear H
         have H := H1
         clear H1
         have H' := Az_ H
         clear H
         go_wp2
         go_meet
         case rel => exact ⟨_, H', ⟨by have := HJ15.out; have := HJ101.out; first | omega | exact Nat.le_refl _⟩, ⟨by exact ubz_ HB.out⟩⟩
       case rest => as_aux_lemma =>
        clear HC145
        (try clear c1); (try clear p2); (try clear c3); (try clear c4); (try clear c5); (try clear p5); (try clear q5); (try clear hx5); (try clear qi5); (try clear c14); (try clear c16); (try clear c17); (try clear c33); (try clear c48); (try clear c51); (try clear p51); (try clear q51); (try clear hx51); (try clear qi51); (try clear c146); (try clear c165); (try clear c165b0); (try clear c166); (try clear c167); (try clear c168); (try clear c171); (try clear c172); (try clear hx511_0); (try clear hx512_0); (try clear hx513_0); (try clear hx514_0); (try clear p511); (try clear p512); (try clear p513); (try clear p514); (try clear q511); (try clear q512); (try clear q513); (try clear q514)
        obtain ⟨kq, HA, HJ144, HB⟩ := hcut
        cases kq with
        | zero => exact absurd HA.out (by simp [j3])
        | succ kj144 =>
         have H := HA.out
         clear HA
         simp only [j3] at H
         replace H := Option.bind_eq_some_iff.mp H
         obtain ⟨⟨t521, t524, t525⟩, A1900, H⟩ := H
         replace H : ((impl_TurnPart.f kj144 t521 t524 t525).bind fun bt526 => ((spec_TurnPart.f kj144 t521 t524 t525).bind fun bt530 => ((spec_DrawTurnParts.f kj144 l1).bind fun bt534 => ((impl_TurnParts.f kj144 bt534.1 bt534.2).bind fun bt540 => ((spec_TurnParts.f kj144 bt534.1 bt534.2).bind fun bt544 => (if (bt526.2 != bt530.2) = true then (j4 kj144 t521 t524 t525 bt526.1 bt526.2 bt534.1 bt534.2 bt540.1 bt540.2 true) else ((laws_fSame.f kj144 bt526.1 bt530.1).bind fun t548 => (if t548 = true then (if (bt540.2 != bt544.2) = true then (j4 kj144 t521 t524 t525 bt526.1 bt526.2 bt534.1 bt534.2 bt540.1 bt540.2 true) else ((laws_fSame.f kj144 bt540.1 bt544.1).bind fun t549 => (j4 kj144 t521 t524 t525 bt526.1 bt526.2 bt534.1 bt534.2 bt540.1 bt540.2 (!t549)))) else (j4 kj144 t521 t524 t525 bt526.1 bt526.2 bt534.1 bt534.2 bt540.1 bt540.2 true))))))))) = some r := H
         have A190 := Az_ A1900
         clear A1900
         replace H := Option.bind_eq_some_iff.mp H
         obtain ⟨⟨t526, t527⟩, A1910, H⟩ := H
         replace H : ((spec_TurnPart.f kj144 t521 t524 t525).bind fun bt530 => ((spec_DrawTurnParts.f kj144 l1).bind fun bt534 => ((impl_TurnParts.f kj144 bt534.1 bt534.2).bind fun bt540 => ((spec_TurnParts.f kj144 bt534.1 bt534.2).bind fun bt544 => (if (t527 != bt530.2) = true then (j4 kj144 t521 t524 t525 t526 t527 bt534.1 bt534.2 bt540.1 bt540.2 true) else ((laws_fSame.f kj144 t526 bt530.1).bind fun t548 => (if t548 = true then (if (bt540.2 != bt544.2) = true then (j4 kj144 t521 t524 t525 t526 t527 bt534.1 bt534.2 bt540.1 bt540.2 true) else ((laws_fSame.f kj144 bt540.1 bt544.1).bind fun t549 => (j4 kj144 t521 t524 t525 t526 t527 bt534.1 bt534.2 bt540.1 bt540.2 (!t549)))) else (j4 kj144 t521 t524 t525 t526 t527 bt534.1 bt534.2 bt540.1 bt540.2 true)))))))) = some r := H
         have A191 := Az_ A1910
         clear A1910
         replace H := Option.bind_eq_some_iff.mp H
         obtain ⟨⟨t530, t531⟩, A1920, H⟩ := H
         replace H : ((spec_DrawTurnParts.f kj144 l1).bind fun bt534 => ((impl_TurnParts.f kj144 bt534.1 bt534.2).bind fun bt540 => ((spec_TurnParts.f kj144 bt534.1 bt534.2).bind fun bt544 => (if (t527 != t531) = true then (j4 kj144 t521 t524 t525 t526 t527 bt534.1 bt534.2 bt540.1 bt540.2 true) else ((laws_fSame.f kj144 t526 t530).bind fun t548 => (if t548 = true then (if (bt540.2 != bt544.2) = true then (j4 kj144 t521 t524 t525 t526 t527 bt534.1 bt534.2 bt540.1 bt540.2 true) else ((laws_fSame.f kj144 bt540.1 bt544.1).bind fun t549 => (j4 kj144 t521 t524 t525 t526 t527 bt534.1 bt534.2 bt540.1 bt540.2 (!t549)))) else (j4 kj144 t521 t524 t525 t526 t527 bt534.1 bt534.2 bt540.1 bt540.2 true))))))) = some r := H
         have A192 := Az_ A1920
         clear A1920
         replace H := Option.bind_eq_some_iff.mp H
         obtain ⟨⟨t534, t537⟩, A1930, H⟩ := H
         replace H : ((impl_TurnParts.f kj144 t534 t537).bind fun bt540 => ((spec_TurnParts.f kj144 t534 t537).bind fun bt544 => (if (t527 != t531) = true then (j4 kj144 t521 t524 t525 t526 t527 t534 t537 bt540.1 bt540.2 true) else ((laws_fSame.f kj144 t526 t530).bind fun t548 => (if t548 = true then (if (bt540.2 != bt544.2) = true then (j4 kj144 t521 t524 t525 t526 t527 t534 t537 bt540.1 bt540.2 true) else ((laws_fSame.f kj144 bt540.1 bt544.1).bind fun t549 => (j4 kj144 t521 t524 t525 t526 t527 t534 t537 bt540.1 bt540.2 (!t549)))) else (j4 kj144 t521 t524 t525 t526 t527 t534 t537 bt540.1 bt540.2 true)))))) = some r := H
         have A193 := Az_ A1930
         clear A1930
         replace H := Option.bind_eq_some_iff.mp H
         obtain ⟨⟨t540, t541⟩, A1940, H⟩ := H
         replace H : ((spec_TurnParts.f kj144 t534 t537).bind fun bt544 => (if (t527 != t531) = true then (j4 kj144 t521 t524 t525 t526 t527 t534 t537 t540 t541 true) else ((laws_fSame.f kj144 t526 t530).bind fun t548 => (if t548 = true then (if (t541 != bt544.2) = true then (j4 kj144 t521 t524 t525 t526 t527 t534 t537 t540 t541 true) else ((laws_fSame.f kj144 t540 bt544.1).bind fun t549 => (j4 kj144 t521 t524 t525 t526 t527 t534 t537 t540 t541 (!t549)))) else (j4 kj144 t521 t524 t525 t526 t527 t534 t537 t540 t541 true))))) = some r := H
         have A194 := Az_ A1940
         clear A1940
         replace H := Option.bind_eq_some_iff.mp H
         obtain ⟨⟨t544, t545⟩, A1950, H⟩ := H
         replace H : (if (t527 != t531) = true then (j4 kj144 t521 t524 t525 t526 t527 t534 t537 t540 t541 true) else ((laws_fSame.f kj144 t526 t530).bind fun t548 => (if t548 = true then (if (t541 != t545) = true then (j4 kj144 t521 t524 t525 t526 t527 t534 t537 t540 t541 true) else ((laws_fSame.f kj144 t540 t544).bind fun t549 => (j4 kj144 t521 t524 t525 t526 t527 t534 t537 t540 t541 (!t549)))) else (j4 kj144 t521 t524 t525 t526 t527 t534 t537 t540 t541 true)))) = some r := H
         have A195 := Az_ A1950
         clear A1950
         have HC196 := Az_ H
         clear H
         go_upto_region 38 with (first | ((with_reducible refine gate_callee (f := 49) rfl ?_); refine goesL_ (some 374) rfl rfl Try.func49 (by kernel_rfl) rfl #[.slice A1 l1.length c1] rfl maz_ ?_; (with_reducible refine (spec_DrawTurnPart.calls kj144 _ _ l1 t521 t524 t525 _ ?side1 ?side2 A190.out).mono ?_); (case side1 => exact ucz_ ((Kd.C_below HR1.out HB.out))); (case side2 => exact HC1.out); rintro e w197 ⟨v522, rfl, ho0, hb⟩; refine ⟨_, rfl, ?_⟩; have n0_ := Az_ (Kd.V_lower (Kd.V_mono (ok' := fun k_ => True) ho0 (fun k_ hk_ => trivial)) (below_size (ubz_ HB.out))); have n1_ := Az_ (btz_ (ubz_ HB.out) hb); clear HB; have HO523 := n0_; have HB := n1_; clear n0_ n1_; (try clear hb); (try clear hb2); (try clear hk); (try clear hi); (try clear ho0); obtain ⟨Ao198, co198, eo198⟩ := Kd.V_slice HO523.out; subst eo198) | ((with_reducible refine gate_callee (f := 48) rfl ?_); refine goesL_ (some 382) rfl rfl Try.func48 (by kernel_rfl) rfl #[.slice Ao198 t521.length co198, .int .i64 t524, .int .i64 t525] rfl maz_ ?_; (with_reducible refine (impl_TurnPart.calls kj144 _ _ t521 t524 t525 t526 t527 _ ?side1 ?side2 A191.out).mono ?_); (case side1 => exact ucz_ ((Kd.V_reads' HO523.out).2.2)); (case side2 => exact (Kd.V_reads' HO523.out).2.1); rintro e w199 ⟨v528, rfl, ho0, hb⟩; refine ⟨_, rfl, ?_⟩; have n0_ := Az_ (Kd.V_elder' (by (with_reducible repeat (first | apply Kd.V_alloc | apply Kd.V_drewN | apply Kd.V_drew)); exact HO523.out) (Kd.R_base ho0) hb); have n1_ := Az_ (Kd.R_lower ho0 (below_size (ubz_ HB.out))); have n2_ := Az_ (btz_ (ubz_ HB.out) hb); clear HO523; clear HB; have HO523 := n0_; have HO529 := n1_; have HB := n2_; clear n0_ n1_ n2_; (try clear hb); (try clear hb2); (try clear hk); (try clear hi); (try clear ho0)) | ((with_reducible refine gate_callee (f := 50) rfl ?_); refine goesL_ (some 389) rfl rfl Try.func50 (by kernel_rfl) rfl #[.slice Ao198 t521.length co198, .int .i64 t524, .int .i64 t525] rfl maz_ ?_; (with_reducible refine (spec_TurnPart.calls kj144 _ _ t521 t524 t525 t530 t531 _ ?side1 ?side2 A192.out).mono ?_); (case side1 => exact ucz_ ((Kd.V_reads' HO523.out).2.2)); (case side2 => exact (Kd.V_reads' HO523.out).2.1); rintro e w200 ⟨v532, rfl, ho0, hb⟩; refine ⟨_, rfl, ?_⟩; have n0_ := Az_ (Kd.V_elder' (by (with_reducible repeat (first | apply Kd.V_alloc | apply Kd.V_drewN | apply Kd.V_drew)); exact HO523.out) (Kd.R_base ho0) hb); have n1_ := Az_ (rez_ (by exact urz_ HO529.out) (Kd.R_base ho0) hb); have n2_ := Az_ (Kd.R_lower (Kd.R_new' ho0 (Kd.R_lt (by exact urz_ HO529.out))) (below_size (ubz_ HB.out))); have n3_ := Az_ (btz_ (ubz_ HB.out) hb); clear HO523; clear HO529; clear HB; have HO523 := n0_; have HO529 := n1_; have HO533 := n2_; have HB := n3_; clear n0_ n1_ n2_ n3_; (try clear hb); (try clear hb2); (try clear hk); (try clear hi); (try clear ho0)) | ((with_reducible refine gate_callee (f := 51) rfl ?_); refine goesL_ (some 394) rfl rfl Try.func51 (by kernel_rfl) rfl #[.slice A1 l1.length c1] rfl maz_ ?_; (with_reducible refine (spec_DrawTurnParts.calls kj144 _ _ l1 t534 t537 _ ?side1 ?side2 A193.out).mono ?_); (case side1 => exact ucz_ ((Kd.C_below HR1.out HB.out))); (case side2 => exact HC1.out); rintro e w201 ⟨v535, v538, rfl, ho0, ho1, hb⟩; refine ⟨_, rfl, ?_⟩; have n0_ := Az_ (Kd.V_elder' (by (with_reducible repeat (first | apply Kd.V_alloc | apply Kd.V_drewN | apply Kd.V_drew)); exact HO523.out) (Kd.S_base ho1) hb); have n1_ := Az_ (Kd.R_below (by exact urz_ HO529.out) hb); have n2_ := Az_ (Kd.R_below (by exact urz_ HO533.out) hb); have n3_ := Az_ (Kd.V_lower (Kd.V_mono (ok' := fun k_ => some k_ ≠ (v538 : Value).ownBlock ∧ some k_ ≠ (v528 : Value).ownBlock ∧ some k_ ≠ (v532 : Value).ownBlock) ho0 (fun k_ hk_ => ⟨hk_.2, (Kd.fresh' (Kd.R_lt (by exact urz_ HO529.out)) k_ hk_.1), (Kd.fresh' (Kd.R_lt (by exact urz_ HO533.out)) k_ hk_.1)⟩)) (below_size (ubz_ HB.out))); have n4_ := Az_ (Kd.S_lower (Kd.S_new' (Kd.S_new' (Kd.S_mono (ok' := fun k_ => True) ho1 (fun _ hk_ => trivial)) (Kd.R_lt (by exact urz_ HO529.out))) (Kd.R_lt (by exact urz_ HO533.out))) (below_size (ubz_ HB.out))); have n5_ := Az_ (btz_ (ubz_ HB.out) hb); clear HO523; clear HO529; clear HO533; clear HB; have HO523 := n0_; have HO529 := n1_; have HO533 := n2_; have HO536 := n3_; have HO539 := n4_; have HB := n5_; clear n0_ n1_ n2_ n3_ n4_ n5_; (try clear hb); (try clear hb2); (try clear hk); (try clear hi); (try clear ho0); (try clear ho1); obtain ⟨Ao202, co202, eo202⟩ := Kd.V_slice HO536.out; subst eo202; obtain ⟨Ao203, co203, eo203⟩ := Kd.S_slice HO539.out; subst eo203) | ((with_reducible refine gate_callee (f := 46) rfl ?_); refine goesL_ (some 400) rfl rfl Try.func46 (by kernel_rfl) rfl #[.slice Ao202 t534.length co202, .slice Ao203 t537.length co203] rfl maz_ ?_; (with_reducible refine (impl_TurnParts.calls kj144 _ _ t534 _ _ t537 t540 t541 _ ?side1 ?side2 ?side3 ?side4 A194.out).mono ?_); (case side1 => exact ucz_ ((Kd.V_reads' HO536.out).2.2)); (case side2 => exact (Kd.V_reads' HO536.out).2.1); (case side3 => exact ucz_ ((Kd.S_reads' HO539.out).2.2)); (case side4 => exact (Kd.S_reads' HO539.out).2.1); rintro e w204 ⟨v542, rfl, ho0, hb⟩; refine ⟨_, rfl, ?_⟩; have n0_ := Az_ (Kd.V_elder' (by (with_reducible repeat (first | apply Kd.V_alloc | apply Kd.V_drewN | apply Kd.V_drew)); exact HO523.out) (Kd.R_base ho0) hb); have n1_ := Az_ (rez_ (by exact urz_ HO529.out) (Kd.R_base ho0) hb); have n2_ := Az_ (rez_ (by exact urz_ HO533.out) (Kd.R_base ho0) hb); have n3_ := Az_ (Kd.V_elder' (by (with_reducible repeat (first | apply Kd.V_alloc | apply Kd.V_drewN | apply Kd.V_drew)); exact HO536.out) (Kd.R_base ho0) hb); have n4_ := Az_ (Kd.S_elder' (by (with_reducible repeat (first | apply Kd.S_alloc | apply Kd.S_drewN | apply Kd.S_drew)); exact HO539.out) (Kd.R_base ho0) hb); have n5_ := Az_ (Kd.R_lower (Kd.R_new' (Kd.R_new' ho0 (Kd.R_lt (by exact urz_ HO529.out))) (Kd.R_lt (by exact urz_ HO533.out))) (below_size (ubz_ HB.out))); have n6_ := Az_ (btz_ (ubz_ HB.out) hb); clear HO523; clear HO529; clear HO533; clear HO536; clear HO539; clear HB; have HO523 := n0_; have HO529 := n1_; have HO533 := n2_; have HO536 := n3_; have HO539 := n4_; have HO543 := n5_; have HB := n6_; clear n0_ n1_ n2_ n3_ n4_ n5_ n6_; (try clear hb); (try clear hb2); (try clear hk); (try clear hi); (try clear ho0)) | ((with_reducible refine gate_callee (f := 52) rfl ?_); refine goesL_ (some 406) rfl rfl Try.func52 (by kernel_rfl) rfl #[.slice Ao202 t534.length co202, .slice Ao203 t537.length co203] rfl maz_ ?_; (with_reducible refine (spec_TurnParts.calls kj144 _ _ t534 _ _ t537 t544 t545 _ ?side1 ?side2 ?side3 ?side4 A195.out).mono ?_); (case side1 => exact ucz_ ((Kd.V_reads' HO536.out).2.2)); (case side2 => exact (Kd.V_reads' HO536.out).2.1); (case side3 => exact ucz_ ((Kd.S_reads' HO539.out).2.2)); (case side4 => exact (Kd.S_reads' HO539.out).2.1); rintro e w205 ⟨v546, rfl, ho0, hb⟩; refine ⟨_, rfl, ?_⟩; have n0_ := Az_ (Kd.V_elder' (by (with_reducible repeat (first | apply Kd.V_alloc | apply Kd.V_drewN | apply Kd.V_drew)); exact HO523.out) (Kd.R_base ho0) hb); have n1_ := Az_ (rez_ (by exact urz_ HO529.out) (Kd.R_base ho0) hb); have n2_ := Az_ (rez_ (by exact urz_ HO533.out) (Kd.R_base ho0) hb); have n3_ := Az_ (Kd.V_elder' (by (with_reducible repeat (first | apply Kd.V_alloc | apply Kd.V_drewN | apply Kd.V_drew)); exact HO536.out) (Kd.R_base ho0) hb); have n4_ := Az_ (Kd.S_elder' (by (with_reducible repeat (first | apply Kd.S_alloc | apply Kd.S_drewN | apply Kd.S_drew)); exact HO539.out) (Kd.R_base ho0) hb); have n5_ := Az_ (rez_ (by exact urz_ HO543.out) (Kd.R_base ho0) hb); have n6_ := Az_ (Kd.R_lower (Kd.R_new' (Kd.R_new' (Kd.R_new' ho0 (Kd.R_lt (by exact urz_ HO529.out))) (Kd.R_lt (by exact urz_ HO533.out))) (Kd.R_lt (by exact urz_ HO543.out))) (below_size (ubz_ HB.out))); have n7_ := Az_ (btz_ (ubz_ HB.out) hb); clear HO523; clear HO529; clear HO533; clear HO536; clear HO539; clear HO543; clear HB; have HO523 := n0_; have HO529 := n1_; have HO533 := n2_; have HO536 := n3_; have HO539 := n4_; have HO543 := n5_; have HO547 := n6_; have HB := n7_; clear n0_ n1_ n2_ n3_ n4_ n5_ n6_ n7_; (try clear hb); (try clear hb2); (try clear hk); (try clear hi); (try clear ho0)))
         (try simp only [Act.put, List.setIfInBounds_toArray, List.set_cons_zero, List.set_cons_succ])
         go_cut [428] from 1 to 0 (fun v428 wc => ∃ (kq : Nat) (x428_195 : Bool), v428 = .bool x428_195 ∧ Aside0 (j4 kq t521 t524 t525 t526 t527 t534 t537 t540 t541 x428_195 = some r) ∧ Aside0 (kq ≤ kj144) ∧ Aside0 (Kd.V (Kd.int .i64) 3 wc w.heap.size (fun k_ => some k_ ≠ (v528 : Value).ownBlock ∧ some k_ ≠ ((.slice Ao203 t537.length co203) : Value).ownBlock ∧ some k_ ≠ (v542 : Value).ownBlock) (.slice Ao198 t521.length co198) t521) ∧ Aside0 (Kd.R (Kd.int .i64) 3 wc w.heap.size (fun k_ => some k_ ≠ (v542 : Value).ownBlock) v528 t526) ∧ Aside0 (Kd.V (Kd.int .i64) 3 wc w.heap.size (fun k_ => some k_ ≠ (v528 : Value).ownBlock ∧ some k_ ≠ ((.slice Ao203 t537.length co203) : Value).ownBlock ∧ some k_ ≠ (v542 : Value).ownBlock) (.slice Ao202 t534.length co202) t534) ∧ Aside0 (Kd.S (Kd.slice 3 (Kd.int .i64)) 24 wc w.heap.size (fun k_ => some k_ ≠ (v528 : Value).ownBlock ∧ some k_ ≠ (v542 : Value).ownBlock) (.slice Ao203 t537.length co203) t537) ∧ Aside0 (Kd.R (Kd.int .i64) 3 wc w.heap.size (fun k_ => some k_ ≠ (v528 : Value).ownBlock) v542 t540) ∧ Aside0 (Below w.heap.size w wc))
         case first => as_aux_lemma =>
          have H := HC196.out
          clear HC196
          by_cases c206 : (t527 != t531) = true
          ·rw [if_pos c206] at H
           exact (laws_FnBindingsTurned.j4_no _ _ _ _ _ _ _ _ _ _ _ hrT H).elim
          ·rw [if_neg c206] at H
           obtain rfl : t527 = t531 := by simpa using c206
           clear c206
           replace H := Option.bind_eq_some_iff.mp H
           obtain ⟨t548, A2070, H⟩ := H
           replace H : (if t548 = true then (if (t541 != t545) = true then (j4 kj144 t521 t524 t525 t526 t527 t534 t537 t540 t541 true) else ((laws_fSame.f kj144 t540 t544).bind fun t549 => (j4 kj144 t521 t524 t525 t526 t527 t534 t537 t540 t541 (!t549)))) else (j4 kj144 t521 t524 t525 t526 t527 t534 t537 t540 t541 true)) = some r := H
           have A207 := Az_ A2070
           clear A2070
           by_cases c208 : t548 = true
           ·subst c208
            have H1 : (if (t541 != t545) = true then (j4 kj144 t521 t524 t525 t526 t527 t534 t537 t540 t541 true) else ((laws_fSame.f kj144 t540 t544).bind fun t549 => (j4 kj144 t521 t524 t525 t526 t527 t534 t537 t540 t541 (!t549)))) = some r := by rw [if_pos rfl] at H; exact H
            clear H
            have H := H1
            clear H1
            by_cases c209 : (t541 != t545) = true
            ·rw [if_pos c209] at H
             exact (laws_FnBindingsTurned.j4_no _ _ _ _ _ _ _ _ _ _ _ hrT H).elim
            ·rw [if_neg c209] at H
             obtain rfl : t541 = t545 := by simpa using c209
             clear c209
             replace H := Option.bind_eq_some_iff.mp H
             obtain ⟨t549, A2120, H⟩ := H
             replace H : (j4 kj144 t521 t524 t525 t526 t527 t534 t537 t540 t541 (!t549)) = some r := H
             have A212 := Az_ A2120
             clear A2120
             have H' := Az_ H
             clear H
             obtain ⟨Ao213, co213, eo213⟩ := Kd.R_slice HO529.out
             subst eo213
             obtain ⟨Ao214, co214, eo214⟩ := Kd.R_slice HO533.out
             subst eo214
             go_wp2_with (first | (go_at_call 15; (with_reducible refine (laws_fSame.calls kj144 _ _ t526 _ _ t530 true _ ?side1 ?side2 ?side3 ?side4 A207.out).mono ?_); (case side1 => exact ucz_ ((Kd.R_reads' HO529.out).2.2)); (case side2 => exact (Kd.R_reads' HO529.out).2.1); (case side3 => exact ucz_ ((Kd.R_reads' HO533.out).2.2)); (case side4 => exact (Kd.R_reads' HO533.out).2.1); rintro e w' ⟨rfl, ⟨nd, rfl⟩⟩; obtain ⟨Ao215, co215, eo215⟩ := Kd.R_slice HO543.out; subst eo215; obtain ⟨Ao216, co216, eo216⟩ := Kd.R_slice HO547.out; subst eo216; clear A207) | (go_at_call 15; (with_reducible refine (laws_fSame.calls kj144 _ _ t540 _ _ t544 t549 _ ?side1 ?side2 ?side3 ?side4 A212.out).mono ?_); (case side1 => exact ucz_ ((Kd.R_reads' HO543.out).2.2)); (case side2 => exact (Kd.R_reads' HO543.out).2.1); (case side3 => exact ucz_ ((Kd.R_reads' HO547.out).2.2)); (case side4 => exact (Kd.R_reads' HO547.out).2.1); rintro e w' ⟨rfl, ⟨nd, rfl⟩⟩))
             go_meet
             case rel => exact ⟨_, (!t549), qaz_, H', ⟨by have := HJ15.out; have := HJ101.out; have := HJ144.out; first | omega | exact Nat.le_refl _⟩, ⟨by (with_reducible repeat (first | apply Kd.V_alloc | apply Kd.V_drewN | apply Kd.V_drew)); exact Kd.V_mono HO523.out (fun _ hk => ⟨hk.1.1.1.1.2, ⟨hk.1.1.2, hk.1.2⟩⟩)⟩, ⟨by (with_reducible repeat (first | apply raz_ | apply rnz_ | apply rdz_)); exact Kd.R_mono HO529.out (fun _ hk => hk.1.2)⟩, ⟨by (with_reducible repeat (first | apply Kd.V_alloc | apply Kd.V_drewN | apply Kd.V_drew)); exact Kd.V_mono HO536.out (fun _ hk => ⟨hk.1.1.2.1, ⟨hk.1.1.1, hk.1.2⟩⟩)⟩, ⟨by (with_reducible repeat (first | apply Kd.S_alloc | apply Kd.S_drewN | apply Kd.S_drew)); exact Kd.S_mono HO539.out (fun _ hk => ⟨hk.1.1.1.2, hk.1.2⟩)⟩, ⟨by (with_reducible repeat (first | apply raz_ | apply rnz_ | apply rdz_)); exact Kd.R_mono HO543.out (fun _ hk => hk.1.1.2)⟩, ⟨by exact ubz_ HB.out⟩⟩
           ·replace c208 := Bool.eq_false_iff.mpr c208
            subst c208
            have H1 : (j4 kj144 t521 t524 t525 t526 t527 t534 t537 t540 t541 true) = some r := by rw [if_neg (show ¬ (false = true) by decide)] at H; exact H
            clear H
            have H := H1
            exact (laws_FnBindingsTurned.j4_no _ _ _ _ _ _ _ _ _ _ _ hrT H).elim
         case rest => as_aux_lemma =>
          clear HC196
          (try clear c1); (try clear c2); (try clear p2); (try clear c3); (try clear c4); (try clear c5); (try clear p5); (try clear q5); (try clear hx5); (try clear qi5); (try clear c14); (try clear c16); (try clear c17); (try clear c20); (try clear c33); (try clear c46); (try clear c48); (try clear c49); (try clear c50); (try clear c51); (try clear p51); (try clear q51); (try clear hx51); (try clear qi51); (try clear c52); (try clear c146); (try clear c165); (try clear c165b0); (try clear c166); (try clear c167); (try clear c168); (try clear c171); (try clear c172); (try clear c206); (try clear c206b0); (try clear c206b1); (try clear c206b2); (try clear c208); (try clear c209); (try clear c209b0); (try clear c209b1); (try clear c209b2); (try clear hx511_0); (try clear hx512_0); (try clear hx513_0); (try clear hx514_0); (try clear p2); (try clear p5); (try clear p51); (try clear p511); (try clear p512); (try clear p513); (try clear p514); (try clear q5); (try clear q51); (try clear q511); (try clear q512); (try clear q513); (try clear q514)
          obtain ⟨kq, x428_195, rfl, HA, HJ195, HO_41, HO_44, HO_48, HO_49, HO_50, HB⟩ := hcut
          cases kq with
          | zero => exact absurd HA.out (by simp [j4])
          | succ kj195 =>
           have H := HA.out
           clear HA
           simp only [j4] at H
           by_cases c219 : x428_195 = true
           ·subst c219
            have H1 : (some false) = some r := by rw [if_pos rfl] at H; exact H
            clear H
            have H := H1
            clear H1
            exact absurd ((Option.some.inj H).trans hrT) (by decide)
           ·replace c219 := Bool.eq_false_iff.mpr c219
            subst c219
            have H1 : (if t527 = true then ((impl_TurnPart.f kj195 t526 t524 t525).bind fun bt550 => ((impl_BreaksOf.f kj195 t521).bind fun bt554 => ((impl_BreaksOf.f kj195 t526).bind fun bt556 => ((impl_IsBinding.f kj195 t526).bind fun t558 => (if t558 = true then (if bt550.2 = true then ((laws_fSame.f kj195 bt550.1 t521).bind fun t559 => (if t559 = true then (if bt554.2 = true then (if bt556.2 = true then (if (wrap64 (bt554.1 - bt556.1)) > 2 then (j5 kj195 t521 t524 t525 t526 t534 t537 t540 t541 true) else (j5 kj195 t521 t524 t525 t526 t534 t537 t540 t541 (decide ((wrap64 (bt556.1 - bt554.1)) > 2)))) else (j5 kj195 t521 t524 t525 t526 t534 t537 t540 t541 true)) else (j5 kj195 t521 t524 t525 t526 t534 t537 t540 t541 true)) else (j5 kj195 t521 t524 t525 t526 t534 t537 t540 t541 true))) else (j5 kj195 t521 t524 t525 t526 t534 t537 t540 t541 true)) else (j5 kj195 t521 t524 t525 t526 t534 t537 t540 t541 true)))))) else (j8 kj195 t534 t537 t540 t541)) = some r := by rw [if_neg (show ¬ (false = true) by decide)] at H; exact H
            clear H
            have H := H1
            clear H1
            have HC220 := Az_ H
            clear H
            go_upto_if 429 with (fail)
            go_cut [] from 1 to 0 (fun wc => ∃ (kq : Nat), Aside0 (j8 kq t534 t537 t540 t541 = some r) ∧ Aside0 (kq ≤ kj195) ∧ Aside0 (Kd.V (Kd.int .i64) 3 wc w.heap.size (fun k_ => some k_ ≠ ((.slice Ao203 t537.length co203) : Value).ownBlock ∧ some k_ ≠ (v542 : Value).ownBlock) (.slice Ao202 t534.length co202) t534) ∧ Aside0 (Kd.S (Kd.slice 3 (Kd.int .i64)) 24 wc w.heap.size (fun k_ => some k_ ≠ (v542 : Value).ownBlock) (.slice Ao203 t537.length co203) t537) ∧ Aside0 (Kd.R (Kd.int .i64) 3 wc w.heap.size (fun _ => True) v542 t540) ∧ Aside0 (Below w.heap.size w wc))
            case first => as_aux_lemma =>
             have H := HC220.out
             clear HC220
             by_cases c221 : t527 = true
             ·subst c221
              have H1 : ((impl_TurnPart.f kj195 t526 t524 t525).bind fun bt550 => ((impl_BreaksOf.f kj195 t521).bind fun bt554 => ((impl_BreaksOf.f kj195 t526).bind fun bt556 => ((impl_IsBinding.f kj195 t526).bind fun t558 => (if t558 = true then (if bt550.2 = true then ((laws_fSame.f kj195 bt550.1 t521).bind fun t559 => (if t559 = true then (if bt554.2 = true then (if bt556.2 = true then (if (wrap64 (bt554.1 - bt556.1)) > 2 then (j5 kj195 t521 t524 t525 t526 t534 t537 t540 t541 true) else (j5 kj195 t521 t524 t525 t526 t534 t537 t540 t541 (decide ((wrap64 (bt556.1 - bt554.1)) > 2)))) else (j5 kj195 t521 t524 t525 t526 t534 t537 t540 t541 true)) else (j5 kj195 t521 t524 t525 t526 t534 t537 t540 t541 true)) else (j5 kj195 t521 t524 t525 t526 t534 t537 t540 t541 true))) else (j5 kj195 t521 t524 t525 t526 t534 t537 t540 t541 true)) else (j5 kj195 t521 t524 t525 t526 t534 t537 t540 t541 true)))))) = some r := by rw [if_pos rfl] at H; exact H
              clear H
              have H := H1
              clear H1
              replace H := Option.bind_eq_some_iff.mp H
              obtain ⟨⟨t550, t551⟩, A2220, H⟩ := H
              replace H : ((impl_BreaksOf.f kj195 t521).bind fun bt554 => ((impl_BreaksOf.f kj195 t526).bind fun bt556 => ((impl_IsBinding.f kj195 t526).bind fun t558 => (if t558 = true then (if t551 = true then ((laws_fSame.f kj195 t550 t521).bind fun t559 => (if t559 = true then (if bt554.2 = true then (if bt556.2 = true then (if (wrap64 (bt554.1 - bt556.1)) > 2 then (j5 kj195 t521 t524 t525 t526 t534 t537 t540 t541 true) else (j5 kj195 t521 t524 t525 t526 t534 t537 t540 t541 (decide ((wrap64 (bt556.1 - bt554.1)) > 2)))) else (j5 kj195 t521 t524 t525 t526 t534 t537 t540 t541 true)) else (j5 kj195 t521 t524 t525 t526 t534 t537 t540 t541 true)) else (j5 kj195 t521 t524 t525 t526 t534 t537 t540 t541 true))) else (j5 kj195 t521 t524 t525 t526 t534 t537 t540 t541 true)) else (j5 kj195 t521 t524 t525 t526 t534 t537 t540 t541 true))))) = some r := H
              have A222 := Az_ A2220
              clear A2220
              replace H := Option.bind_eq_some_iff.mp H
              obtain ⟨⟨t554, t555⟩, A2230, H⟩ := H
              replace H : ((impl_BreaksOf.f kj195 t526).bind fun bt556 => ((impl_IsBinding.f kj195 t526).bind fun t558 => (if t558 = true then (if t551 = true then ((laws_fSame.f kj195 t550 t521).bind fun t559 => (if t559 = true then (if t555 = true then (if bt556.2 = true then (if (wrap64 (t554 - bt556.1)) > 2 then (j5 kj195 t521 t524 t525 t526 t534 t537 t540 t541 true) else (j5 kj195 t521 t524 t525 t526 t534 t537 t540 t541 (decide ((wrap64 (bt556.1 - t554)) > 2)))) else (j5 kj195 t521 t524 t525 t526 t534 t537 t540 t541 true)) else (j5 kj195 t521 t524 t525 t526 t534 t537 t540 t541 true)) else (j5 kj195 t521 t524 t525 t526 t534 t537 t540 t541 true))) else (j5 kj195 t521 t524 t525 t526 t534 t537 t540 t541 true)) else (j5 kj195 t521 t524 t525 t526 t534 t537 t540 t541 true)))) = some r := H
              have A223 := Az_ A2230
              clear A2230
              replace H := Option.bind_eq_some_iff.mp H
              obtain ⟨⟨t556, t557⟩, A2240, H⟩ := H
              replace H : ((impl_IsBinding.f kj195 t526).bind fun t558 => (if t558 = true then (if t551 = true then ((laws_fSame.f kj195 t550 t521).bind fun t559 => (if t559 = true then (if t555 = true then (if t557 = true then (if (wrap64 (t554 - t556)) > 2 then (j5 kj195 t521 t524 t525 t526 t534 t537 t540 t541 true) else (j5 kj195 t521 t524 t525 t526 t534 t537 t540 t541 (decide ((wrap64 (t556 - t554)) > 2)))) else (j5 kj195 t521 t524 t525 t526 t534 t537 t540 t541 true)) else (j5 kj195 t521 t524 t525 t526 t534 t537 t540 t541 true)) else (j5 kj195 t521 t524 t525 t526 t534 t537 t540 t541 true))) else (j5 kj195 t521 t524 t525 t526 t534 t537 t540 t541 true)) else (j5 kj195 t521 t524 t525 t526 t534 t537 t540 t541 true))) = some r := H
              have A224 := Az_ A2240
              clear A2240
              have HC225 := Az_ H
              clear H
              obtain ⟨Ao226, co226, eo226⟩ := Kd.R_slice HO_44.out
              subst eo226
              go_upto_region 44 with (first | ((with_reducible refine gate_callee (f := 48) rfl ?_); refine goesL_ (some 434) rfl rfl Try.func48 (by kernel_rfl) rfl #[.slice Ao226 t526.length co226, .int .i64 t524, .int .i64 t525] rfl maz_ ?_; (with_reducible refine (impl_TurnPart.calls kj195 _ _ t526 t524 t525 t550 t551 _ ?side1 ?side2 A222.out).mono ?_); (case side1 => exact ucz_ ((Kd.R_reads' HO_44.out).2.2)); (case side2 => exact (Kd.R_reads' HO_44.out).2.1); rintro e w227 ⟨v552, rfl, ho0, hb⟩; refine ⟨_, rfl, ?_⟩; have n0_ := Az_ (Kd.V_elder' (by (with_reducible repeat (first | apply Kd.V_alloc | apply Kd.V_drewN | apply Kd.V_drew)); exact HO_41.out) (Kd.R_base ho0) hb); have n1_ := Az_ (rez_ (by exact urz_ HO_44.out) (Kd.R_base ho0) hb); have n2_ := Az_ (Kd.V_elder' (by (with_reducible repeat (first | apply Kd.V_alloc | apply Kd.V_drewN | apply Kd.V_drew)); exact HO_48.out) (Kd.R_base ho0) hb); have n3_ := Az_ (Kd.S_elder' (by (with_reducible repeat (first | apply Kd.S_alloc | apply Kd.S_drewN | apply Kd.S_drew)); exact HO_49.out) (Kd.R_base ho0) hb); have n4_ := Az_ (rez_ (by exact urz_ HO_50.out) (Kd.R_base ho0) hb); have n5_ := Az_ (Kd.R_lower (Kd.R_new' (Kd.R_new' ho0 (Kd.R_lt (by exact urz_ HO_44.out))) (Kd.R_lt (by exact urz_ HO_50.out))) (below_size (ubz_ HB.out))); have n6_ := Az_ (btz_ (ubz_ HB.out) hb); clear HO_41; clear HO_44; clear HO_48; clear HO_49; clear HO_50; clear HB; have HO_41 := n0_; have HO_44 := n1_; have HO_48 := n2_; have HO_49 := n3_; have HO_50 := n4_; have HO553 := n5_; have HB := n6_; clear n0_ n1_ n2_ n3_ n4_ n5_ n6_; (try clear hb); (try clear hb2); (try clear hk); (try clear hi); (try clear ho0)) | ((with_reducible refine gate_callee (f := 35) rfl ?_); refine goesL_ (some 439) rfl rfl Try.func35 (by kernel_rfl) rfl #[.slice Ao198 t521.length co198] rfl maz_ ?_; (with_reducible refine (impl_BreaksOf.calls kj195 (fun k_ => ((some k_ ≠ (.slice Ao226 t526.length co226 : Value).ownBlock ∧ (some k_ ≠ (.slice Ao203 t537.length co203 : Value).ownBlock ∧ some k_ ≠ (v542 : Value).ownBlock)) ∧ some k_ ≠ (v552 : Value).ownBlock)) _ _ t521 t554 t555 _ ?side1 A223.out).mono ?_); (case side1 => exact HO_41.out); rintro e w228 ⟨rfl, hb⟩; refine ⟨_, rfl, ?_⟩; have n0_ := Az_ (Kd.V_below (by (with_reducible repeat (first | apply Kd.V_alloc | apply Kd.V_drewN | apply Kd.V_drew)); exact HO_41.out) hb); have n1_ := Az_ (Kd.R_below (by exact urz_ HO_44.out) hb); have n2_ := Az_ (Kd.V_below (by (with_reducible repeat (first | apply Kd.V_alloc | apply Kd.V_drewN | apply Kd.V_drew)); exact HO_48.out) hb); have n3_ := Az_ (Kd.S_below (by (with_reducible repeat (first | apply Kd.S_alloc | apply Kd.S_drewN | apply Kd.S_drew)); exact HO_49.out) hb); have n4_ := Az_ (Kd.R_below (by exact urz_ HO_50.out) hb); have n5_ := Az_ (Kd.R_below (by exact urz_ HO553.out) hb); have n6_ := Az_ (btz_ (ubz_ HB.out) hb); clear HO_41; clear HO_44; clear HO_48; clear HO_49; clear HO_50; clear HO553; clear HB; have HO_41 := n0_; have HO_44 := n1_; have HO_48 := n2_; have HO_49 := n3_; have HO_50 := n4_; have HO553 := n5_; have HB := n6_; clear n0_ n1_ n2_ n3_ n4_ n5_ n6_; (try clear hb); (try clear hb2); (try clear hk); (try clear hi); clear A223) | ((with_reducible refine gate_callee (f := 35) rfl ?_); refine goesL_ (some 444) rfl rfl Try.func35 (by kernel_rfl) rfl #[.slice Ao226 t526.length co226] rfl maz_ ?_; (with_reducible refine (impl_BreaksOf.calls kj195 (fun k_ => some k_ = (.slice Ao226 t526.length co226 : Value).ownBlock) _ _ t526 t556 t557 _ ?side1 A224.out).mono ?_); (case side1 => exact Kd.R_V (Kd.R_tight rfl (Kd.R_apart' (HO_44.out) (Kd.S_typed HO_49.out) (by decide)))); rintro e w229 ⟨rfl, hb⟩; refine ⟨_, rfl, ?_⟩; have n0_ := Az_ (Kd.V_below (by (with_reducible repeat (first | apply Kd.V_alloc | apply Kd.V_drewN | apply Kd.V_drew)); exact HO_41.out) hb); have n1_ := Az_ (Kd.R_below (by exact urz_ HO_44.out) hb); have n2_ := Az_ (Kd.V_below (by (with_reducible repeat (first | apply Kd.V_alloc | apply Kd.V_drewN | apply Kd.V_drew)); exact HO_48.out) hb); have n3_ := Az_ (Kd.S_below (by (with_reducible repeat (first | apply Kd.S_alloc | apply Kd.S_drewN | apply Kd.S_drew)); exact HO_49.out) hb); have n4_ := Az_ (Kd.R_below (by exact urz_ HO_50.out) hb); have n5_ := Az_ (Kd.R_below (by exact urz_ HO553.out) hb); have n6_ := Az_ (btz_ (ubz_ HB.out) hb); clear HO_41; clear HO_44; clear HO_48; clear HO_49; clear HO_50; clear HO553; clear HB; have HO_41 := n0_; have HO_44 := n1_; have HO_48 := n2_; have HO_49 := n3_; have HO_50 := n4_; have HO553 := n5_; have HB := n6_; clear n0_ n1_ n2_ n3_ n4_ n5_ n6_; (try clear hb); (try clear hb2); (try clear hk); (try clear hi)))
              (try simp only [Act.put, List.setIfInBounds_toArray, List.set_cons_zero, List.set_cons_succ])
              go_cut [479] from 1 to 0 (fun v479 wc => ∃ (kq : Nat) (x479_224 : Bool), v479 = .bool x479_224 ∧ Aside0 (j5 kq t521 t524 t525 t526 t534 t537 t540 t541 x479_224 = some r) ∧ Aside0 (kq ≤ kj195) ∧ Aside0 (Kd.V (Kd.int .i64) 3 wc w.heap.size (fun k_ => some k_ ≠ ((.slice Ao226 t526.length co226) : Value).ownBlock ∧ some k_ ≠ ((.slice Ao203 t537.length co203) : Value).ownBlock ∧ some k_ ≠ (v542 : Value).ownBlock) (.slice Ao198 t521.length co198) t521) ∧ Aside0 (Kd.R (Kd.int .i64) 3 wc w.heap.size (fun k_ => some k_ ≠ (v542 : Value).ownBlock) (.slice Ao226 t526.length co226) t526) ∧ Aside0 (Kd.V (Kd.int .i64) 3 wc w.heap.size (fun k_ => some k_ ≠ ((.slice Ao226 t526.length co226) : Value).ownBlock ∧ some k_ ≠ ((.slice Ao203 t537.length co203) : Value).ownBlock ∧ some k_ ≠ (v542 : Value).ownBlock) (.slice Ao202 t534.length co202) t534) ∧ Aside0 (Kd.S (Kd.slice 3 (Kd.int .i64)) 24 wc w.heap.size (fun k_ => some k_ ≠ ((.slice Ao226 t526.length co226) : Value).ownBlock ∧ some k_ ≠ (v542 : Value).ownBlock) (.slice Ao203 t537.length co203) t537) ∧ Aside0 (Kd.R (Kd.int .i64) 3 wc w.heap.size (fun k_ => some k_ ≠ ((.slice Ao226 t526.length co226) : Value).ownBlock) v542 t540) ∧ Aside0 (Below w.heap.size w wc))
              case first => as_aux_lemma =>
               have H := HC225.out
               clear HC225
               replace H := Option.bind_eq_some_iff.mp H
               obtain ⟨t558, A2300, H⟩ := H
               replace H : (if t558 = true then (if t551 = true then ((laws_fSame.f kj195 t550 t521).bind fun t559 => (if t559 = true then (if t555 = true then (if t557 = true then (if (wrap64 (t554 - t556)) > 2 then (j5 kj195 t521 t524 t525 t526 t534 t537 t540 t541 true) else (j5 kj195 t521 t524 t525 t526 t534 t537 t540 t541 (decide ((wrap64 (t556 - t554)) > 2)))) else (j5 kj195 t521 t524 t525 t526 t534 t537 t540 t541 true)) else (j5 kj195 t521 t524 t525 t526 t534 t537 t540 t541 true)) else (j5 kj195 t521 t524 t525 t526 t534 t537 t540 t541 true))) else (j5 kj195 t521 t524 t525 t526 t534 t537 t540 t541 true)) else (j5 kj195 t521 t524 t525 t526 t534 t537 t540 t541 true)) = some r := H
               have A230 := Az_ A2300
               clear A2300
               by_cases c231 : t558 = true
               ·subst c231
                have H1 : (if t551 = true then ((laws_fSame.f kj195 t550 t521).bind fun t559 => (if t559 = true then (if t555 = true then (if t557 = true then (if (wrap64 (t554 - t556)) > 2 then (j5 kj195 t521 t524 t525 t526 t534 t537 t540 t541 true) else (j5 kj195 t521 t524 t525 t526 t534 t537 t540 t541 (decide ((wrap64 (t556 - t554)) > 2)))) else (j5 kj195 t521 t524 t525 t526 t534 t537 t540 t541 true)) else (j5 kj195 t521 t524 t525 t526 t534 t537 t540 t541 true)) else (j5 kj195 t521 t524 t525 t526 t534 t537 t540 t541 true))) else (j5 kj195 t521 t524 t525 t526 t534 t537 t540 t541 true)) = some r := by rw [if_pos rfl] at H; exact H
                clear H
                have H := H1
                clear H1
                by_cases c232 : t551 = true
                ·subst c232
                 have H1 : ((laws_fSame.f kj195 t550 t521).bind fun t559 => (if t559 = true then (if t555 = true then (if t557 = true then (if (wrap64 (t554 - t556)) > 2 then (j5 kj195 t521 t524 t525 t526 t534 t537 t540 t541 true) else (j5 kj195 t521 t524 t525 t526 t534 t537 t540 t541 (decide ((wrap64 (t556 - t554)) > 2)))) else (j5 kj195 t521 t524 t525 t526 t534 t537 t540 t541 true)) else (j5 kj195 t521 t524 t525 t526 t534 t537 t540 t541 true)) else (j5 kj195 t521 t524 t525 t526 t534 t537 t540 t541 true))) = some r := by rw [if_pos rfl] at H; exact H
                 clear H
                 have H := H1
                 clear H1
                 replace H := Option.bind_eq_some_iff.mp H
                 obtain ⟨t559, A2330, H⟩ := H
                 replace H : (if t559 = true then (if t555 = true then (if t557 = true then (if (wrap64 (t554 - t556)) > 2 then (j5 kj195 t521 t524 t525 t526 t534 t537 t540 t541 true) else (j5 kj195 t521 t524 t525 t526 t534 t537 t540 t541 (decide ((wrap64 (t556 - t554)) > 2)))) else (j5 kj195 t521 t524 t525 t526 t534 t537 t540 t541 true)) else (j5 kj195 t521 t524 t525 t526 t534 t537 t540 t541 true)) else (j5 kj195 t521 t524 t525 t526 t534 t537 t540 t541 true)) = some r := H
                 have A233 := Az_ A2330
                 clear A2330
                 by_cases c234 : t559 = true
                 ·subst c234
                  have H1 : (if t555 = true then (if t557 = true then (if (wrap64 (t554 - t556)) > 2 then (j5 kj195 t521 t524 t525 t526 t534 t537 t540 t541 true) else (j5 kj195 t521 t524 t525 t526 t534 t537 t540 t541 (decide ((wrap64 (t556 - t554)) > 2)))) else (j5 kj195 t521 t524 t525 t526 t534 t537 t540 t541 true)) else (j5 kj195 t521 t524 t525 t526 t534 t537 t540 t541 true)) = some r := by rw [if_pos rfl] at H; exact H
                  clear H
                  have H := H1
                  clear H1
                  by_cases c235 : t555 = true
                  ·subst c235
                   have H1 : (if t557 = true then (if (wrap64 (t554 - t556)) > 2 then (j5 kj195 t521 t524 t525 t526 t534 t537 t540 t541 true) else (j5 kj195 t521 t524 t525 t526 t534 t537 t540 t541 (decide ((wrap64 (t556 - t554)) > 2)))) else (j5 kj195 t521 t524 t525 t526 t534 t537 t540 t541 true)) = some r := by rw [if_pos rfl] at H; exact H
                   clear H
                   have H := H1
                   clear H1
                   by_cases c236 : t557 = true
                   ·subst c236
                    have H1 : (if (wrap64 (t554 - t556)) > 2 then (j5 kj195 t521 t524 t525 t526 t534 t537 t540 t541 true) else (j5 kj195 t521 t524 t525 t526 t534 t537 t540 t541 (decide ((wrap64 (t556 - t554)) > 2)))) = some r := by rw [if_pos rfl] at H; exact H
                    clear H
                    have H := H1
                    clear H1
                    by_cases c237 : (wrap64 (t554 - t556)) > 2
                    ·rw [if_pos c237] at H
                     exact (laws_FnBindingsTurned.j5_no _ _ _ _ _ _ _ _ _ _ hrT H).elim
                    ·rw [if_neg c237] at H
                     have c237b0 := decide_eq_false c237
                     clear c237
                     (first | rw [c237b0] | (simp only [i64_w, i32_w]; rw [c237b0]) | skip)
                     have H' := Az_ H
                     clear H
                     go_wp2_with (first | ((with_reducible refine gate_callee (f := 42) rfl ?_); refine goesL_ (some 448) rfl rfl Try.func42 (by kernel_rfl) rfl #[.slice Ao226 t526.length co226] rfl maz_ ?_; (with_reducible refine (impl_IsBinding.calls kj195 _ _ t526 true _ ?side1 ?side2 A230.out).mono ?_); (case side1 => exact ucz_ ((Kd.R_reads' HO_44.out).2.2)); (case side2 => exact (Kd.R_reads' HO_44.out).2.1); rintro e w240 ⟨rfl, hb⟩; refine ⟨_, rfl, ?_⟩; have n0_ := Az_ (Kd.V_below (by (with_reducible repeat (first | apply Kd.V_alloc | apply Kd.V_drewN | apply Kd.V_drew)); exact HO_41.out) hb); have n1_ := Az_ (Kd.R_below (by exact urz_ HO_44.out) hb); have n2_ := Az_ (Kd.V_below (by (with_reducible repeat (first | apply Kd.V_alloc | apply Kd.V_drewN | apply Kd.V_drew)); exact HO_48.out) hb); have n3_ := Az_ (Kd.S_below (by (with_reducible repeat (first | apply Kd.S_alloc | apply Kd.S_drewN | apply Kd.S_drew)); exact HO_49.out) hb); have n4_ := Az_ (Kd.R_below (by exact urz_ HO_50.out) hb); have n5_ := Az_ (Kd.R_below (by exact urz_ HO553.out) hb); have n6_ := Az_ (btz_ (ubz_ HB.out) hb); clear HO_41; clear HO_44; clear HO_48; clear HO_49; clear HO_50; clear HO553; clear HB; have HO_41 := n0_; have HO_44 := n1_; have HO_48 := n2_; have HO_49 := n3_; have HO_50 := n4_; have HO553 := n5_; have HB := n6_; clear n0_ n1_ n2_ n3_ n4_ n5_ n6_; (try clear hb); (try clear hb2); (try clear hk); (try clear hi); obtain ⟨Ao241, co241, eo241⟩ := Kd.R_slice HO553.out; subst eo241) | (go_at_call 15; (with_reducible refine (laws_fSame.calls kj195 _ _ t550 _ _ t521 true _ ?side1 ?side2 ?side3 ?side4 A233.out).mono ?_); (case side1 => exact ucz_ ((Kd.R_reads' HO553.out).2.2)); (case side2 => exact (Kd.R_reads' HO553.out).2.1); (case side3 => exact ucz_ ((Kd.V_reads' HO_41.out).2.2)); (case side4 => exact (Kd.V_reads' HO_41.out).2.1); rintro e w' ⟨rfl, ⟨nd, rfl⟩⟩))
                     go_meet
                     case rel => exact ⟨_, (decide ((wrap64 (t556 - t554)) > 2)), qaz_, H', ⟨by have := HJ15.out; have := HJ101.out; have := HJ144.out; have := HJ195.out; first | omega | exact Nat.le_refl _⟩, ⟨by (with_reducible repeat (first | apply Kd.V_alloc | apply Kd.V_drewN | apply Kd.V_drew)); exact Kd.V_mono HO_41.out (fun _ hk => ⟨hk.1.1, ⟨hk.1.2.1, hk.1.2.2⟩⟩)⟩, ⟨by (with_reducible repeat (first | apply raz_ | apply rnz_ | apply rdz_)); exact Kd.R_mono HO_44.out (fun _ hk => hk.1)⟩, ⟨by (with_reducible repeat (first | apply Kd.V_alloc | apply Kd.V_drewN | apply Kd.V_drew)); exact Kd.V_mono HO_48.out (fun _ hk => ⟨hk.1.1, ⟨hk.1.2.1, hk.1.2.2⟩⟩)⟩, ⟨by (with_reducible repeat (first | apply Kd.S_alloc | apply Kd.S_drewN | apply Kd.S_drew)); exact Kd.S_mono HO_49.out (fun _ hk => ⟨hk.1.1, hk.1.2⟩)⟩, ⟨by (with_reducible repeat (first | apply raz_ | apply rnz_ | apply rdz_)); exact Kd.R_mono HO_50.out (fun _ hk => hk.1)⟩, ⟨by exact ubz_ HB.out⟩⟩
                   ·replace c236 := Bool.eq_false_iff.mpr c236
                    subst c236
                    have H1 : (j5 kj195 t521 t524 t525 t526 t534 t537 t540 t541 true) = some r := by rw [if_neg (show ¬ (false = true) by decide)] at H; exact H
                    clear H
                    have H := H1
                    exact (laws_FnBindingsTurned.j5_no _ _ _ _ _ _ _ _ _ _ hrT H).elim
                  ·replace c235 := Bool.eq_false_iff.mpr c235
                   subst c235
                   have H1 : (j5 kj195 t521 t524 t525 t526 t534 t537 t540 t541 true) = some r := by rw [if_neg (show ¬ (false = true) by decide)] at H; exact H
                   clear H
                   have H := H1
                   exact (laws_FnBindingsTurned.j5_no _ _ _ _ _ _ _ _ _ _ hrT H).elim
                 ·replace c234 := Bool.eq_false_iff.mpr c234
                  subst c234
                  have H1 : (j5 kj195 t521 t524 t525 t526 t534 t537 t540 t541 true) = some r := by rw [if_neg (show ¬ (false = true) by decide)] at H; exact H
                  clear H
                  have H := H1
                  exact (laws_FnBindingsTurned.j5_no _ _ _ _ _ _ _ _ _ _ hrT H).elim
                ·replace c232 := Bool.eq_false_iff.mpr c232
                 subst c232
                 have H1 : (j5 kj195 t521 t524 t525 t526 t534 t537 t540 t541 true) = some r := by rw [if_neg (show ¬ (false = true) by decide)] at H; exact H
                 clear H
                 have H := H1
                 exact (laws_FnBindingsTurned.j5_no _ _ _ _ _ _ _ _ _ _ hrT H).elim
               ·replace c231 := Bool.eq_false_iff.mpr c231
                subst c231
                have H1 : (j5 kj195 t521 t524 t525 t526 t534 t537 t540 t541 true) = some r := by rw [if_neg (show ¬ (false = true) by decide)] at H; exact H
                clear H
                have H := H1
                exact (laws_FnBindingsTurned.j5_no _ _ _ _ _ _ _ _ _ _ hrT H).elim
              case rest => as_aux_lemma =>
               clear HC225
               (try clear c1); (try clear c2); (try clear p2); (try clear c3); (try clear c4); (try clear c5); (try clear p5); (try clear q5); (try clear hx5); (try clear qi5); (try clear p6); (try clear c14); (try clear c16); (try clear c17); (try clear c20); (try clear c21); (try clear c22); (try clear c23); (try clear c33); (try clear c35); (try clear c42); (try clear c46); (try clear c48); (try clear c49); (try clear c50); (try clear c51); (try clear p51); (try clear q51); (try clear hx51); (try clear qi51); (try clear c52); (try clear p64); (try clear c146); (try clear c165); (try clear c165b0); (try clear c166); (try clear c167); (try clear c168); (try clear c171); (try clear c172); (try clear c206); (try clear c206b0); (try clear c206b1); (try clear c206b2); (try clear c208); (try clear c209); (try clear c209b0); (try clear c209b1); (try clear c209b2); (try clear c219); (try clear c221); (try clear c231); (try clear c232); (try clear c234); (try clear c235); (try clear c236); (try clear c237); (try clear c237b0); (try clear hx511_0); (try clear hx512_0); (try clear hx513_0); (try clear hx514_0); (try clear p2); (try clear p5); (try clear p51); (try clear p511); (try clear p512); (try clear p513); (try clear p514); (try clear q5); (try clear q51); (try clear q511); (try clear q512); (try clear q513); (try clear q514)
               obtain ⟨kq, x479_224, rfl, HA, HJ224, HO_41, HO_44, HO_48, HO_49, HO_50, HB⟩ := hcut
               cases kq with
               | zero => exact absurd HA.out (by simp [j5])
               | succ kj224 =>
                have H := HA.out
                clear HA
                simp only [j5] at H
                by_cases c250 : x479_224 = true
                ·subst c250
                 have H1 : (some false) = some r := by rw [if_pos rfl] at H; exact H
                 clear H
                 have H := H1
                 clear H1
                 exact absurd ((Option.some.inj H).trans hrT) (by decide)
                ·replace c250 := Bool.eq_false_iff.mpr c250
                 subst c250
                 have H1 : (laws_FnBindingsTurned.l0 kj224 t521 t524 t525 t534 t537 t540 t541 t526 (t526.length : Int) 0) = some r := by rw [if_neg (show ¬ (false = true) by decide)] at H; exact H
                 clear H
                 have H := H1
                 clear H1
                 have H' := Az_ H
                 clear H
                 go_wp2
                 go_loopg [482] kj224 (fun kq v482 w' => ∃ (x482_6 : Int), v482 = .int .i64 x482_6 ∧ Aside0 (laws_FnBindingsTurned.l0 kq t521 t524 t525 t534 t537 t540 t541 t526 (t526.length : Int) x482_6 = some r) ∧ Aside0 (kq ≤ kj224) ∧ Aside0 (Kd.V (Kd.int .i64) 3 w' w.heap.size (fun k_ => some k_ ≠ ((.slice Ao203 t537.length co203) : Value).ownBlock ∧ some k_ ≠ (v542 : Value).ownBlock ∧ some k_ ≠ ((.slice Ao226 t526.length co226) : Value).ownBlock) (.slice Ao198 t521.length co198) t521) ∧ Aside0 (Kd.V (Kd.int .i64) 3 w' w.heap.size (fun k_ => some k_ ≠ ((.slice Ao203 t537.length co203) : Value).ownBlock ∧ some k_ ≠ (v542 : Value).ownBlock ∧ some k_ ≠ ((.slice Ao226 t526.length co226) : Value).ownBlock) (.slice Ao202 t534.length co202) t534) ∧ Aside0 (Kd.S (Kd.slice 3 (Kd.int .i64)) 24 w' w.heap.size (fun k_ => some k_ ≠ (v542 : Value).ownBlock ∧ some k_ ≠ ((.slice Ao226 t526.length co226) : Value).ownBlock) (.slice Ao203 t537.length co203) t537) ∧ Aside0 (Kd.R (Kd.int .i64) 3 w' w.heap.size (fun k_ => some k_ ≠ ((.slice Ao226 t526.length co226) : Value).ownBlock) v542 t540) ∧ Aside0 (Kd.R (Kd.int .i64) 3 w' w.heap.size (fun k_ => some k_ ≠ (v542 : Value).ownBlock) (.slice Ao226 t526.length co226) t526) ∧ Aside0 (Below w.heap.size w w'))
                 case atStart => exact ⟨(0), qaz_, H', ⟨Nat.le_refl _⟩, ⟨by (with_reducible repeat (first | apply Kd.V_alloc | apply Kd.V_drewN | apply Kd.V_drew)); exact Kd.V_mono HO_41.out (fun _ hk => ⟨hk.2.1, ⟨hk.2.2, hk.1⟩⟩)⟩, ⟨by (with_reducible repeat (first | apply Kd.V_alloc | apply Kd.V_drewN | apply Kd.V_drew)); exact Kd.V_mono HO_48.out (fun _ hk => ⟨hk.2.1, ⟨hk.2.2, hk.1⟩⟩)⟩, ⟨by (with_reducible repeat (first | apply Kd.S_alloc | apply Kd.S_drewN | apply Kd.S_drew)); exact Kd.S_mono HO_49.out (fun _ hk => ⟨hk.2, hk.1⟩)⟩, ⟨by (with_reducible repeat (first | apply raz_ | apply rnz_ | apply rdz_)); exact HO_50.out⟩, ⟨by (with_reducible repeat (first | apply raz_ | apply rnz_ | apply rdz_)); exact HO_44.out⟩, ⟨by exact ubz_ HB.out⟩⟩
                 case round =>
                  clear H'
                  (try clear c1); (try clear c2); (try clear p2); (try clear c3); (try clear c4); (try clear c5); (try clear p5); (try clear q5); (try clear hx5); (try clear qi5); (try clear p6); (try clear c14); (try clear c16); (try clear c17); (try clear c20); (try clear c21); (try clear c22); (try clear c23); (try clear c25); (try clear c33); (try clear c35); (try clear c42); (try clear c46); (try clear c48); (try clear c49); (try clear c50); (try clear c51); (try clear p51); (try clear q51); (try clear hx51); (try clear qi51); (try clear c52); (try clear p64); (try clear c146); (try clear c165); (try clear c165b0); (try clear c166); (try clear c167); (try clear c168); (try clear c171); (try clear c172); (try clear c206); (try clear c206b0); (try clear c206b1); (try clear c206b2); (try clear c208); (try clear c209); (try clear c209b0); (try clear c209b1); (try clear c209b2); (try clear c219); (try clear c221); (try clear c231); (try clear c232); (try clear c234); (try clear c235); (try clear c236); (try clear c237); (try clear c237b0); (try clear c250); (try clear hx511_0); (try clear hx512_0); (try clear hx513_0); (try clear hx514_0); (try clear p2); (try clear p5); (try clear p51); (try clear p511); (try clear p512); (try clear p513); (try clear p514); (try clear p6); (try clear p64); (try clear q5); (try clear q51); (try clear q511); (try clear q512); (try clear q513); (try clear q514)
                  obtain ⟨x482_6, rfl, HA, HK6, HO_41, HO_48, HO_49, HO_50, HO_480, HB⟩ := hrel
                  cases gk with
                  | zero => exact absurd HA.out (by simp [laws_FnBindingsTurned.l0])
                  | succ k6 =>
                   have H := HA.out
                   clear HA
                   simp only [laws_FnBindingsTurned.l0] at H
                   by_cases c251 : x482_6 < (t526.length : Int)
                   ·rw [if_pos c251] at H
                    have c251b0 := decide_eq_true c251
                    clear c251
                    by_cases c252 : 0 ≤ x482_6
                    ·rw [if_pos c252] at H
                     have c252b0 := decide_eq_true c252
                     clear c252
                     by_cases c253 : x482_6 < (t526.length : Int)
                     ·rw [if_pos c253] at H
                      have c253b0 := decide_eq_true c253
                      clear c253
                      have HC254 := Az_ H
                      clear H
                      have p560 : 0 ≤ (x482_6 : Int) := of_decide_eq_true asz_
                      have q560 : x482_6 < (t526.length : Int) := of_decide_eq_true asz_
                      obtain ⟨ad560, e560, hx560_0⟩ := Kd.at_int (Kd.R_reads' HO_480.out).2.2 x482_6 p560 q560
                      cases e560
                      replace p560 := eq_true p560
                      replace q560 := eq_true q560
                      go_upto_region 49 with (fail)
                      go_cut [494] (fun v494 wc => ∃ (kq : Nat) (x494_253 : Bool), v494 = .bool x494_253 ∧ Aside0 (j7 kq t521 t524 t525 t534 t537 t540 t541 x482_6 (rd t526 x482_6) t526 (t526.length : Int) x482_6 x494_253 = some r) ∧ Aside0 (kq ≤ k6) ∧ Aside0 (Kd.V (Kd.int .i64) 3 wc w.heap.size (fun k_ => some k_ ≠ ((.slice Ao203 t537.length co203) : Value).ownBlock ∧ some k_ ≠ (v542 : Value).ownBlock ∧ some k_ ≠ ((.slice (some ad560) t526.length co226) : Value).ownBlock) (.slice Ao198 t521.length co198) t521) ∧ Aside0 (Kd.V (Kd.int .i64) 3 wc w.heap.size (fun k_ => some k_ ≠ ((.slice Ao203 t537.length co203) : Value).ownBlock ∧ some k_ ≠ (v542 : Value).ownBlock ∧ some k_ ≠ ((.slice (some ad560) t526.length co226) : Value).ownBlock) (.slice Ao202 t534.length co202) t534) ∧ Aside0 (Kd.S (Kd.slice 3 (Kd.int .i64)) 24 wc w.heap.size (fun k_ => some k_ ≠ (v542 : Value).ownBlock ∧ some k_ ≠ ((.slice (some ad560) t526.length co226) : Value).ownBlock) (.slice Ao203 t537.length co203) t537) ∧ Aside0 (Kd.R (Kd.int .i64) 3 wc w.heap.size (fun k_ => some k_ ≠ ((.slice (some ad560) t526.length co226) : Value).ownBlock) v542 t540) ∧ Aside0 (Kd.R (Kd.int .i64) 3 wc w.heap.size (fun k_ => some k_ ≠ (v542 : Value).ownBlock) (.slice (some ad560) t526.length co226) t526) ∧ Aside0 (Below w.heap.size w wc))
                      case first =>
                       have H := HC254.out
                       clear HC254
                       by_cases c255 : x482_6 < t524
                       ·rw [if_pos c255] at H
                        have c255b0 := decide_eq_true c255
                        clear c255
                        (first | rw [c255b0] | (simp only [i64_w, i32_w]; rw [c255b0]) | skip)
                        have H' := Az_ H
                        clear H
                        go_wp2
                        go_meet
                        case rel => exact ⟨_, (true), qaz_, H', ⟨by have := HJ15.out; have := HJ101.out; have := HJ144.out; have := HJ195.out; have := HJ224.out; have := HK6.out; first | omega | exact Nat.le_refl _⟩, ⟨by (with_reducible repeat (first | apply Kd.V_alloc | apply Kd.V_drewN | apply Kd.V_drew)); exact HO_41.out⟩, ⟨by (with_reducible repeat (first | apply Kd.V_alloc | apply Kd.V_drewN | apply Kd.V_drew)); exact HO_48.out⟩, ⟨by (with_reducible repeat (first | apply Kd.S_alloc | apply Kd.S_drewN | apply Kd.S_drew)); exact HO_49.out⟩, ⟨by (with_reducible repeat (first | apply raz_ | apply rnz_ | apply rdz_)); exact HO_50.out⟩, ⟨by (with_reducible repeat (first | apply raz_ | apply rnz_ | apply rdz_)); exact HO_480.out⟩, ⟨by exact ubz_ HB.out⟩⟩
                       ·rw [if_neg c255] at H
                        have c255b0 := decide_eq_false c255
                        clear c255
                        (first | rw [c255b0] | (simp only [i64_w, i32_w]; rw [c255b0]) | skip)
                        have H' := Az_ H
                        clear H
                        go_wp2
                        go_meet
                        case rel => exact ⟨_, (decide (x482_6 > t525)), qaz_, H', ⟨by have := HJ15.out; have := HJ101.out; have := HJ144.out; have := HJ195.out; have := HJ224.out; have := HK6.out; first | omega | exact Nat.le_refl _⟩, ⟨by (with_reducible repeat (first | apply Kd.V_alloc | apply Kd.V_drewN | apply Kd.V_drew)); exact HO_41.out⟩, ⟨by (with_reducible repeat (first | apply Kd.V_alloc | apply Kd.V_drewN | apply Kd.V_drew)); exact HO_48.out⟩, ⟨by (with_reducible repeat (first | apply Kd.S_alloc | apply Kd.S_drewN | apply Kd.S_drew)); exact HO_49.out⟩, ⟨by (with_reducible repeat (first | apply raz_ | apply rnz_ | apply rdz_)); exact HO_50.out⟩, ⟨by (with_reducible repeat (first | apply raz_ | apply rnz_ | apply rdz_)); exact HO_480.out⟩, ⟨by exact ubz_ HB.out⟩⟩
                      case rest =>
                       clear HC254
                       (try clear c1); (try clear c2); (try clear p2); (try clear c3); (try clear c4); (try clear c5); (try clear p5); (try clear q5); (try clear hx5); (try clear qi5); (try clear p6); (try clear c14); (try clear c16); (try clear c17); (try clear c20); (try clear c21); (try clear c22); (try clear c23); (try clear c25); (try clear c33); (try clear c35); (try clear c42); (try clear c46); (try clear c48); (try clear c49); (try clear c50); (try clear c51); (try clear p51); (try clear q51); (try clear hx51); (try clear qi51); (try clear c52); (try clear p56); (try clear q56); (try clear hx56); (try clear p64); (try clear c146); (try clear c165); (try clear c165b0); (try clear c166); (try clear c167); (try clear c168); (try clear c171); (try clear c172); (try clear c206); (try clear c206b0); (try clear c206b1); (try clear c206b2); (try clear c208); (try clear c209); (try clear c209b0); (try clear c209b1); (try clear c209b2); (try clear c219); (try clear c221); (try clear c231); (try clear c232); (try clear c234); (try clear c235); (try clear c236); (try clear c237); (try clear c237b0); (try clear c250); (try clear c251); (try clear c251b0); (try clear c252); (try clear c252b0); (try clear c253); (try clear c253b0); (try clear c255); (try clear c255b0); (try clear hx511_0); (try clear hx512_0); (try clear hx513_0); (try clear hx514_0); (try clear hx560_0); (try clear p2); (try clear p5); (try clear p51); (try clear p511); (try clear p512); (try clear p513); (try clear p514); (try clear p560); (try clear p6); (try clear p64); (try clear q5); (try clear q51); (try clear q511); (try clear q512); (try clear q513); (try clear q514); (try clear q560)
                       obtain ⟨kq, x494_253, rfl, HA, HJ253, HO_41, HO_48, HO_49, HO_50, HO_480, HB⟩ := hcut
                       cases kq with
                       | zero => exact absurd HA.out (by simp [j7])
                       | succ kj253 =>
                        have H := HA.out
                        clear HA
                        simp only [j7] at H
                        by_cases c256 : x494_253 = true
                        ·subst c256
                         have H1 : (if 0 ≤ x482_6 then (if x482_6 < (t521.length : Int) then (if (rd t526 x482_6) = (rd t521 x482_6) then (laws_FnBindingsTurned.l0 kj253 t521 t524 t525 t534 t537 t540 t541 t526 (t526.length : Int) (wrap64 (x482_6 + 1))) else (some false)) else (none)) else (none)) = some r := by rw [if_pos rfl] at H; exact H
                         clear H
                         have H := H1
                         clear H1
                         by_cases c257 : 0 ≤ x482_6
                         ·rw [if_pos c257] at H
                          have c257b0 := decide_eq_true c257
                          clear c257
                          by_cases c258 : x482_6 < (t521.length : Int)
                          ·rw [if_pos c258] at H
                           have c258b0 := decide_eq_true c258
                           clear c258
                           by_cases c259 : (rd t526 x482_6) = (rd t521 x482_6)
                           ·rw [if_pos c259] at H
                            have c259b0 : ((rd t526 x482_6) == (rd t521 x482_6)) = true := beq_iff_eq.mpr c259
                            have c259b1 : ((rd t526 x482_6) != (rd t521 x482_6)) = false := bne_eq_false_iff_eq.mpr c259
                            clear c259
                            have H' := Az_ H
                            clear H
                            have p561 : 0 ≤ (x482_6 : Int) := of_decide_eq_true asz_
                            have q561 : x482_6 < (t521.length : Int) := of_decide_eq_true asz_
                            obtain ⟨ad561, e561, hx561_0⟩ := Kd.at_int (Kd.V_reads' HO_41.out).2.2 x482_6 p561 q561
                            cases e561
                            replace p561 := eq_true p561
                            replace q561 := eq_true q561
                            go_wp2
                            go_roundg kj253
                            case measure => have := HJ15.out; have := HJ101.out; have := HJ144.out; have := HJ195.out; have := HJ224.out; have := HK6.out; have := HJ253.out; omega
                            case rel => exact ⟨(wrap64 (x482_6 + 1)), qaz_, H', ⟨by have := HJ15.out; have := HJ101.out; have := HJ144.out; have := HJ195.out; have := HJ224.out; have := HK6.out; have := HJ253.out; omega⟩, ⟨by (with_reducible repeat (first | apply Kd.V_alloc | apply Kd.V_drewN | apply Kd.V_drew)); exact HO_41.out⟩, ⟨by (with_reducible repeat (first | apply Kd.V_alloc | apply Kd.V_drewN | apply Kd.V_drew)); exact HO_48.out⟩, ⟨by (with_reducible repeat (first | apply Kd.S_alloc | apply Kd.S_drewN | apply Kd.S_drew)); exact HO_49.out⟩, ⟨by (with_reducible repeat (first | apply raz_ | apply rnz_ | apply rdz_)); exact HO_50.out⟩, ⟨by (with_reducible repeat (first | apply raz_ | apply rnz_ | apply rdz_)); exact HO_480.out⟩, ⟨by exact ubz_ HB.out⟩⟩
                           ·rw [if_neg c259] at H
                            have c259b0 : ((rd t526 x482_6) == (rd t521 x482_6)) = false := beq_eq_false_iff_ne.mpr c259
                            have c259b1 : ((rd t526 x482_6) != (rd t521 x482_6)) = true := bne_iff_ne.mpr c259
                            exact absurd ((Option.some.inj H).trans hrT) (by decide)
                          ·rw [if_neg c258] at H
                           exact absurd H (by simp)
                         ·rw [if_neg c257] at H
                          exact absurd H (by simp)
                        ·replace c256 := Bool.eq_false_iff.mpr c256
                         subst c256
                         have H1 : (if 0 ≤ (wrap64 ((wrap64 (t524 + t525)) - x482_6)) then (if (wrap64 ((wrap64 (t524 + t525)) - x482_6)) < (t521.length : Int) then (if (rd t526 x482_6) = (wrap64 (-(rd t521 (wrap64 ((wrap64 (t524 + t525)) - x482_6))))) then (laws_FnBindingsTurned.l0 kj253 t521 t524 t525 t534 t537 t540 t541 t526 (t526.length : Int) (wrap64 (x482_6 + 1))) else (some false)) else (none)) else (none)) = some r := by rw [if_neg (show ¬ (false = true) by decide)] at H; exact H
                         clear H
                         have H := H1
                         clear H1
                         obtain ⟨ji260, hji260⟩ : ∃ j_ : Int, (wrap64 ((wrap64 (t524 + t525)) - x482_6)) = j_ := ⟨_, rfl⟩
                         replace H : (if 0 ≤ (ji260) then (if (ji260) < (t521.length : Int) then (if (rd t526 x482_6) = (wrap64 (-(rd t521 (ji260)))) then (laws_FnBindingsTurned.l0 kj253 t521 t524 t525 t534 t537 t540 t541 t526 (t526.length : Int) (wrap64 (x482_6 + 1))) else (some false)) else (none)) else (none)) = some r := by first | (rw [hji260] at H; exact H) | (simp only [hji260] at H ⊢; exact H)
                         have hji260w : (IntKind.i64.wrap ((wrap64 (t524 + t525)) - x482_6)) = ji260 := (i64_w _).trans hji260
                         by_cases c261 : 0 ≤ (ji260)
                         ·rw [if_pos c261] at H
                          have c261b0 := decide_eq_true c261
                          clear c261
                          by_cases c262 : (ji260) < (t521.length : Int)
                          ·rw [if_pos c262] at H
                           have c262b0 := decide_eq_true c262
                           clear c262
                           by_cases c263 : (rd t526 x482_6) = (wrap64 (-(rd t521 (ji260))))
                           ·rw [if_pos c263] at H
                            have c263b0 : ((rd t526 x482_6) == (wrap64 (-(rd t521 (ji260))))) = true := beq_iff_eq.mpr c263
                            have c263b1 : ((rd t526 x482_6) != (wrap64 (-(rd t521 (ji260))))) = false := bne_eq_false_iff_eq.mpr c263
                            clear c263
                            have H' := Az_ H
                            clear H
                            have p562 : 0 ≤ ((ji260) : Int) := of_decide_eq_true asz_
                            have q562 : (ji260) < (t521.length : Int) := of_decide_eq_true asz_
                            obtain ⟨ad562, e562, hx562_0⟩ := Kd.at_int (Kd.V_reads' HO_41.out).2.2 (ji260) p562 q562
                            cases e562
                            replace p562 := eq_true p562
                            replace q562 := eq_true q562
                            go_wp2
                            go_roundg kj253
                            case measure => have := HJ15.out; have := HJ101.out; have := HJ144.out; have := HJ195.out; have := HJ224.out; have := HK6.out; have := HJ253.out; omega
                            case rel => exact ⟨(wrap64 (x482_6 + 1)), qaz_, H', ⟨by have := HJ15.out; have := HJ101.out; have := HJ144.out; have := HJ195.out; have := HJ224.out; have := HK6.out; have := HJ253.out; omega⟩, ⟨by (with_reducible repeat (first | apply Kd.V_alloc | apply Kd.V_drewN | apply Kd.V_drew)); exact HO_41.out⟩, ⟨by (with_reducible repeat (first | apply Kd.V_alloc | apply Kd.V_drewN | apply Kd.V_drew)); exact HO_48.out⟩, ⟨by (with_reducible repeat (first | apply Kd.S_alloc | apply Kd.S_drewN | apply Kd.S_drew)); exact HO_49.out⟩, ⟨by (with_reducible repeat (first | apply raz_ | apply rnz_ | apply rdz_)); exact HO_50.out⟩, ⟨by (with_reducible repeat (first | apply raz_ | apply rnz_ | apply rdz_)); exact HO_480.out⟩, ⟨by exact ubz_ HB.out⟩⟩
                           ·rw [if_neg c263] at H
                            have c263b0 : ((rd t526 x482_6) == (wrap64 (-(rd t521 (ji260))))) = false := beq_eq_false_iff_ne.mpr c263
                            have c263b1 : ((rd t526 x482_6) != (wrap64 (-(rd t521 (ji260))))) = true := bne_iff_ne.mpr c263
                            exact absurd ((Option.some.inj H).trans hrT) (by decide)
                          ·rw [if_neg c262] at H
                           exact absurd H (by simp)
                         ·rw [if_neg c261] at H
                          exact absurd H (by simp)
                     ·rw [if_neg c253] at H
                      exact absurd H (by simp)
                    ·rw [if_neg c252] at H
                     exact absurd H (by simp)
                   ·rw [if_neg c251] at H
                    have c251b0 := decide_eq_false c251
                    clear c251
                    have H' := Az_ H
                    clear H
                    go_wp2
                    go_meet
                    case rel => exact ⟨_, H', ⟨by have := HJ15.out; have := HJ101.out; have := HJ144.out; have := HJ195.out; have := HJ224.out; have := HK6.out; first | omega | exact Nat.le_refl _⟩, ⟨by (with_reducible repeat (first | apply Kd.V_alloc | apply Kd.V_drewN | apply Kd.V_drew)); exact Kd.V_mono HO_48.out (fun _ hk => ⟨hk.1, hk.2.1⟩)⟩, ⟨by (with_reducible repeat (first | apply Kd.S_alloc | apply Kd.S_drewN | apply Kd.S_drew)); exact Kd.S_mono HO_49.out (fun _ hk => hk.1)⟩, ⟨by (with_reducible repeat (first | apply raz_ | apply rnz_ | apply rdz_)); exact Kd.R_mono HO_50.out (fun _ hk => trivial)⟩, ⟨by exact ubz_ HB.out⟩⟩
             ·replace c221 := Bool.eq_false_iff.mpr c221
              subst c221
              have H1 : (j8 kj195 t534 t537 t540 t541) = some r := by rw [if_neg (show ¬ (false = true) by decide)] at H; exact H
              clear H
              have H := H1
              clear H1
              have H' := Az_ H
              clear H
              go_wp2
              go_meet
              case rel => exact ⟨_, H', ⟨by have := HJ15.out; have := HJ101.out; have := HJ144.out; have := HJ195.out; first | omega | exact Nat.le_refl _⟩, ⟨by (with_reducible repeat (first | apply Kd.V_alloc | apply Kd.V_drewN | apply Kd.V_drew)); exact Kd.V_mono HO_48.out (fun _ hk => ⟨hk.2.1, hk.2.2⟩)⟩, ⟨by (with_reducible repeat (first | apply Kd.S_alloc | apply Kd.S_drewN | apply Kd.S_drew)); exact Kd.S_mono HO_49.out (fun _ hk => hk.2)⟩, ⟨by (with_reducible repeat (first | apply raz_ | apply rnz_ | apply rdz_)); exact Kd.R_mono HO_50.out (fun _ hk => trivial)⟩, ⟨by exact ubz_ HB.out⟩⟩
            case rest => as_aux_lemma =>
             clear HC220
             (try clear c1); (try clear c2); (try clear p2); (try clear c3); (try clear c4); (try clear c5); (try clear p5); (try clear q5); (try clear hx5); (try clear qi5); (try clear p6); (try clear c14); (try clear c16); (try clear c17); (try clear c20); (try clear c21); (try clear c22); (try clear c23); (try clear c25); (try clear c26); (try clear c33); (try clear c35); (try clear c42); (try clear c46); (try clear c48); (try clear c49); (try clear c50); (try clear c51); (try clear p51); (try clear q51); (try clear hx51); (try clear qi51); (try clear c52); (try clear p56); (try clear q56); (try clear hx56); (try clear p64); (try clear c146); (try clear c165); (try clear c165b0); (try clear c166); (try clear c167); (try clear c168); (try clear c171); (try clear c172); (try clear c206); (try clear c206b0); (try clear c206b1); (try clear c206b2); (try clear c208); (try clear c209); (try clear c209b0); (try clear c209b1); (try clear c209b2); (try clear c219); (try clear c221); (try clear c231); (try clear c232); (try clear c234); (try clear c235); (try clear c236); (try clear c237); (try clear c237b0); (try clear c250); (try clear c251); (try clear c251b0); (try clear c252); (try clear c252b0); (try clear c253); (try clear c253b0); (try clear c255); (try clear c255b0); (try clear c256); (try clear c257); (try clear c257b0); (try clear c258); (try clear c258b0); (try clear c259); (try clear c259b0); (try clear c259b1); (try clear c261); (try clear c261b0); (try clear c262); (try clear c262b0); (try clear c263); (try clear c263b0); (try clear c263b1); (try clear hx511_0); (try clear hx512_0); (try clear hx513_0); (try clear hx514_0); (try clear hx560_0); (try clear hx561_0); (try clear hx562_0); (try clear p2); (try clear p5); (try clear p51); (try clear p511); (try clear p512); (try clear p513); (try clear p514); (try clear p56); (try clear p560); (try clear p561); (try clear p562); (try clear p6); (try clear p64); (try clear q5); (try clear q51); (try clear q511); (try clear q512); (try clear q513); (try clear q514); (try clear q56); (try clear q560); (try clear q561); (try clear q562)
             obtain ⟨kq, HA, HJ219, HO_48, HO_49, HO_50, HB⟩ := hcut
             cases kq with
             | zero => exact absurd HA.out (by simp [j8])
             | succ kj219 =>
              have H := HA.out
              clear HA
              simp only [j8] at H
              by_cases c264 : t541 = true
              ·subst c264
               have H1 : (laws_FnBindingsTurned.l1 kj219 t540 t534 t537 (t537.length : Int) 0) = some r := by rw [if_pos rfl] at H; exact H
               clear H
               have H := H1
               clear H1
               have H' := Az_ H
               clear H
               go_wp2
               go_loopg [62, 517] kj219 (fun kq v62 v517 w' => ∃ (x62_6 : List Int) (x517_6 : Int), v517 = .int .i64 x517_6 ∧ Aside0 (laws_FnBindingsTurned.l1 kq t540 x62_6 t537 (t537.length : Int) x517_6 = some r) ∧ Aside0 (kq ≤ kj219) ∧ Aside0 (Kd.R (Kd.int .i64) 3 w' w.heap.size (fun _ => True) v542 t540) ∧ Aside0 (Kd.V (Kd.int .i64) 3 w' w.heap.size (fun k_ => some k_ ≠ (v542 : Value).ownBlock ∧ some k_ ≠ ((.slice Ao203 t537.length co203) : Value).ownBlock) v62 x62_6) ∧ Aside0 (Kd.S (Kd.slice 3 (Kd.int .i64)) 24 w' w.heap.size (fun k_ => some k_ ≠ (v542 : Value).ownBlock) (.slice Ao203 t537.length co203) t537) ∧ Aside0 (Below w.heap.size w w'))
               case atStart => exact ⟨(t534), (0), qaz_, H', ⟨Nat.le_refl _⟩, ⟨by (with_reducible repeat (first | apply raz_ | apply rnz_ | apply rdz_)); exact HO_50.out⟩, ⟨by (with_reducible repeat (first | apply Kd.V_alloc | apply Kd.V_drewN | apply Kd.V_drew)); exact Kd.V_mono HO_48.out (fun _ hk => ⟨hk.2, hk.1⟩)⟩, ⟨by (with_reducible repeat (first | apply Kd.S_alloc | apply Kd.S_drewN | apply Kd.S_drew)); exact HO_49.out⟩, ⟨by exact ubz_ HB.out⟩⟩
               case round =>
                clear H'
                (try clear c1); (try clear c2); (try clear p2); (try clear c3); (try clear c4); (try clear c5); (try clear p5); (try clear q5); (try clear hx5); (try clear qi5); (try clear p6); (try clear c14); (try clear c16); (try clear c17); (try clear c20); (try clear c21); (try clear c22); (try clear c23); (try clear c25); (try clear c26); (try clear c33); (try clear c35); (try clear c42); (try clear c46); (try clear c48); (try clear c49); (try clear c50); (try clear c51); (try clear p51); (try clear q51); (try clear hx51); (try clear qi51); (try clear c52); (try clear p56); (try clear q56); (try clear hx56); (try clear p64); (try clear c146); (try clear c165); (try clear c165b0); (try clear c166); (try clear c167); (try clear c168); (try clear c171); (try clear c172); (try clear c206); (try clear c206b0); (try clear c206b1); (try clear c206b2); (try clear c208); (try clear c209); (try clear c209b0); (try clear c209b1); (try clear c209b2); (try clear c219); (try clear c221); (try clear c231); (try clear c232); (try clear c234); (try clear c235); (try clear c236); (try clear c237); (try clear c237b0); (try clear c250); (try clear c251); (try clear c251b0); (try clear c252); (try clear c252b0); (try clear c253); (try clear c253b0); (try clear c255); (try clear c255b0); (try clear c256); (try clear c257); (try clear c257b0); (try clear c258); (try clear c258b0); (try clear c259); (try clear c259b0); (try clear c259b1); (try clear c261); (try clear c261b0); (try clear c262); (try clear c262b0); (try clear c263); (try clear c263b0); (try clear c263b1); (try clear c264); (try clear hx511_0); (try clear hx512_0); (try clear hx513_0); (try clear hx514_0); (try clear hx560_0); (try clear hx561_0); (try clear hx562_0); (try clear p2); (try clear p5); (try clear p51); (try clear p511); (try clear p512); (try clear p513); (try clear p514); (try clear p56); (try clear p560); (try clear p561); (try clear p562); (try clear p6); (try clear p64); (try clear q5); (try clear q51); (try clear q511); (try clear q512); (try clear q513); (try clear q514); (try clear q56); (try clear q560); (try clear q561); (try clear q562)
                obtain ⟨x62_6, x517_6, rfl, HA, HK6, HO_50, HO_62, HO_515, HB⟩ := hrel
                cases gk with
                | zero => exact absurd HA.out (by simp [laws_FnBindingsTurned.l1])
                | succ k6 =>
                 have H := HA.out
                 clear HA
                 simp only [laws_FnBindingsTurned.l1] at H
                 by_cases c265 : x517_6 < (t537.length : Int)
                 ·rw [if_pos c265] at H
                  have c265b0 := decide_eq_true c265
                  clear c265
                  by_cases c266 : 0 ≤ x517_6
                  ·rw [if_pos c266] at H
                   have c266b0 := decide_eq_true c266
                   clear c266
                   by_cases c267 : x517_6 < (t537.length : Int)
                   ·rw [if_pos c267] at H
                    have c267b0 := decide_eq_true c267
                    clear c267
                    by_cases c268 : 0 < ((rd_L2 t537 x517_6).length : Int)
                    ·rw [if_pos c268] at H
                     have c268b0 := decide_eq_true c268
                     have c268b1 : decide (0 < (rd_L2 t537 x517_6).length) = true := decide_eq_true (by omega)
                     clear c268
                     by_cases c269 : 1 < ((rd_L2 t537 x517_6).length : Int)
                     ·rw [if_pos c269] at H
                      have c269b0 := decide_eq_true c269
                      have c269b1 : decide (1 < (rd_L2 t537 x517_6).length) = true := decide_eq_true (by omega)
                      clear c269
                      replace H := Option.bind_eq_some_iff.mp H
                      obtain ⟨⟨t566, t567⟩, A2700, H⟩ := H
                      replace H : (if t567 = true then (laws_FnBindingsTurned.l1 k6 t540 t566 t537 (t537.length : Int) (wrap64 (x517_6 + 1))) else (some false)) = some r := H
                      have A270 := Az_ A2700
                      clear A2700
                      by_cases c271 : t567 = true
                      ·subst c271
                       have H1 : (laws_FnBindingsTurned.l1 k6 t540 t566 t537 (t537.length : Int) (wrap64 (x517_6 + 1))) = some r := by rw [if_pos rfl] at H; exact H
                       clear H
                       have H := H1
                       clear H1
                       have H' := Az_ H
                       clear H
                       have p563 : 0 ≤ (x517_6 : Int) := of_decide_eq_true asz_
                       have q563 : x517_6 < (t537.length : Int) := of_decide_eq_true asz_
                       obtain ⟨ad563, A563_0, c563_0, e563, hx563_0, hl563_0, hi563_0⟩ := at_L2 (Kd.S_reads' HO_515.out).2.2 x517_6 p563 q563
                       cases e563
                       obtain ⟨ce563, hce563, hMe563, hcc563⟩ := Kd.S_get HO_515.out [] x517_6 p563 (by first | exact q563 | exact of_decide_eq_true asz_ | (have e_ := (Kd.S_reads' HO_515.out).1; omega))
                       obtain ⟨ve563_0, rfl, ge563_0⟩ := hMe563
                       have hv563_0 := hcc563 0 _ rfl
                       rw [Nat.add_zero, show ((Kd.slice 3 (Kd.int .i64))).sz = 1 from rfl, Nat.mul_one] at hv563_0
                       replace hv563_0 := Option.some.inj (hv563_0.symm.trans hx563_0)
                       rw [hv563_0] at ge563_0
                       have HL563_0 := Az_ (show Kd.R (Kd.int .i64) 3 _ _ _ _ (rd_L2 t537 x517_6) from ge563_0)
                       clear hv563_0 ge563_0 hcc563 hce563
                       have HR563_0 := Az_ hi563_0
                       have HC563_0 := Az_ hl563_0
                       clear hi563_0 hl563_0
                       replace p563 := eq_true p563
                       replace q563 := eq_true q563
                       try go_wp2
                       have n0_ := Az_ (rdz_ HO_50.out)
                       have n1_ := Az_ (Kd.V_drew HO_62.out)
                       have n2_ := Az_ (Kd.S_drew HO_515.out)
                       have n3_ := Az_ (rdz_ HL563_0.out)
                       have n4_ := Az_ (Kd.C_drew HR563_0.out)
                       have n5_ := Az_ (bdz_ HB.out)
                       clear HO_50 HO_62 HO_515 HL563_0 HR563_0 HB
                       have HO_50 := n0_
                       have HO_62 := n1_
                       have HO_515 := n2_
                       have HL563_0 := n3_
                       have HR563_0 := n4_
                       have HB := n5_
                       clear n0_ n1_ n2_ n3_ n4_ n5_
                       have p564 : 0 ≤ (0 : Int) := (by omega)
                       have q564 : 0 < ((rd_L2 t537 x517_6).length : Int) := of_decide_eq_true asz_
                       obtain ⟨ad564, e564, hx564_0⟩ := Kd.at_int (by repeat (first | (with_reducible exact HR563_0.out) | (with_reducible refine Kd.C_alloc ?_ _) | (with_reducible refine Kd.C_drewN ?_ _) | (with_reducible refine Kd.C_drew ?_) | exact HR563_0.out)) 0 p564 q564
                       cases e564
                       have qi564 : (0 < (rd_L2 t537 x517_6).length) = True := eq_true (by omega)
                       (try rw [show ((0 : Int)).toNat = 0 from rfl] at hx564_0)
                       (try rw [Addr.add_zero'] at hx564_0)
                       replace p564 := eq_true p564
                       replace q564 := eq_true q564
                       have p565 : 0 ≤ (1 : Int) := (by omega)
                       have q565 : 1 < ((rd_L2 t537 x517_6).length : Int) := of_decide_eq_true asz_
                       obtain ⟨ad565, e565, hx565_0⟩ := Kd.at_int (by repeat (first | (with_reducible exact HR563_0.out) | (with_reducible refine Kd.C_alloc ?_ _) | (with_reducible refine Kd.C_drewN ?_ _) | (with_reducible refine Kd.C_drew ?_) | exact HR563_0.out)) 1 p565 q565
                       obtain rfl : ad564 = ad565 := (by injection e565)
                       (try simp only [show (1 : Int).toNat = 1 from rfl, Nat.reduceMul, Nat.reduceEqDiff, Go.Addr.add, ↓reduceIte] at hx565_0)
                       have qi565 : (1 < (rd_L2 t537 x517_6).length) = True := eq_true (by omega)
                       (try rw [show ((1 : Int)).toNat = 1 from rfl] at hx565_0)
                       replace p565 := eq_true p565
                       replace q565 := eq_true q565
                       obtain ⟨Ao273, co273, eo273⟩ := Kd.V_slice HO_62.out
                       (first | subst eo273 | (injection eo273 with f1_ f2_ f3_; have f4_ := f1_.symm; have f5_ := f3_.symm; clear f1_ f2_ f3_; subst f4_; subst f5_))
                       refine start_ (n := 13) (S := fun w' => w'.cell? ad564 = some (.int .i64 (rd (rd_L2 t537 x517_6) 0)) ∧ w'.cell? ⟨ad564.block, ad564.off + 1, none⟩ = some (.int .i64 (rd (rd_L2 t537 x517_6) 1))) (ds := []) #[false, false, false, false, false, false, false, false, false, false, false, false, false] (by kernel_rfl) rfl rfl ⟨hx564_0, hx565_0⟩ (fun hHeld => ?_); refine with_tabW laws_FnBindingsTurned.tab60 laws_FnBindingsTurned.bits60 (fun HT_ HW_ => ?_)
                       generalize wr.drew = w272 at HO_50 HO_62 HO_515 HL563_0 HR563_0 HB hx564_0 hx565_0 hHeld ⊢
                       refine pure_ (i := 0) (N := some 522) (v := ?_) (a' := ?_) #[true, false, false, false, false, false, false, false, false, false, false, false, false] rfl rfl (any_of HT_.out (by kernel_rfl)) (fun _ _ _ h => h) (Or.inl ⟨by rfl, ?_⟩) ?_ ?_
                       rotate_left
                       ·intro w'
                        go_simp
                        with_reducible rfl
                       rotate_left
                       ·simp only [Act.put, usz_, utz_, uvz_, i64_w, i32_w]
                        rfl
                       refine pure_ (i := 1) (N := some 523) (v := ?_) (a' := ?_) #[true, true, false, false, false, false, false, false, false, false, false, false, false] rfl rfl (any_of HT_.out (by kernel_rfl)) (fun _ _ _ h => h) (Or.inl ⟨by rfl, ?_⟩) ?_ ?_
                       rotate_left
                       ·intro w'
                        go_simp
                        with_reducible rfl
                       rotate_left
                       ·simp only [Act.put, usz_, utz_, uvz_, i64_w, i32_w]
                        rfl
                       refine pure_ (i := 2) (N := some 524) (v := ?_) (a' := ?_) #[true, true, true, false, false, false, false, false, false, false, false, false, false] rfl rfl (any_of HT_.out (by kernel_rfl)) (fun _ _ _ h => h) (Or.inl ⟨by rfl, ?_⟩) ?_ ?_
                       rotate_left
                       ·intro w'
                        go_simp
                        with_reducible rfl
                       rotate_left
                       ·simp only [Act.put, usz_, utz_, uvz_, i64_w, i32_w]
                        rfl
                       refine pure_ (i := 4) (N := some 526) (v := ?_) (a' := ?_) #[true, true, true, false, true, false, false, false, false, false, false, false, false] rfl rfl (any_of HT_.out (by kernel_rfl)) (fun _ _ _ h => h) (Or.inl ⟨by rfl, ?_⟩) ?_ ?_
                       rotate_left
                       ·intro w'
                        go_simp
                        with_reducible rfl
                       rotate_left
                       ·simp only [Act.put, usz_, utz_, uvz_, i64_w, i32_w]
                        rfl
                       refine pure_ (i := 5) (N := some 527) (v := ?_) (a' := ?_) #[true, true, true, false, true, true, false, false, false, false, false, false, false] rfl rfl (any_of HT_.out (by kernel_rfl)) (fun _ _ _ h => h) (Or.inl ⟨by rfl, ?_⟩) ?_ ?_
                       rotate_left
                       ·intro w'
                        go_simp
                        with_reducible rfl
                       rotate_left
                       ·simp only [Act.put, usz_, utz_, uvz_, i64_w, i32_w]
                        rfl
                       refine take_ (i := 3) (N := some 525) (v := ?_) (a' := ?_) #[true, true, true, true, true, true, false, false, false, false, false, false, false] rfl rfl (take_ofW HT_.out HW_.out (by kernel_rfl)) (fun _ _ _ h => h) (Or.inl ⟨by rfl, ?_⟩) hHeld ?_ ?_
                       rotate_left
                       ·rintro w' ⟨s0, s1⟩
                        go_simp
                        with_reducible rfl
                       rotate_left
                       ·simp only [Act.put, usz_, utz_, uvz_, i64_w, i32_w]
                        rfl
                       refine take_ (i := 6) (N := some 528) (v := ?_) (a' := ?_) #[true, true, true, true, true, true, true, false, false, false, false, false, false] rfl rfl (take_ofW HT_.out HW_.out (by kernel_rfl)) (fun _ _ _ h => h) (Or.inl ⟨by rfl, ?_⟩) hHeld ?_ ?_
                       rotate_left
                       ·rintro w' ⟨s0, s1⟩
                        go_simp
                        with_reducible rfl
                       rotate_left
                       ·simp only [Act.put, usz_, utz_, uvz_, i64_w, i32_w]
                        rfl
                       refine one_ (i := 7) (N := some 529) #[true, true, true, true, true, true, true, true, false, false, false, false, false] rfl rfl (one_of HT_.out (by kernel_rfl)) (by decide) (fun K hK => ?_)
                       refine goes_ Try.func48 (by kernel_rfl) rfl #[.slice Ao273 x62_6.length co273, .int .i64 (rd (rd_L2 t537 x517_6) 0), .int .i64 (rd (rd_L2 t537 x517_6) 1)] (by rfl) rfl rfl maz_ ?_
                       with_reducible refine (impl_TurnPart.calls k6 _ _ x62_6 (rd (rd_L2 t537 x517_6) 0) (rd (rd_L2 t537 x517_6) 1) t566 true _ ?side1 ?side2 A270.out).mono ?_
                       (case side1 => repeat (first | exact (Kd.V_reads' HO_62.out).2.2 | (with_reducible refine Kd.C_alloc ?_ _) | (with_reducible refine Kd.C_drewN ?_ _) | (with_reducible refine Kd.C_drew ?_)))
                       (case side2 => exact (Kd.V_reads' HO_62.out).2.1)
                       rintro e w274 ⟨v568, rfl, ho0, hb⟩
                       have HS0_ := (hb.cell (World.block_lt_of_cell? _ _ (hHeld.1))).trans (hHeld.1)
                       have HS1_ := (hb.cell (World.block_lt_of_cell? _ _ (hHeld.2))).trans (hHeld.2)
                       refine ⟨_, rfl, ?_⟩
                       have n0_ := Az_ (rez_ (by exact urz_ HO_50.out) (Kd.R_base ho0) hb)
                       have n1_ := Az_ (Kd.V_elder' (by (with_reducible repeat (first | apply Kd.V_alloc | apply Kd.V_drewN | apply Kd.V_drew)); exact HO_62.out) (Kd.R_base ho0) hb)
                       have n2_ := Az_ (Kd.S_elder' (by (with_reducible repeat (first | apply Kd.S_alloc | apply Kd.S_drewN | apply Kd.S_drew)); exact HO_515.out) (Kd.R_base ho0) hb)
                       have n3_ := Az_ (rez_ (by (with_reducible repeat (first | apply raz_ | apply rnz_ | apply rdz_)); exact HL563_0.out) (Kd.R_base ho0) hb)
                       have n4_ := Az_ (Kd.R_lower (Kd.R_new' (Kd.R_new' ho0 (Kd.R_lt (by exact urz_ HO_50.out))) (Kd.R_lt (by (with_reducible repeat (first | apply raz_ | apply rnz_ | apply rdz_)); exact HL563_0.out))) (below_size (ubz_ HB.out)))
                       have n5_ := Az_ (Kd.C_below (by repeat (first | (with_reducible exact HR563_0.out) | (with_reducible refine Kd.C_alloc ?_ _) | (with_reducible refine Kd.C_drewN ?_ _) | (with_reducible refine Kd.C_drew ?_) | exact HR563_0.out)) hb)
                       have n6_ := Az_ (btz_ (ubz_ HB.out) hb)
                       clear HO_50 HO_62 HO_515 HL563_0 HR563_0 HB
                       have HO_50 := n0_
                       have HO_62 := n1_
                       have HO_515 := n2_
                       have HL563_0 := n3_
                       have HO569 := n4_
                       have HR563_0 := n5_
                       have HB := n6_
                       clear n0_ n1_ n2_ n3_ n4_ n5_ n6_
                       (try clear hb)
                       (try clear hb2)
                       (try clear hk)
                       (try clear hi)
                       (try clear ho0)
                       refine hK.out _ _ ⟨HS0_, HS1_⟩ (fun hHeld => ?_)
                       clear hK K
                       refine norm_ (a' := ?_) ?_ ?_
                       rotate_left
                       ·show Act.put _ (some 529) _ = _
                        simp only [Act.put, usz_, utz_, uvz_, i64_w, i32_w]
                        rfl
                       refine pure_ (i := 8) (N := some 521) (v := ?_) (a' := ?_) #[true, true, true, true, true, true, true, true, true, false, false, false, false] rfl rfl (any_of HT_.out (by kernel_rfl)) (fun _ _ _ h => h) (Or.inl ⟨by rfl, ?_⟩) ?_ ?_
                       rotate_left
                       ·intro w'
                        go_simp
                        with_reducible rfl
                       rotate_left
                       ·simp only [Act.put, usz_, utz_, uvz_, i64_w, i32_w]
                        rfl
                       refine pure_ (i := 9) (N := some 530) (v := ?_) (a' := ?_) #[true, true, true, true, true, true, true, true, true, true, false, false, false] rfl rfl (any_of HT_.out (by kernel_rfl)) (fun _ _ _ h => h) (Or.inl ⟨by rfl, ?_⟩) ?_ ?_
                       rotate_left
                       ·intro w'
                        go_simp
                        with_reducible rfl
                       rotate_left
                       ·simp only [Act.put, usz_, utz_, uvz_, i64_w, i32_w]
                        rfl
                       refine pure_ (i := 10) (N := some 531) (v := ?_) (a' := ?_) #[true, true, true, true, true, true, true, true, true, true, true, false, false] rfl rfl (any_of HT_.out (by kernel_rfl)) (fun _ _ _ h => h) (Or.inl ⟨by rfl, ?_⟩) ?_ ?_
                       rotate_left
                       ·intro w'
                        go_simp
                        with_reducible rfl
                       rotate_left
                       ·simp only [Act.put, usz_, utz_, uvz_, i64_w, i32_w]
                        rfl
                       refine pure_ (i := 11) (N := some 65) (v := ?_) (a' := ?_) #[true, true, true, true, true, true, true, true, true, true, true, true, false] rfl rfl (any_of HT_.out (by kernel_rfl)) (fun _ _ _ h => h) (Or.inl ⟨by rfl, ?_⟩) ?_ ?_
                       rotate_left
                       ·intro w'
                        go_simp
                        with_reducible rfl
                       rotate_left
                       ·simp only [Act.put, usz_, utz_, uvz_, i64_w, i32_w]
                        rfl
                       refine pure_ (i := 12) (N := some 66) (v := ?_) (a' := ?_) #[true, true, true, true, true, true, true, true, true, true, true, true, true] rfl rfl (any_of HT_.out (by kernel_rfl)) (fun _ _ _ h => h) (Or.inl ⟨by rfl, ?_⟩) ?_ ?_
                       rotate_left
                       ·intro w'
                        go_simp
                        with_reducible rfl
                       rotate_left
                       ·simp only [Act.put, usz_, utz_, uvz_, i64_w, i32_w]
                        rfl
                       refine done_ (done_of HT_.out (by kernel_rfl)) ?_
                       try go_wp2
                       go_roundg k6
                       case measure => have := HJ15.out; have := HJ101.out; have := HJ144.out; have := HJ195.out; have := HJ219.out; have := HK6.out; omega
                       case rel => exact ⟨(t566), (wrap64 (x517_6 + 1)), qaz_, H', ⟨by have := HJ15.out; have := HJ101.out; have := HJ144.out; have := HJ195.out; have := HJ219.out; have := HK6.out; omega⟩, ⟨by (with_reducible repeat (first | apply raz_ | apply rnz_ | apply rdz_)); exact Kd.R_mono HO_50.out (fun _ hk => trivial)⟩, ⟨Kd.R_V (by (with_reducible repeat (first | apply raz_ | apply rnz_ | apply rdz_)); exact Kd.R_mono (Kd.R_apart' HO569.out (Kd.S_typed HO_515.out) (by decide)) (fun _ hk => ⟨hk.1.1.2, hk.2⟩))⟩, ⟨by (with_reducible repeat (first | apply Kd.S_alloc | apply Kd.S_drewN | apply Kd.S_drew)); exact Kd.S_mono HO_515.out (fun _ hk => hk.1)⟩, ⟨by exact ubz_ HB.out⟩⟩
                      ·replace c271 := Bool.eq_false_iff.mpr c271
                       subst c271
                       have H1 : (some false) = some r := by rw [if_neg (show ¬ (false = true) by decide)] at H; exact H
                       clear H
                       have H := H1
                       clear H1
                       exact absurd ((Option.some.inj H).trans hrT) (by decide)
                     ·rw [if_neg c269] at H
                      exact absurd H (by simp)
                    ·rw [if_neg c268] at H
                     exact absurd H (by simp)
                   ·rw [if_neg c267] at H
                    exact absurd H (by simp)
                  ·rw [if_neg c266] at H
                   exact absurd H (by simp)
                 ·rw [if_neg c265] at H
                  have c265b0 := decide_eq_false c265
                  clear c265
                  replace H := Option.bind_eq_some_iff.mp H
                  obtain ⟨t570, A2780, H⟩ := H
                  replace H : (if t570 = true then (some true) else (some false)) = some r := H
                  have A278 := Az_ A2780
                  clear A2780
                  by_cases c279 : t570 = true
                  ·subst c279
                   have H1 : (some true) = some r := by rw [if_pos rfl] at H; exact H
                   clear H
                   have H := H1
                   clear H1
                   obtain rfl := Option.some.inj H; clear hrT
                   obtain ⟨Ao280, co280, eo280⟩ := Kd.V_slice HO_62.out
                   subst eo280
                   obtain ⟨Ao281, co281, eo281⟩ := Kd.R_slice HO_50.out
                   subst eo281
                   go_wp2_with (first | ((with_reducible refine gate_callee (f := 15) rfl ?_); refine goesL_ (some 538) rfl rfl Try.func15 (by kernel_rfl) rfl #[.slice Ao280 x62_6.length co280, .slice Ao281 t540.length co281] rfl maz_ ?_; (with_reducible refine (laws_fSame.calls k6 _ _ x62_6 _ _ t540 true _ ?side1 ?side2 ?side3 ?side4 A278.out).mono ?_); (case side1 => exact ucz_ ((Kd.V_reads' HO_62.out).2.2)); (case side2 => exact (Kd.V_reads' HO_62.out).2.1); (case side3 => exact ucz_ ((Kd.R_reads' HO_50.out).2.2)); (case side4 => exact (Kd.R_reads' HO_50.out).2.1); rintro e w' ⟨rfl, ⟨nd, rfl⟩⟩; refine ⟨_, rfl, ?_⟩))
                   go_ret
                   exact ⟨by first | rfl | (simp [errW_none, errW_some] <;> rfl) | (simp [*, errW_none, errW_some] <;> rfl), by exact ubz_ HB.out⟩
                  ·replace c279 := Bool.eq_false_iff.mpr c279
                   subst c279
                   have H1 : (some false) = some r := by rw [if_neg (show ¬ (false = true) by decide)] at H; exact H
                   clear H
                   have H := H1
                   clear H1
                   exact absurd ((Option.some.inj H).trans hrT) (by decide)
              ·replace c264 := Bool.eq_false_iff.mpr c264
               subst c264
               have H1 : (some true) = some r := by rw [if_neg (show ¬ (false = true) by decide)] at H; exact H
               clear H
               have H := H1
               clear H1
               obtain rfl := Option.some.inj H; clear hrT
               go_wp2
               go_ret
               exact ⟨by first | rfl | (simp [errW_none, errW_some] <;> rfl) | (simp [*, errW_none, errW_some] <;> rfl), by exact ubz_ HB.out⟩
end Go.Proofs.Ytppbpefehpbejaa.P
end

section
namespace Go.Proofs.Ytppbpefehpbejaa.P
open Go.RowKit Go.Proofs.YtppbpefehpbejaaW.PrintWords Go.Proofs.YtppbpefehpbejaaW.PrintLast Go.Proofs.YtppbpefehpbejaaW.PrintMore Go.Proofs.Ytppbpefehpbejaa.Base
set_option linter.unusedVariables false

/-- A row of bytes. -/
def Bytes (c : List Int) : Prop := ∀ x ∈ c, 0 ≤ x ∧ x ≤ 255
theorem Bytes.of {c : List Int} (h : ∀ x ∈ c, (Lit.int .u8 x).wf = true) : Bytes c := fun x hx => bounds_u8 (h x hx)
theorem Bytes.at {c : List Int} (h : Bytes c) (i : Int) : 0 ≤ rd c i ∧ rd c i ≤ 255 := by
  unfold rd
  rw [List.getD_eq_getElem?_getD]
  cases e : c[i.toNat]? with
  | none => exact ⟨by decide, by decide⟩
  | some x => exact h x (List.mem_of_getElem? e)
theorem wrap_u64 (n : Int) : IntKind.u64.wrap n = n % 18446744073709551616 := by simp [IntKind.wrap, IntKind.bits, IntKind.signed]
theorem low8 (n : Int) : 0 ≤ wrap64 (Go.bits .and .u64 (IntKind.u64.wrap n / 1099511627776) 255) ∧ wrap64 (Go.bits .and .u64 (IntKind.u64.wrap n / 1099511627776) 255) ≤ 255 := by
  have hn := wrap_u64 n
  have e : Go.bits .and .u64 (IntKind.u64.wrap n / 1099511627776) 255 = (IntKind.u64.wrap n / 1099511627776) % 256 :=
    Go.bits_mask .u64 24 (by decide) (fun m h0 h1 => by rw [wrap_u64]; omega) 8 (by decide) _ (by omega) (by rw [hn]; omega)
  rw [e, w64 (by omega) (by omega)]
  omega
theorem next_ok {c : List Int} (hc : Bytes c) {a : Int} (s : Int) (h0 : 0 ≤ a) (h1 : a ≤ 1000000) :
    ∃ x s', spec_l1Cur_next.f c a s = some (x, a + 1, s') ∧ 0 ≤ x ∧ x ≤ 255 := by
  have hr := hc.at a
  have w1 : wrap64 (a + 1) = a + 1 := w64 (by omega) (by omega)
  have w2 : wrap64 (rd c a) = rd c a := w64 (by omega) (by omega)
  rw [spec_l1Cur_next.f, w1, w2]
  by_cases h : a < (c.length : Int)
  · rw [if_pos h, if_pos h0]
    by_cases h2 : a + 1 ≤ (c.length : Int)
    · rw [if_pos h2]
      exact ⟨_, _, rfl, hr.1, hr.2⟩
    · rw [if_neg h2]
      exact ⟨_, _, rfl, (low8 _).1, (low8 _).2⟩
  · rw [if_neg h]
    by_cases h2 : a + 1 ≤ (c.length : Int)
    · rw [if_pos h2]
      exact ⟨_, _, rfl, by decide, by decide⟩
    · rw [if_neg h2]
      exact ⟨_, _, rfl, (low8 _).1, (low8 _).2⟩
/-- A number below n (0, if n is at most 1). -/
theorem pick_ok {c : List Int} (hc : Bytes c) {a : Int} (s n : Int) (h0 : 0 ≤ a) (h1 : a ≤ 999990) (hn : n ≤ 1000000) :
    ∃ x a' s', spec_l1Cur_pick.f c a s n = some (x, a', s') ∧ 0 ≤ x ∧ (x < n ∨ x = 0) ∧ a ≤ a' ∧ a' ≤ a + 2 := by
  rw [spec_l1Cur_pick.f]
  by_cases hs : n ≤ 1
  · rw [if_pos hs]
    exact ⟨0, a, s, rfl, by decide, .inr rfl, by omega, by omega⟩
  · rw [if_neg hs]
    obtain ⟨x, s1, e1, hx0, hx1⟩ := next_ok hc s h0 (by omega)
    simp only [e1, Option.bind_some]
    by_cases hb : n > 200
    · rw [if_pos hb]
      obtain ⟨y, s2, e2, hy0, hy1⟩ := next_ok hc (a := a + 1) s1 (by omega) (by omega)
      simp only [e2, Option.bind_some]
      rw [if_neg (by omega), w64 (x := x * 256) (by omega) (by omega), w64 (x := x * 256 + y) (by omega) (by omega), Int.tmod_eq_emod_of_nonneg (by omega)]
      exact ⟨_, _, _, rfl, Int.emod_nonneg _ (by omega), .inl (Int.emod_lt_of_pos _ (by omega)), by omega, by omega⟩
    · rw [if_neg hb, if_neg (by omega), Int.tmod_eq_emod_of_nonneg (by omega)]
      exact ⟨_, _, _, rfl, Int.emod_nonneg _ (by omega), .inl (Int.emod_lt_of_pos _ (by omega)), by omega, by omega⟩
theorem one_ok {c : List Int} (hc : Bytes c) {a : Int} (s n : Int) (h0 : 0 ≤ a) (h1 : a ≤ 999990) (hn : n ≤ 1000000) :
    ∃ b a' s', spec_l1Cur_one.f c a s n = some (b, a', s') ∧ a ≤ a' ∧ a' ≤ a + 2 := by
  obtain ⟨x, a', s', e, _, _, h2, h3⟩ := pick_ok hc s n h0 h1 hn
  refine ⟨x == 0, a', s', ?_, h2, h3⟩
  rw [spec_l1Cur_one.f, e]
  rfl
end Go.Proofs.Ytppbpefehpbejaa.P
end

section
set_option linter.unusedVariables false
namespace Go.Proofs.Ytppbpefehpbejaa.Far
open Go.Proofs.Ytppbpefehpbejaa.Order

/-- All rows of so many of some numbers. -/
def rowsOf (vals : List Int) : Nat → List (List Int)
  | 0 => [[]]
  | n + 1 => vals.flatMap fun x => (rowsOf vals n).map (x :: ·)
theorem mem_rowsOf {vals : List Int} : ∀ (b : List Int), (∀ x ∈ b, x ∈ vals) → b ∈ rowsOf vals b.length
  | [], _ => List.mem_singleton.2 rfl
  | x :: b, h => List.mem_flatMap.2 ⟨x, h x (by simp), List.mem_map_of_mem (mem_rowsOf b fun y hy => h y (by simp [hy]))⟩
def vals : Nat → List Int
  | 1 => [-1, 1]
  | 2 => [-2, -1, 1, 2]
  | 3 => [-3, -2, -1, 1, 2, 3]
  | 4 => [-4, -3, -2, -1, 1, 2, 3, 4]
  | _ => []
theorem mem_vals {n : Nat} (h1 : 1 ≤ n) (h4 : n ≤ 4) {x : Int} (h0 : x ≠ 0) (hl : -(n : Int) ≤ x) (hh : x ≤ n) : x ∈ vals n := by
  rcases (by omega : n = 1 ∨ n = 2 ∨ n = 3 ∨ n = 4) with rfl | rfl | rfl | rfl <;> simp only [vals, List.mem_cons, List.not_mem_nil, or_false] <;> omega
def bds (n : Nat) : List (List Int) := (rowsOf (vals n) n).filter bindS
theorem mem_bds {n : Nat} {b : List Int} (h : Bd n b) (h1 : 1 ≤ n) (h4 : n ≤ 4) : b ∈ bds n := by
  refine List.mem_filter.2 ⟨?_, bind_of_bd h h1 (by omega)⟩
  have := mem_rowsOf (vals := vals n) b (fun x hx => mem_vals h1 h4 (h.2.1 x hx).1 (h.2.1 x hx).2.1 (h.2.1 x hx).2.2)
  rwa [h.1] at this
def eight : List Int := [8, 7, 6, 5, 4, 3, 2, -1]
def smallB : List (List Int) := bds 1 ++ (bds 2 ++ (bds 3 ++ bds 4))
def allB : List (List Int) := eight :: smallB
theorem mem_small {n : Nat} {b : List Int} (h : Bd n b) (h1 : 1 ≤ n) (h4 : n ≤ 4) : b ∈ smallB := by
  have := mem_bds h h1 h4
  unfold smallB
  simp only [List.mem_append]
  rcases (by omega : n = 1 ∨ n = 2 ∨ n = 3 ∨ n = 4) with rfl | rfl | rfl | rfl
  · exact .inl this
  · exact .inr (.inl this)
  · exact .inr (.inr (.inl this))
  · exact .inr (.inr (.inr this))
theorem mem_all {n : Nat} {b : List Int} (h : Bd n b) (h1 : 1 ≤ n) (h4 : n ≤ 4) : b ∈ allB := List.mem_cons_of_mem _ (mem_small h h1 h4)

theorem rows_len {vals : List Int} : ∀ (n : Nat) (b : List Int), b ∈ rowsOf vals n → b.length = n := by
  intro n
  induction n with
  | zero => intro b h; rw [List.mem_singleton.1 h]; rfl
  | succ n ih =>
    intro b h
    obtain ⟨x, _, h⟩ := List.mem_flatMap.1 h
    obtain ⟨c, hc, rfl⟩ := List.mem_map.1 h
    rw [List.length_cons, ih c hc]
theorem small_len {b : List Int} (h : b ∈ smallB) : b.length ≤ 4 := by
  unfold smallB bds at h
  simp only [List.mem_append, List.mem_filter] at h
  rcases h with h | h | h | h <;> have := rows_len _ _ h.1 <;> omega

/-- Where a binding stands in the table. -/
def code (n : Nat) (b : List Int) : Nat := b.foldl (fun (c : Nat) (x : Int) => c * (2 * n) + (if x < 0 then (x + (n : Int)).toNat else (x + (n : Int) - 1).toNat)) 0
def levT : Nat → Nat
  | 1 => 1
  | 2 => 14293670043784
  | 3 => 29370604716896671799853310229675754987611713879311519356287964433158373780401510493170533345663632114863510393416287307892938035343489019096208155050955925693896296721930563168423628505088
  | 4 => 865746240591973810399683657986418207690799920664914055383308631824656173894090695454246999900753062144282414997439117131307675824796827081515267396929583220763091334102995434130859031094753213349273992153433402410110560419875103867035976390339673085633680573578303655482732471245202078280763307792805932510914845100318135246839685231727121835165919806431381816738795346162132186173640255752888048809936720851212636778609152415719240279513576137352229289492449575815794642962606820022660752562293823556869642474791631303927364074071180014215547624526325690180497362284137263050765223977794375770025033177209680460646772874714603235575735317350112771150988656816807808225074682120667191986567196385766436915802297418312134023800418555466160729488595853806640631712648554644580853844826615770602107881317794024743155846793937184323135711097748445066038222043626089365905162052927833462214854152423701964783757860842714407287961432140438153044869685023713274579397365873774550658876753764715877443901924610474900324222209567381686741234149212590120712257806284805385377057237868833728894725040275282477140981096414613102222930071972905336090128233587682641133204365746705796441031141182948650443370932886494487005327430787806093412614379670589530156684721221541762094831766679144630897751631015896404390427730634933671494630350980111108558079534356600880527432422122786807341128146005088075089741450920365813003644836889163506696476703351926238303986118095517457708108183284969819540148280827977916967737269444698498838001756551013889578395459934657322683926140651790246284695673797850090350653457146580063969941716486723069290688502224943897533121523670338067567157938528554224439183163056495639524086504918674669870977723059341682211514795008674152353597616898535696970552098957951365661339287028247859415195479697429469853801937865770241104331374925004330317985176641135079079045534935534604219356161062799875538123963829640321684570639272346398891504711068352802296025061953077085926426264461599359777420883188637802135091011870059275463704953870771562282653346474599038596619503567659631321082068897197630414682071851351063878675966805529850738274697521184928476090677563299595565894558759626055663924595790576538333572467495739505029612490926960802186620634060353057491093882923298631418772310203899959456032679727381661654029334888896904938988035476574073603996775344774900499327549345808215800433306207556379896519615271663350780738016878619136204469773458546125135632214693669868392918236437703248786797459329458916703632608035494042374588583978206956891707805553266654541366222950939688850589010399022532637244965533998589227206342634912302985971211639362803546598913923294598897230127653224046116978336918658649417166862735564217258447359544138945087830129011526412799914643897424901631860790490082069105357284500575872122660467851287034191975720166336559252478484870546498658072588160847779371601887029497705102537809831437906049744383591930220769999419862287571165699036625339922935840175354825989100309738377078491483657694116998842013367091354145677684733344771662172550331868342646513363462280141836479596537577333775546973573217688901193700288216362869140971186225799418250879530910953043942616734051593577146215263204053119753883071261941782132632271278360842642178468298434132671875070777874696531719562425831457938047006809905471315179554773052616387923971009387557173849916887184481278237761828603427867227471597987477304522652210675444710100158626452405121253607953007884524904825048877098347513975492016453294309419341018153705403965632172064377217005638690915938336349574185577602944320236208298062249984
  | _ => 0
def lev (n : Nat) (b : List Int) : Nat := (levT n >>> (3 * code n b)) % 8
def levOk (n : Nat) (b : List Int) : Bool := decide (lev n b ≤ n + 1) && (if lev n b = 0 then b == right n else (pairs n).any fun p => decide (lev n (turn b p.1 p.2) < lev n b))
set_option maxRecDepth 100000 in
theorem lev_all1 : (bds 1).all (levOk 1) = true := by decide +kernel
set_option maxRecDepth 100000 in
theorem lev_all2 : (bds 2).all (levOk 2) = true := by decide +kernel
set_option maxRecDepth 100000 in
theorem lev_all3 : (bds 3).all (levOk 3) = true := by decide +kernel
set_option maxRecDepth 100000 in
theorem lev_all4 : (bds 4).all (levOk 4) = true := by decide +kernel
theorem lev_ok {n : Nat} {b : List Int} (h : Bd n b) (h1 : 1 ≤ n) (h4 : n ≤ 4) : levOk n b = true := by
  have hm := mem_bds h h1 h4
  rcases (by omega : n = 1 ∨ n = 2 ∨ n = 3 ∨ n = 4) with rfl | rfl | rfl | rfl
  · exact List.all_eq_true.1 lev_all1 b hm
  · exact List.all_eq_true.1 lev_all2 b hm
  · exact List.all_eq_true.1 lev_all3 b hm
  · exact List.all_eq_true.1 lev_all4 b hm
theorem dist_lev {n : Nat} (h1 : 1 ≤ n) (h4 : n ≤ 4) : ∀ (L : Nat) (b : List Int) (v : Int), Bd n b → lev n b ≤ L → (distO n).lookup b = some v → v ≤ (lev n b : Int) := by
  have hD := (dist_all n).1
  intro L
  induction L with
  | zero =>
    intro b v hb hl hv
    have hk := lev_ok hb h1 h4
    rw [levOk, Bool.and_eq_true, if_pos (by omega), beq_iff_eq] at hk
    rw [hk.2, hD.zero] at hv
    have := Option.some.inj hv
    omega
  | succ L ih =>
    intro b v hb hl hv
    have hk := lev_ok hb h1 h4
    rw [levOk, Bool.and_eq_true] at hk
    by_cases h0 : lev n b = 0
    · exact ih b v hb (by omega) hv
    · rw [if_neg h0, List.any_eq_true] at hk
      obtain ⟨_, p, hp, hlt⟩ := hk
      have hp := mem_pairs.1 hp
      have hlt := of_decide_eq_true hlt
      have hb2 := turn_bd hb hp.1 hp.2
      obtain ⟨u, hu, _⟩ := hD.all _ hb2
      have i1 := ih _ u hb2 (by omega) hu
      have i2 := hD.near _ u p.1 p.2 v hu hp.1 hp.2 (by rw [turn_turn hp.1 (by rw [hb.1]; exact hp.2)]; exact hv)
      omega
/-- No binding of at most four leaves needs more turns than leaves and one. -/
theorem dist_few {n : Nat} (h1 : 1 ≤ n) (h4 : n ≤ 4) {b : List Int} {v : Int} (hb : Bd n b) (hv : (distO n).lookup b = some v) : v ≤ (n : Int) + 1 := by
  have a := dist_lev h1 h4 _ b v hb (Nat.le_refl _) hv
  have hk := lev_ok hb h1 h4
  rw [levOk, Bool.and_eq_true] at hk
  have := of_decide_eq_true hk.1
  omega
end Go.Proofs.Ytppbpefehpbejaa.Far
end

section
namespace Go.Proofs.Ytppbpefehpbejaa.P
open Go.RowKit Go.Proofs.YtppbpefehpbejaaW.PrintWords Go.Proofs.YtppbpefehpbejaaW.PrintLast Go.Proofs.YtppbpefehpbejaaW.PrintMore Go.Proofs.Ytppbpefehpbejaa.Base Go.Proofs.Ytppbpefehpbejaa.Order Go.Proofs.Ytppbpefehpbejaa.Far
set_option linter.unusedVariables false

/-- The binding of a rank is one. -/
def ofOk (n : Nat) : Bool := (List.range (allOf n)).all fun r => match spec_biOf.f 120 (n : Int) (r : Int) with
  | some b => bindS b && decide (b.length = n)
  | none => false
set_option maxRecDepth 100000 in
theorem of_all : ([1, 2, 3, 4].all ofOk) = true := by decide +kernel
theorem biOf_small {n r : Nat} (h1 : 1 ≤ n) (h4 : n ≤ 4) (hr : r < allOf n) : ∃ b, Ev (fun k => spec_biOf.f k (n : Int) (r : Int)) b ∧ Bd n b := by
  have h := of_all
  have hn : ofOk n = true := List.all_eq_true.1 h n (by
    rcases (by omega : n = 1 ∨ n = 2 ∨ n = 3 ∨ n = 4) with rfl | rfl | rfl | rfl <;> decide)
  have hx := List.all_eq_true.1 hn r (List.mem_range.2 hr)
  cases e : spec_biOf.f 120 (n : Int) (r : Int) with
  | none => rw [e] at hx; cases hx
  | some b =>
    rw [e] at hx
    simp only [Bool.and_eq_true, decide_eq_true_eq] at hx
    refine ⟨b, Ev.of (fun k => spec_biOf.mono _ _ k) e, ?_⟩
    have := ((bd_iff b).1 hx.1).1
    rwa [hx.2] at this
/-- A list that may be drawn as a binding. -/
def Drawn (b : List Int) : Prop := b.length ≤ 9 ∧ (bindS b = true → b ∈ allB)
theorem sure_ok {c : List Int} (hc : Bytes c) {a : Int} (s : Int) (h0 : 0 ≤ a) (h1 : a ≤ 999980) :
    ∃ b a' s', Ev (fun k => spec_l1Cur_sureBinding.f k c a s 4) (b, a', s') ∧ (∃ n : Nat, Bd n b ∧ 1 ≤ n ∧ n ≤ 4) ∧ a ≤ a' ∧ a' ≤ a + 6 := by
  obtain ⟨x, a1, s1, e1, hx0, hx1, g1, g2⟩ := pick_ok hc s 4 h0 (by omega) (by decide)
  obtain ⟨y, a2, s2, e2, hy0, hy1, g3, g4⟩ := pick_ok hc (a := a1) s1 251 (by omega) (by omega) (by decide)
  obtain ⟨z, a3, s3, e3, hz0, hz1, g5, g6⟩ := pick_ok hc (a := a2) s2 251 (by omega) (by omega) (by decide)
  obtain ⟨m, rfl⟩ := Int.eq_ofNat_of_zero_le hx0
  obtain ⟨y, rfl⟩ := Int.eq_ofNat_of_zero_le hy0
  obtain ⟨z, rfl⟩ := Int.eq_ofNat_of_zero_le hz0
  have w1 : wrap64 (1 + (m : Int)) = ((m + 1 : Nat) : Int) := by rw [w64 (by omega) (by omega)]; omega
  have hyz : y * z ≤ 250 * 250 := Nat.mul_le_mul (by omega) (by omega)
  have w2 : wrap64 ((y : Int) * (z : Int)) = ((y * z : Nat) : Int) := by rw [← Int.natCast_mul, w64 (by omega) (by omega)]
  have hp := allOf_pos (m + 1)
  have ht : Int.tmod ((y * z : Nat) : Int) ((allOf (m + 1) : Nat) : Int) = ((y * z % allOf (m + 1) : Nat) : Int) := rfl
  obtain ⟨b, hb, hbd⟩ := biOf_small (n := m + 1) (r := y * z % allOf (m + 1)) (by omega) (by omega) (Nat.mod_lt _ hp)
  refine ⟨b, a3, s3, ?_, ⟨m + 1, hbd, by omega, by omega⟩, by omega, by omega⟩
  simp only [spec_l1Cur_sureBinding.f, e1, e2, e3, Option.bind_some, w1, w2]
  refine Ev_bind (biAll_ev (m + 1) (by omega)) (Ev_neg (by omega) ?_)
  rw [ht]
  exact Ev_bind hb (Ev.now _)
theorem binding_ok {c : List Int} (hc : Bytes c) {a : Int} (s : Int) (h0 : 0 ≤ a) (h1 : a ≤ 999970) :
    ∃ b a' s', Ev (fun k => spec_l1Cur_binding.f k c a s) (b, a', s') ∧ Drawn b ∧ a ≤ a' ∧ a' ≤ a + 10 := by
  obtain ⟨o, a1, s1, e1, g1, g2⟩ := one_ok hc s 12 h0 (by omega) (by decide)
  cases o with
  | true =>
    obtain ⟨x, a2, s2, e2, hx0, hx1, g3, g4⟩ := pick_ok hc (a := a1) s1 8 (by omega) (by omega) (by decide)
    obtain ⟨x, rfl⟩ := Int.eq_ofNat_of_zero_le hx0
    have hd : ∀ l ∈ [([] : List Int), [0], [2], [1, 1], [1, -1], [-9223372036854775808], [1, 2, 3, 4, 5, 6, 7, 8, 9], [8, 7, 6, 5, 4, 3, 2, -1]], Drawn l := by
      intro l hl
      simp only [List.mem_cons, List.not_mem_nil, or_false] at hl
      rcases hl with rfl | rfl | rfl | rfl | rfl | rfl | rfl | rfl
      · exact ⟨by decide, fun h => absurd h (by decide)⟩
      · exact ⟨by decide, fun h => absurd h (by decide)⟩
      · exact ⟨by decide, fun h => absurd h (by decide)⟩
      · exact ⟨by decide, fun h => absurd h (by decide)⟩
      · exact ⟨by decide, fun h => absurd h (by decide)⟩
      · exact ⟨by decide, fun h => absurd h (by decide)⟩
      · exact ⟨by decide, fun h => absurd h (by decide)⟩
      · exact ⟨by decide, fun _ => List.mem_cons_self⟩
    refine ⟨_, a2, s2, ?_, hd (rd_L2 [([] : List Int), [0], [2], [1, 1], [1, -1], [-9223372036854775808], [1, 2, 3, 4, 5, 6, 7, 8, 9], [8, 7, 6, 5, 4, 3, 2, -1]] (x : Int)) ?_, by omega, by omega⟩
    · simp only [spec_l1Cur_binding.f, e1, e2, Option.bind_some]
      refine Ev_pos trivial (Ev_pos (by omega) (Ev_pos ?_ (Ev.now _)))
      show (x : Int) < 8
      omega
    · unfold rd_L2
      rw [Int.toNat_natCast, List.getD_eq_getElem?_getD, List.getElem?_eq_getElem (show x < 8 by omega)]
      exact List.getElem_mem _
  | false =>
    obtain ⟨b, a2, s2, hb, ⟨n, hbd, h1n, h4n⟩, g3, g4⟩ := sure_ok hc (a := a1) s1 (by omega) (by omega)
    refine ⟨b, a2, s2, ?_, ⟨by rw [hbd.1]; omega, fun _ => mem_all hbd h1n h4n⟩, by omega, by omega⟩
    simp only [spec_l1Cur_binding.f, e1, Option.bind_some]
    exact Ev_neg (by decide) (Ev_bind hb (Ev.now _))
end Go.Proofs.Ytppbpefehpbejaa.P
end
