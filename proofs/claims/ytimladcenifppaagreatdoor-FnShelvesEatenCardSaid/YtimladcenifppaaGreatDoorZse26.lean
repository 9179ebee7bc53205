/- Lean functions with the answers of the program's Go functions, and for each the proof that the Go code comes to these answers; no condition. -/
import Derived.Test.YtimladcenifppaaGreatDoorZse25
import Derived.Test.YtimladcenifppaaGreatDoorZse21
import Derived.Test.YtimladcenifppaaGreatDoorZse22
import Derived.Test.YtimladcenifppaaGreatDoorZse23
import Derived.Test.YtimladcenifppaaGreatDoorZse24
namespace Go.Proofs.YtimladcenifppaaGreatDoor.P
open Go.RowKit Go.Proofs.YtimladcenifppaaGreatDoorW.PrintWords Go.Proofs.YtimladcenifppaaGreatDoorW.PrintLast Go.Proofs.YtimladcenifppaaGreatDoorW.PrintMore
attribute [local go_sem] max2_int min2_int max_two min_two max_three min_three max_four min_four   -- for this text's walks alone
set_option linter.unusedVariables false
set_option linter.unusedSimpArgs false

set_option maxHeartbeats 24000000 in
set_option maxRecDepth 100000 in
theorem laws_FnShelvesEaten.calls (k : Nat) (A0 : Option Addr) (c0 : Nat) (l0 : List Int) (A1 : Option Addr) (c1 : Nat) (l1 : List Int) (r : Bool) (w : World) (hT : LibW w) (hr0 : Kd.C (Kd.int .u8) w A0 l0.length l0) (hc0 : l0.length ≤ c0) (hr1 : Kd.C (Kd.int .u8) w A1 l1.length l1) (hc1 : l1.length ≤ c1) (h : laws_FnShelvesEaten.f k l0 l1 = some r) (hrT : r = true) :
  Calls Tryz.prog 3 #[.slice A0 l0.length c0, .slice A1 l1.length c1] w fun e w' => e = .returned (.bool r) ∧ Below w.heap.size w w' := by
 have HTAB := Az_ hT
 clear hT
 have hu26 := Tryz.underlying26
 have HR0 := Az_ hr0
 have HC0 := Az_ hc0
 clear hr0 hc0
 have HR1 := Az_ hr1
 have HC1 := Az_ hc1
 clear hr1 hc1
 have HB := Az_ (Below.refl w.heap.size w)
 have H : ((laws_big.f l0 l1).bind fun t495 => (if t495 = true then (some true) else ((spec_DrawWormEats.f k l0).bind fun bt496 => ((impl_WormEats.f k bt496.1 bt496.2.1 bt496.2.2.1 bt496.2.2.2.1 bt496.2.2.2.2.1 bt496.2.2.2.2.2).bind fun bt505 => ((spec_WormEats.f k bt496.1 bt496.2.1 bt496.2.2.1 bt496.2.2.2.1 bt496.2.2.2.2.1 bt496.2.2.2.2.2).bind fun bt507 => ((impl_CoversEaten.f k bt496.1 bt496.2.1 bt496.2.2.1 bt496.2.2.2.1 bt496.2.2.2.2.1 bt496.2.2.2.2.2).bind fun bt509 => ((spec_CoversEaten.f k bt496.1 bt496.2.1 bt496.2.2.1 bt496.2.2.2.1 bt496.2.2.2.2.1 bt496.2.2.2.2.2).bind fun bt511 => ((impl_PagesEaten.f k bt496.1 bt496.2.1 bt496.2.2.1 bt496.2.2.2.1 bt496.2.2.2.2.1 bt496.2.2.2.2.2).bind fun bt513 => ((spec_PagesEaten.f k bt496.1 bt496.2.1 bt496.2.2.1 bt496.2.2.2.1 bt496.2.2.2.2.1 bt496.2.2.2.2.2).bind fun bt517 => ((impl_WidthOf.f k bt496.1 bt496.2.1).bind fun bt521 => ((spec_WidthOf.f k bt496.1 bt496.2.1).bind fun bt523 => ((impl_LongestWorm.f k bt496.1 bt496.2.1).bind fun bt525 => ((spec_LongestWorm.f k bt496.1 bt496.2.1).bind fun bt528 => ((impl_ShelfText.f k bt496.1 bt496.2.1).bind fun bt531 => ((spec_ShelfText.f k bt496.1 bt496.2.1).bind fun bt533 => (if (bt505.2 != bt507.2) = true then (j0 k l1 bt496.2.2.1 bt496.2.2.2.1 bt496.2.2.2.2.1 bt496.2.2.2.2.2 bt505.1 bt505.2 bt509.1 bt513.1 bt521.1 bt521.2 bt525.1 bt525.2.1 bt525.2.2 bt531.1 true bt496.1 bt496.2.1) else (if bt505.1 = bt507.1 then (if (bt509.2 != bt511.2) = true then (j0 k l1 bt496.2.2.1 bt496.2.2.2.1 bt496.2.2.2.2.1 bt496.2.2.2.2.2 bt505.1 bt505.2 bt509.1 bt513.1 bt521.1 bt521.2 bt525.1 bt525.2.1 bt525.2.2 bt531.1 true bt496.1 bt496.2.1) else (if bt509.1 = bt511.1 then (if (bt513.2 != bt517.2) = true then (j0 k l1 bt496.2.2.1 bt496.2.2.2.1 bt496.2.2.2.2.1 bt496.2.2.2.2.2 bt505.1 bt505.2 bt509.1 bt513.1 bt521.1 bt521.2 bt525.1 bt525.2.1 bt525.2.2 bt531.1 true bt496.1 bt496.2.1) else ((laws_fSame.f k bt513.1 bt517.1).bind fun t535 => (if t535 = true then (if (bt521.2 != bt523.2) = true then (j0 k l1 bt496.2.2.1 bt496.2.2.2.1 bt496.2.2.2.2.1 bt496.2.2.2.2.2 bt505.1 bt505.2 bt509.1 bt513.1 bt521.1 bt521.2 bt525.1 bt525.2.1 bt525.2.2 bt531.1 true bt496.1 bt496.2.1) else (if bt521.1 = bt523.1 then (if (bt525.2.2 != bt528.2.2) = true then (j0 k l1 bt496.2.2.1 bt496.2.2.2.1 bt496.2.2.2.2.1 bt496.2.2.2.2.2 bt505.1 bt505.2 bt509.1 bt513.1 bt521.1 bt521.2 bt525.1 bt525.2.1 bt525.2.2 bt531.1 true bt496.1 bt496.2.1) else (if bt525.1 = bt528.1 then (if bt525.2.1 = bt528.2.1 then (if (bt531.2 != bt533.2) = true then (j0 k l1 bt496.2.2.1 bt496.2.2.2.1 bt496.2.2.2.2.1 bt496.2.2.2.2.2 bt505.1 bt505.2 bt509.1 bt513.1 bt521.1 bt521.2 bt525.1 bt525.2.1 bt525.2.2 bt531.1 true bt496.1 bt496.2.1) else (if bt531.1.toList = bt533.1.toList then (if (bt509.2 != bt505.2) = true then (j0 k l1 bt496.2.2.1 bt496.2.2.2.1 bt496.2.2.2.2.1 bt496.2.2.2.2.2 bt505.1 bt505.2 bt509.1 bt513.1 bt521.1 bt521.2 bt525.1 bt525.2.1 bt525.2.2 bt531.1 true bt496.1 bt496.2.1) else (if (bt513.2 != bt505.2) = true then (j0 k l1 bt496.2.2.1 bt496.2.2.2.1 bt496.2.2.2.2.1 bt496.2.2.2.2.2 bt505.1 bt505.2 bt509.1 bt513.1 bt521.1 bt521.2 bt525.1 bt525.2.1 bt525.2.2 bt531.1 true bt496.1 bt496.2.1) else (if bt505.2 = true then (if bt521.2 = true then ((impl_IsShelf.f k bt496.1 bt496.2.1).bind fun t536 => (if (bt521.2 != t536) = true then (j0 k l1 bt496.2.2.1 bt496.2.2.2.1 bt496.2.2.2.2.1 bt496.2.2.2.2.2 bt505.1 bt505.2 bt509.1 bt513.1 bt521.1 bt521.2 bt525.1 bt525.2.1 bt525.2.2 bt531.1 true bt496.1 bt496.2.1) else ((impl_IsShelf.f k bt496.1 bt496.2.1).bind fun t537 => ((spec_IsShelf.f k bt496.1 bt496.2.1).bind fun t538 => (if (t537 != t538) = true then (j0 k l1 bt496.2.2.1 bt496.2.2.2.1 bt496.2.2.2.2.1 bt496.2.2.2.2.2 bt505.1 bt505.2 bt509.1 bt513.1 bt521.1 bt521.2 bt525.1 bt525.2.1 bt525.2.2 bt531.1 true bt496.1 bt496.2.1) else (if (bt531.2 != bt521.2) = true then (j0 k l1 bt496.2.2.1 bt496.2.2.2.1 bt496.2.2.2.2.1 bt496.2.2.2.2.2 bt505.1 bt505.2 bt509.1 bt513.1 bt521.1 bt521.2 bt525.1 bt525.2.1 bt525.2.2 bt531.1 true bt496.1 bt496.2.1) else (if bt525.2.2 = true then (j0 k l1 bt496.2.2.1 bt496.2.2.2.1 bt496.2.2.2.2.1 bt496.2.2.2.2.2 bt505.1 bt505.2 bt509.1 bt513.1 bt521.1 bt521.2 bt525.1 bt525.2.1 bt525.2.2 bt531.1 (!bt521.2) bt496.1 bt496.2.1) else (j0 k l1 bt496.2.2.1 bt496.2.2.2.1 bt496.2.2.2.2.1 bt496.2.2.2.2.2 bt505.1 bt505.2 bt509.1 bt513.1 bt521.1 bt521.2 bt525.1 bt525.2.1 bt525.2.2 bt531.1 false bt496.1 bt496.2.1)))))))) else (j0 k l1 bt496.2.2.1 bt496.2.2.2.1 bt496.2.2.2.2.1 bt496.2.2.2.2.2 bt505.1 bt505.2 bt509.1 bt513.1 bt521.1 bt521.2 bt525.1 bt525.2.1 bt525.2.2 bt531.1 true bt496.1 bt496.2.1)) else ((impl_IsShelf.f k bt496.1 bt496.2.1).bind fun t539 => (if (bt521.2 != t539) = true then (j0 k l1 bt496.2.2.1 bt496.2.2.2.1 bt496.2.2.2.2.1 bt496.2.2.2.2.2 bt505.1 bt505.2 bt509.1 bt513.1 bt521.1 bt521.2 bt525.1 bt525.2.1 bt525.2.2 bt531.1 true bt496.1 bt496.2.1) else ((impl_IsShelf.f k bt496.1 bt496.2.1).bind fun t540 => ((spec_IsShelf.f k bt496.1 bt496.2.1).bind fun t541 => (if (t540 != t541) = true then (j0 k l1 bt496.2.2.1 bt496.2.2.2.1 bt496.2.2.2.2.1 bt496.2.2.2.2.2 bt505.1 bt505.2 bt509.1 bt513.1 bt521.1 bt521.2 bt525.1 bt525.2.1 bt525.2.2 bt531.1 true bt496.1 bt496.2.1) else (if (bt531.2 != bt521.2) = true then (j0 k l1 bt496.2.2.1 bt496.2.2.2.1 bt496.2.2.2.2.1 bt496.2.2.2.2.2 bt505.1 bt505.2 bt509.1 bt513.1 bt521.1 bt521.2 bt525.1 bt525.2.1 bt525.2.2 bt531.1 true bt496.1 bt496.2.1) else (if bt525.2.2 = true then (j0 k l1 bt496.2.2.1 bt496.2.2.2.1 bt496.2.2.2.2.1 bt496.2.2.2.2.2 bt505.1 bt505.2 bt509.1 bt513.1 bt521.1 bt521.2 bt525.1 bt525.2.1 bt525.2.2 bt531.1 (!bt521.2) bt496.1 bt496.2.1) else (j0 k l1 bt496.2.2.1 bt496.2.2.2.1 bt496.2.2.2.2.1 bt496.2.2.2.2.2 bt505.1 bt505.2 bt509.1 bt513.1 bt521.1 bt521.2 bt525.1 bt525.2.1 bt525.2.2 bt531.1 false bt496.1 bt496.2.1))))))))))) else (j0 k l1 bt496.2.2.1 bt496.2.2.2.1 bt496.2.2.2.2.1 bt496.2.2.2.2.2 bt505.1 bt505.2 bt509.1 bt513.1 bt521.1 bt521.2 bt525.1 bt525.2.1 bt525.2.2 bt531.1 true bt496.1 bt496.2.1))) else (j0 k l1 bt496.2.2.1 bt496.2.2.2.1 bt496.2.2.2.2.1 bt496.2.2.2.2.2 bt505.1 bt505.2 bt509.1 bt513.1 bt521.1 bt521.2 bt525.1 bt525.2.1 bt525.2.2 bt531.1 true bt496.1 bt496.2.1)) else (j0 k l1 bt496.2.2.1 bt496.2.2.2.1 bt496.2.2.2.2.1 bt496.2.2.2.2.2 bt505.1 bt505.2 bt509.1 bt513.1 bt521.1 bt521.2 bt525.1 bt525.2.1 bt525.2.2 bt531.1 true bt496.1 bt496.2.1))) else (j0 k l1 bt496.2.2.1 bt496.2.2.2.1 bt496.2.2.2.2.1 bt496.2.2.2.2.2 bt505.1 bt505.2 bt509.1 bt513.1 bt521.1 bt521.2 bt525.1 bt525.2.1 bt525.2.2 bt531.1 true bt496.1 bt496.2.1))) else (j0 k l1 bt496.2.2.1 bt496.2.2.2.1 bt496.2.2.2.2.1 bt496.2.2.2.2.2 bt505.1 bt505.2 bt509.1 bt513.1 bt521.1 bt521.2 bt525.1 bt525.2.1 bt525.2.2 bt531.1 true bt496.1 bt496.2.1)))) else (j0 k l1 bt496.2.2.1 bt496.2.2.2.1 bt496.2.2.2.2.1 bt496.2.2.2.2.2 bt505.1 bt505.2 bt509.1 bt513.1 bt521.1 bt521.2 bt525.1 bt525.2.1 bt525.2.2 bt531.1 true bt496.1 bt496.2.1))) else (j0 k l1 bt496.2.2.1 bt496.2.2.2.1 bt496.2.2.2.2.1 bt496.2.2.2.2.2 bt505.1 bt505.2 bt509.1 bt513.1 bt521.1 bt521.2 bt525.1 bt525.2.1 bt525.2.2 bt531.1 true bt496.1 bt496.2.1)))))))))))))))))) = some r := h
 clear h
 replace H := bqz_ H; obtain ⟨t495, A3, H⟩ := H
 replace H : (if t495 = true then (some true) else ((spec_DrawWormEats.f k l0).bind fun bt496 => ((impl_WormEats.f k bt496.1 bt496.2.1 bt496.2.2.1 bt496.2.2.2.1 bt496.2.2.2.2.1 bt496.2.2.2.2.2).bind fun bt505 => ((spec_WormEats.f k bt496.1 bt496.2.1 bt496.2.2.1 bt496.2.2.2.1 bt496.2.2.2.2.1 bt496.2.2.2.2.2).bind fun bt507 => ((impl_CoversEaten.f k bt496.1 bt496.2.1 bt496.2.2.1 bt496.2.2.2.1 bt496.2.2.2.2.1 bt496.2.2.2.2.2).bind fun bt509 => ((spec_CoversEaten.f k bt496.1 bt496.2.1 bt496.2.2.1 bt496.2.2.2.1 bt496.2.2.2.2.1 bt496.2.2.2.2.2).bind fun bt511 => ((impl_PagesEaten.f k bt496.1 bt496.2.1 bt496.2.2.1 bt496.2.2.2.1 bt496.2.2.2.2.1 bt496.2.2.2.2.2).bind fun bt513 => ((spec_PagesEaten.f k bt496.1 bt496.2.1 bt496.2.2.1 bt496.2.2.2.1 bt496.2.2.2.2.1 bt496.2.2.2.2.2).bind fun bt517 => ((impl_WidthOf.f k bt496.1 bt496.2.1).bind fun bt521 => ((spec_WidthOf.f k bt496.1 bt496.2.1).bind fun bt523 => ((impl_LongestWorm.f k bt496.1 bt496.2.1).bind fun bt525 => ((spec_LongestWorm.f k bt496.1 bt496.2.1).bind fun bt528 => ((impl_ShelfText.f k bt496.1 bt496.2.1).bind fun bt531 => ((spec_ShelfText.f k bt496.1 bt496.2.1).bind fun bt533 => (if (bt505.2 != bt507.2) = true then (j0 k l1 bt496.2.2.1 bt496.2.2.2.1 bt496.2.2.2.2.1 bt496.2.2.2.2.2 bt505.1 bt505.2 bt509.1 bt513.1 bt521.1 bt521.2 bt525.1 bt525.2.1 bt525.2.2 bt531.1 true bt496.1 bt496.2.1) else (if bt505.1 = bt507.1 then (if (bt509.2 != bt511.2) = true then (j0 k l1 bt496.2.2.1 bt496.2.2.2.1 bt496.2.2.2.2.1 bt496.2.2.2.2.2 bt505.1 bt505.2 bt509.1 bt513.1 bt521.1 bt521.2 bt525.1 bt525.2.1 bt525.2.2 bt531.1 true bt496.1 bt496.2.1) else (if bt509.1 = bt511.1 then (if (bt513.2 != bt517.2) = true then (j0 k l1 bt496.2.2.1 bt496.2.2.2.1 bt496.2.2.2.2.1 bt496.2.2.2.2.2 bt505.1 bt505.2 bt509.1 bt513.1 bt521.1 bt521.2 bt525.1 bt525.2.1 bt525.2.2 bt531.1 true bt496.1 bt496.2.1) else ((laws_fSame.f k bt513.1 bt517.1).bind fun t535 => (if t535 = true then (if (bt521.2 != bt523.2) = true then (j0 k l1 bt496.2.2.1 bt496.2.2.2.1 bt496.2.2.2.2.1 bt496.2.2.2.2.2 bt505.1 bt505.2 bt509.1 bt513.1 bt521.1 bt521.2 bt525.1 bt525.2.1 bt525.2.2 bt531.1 true bt496.1 bt496.2.1) else (if bt521.1 = bt523.1 then (if (bt525.2.2 != bt528.2.2) = true then (j0 k l1 bt496.2.2.1 bt496.2.2.2.1 bt496.2.2.2.2.1 bt496.2.2.2.2.2 bt505.1 bt505.2 bt509.1 bt513.1 bt521.1 bt521.2 bt525.1 bt525.2.1 bt525.2.2 bt531.1 true bt496.1 bt496.2.1) else (if bt525.1 = bt528.1 then (if bt525.2.1 = bt528.2.1 then (if (bt531.2 != bt533.2) = true then (j0 k l1 bt496.2.2.1 bt496.2.2.2.1 bt496.2.2.2.2.1 bt496.2.2.2.2.2 bt505.1 bt505.2 bt509.1 bt513.1 bt521.1 bt521.2 bt525.1 bt525.2.1 bt525.2.2 bt531.1 true bt496.1 bt496.2.1) else (if bt531.1.toList = bt533.1.toList then (if (bt509.2 != bt505.2) = true then (j0 k l1 bt496.2.2.1 bt496.2.2.2.1 bt496.2.2.2.2.1 bt496.2.2.2.2.2 bt505.1 bt505.2 bt509.1 bt513.1 bt521.1 bt521.2 bt525.1 bt525.2.1 bt525.2.2 bt531.1 true bt496.1 bt496.2.1) else (if (bt513.2 != bt505.2) = true then (j0 k l1 bt496.2.2.1 bt496.2.2.2.1 bt496.2.2.2.2.1 bt496.2.2.2.2.2 bt505.1 bt505.2 bt509.1 bt513.1 bt521.1 bt521.2 bt525.1 bt525.2.1 bt525.2.2 bt531.1 true bt496.1 bt496.2.1) else (if bt505.2 = true then (if bt521.2 = true then ((impl_IsShelf.f k bt496.1 bt496.2.1).bind fun t536 => (if (bt521.2 != t536) = true then (j0 k l1 bt496.2.2.1 bt496.2.2.2.1 bt496.2.2.2.2.1 bt496.2.2.2.2.2 bt505.1 bt505.2 bt509.1 bt513.1 bt521.1 bt521.2 bt525.1 bt525.2.1 bt525.2.2 bt531.1 true bt496.1 bt496.2.1) else ((impl_IsShelf.f k bt496.1 bt496.2.1).bind fun t537 => ((spec_IsShelf.f k bt496.1 bt496.2.1).bind fun t538 => (if (t537 != t538) = true then (j0 k l1 bt496.2.2.1 bt496.2.2.2.1 bt496.2.2.2.2.1 bt496.2.2.2.2.2 bt505.1 bt505.2 bt509.1 bt513.1 bt521.1 bt521.2 bt525.1 bt525.2.1 bt525.2.2 bt531.1 true bt496.1 bt496.2.1) else (if (bt531.2 != bt521.2) = true then (j0 k l1 bt496.2.2.1 bt496.2.2.2.1 bt496.2.2.2.2.1 bt496.2.2.2.2.2 bt505.1 bt505.2 bt509.1 bt513.1 bt521.1 bt521.2 bt525.1 bt525.2.1 bt525.2.2 bt531.1 true bt496.1 bt496.2.1) else (if bt525.2.2 = true then (j0 k l1 bt496.2.2.1 bt496.2.2.2.1 bt496.2.2.2.2.1 bt496.2.2.2.2.2 bt505.1 bt505.2 bt509.1 bt513.1 bt521.1 bt521.2 bt525.1 bt525.2.1 bt525.2.2 bt531.1 (!bt521.2) bt496.1 bt496.2.1) else (j0 k l1 bt496.2.2.1 bt496.2.2.2.1 bt496.2.2.2.2.1 bt496.2.2.2.2.2 bt505.1 bt505.2 bt509.1 bt513.1 bt521.1 bt521.2 bt525.1 bt525.2.1 bt525.2.2 bt531.1 false bt496.1 bt496.2.1)))))))) else (j0 k l1 bt496.2.2.1 bt496.2.2.2.1 bt496.2.2.2.2.1 bt496.2.2.2.2.2 bt505.1 bt505.2 bt509.1 bt513.1 bt521.1 bt521.2 bt525.1 bt525.2.1 bt525.2.2 bt531.1 true bt496.1 bt496.2.1)) else ((impl_IsShelf.f k bt496.1 bt496.2.1).bind fun t539 => (if (bt521.2 != t539) = true then (j0 k l1 bt496.2.2.1 bt496.2.2.2.1 bt496.2.2.2.2.1 bt496.2.2.2.2.2 bt505.1 bt505.2 bt509.1 bt513.1 bt521.1 bt521.2 bt525.1 bt525.2.1 bt525.2.2 bt531.1 true bt496.1 bt496.2.1) else ((impl_IsShelf.f k bt496.1 bt496.2.1).bind fun t540 => ((spec_IsShelf.f k bt496.1 bt496.2.1).bind fun t541 => (if (t540 != t541) = true then (j0 k l1 bt496.2.2.1 bt496.2.2.2.1 bt496.2.2.2.2.1 bt496.2.2.2.2.2 bt505.1 bt505.2 bt509.1 bt513.1 bt521.1 bt521.2 bt525.1 bt525.2.1 bt525.2.2 bt531.1 true bt496.1 bt496.2.1) else (if (bt531.2 != bt521.2) = true then (j0 k l1 bt496.2.2.1 bt496.2.2.2.1 bt496.2.2.2.2.1 bt496.2.2.2.2.2 bt505.1 bt505.2 bt509.1 bt513.1 bt521.1 bt521.2 bt525.1 bt525.2.1 bt525.2.2 bt531.1 true bt496.1 bt496.2.1) else (if bt525.2.2 = true then (j0 k l1 bt496.2.2.1 bt496.2.2.2.1 bt496.2.2.2.2.1 bt496.2.2.2.2.2 bt505.1 bt505.2 bt509.1 bt513.1 bt521.1 bt521.2 bt525.1 bt525.2.1 bt525.2.2 bt531.1 (!bt521.2) bt496.1 bt496.2.1) else (j0 k l1 bt496.2.2.1 bt496.2.2.2.1 bt496.2.2.2.2.1 bt496.2.2.2.2.2 bt505.1 bt505.2 bt509.1 bt513.1 bt521.1 bt521.2 bt525.1 bt525.2.1 bt525.2.2 bt531.1 false bt496.1 bt496.2.1))))))))))) else (j0 k l1 bt496.2.2.1 bt496.2.2.2.1 bt496.2.2.2.2.1 bt496.2.2.2.2.2 bt505.1 bt505.2 bt509.1 bt513.1 bt521.1 bt521.2 bt525.1 bt525.2.1 bt525.2.2 bt531.1 true bt496.1 bt496.2.1))) else (j0 k l1 bt496.2.2.1 bt496.2.2.2.1 bt496.2.2.2.2.1 bt496.2.2.2.2.2 bt505.1 bt505.2 bt509.1 bt513.1 bt521.1 bt521.2 bt525.1 bt525.2.1 bt525.2.2 bt531.1 true bt496.1 bt496.2.1)) else (j0 k l1 bt496.2.2.1 bt496.2.2.2.1 bt496.2.2.2.2.1 bt496.2.2.2.2.2 bt505.1 bt505.2 bt509.1 bt513.1 bt521.1 bt521.2 bt525.1 bt525.2.1 bt525.2.2 bt531.1 true bt496.1 bt496.2.1))) else (j0 k l1 bt496.2.2.1 bt496.2.2.2.1 bt496.2.2.2.2.1 bt496.2.2.2.2.2 bt505.1 bt505.2 bt509.1 bt513.1 bt521.1 bt521.2 bt525.1 bt525.2.1 bt525.2.2 bt531.1 true bt496.1 bt496.2.1))) else (j0 k l1 bt496.2.2.1 bt496.2.2.2.1 bt496.2.2.2.2.1 bt496.2.2.2.2.2 bt505.1 bt505.2 bt509.1 bt513.1 bt521.1 bt521.2 bt525.1 bt525.2.1 bt525.2.2 bt531.1 true bt496.1 bt496.2.1)))) else (j0 k l1 bt496.2.2.1 bt496.2.2.2.1 bt496.2.2.2.2.1 bt496.2.2.2.2.2 bt505.1 bt505.2 bt509.1 bt513.1 bt521.1 bt521.2 bt525.1 bt525.2.1 bt525.2.2 bt531.1 true bt496.1 bt496.2.1))) else (j0 k l1 bt496.2.2.1 bt496.2.2.2.1 bt496.2.2.2.2.1 bt496.2.2.2.2.2 bt505.1 bt505.2 bt509.1 bt513.1 bt521.1 bt521.2 bt525.1 bt525.2.1 bt525.2.2 bt531.1 true bt496.1 bt496.2.1))))))))))))))))) = some r := H
 by_cases c4 : t495 = true
 ·subst c4
  rw [if_pos rfl] at H
  obtain rfl := Option.some.inj H; clear hrT
  go_enter Tryz.func3, Tryz.ntmps3
  (try simp only [List.append_eq, List.append, List.cons_append, List.nil_append])
  go_wp2_with (((with_reducible refine gate_callee (f := 4) rfl ?_); refine goesL_ (some 87) rfl rfl Tryz.func4 (w94_) rfl #[.slice A0 l0.length c0, .slice A1 l1.length c1] rfl maz_ ?_; (with_reducible refine (laws_big.calls _ _ l0 _ _ l1 true _ ?side1 ?side2 ?side3 ?side4 A3.out).mono ?_); (case side1 => exact ucz_ (HR0.out)); (case side2 => exact HC0.out); (case side3 => exact ucz_ (HR1.out)); (case side4 => exact HC1.out); rintro e w' ⟨rfl, ⟨nd, rfl⟩⟩; refine ⟨_, rfl, ?_⟩))
  go_ret
  exact ⟨w74_, w92_⟩
 replace c4 := Bool.eq_false_iff.mpr c4
 subst c4
 rw [if_neg nfz_] at H
 replace H := bqz_ H; obtain ⟨⟨t496, t499, t500, t501, t502, t503⟩, A5, H⟩ := H
 replace H := bqz_ H; obtain ⟨⟨t505, t506⟩, A6, H⟩ := H
 replace H := bqz_ H; obtain ⟨⟨t507, t508⟩, A7, H⟩ := H
 replace H := bqz_ H; obtain ⟨⟨t509, t510⟩, A8, H⟩ := H
 replace H := bqz_ H; obtain ⟨⟨t511, t512⟩, A9, H⟩ := H
 replace H := bqz_ H; obtain ⟨⟨t513, t516⟩, A10, H⟩ := H
 replace H := bqz_ H; obtain ⟨⟨t517, t520⟩, A11, H⟩ := H
 replace H := bqz_ H; obtain ⟨⟨t521, t522⟩, A12, H⟩ := H
 replace H := bqz_ H; obtain ⟨⟨t523, t524⟩, A13, H⟩ := H
 replace H := bqz_ H; obtain ⟨⟨t525, t526, t527⟩, A14, H⟩ := H
 replace H := bqz_ H; obtain ⟨⟨t528, t529, t530⟩, A15, H⟩ := H
 replace H := bqz_ H; obtain ⟨⟨t531, t532⟩, A16, H⟩ := H
 replace H := bqz_ H; obtain ⟨⟨t533, t534⟩, A17, H⟩ := H
 replace H : (if (t506 != t508) = true then (j0 k l1 t500 t501 t502 t503 t505 t506 t509 t513 t521 t522 t525 t526 t527 t531 true t496 t499) else (if t505 = t507 then (if (t510 != t512) = true then (j0 k l1 t500 t501 t502 t503 t505 t506 t509 t513 t521 t522 t525 t526 t527 t531 true t496 t499) else (if t509 = t511 then (if (t516 != t520) = true then (j0 k l1 t500 t501 t502 t503 t505 t506 t509 t513 t521 t522 t525 t526 t527 t531 true t496 t499) else ((laws_fSame.f k t513 t517).bind fun t535 => (if t535 = true then (if (t522 != t524) = true then (j0 k l1 t500 t501 t502 t503 t505 t506 t509 t513 t521 t522 t525 t526 t527 t531 true t496 t499) else (if t521 = t523 then (if (t527 != t530) = true then (j0 k l1 t500 t501 t502 t503 t505 t506 t509 t513 t521 t522 t525 t526 t527 t531 true t496 t499) else (if t525 = t528 then (if t526 = t529 then (if (t532 != t534) = true then (j0 k l1 t500 t501 t502 t503 t505 t506 t509 t513 t521 t522 t525 t526 t527 t531 true t496 t499) else (if t531.toList = t533.toList then (if (t510 != t506) = true then (j0 k l1 t500 t501 t502 t503 t505 t506 t509 t513 t521 t522 t525 t526 t527 t531 true t496 t499) else (if (t516 != t506) = true then (j0 k l1 t500 t501 t502 t503 t505 t506 t509 t513 t521 t522 t525 t526 t527 t531 true t496 t499) else (if t506 = true then (if t522 = true then ((impl_IsShelf.f k t496 t499).bind fun t536 => (if (t522 != t536) = true then (j0 k l1 t500 t501 t502 t503 t505 t506 t509 t513 t521 t522 t525 t526 t527 t531 true t496 t499) else ((impl_IsShelf.f k t496 t499).bind fun t537 => ((spec_IsShelf.f k t496 t499).bind fun t538 => (if (t537 != t538) = true then (j0 k l1 t500 t501 t502 t503 t505 t506 t509 t513 t521 t522 t525 t526 t527 t531 true t496 t499) else (if (t532 != t522) = true then (j0 k l1 t500 t501 t502 t503 t505 t506 t509 t513 t521 t522 t525 t526 t527 t531 true t496 t499) else (if t527 = true then (j0 k l1 t500 t501 t502 t503 t505 t506 t509 t513 t521 t522 t525 t526 t527 t531 (!t522) t496 t499) else (j0 k l1 t500 t501 t502 t503 t505 t506 t509 t513 t521 t522 t525 t526 t527 t531 false t496 t499)))))))) else (j0 k l1 t500 t501 t502 t503 t505 t506 t509 t513 t521 t522 t525 t526 t527 t531 true t496 t499)) else ((impl_IsShelf.f k t496 t499).bind fun t539 => (if (t522 != t539) = true then (j0 k l1 t500 t501 t502 t503 t505 t506 t509 t513 t521 t522 t525 t526 t527 t531 true t496 t499) else ((impl_IsShelf.f k t496 t499).bind fun t540 => ((spec_IsShelf.f k t496 t499).bind fun t541 => (if (t540 != t541) = true then (j0 k l1 t500 t501 t502 t503 t505 t506 t509 t513 t521 t522 t525 t526 t527 t531 true t496 t499) else (if (t532 != t522) = true then (j0 k l1 t500 t501 t502 t503 t505 t506 t509 t513 t521 t522 t525 t526 t527 t531 true t496 t499) else (if t527 = true then (j0 k l1 t500 t501 t502 t503 t505 t506 t509 t513 t521 t522 t525 t526 t527 t531 (!t522) t496 t499) else (j0 k l1 t500 t501 t502 t503 t505 t506 t509 t513 t521 t522 t525 t526 t527 t531 false t496 t499))))))))))) else (j0 k l1 t500 t501 t502 t503 t505 t506 t509 t513 t521 t522 t525 t526 t527 t531 true t496 t499))) else (j0 k l1 t500 t501 t502 t503 t505 t506 t509 t513 t521 t522 t525 t526 t527 t531 true t496 t499)) else (j0 k l1 t500 t501 t502 t503 t505 t506 t509 t513 t521 t522 t525 t526 t527 t531 true t496 t499))) else (j0 k l1 t500 t501 t502 t503 t505 t506 t509 t513 t521 t522 t525 t526 t527 t531 true t496 t499))) else (j0 k l1 t500 t501 t502 t503 t505 t506 t509 t513 t521 t522 t525 t526 t527 t531 true t496 t499)))) else (j0 k l1 t500 t501 t502 t503 t505 t506 t509 t513 t521 t522 t525 t526 t527 t531 true t496 t499))) else (j0 k l1 t500 t501 t502 t503 t505 t506 t509 t513 t521 t522 t525 t526 t527 t531 true t496 t499))) = some r := H
 have HC18 := Az_ H
 clear H
 go_enter Tryz.func3, Tryz.ntmps3
 (try simp only [List.append_eq, List.append, List.cons_append, List.nil_append])
 go_upto_region 16 with (first | ((with_reducible refine gate_callee (f := 4) rfl ?_); refine goesL_ (some 87) rfl rfl Tryz.func4 (w94_) rfl #[.slice A0 l0.length c0, .slice A1 l1.length c1] rfl maz_ ?_; (with_reducible refine (laws_big.calls _ _ l0 _ _ l1 false _ ?side1 ?side2 ?side3 ?side4 A3.out).mono ?_); (case side1 => exact ucz_ (HR0.out)); (case side2 => exact HC0.out); (case side3 => exact ucz_ (HR1.out)); (case side4 => exact HC1.out); rintro e w' ⟨rfl, ⟨nd, rfl⟩⟩; refine ⟨_, rfl, ?_⟩) | ((with_reducible refine gate_callee (f := 5) rfl ?_); refine goesL_ (some 90) rfl rfl Tryz.func5 (w94_) rfl #[.slice A0 l0.length c0] rfl maz_ ?_; (with_reducible refine (spec_DrawWormEats.calls k _ _ l0 t496 t499 t500 t501 t502 t503 _ ?side1 ?side2 A5.out).mono ?_); (case side1 => exact ucz_ (HR0.out)); (case side2 => exact HC0.out); rintro e w19 ⟨v497, rfl, ho0, hb⟩; refine ⟨_, rfl, ?_⟩; have HO498 := Az_ (Kd.V_lower (Kd.V_mono (ok' := fun k_ => True) ho0 (fun k_ hk_ => trivial)) (below_size (ubz_ HB.out))); replace HB := Az_ (btz_ (ubz_ HB.out) hb); (try clear hb); (try clear ho0)) | ((with_reducible refine gate_dst (N := 5) rfl ?_); (try (refine gate_guard (by rfl) ?_; dsimp only)); refine box_event ?hg (N := 5) ?hd (cs := #[.slice none 0 0, .int .i64 0]) (t := 26) ?hr ?_; (case hd => rfl); (case hg => rfl); (case hr => first | (go_simp; done) | (go_simp; rfl)); intro gb504 hg w20 hbox hb; replace HO498 := Az_ (Kd.V_below (Kd.V_elderB (w63_) gb504 (Nat.le_of_eq hg.symm)) hb); have BK504 := Az_ (hbox); have GW504 := Az_ ((by rw [hg]; exact (below_size (ubz_ HB.out)) : w.heap.size ≤ gb504)); have GE504 := Az_ ((by rw [hg]; exact (below_size (ubz_ HB.out)) : w.heap.size ≤ gb504)); replace HB := Az_ (btz_ (ubz_ HB.out) hb); clear hb hbox hg; obtain ⟨Ao21, co21, eo21⟩ := Kd.V_slice HO498.out; subst eo21; have hcz22_0 : w20.cell? ⟨gb504, 0, none⟩ = some (.slice none 0 0) := (blk_cell BK504.out 0).trans rfl; have hcz22_1 : w20.cell? ⟨gb504, 1, none⟩ = some (.int .i64 0) := (blk_cell BK504.out 1).trans rfl; have hfz22_0 := blk_frozen BK504.out 0; have hfz22_1 := blk_frozen BK504.out 1) | ((with_reducible refine gate_callee (f := 6) rfl ?_); refine goesL_ (some 102) rfl rfl Tryz.func6 (w94_) rfl #[.agg #[.slice Ao21 t496.length co21, .int .i64 t499], .int .i64 t500, .bool t501, .int .i64 t502, .bool t503] rfl maz_ ?_; (with_reducible refine (impl_WormEats.calls k _ _ t496 t499 t500 t501 t502 t503 t505 t506 _ ?side1 ?side2 A6.out).mono ?_); (case side1 => refine (Kd.V_reads' (e := 3) (base := w.heap.size) (ok := fun k_ => (True ∧ k_ ≠ gb504)) (n := t496.length) (c := co21) ?_).2.2; exact (w10_)); (case side2 => exact (Kd.V_reads' HO498.out).2.1); rintro e w23 ⟨rfl, hb⟩; refine ⟨_, rfl, ?_⟩; replace HO498 := Az_ (Kd.V_below (w10_) hb); replace BK504 := Az_ (kbz_ (g := gb504) (o := .cells #[.slice Ao21 t496.length co21, .int .i64 t499] 26 (0, 0)) (by (with_reducible repeat (first | refine knz_ ?_ _ | refine kdz_ ?_ | refine kaz_ ?_ _)); refine blk_put (cs := #[.slice Ao21 t496.length co21, .int .i64 0]) ?_ 1 _ rfl; (with_reducible repeat (first | refine knz_ ?_ _ | refine kdz_ ?_ | refine kaz_ ?_ _)); refine blk_put (cs := #[.slice none 0 0, .int .i64 0]) ?_ 0 _ rfl; (with_reducible repeat (first | refine knz_ ?_ _ | refine kdz_ ?_ | refine kaz_ ?_ _)); exact BK504.out) hb); replace HB := Az_ (btz_ (w52_) hb); (try clear hb); have hcz24_0 : w23.cell? ⟨gb504, 0, none⟩ = some (.slice Ao21 t496.length co21) := (blk_cell BK504.out 0).trans rfl; have hcz24_1 : w23.cell? ⟨gb504, 1, none⟩ = some (.int .i64 t499) := (blk_cell BK504.out 1).trans rfl; have hfz24_0 := blk_frozen BK504.out 0; have hfz24_1 := blk_frozen BK504.out 1) | ((with_reducible refine gate_callee (f := 7) rfl ?_); refine goesL_ (some 111) rfl rfl Tryz.func7 (w94_) rfl #[.agg #[.slice Ao21 t496.length co21, .int .i64 t499], .int .i64 t500, .bool t501, .int .i64 t502, .bool t503] rfl maz_ ?_; (with_reducible refine (spec_WormEats.calls k _ _ t496 t499 t500 t501 t502 t503 t507 t508 _ ?side1 ?side2 A7.out).mono ?_); (case side1 => exact ucz_ ((Kd.V_reads' HO498.out).2.2)); (case side2 => exact (Kd.V_reads' HO498.out).2.1); rintro e w25 ⟨rfl, hb⟩; refine ⟨_, rfl, ?_⟩; have n0_ := Az_ (Kd.V_below (w63_) hb); have n2_ := Az_ (btz_ (w52_) hb); clear HO498; clear HB; have HO498 := n0_; replace BK504 := Az_ (ukbz_ BK504.out hb); have HB := n2_; clear n0_ n2_; (try clear hb); have hcz26_0 : w25.cell? ⟨gb504, 0, none⟩ = some (.slice Ao21 t496.length co21) := (blk_cell BK504.out 0).trans rfl; have hcz26_1 : w25.cell? ⟨gb504, 1, none⟩ = some (.int .i64 t499) := (blk_cell BK504.out 1).trans rfl; have hfz26_0 := blk_frozen BK504.out 0; have hfz26_1 := blk_frozen BK504.out 1) | ((with_reducible refine gate_callee (f := 8) rfl ?_); refine goesL_ (some 120) rfl rfl Tryz.func8 (w94_) rfl #[.agg #[.slice Ao21 t496.length co21, .int .i64 t499], .int .i64 t500, .bool t501, .int .i64 t502, .bool t503] rfl maz_ ?_; (with_reducible refine (impl_CoversEaten.calls k _ _ t496 t499 t500 t501 t502 t503 t509 t510 _ ?side1 ?side2 A8.out).mono ?_); (case side1 => exact ucz_ ((Kd.V_reads' HO498.out).2.2)); (case side2 => exact (Kd.V_reads' HO498.out).2.1); rintro e w27 ⟨rfl, hb⟩; refine ⟨_, rfl, ?_⟩; have n0_ := Az_ (Kd.V_below (w63_) hb); have n2_ := Az_ (btz_ (w52_) hb); clear HO498; clear HB; have HO498 := n0_; replace BK504 := Az_ (ukbz_ BK504.out hb); have HB := n2_; clear n0_ n2_; (try clear hb); have hcz28_0 : w27.cell? ⟨gb504, 0, none⟩ = some (.slice Ao21 t496.length co21) := (blk_cell BK504.out 0).trans rfl; have hcz28_1 : w27.cell? ⟨gb504, 1, none⟩ = some (.int .i64 t499) := (blk_cell BK504.out 1).trans rfl; have hfz28_0 := blk_frozen BK504.out 0; have hfz28_1 := blk_frozen BK504.out 1) | ((with_reducible refine gate_callee (f := 9) rfl ?_); refine goesL_ (some 129) rfl rfl Tryz.func9 (w94_) rfl #[.agg #[.slice Ao21 t496.length co21, .int .i64 t499], .int .i64 t500, .bool t501, .int .i64 t502, .bool t503] rfl maz_ ?_; (with_reducible refine (spec_CoversEaten.calls k _ _ t496 t499 t500 t501 t502 t503 t511 t512 _ ?side1 ?side2 A9.out).mono ?_); (case side1 => exact ucz_ ((Kd.V_reads' HO498.out).2.2)); (case side2 => exact (Kd.V_reads' HO498.out).2.1); rintro e w29 ⟨rfl, hb⟩; refine ⟨_, rfl, ?_⟩; have n0_ := Az_ (Kd.V_below (w63_) hb); have n2_ := Az_ (btz_ (w52_) hb); clear HO498; clear HB; have HO498 := n0_; replace BK504 := Az_ (ukbz_ BK504.out hb); have HB := n2_; clear n0_ n2_; (try clear hb); have hcz30_0 : w29.cell? ⟨gb504, 0, none⟩ = some (.slice Ao21 t496.length co21) := (blk_cell BK504.out 0).trans rfl; have hcz30_1 : w29.cell? ⟨gb504, 1, none⟩ = some (.int .i64 t499) := (blk_cell BK504.out 1).trans rfl; have hfz30_0 := blk_frozen BK504.out 0; have hfz30_1 := blk_frozen BK504.out 1) | ((with_reducible refine gate_callee (f := 10) rfl ?_); refine goesL_ (some 138) rfl rfl Tryz.func10 (w94_) rfl #[.agg #[.slice Ao21 t496.length co21, .int .i64 t499], .int .i64 t500, .bool t501, .int .i64 t502, .bool t503] rfl maz_ ?_; (with_reducible refine (impl_PagesEaten.calls k _ _ t496 t499 t500 t501 t502 t503 t513 t516 _ ?side1 ?side2 A10.out).mono ?_); (case side1 => exact ucz_ ((Kd.V_reads' HO498.out).2.2)); (case side2 => exact (Kd.V_reads' HO498.out).2.1); rintro e w31 ⟨v514, rfl, ho0, hb⟩; refine ⟨_, rfl, ?_⟩; have n0_ := Az_ (Kd.V_elder' (w63_) (Kd.R_base ho0) hb); have n1_ := Az_ (Kd.R_lower ho0 (below_size (w52_))); have n3_ := Az_ (btz_ (w52_) hb); clear HO498; clear HB; have HO498 := n0_; have HO515 := n1_; replace BK504 := Az_ (ukbz_ BK504.out hb); have HB := n3_; clear n0_ n1_ n3_; (try clear hb); (try clear ho0); have hcz32_0 : w31.cell? ⟨gb504, 0, none⟩ = some (.slice Ao21 t496.length co21) := (blk_cell BK504.out 0).trans rfl; have hcz32_1 : w31.cell? ⟨gb504, 1, none⟩ = some (.int .i64 t499) := (blk_cell BK504.out 1).trans rfl; have hfz32_0 := blk_frozen BK504.out 0; have hfz32_1 := blk_frozen BK504.out 1) | ((with_reducible refine gate_callee (f := 11) rfl ?_); refine goesL_ (some 147) rfl rfl Tryz.func11 (w94_) rfl #[.agg #[.slice Ao21 t496.length co21, .int .i64 t499], .int .i64 t500, .bool t501, .int .i64 t502, .bool t503] rfl maz_ ?_; (with_reducible refine (spec_PagesEaten.calls k _ _ t496 t499 t500 t501 t502 t503 t517 t520 _ ?side1 ?side2 A11.out).mono ?_); (case side1 => exact ucz_ ((Kd.V_reads' HO498.out).2.2)); (case side2 => exact (Kd.V_reads' HO498.out).2.1); rintro e w33 ⟨v518, rfl, ho0, hb⟩; refine ⟨_, rfl, ?_⟩; have n0_ := Az_ (Kd.V_elder' (w63_) (Kd.R_base ho0) hb); have n1_ := Az_ (rez_ (w90_) (Kd.R_base ho0) hb); have n2_ := Az_ (Kd.R_lower (Kd.R_new' ho0 (Kd.R_lt (w90_))) (below_size (w52_))); have n4_ := Az_ (btz_ (w52_) hb); clear HO498; clear HO515; clear HB; have HO498 := n0_; have HO515 := n1_; have HO519 := n2_; replace BK504 := Az_ (ukbz_ BK504.out hb); have HB := n4_; clear n0_ n1_ n2_ n4_; (try clear hb); (try clear ho0); have hcz34_0 : w33.cell? ⟨gb504, 0, none⟩ = some (.slice Ao21 t496.length co21) := (blk_cell BK504.out 0).trans rfl; have hcz34_1 : w33.cell? ⟨gb504, 1, none⟩ = some (.int .i64 t499) := (blk_cell BK504.out 1).trans rfl; have hfz34_0 := blk_frozen BK504.out 0; have hfz34_1 := blk_frozen BK504.out 1) | ((with_reducible refine gate_callee (f := 12) rfl ?_); refine goesL_ (some 152) rfl rfl Tryz.func12 (w94_) rfl #[.agg #[.slice Ao21 t496.length co21, .int .i64 t499]] rfl maz_ ?_; (with_reducible refine (impl_WidthOf.calls k _ _ t496 t499 t521 t522 _ ?side1 ?side2 A12.out).mono ?_); (case side1 => exact ucz_ ((Kd.V_reads' HO498.out).2.2)); (case side2 => exact (Kd.V_reads' HO498.out).2.1); rintro e w35 ⟨rfl, hb⟩; refine ⟨_, rfl, ?_⟩; have n0_ := Az_ (Kd.V_below (w63_) hb); have n1_ := Az_ (Kd.R_below (w90_) hb); have n2_ := Az_ (Kd.R_below (w91_) hb); have n4_ := Az_ (btz_ (w52_) hb); clear HO498; clear HO515; clear HO519; clear HB; have HO498 := n0_; have HO515 := n1_; have HO519 := n2_; replace BK504 := Az_ (ukbz_ BK504.out hb); have HB := n4_; clear n0_ n1_ n2_ n4_; (try clear hb); have hcz36_0 : w35.cell? ⟨gb504, 0, none⟩ = some (.slice Ao21 t496.length co21) := (blk_cell BK504.out 0).trans rfl; have hcz36_1 : w35.cell? ⟨gb504, 1, none⟩ = some (.int .i64 t499) := (blk_cell BK504.out 1).trans rfl; have hfz36_0 := blk_frozen BK504.out 0; have hfz36_1 := blk_frozen BK504.out 1) | ((with_reducible refine gate_callee (f := 13) rfl ?_); refine goesL_ (some 157) rfl rfl Tryz.func13 (w94_) rfl #[.agg #[.slice Ao21 t496.length co21, .int .i64 t499]] rfl maz_ ?_; (with_reducible refine (spec_WidthOf.calls k _ _ t496 t499 t523 t524 _ ?side1 ?side2 A13.out).mono ?_); (case side1 => exact ucz_ ((Kd.V_reads' HO498.out).2.2)); (case side2 => exact (Kd.V_reads' HO498.out).2.1); rintro e w37 ⟨rfl, hb⟩; refine ⟨_, rfl, ?_⟩; have n0_ := Az_ (Kd.V_below (w63_) hb); have n1_ := Az_ (Kd.R_below (w90_) hb); have n2_ := Az_ (Kd.R_below (w91_) hb); have n4_ := Az_ (btz_ (w52_) hb); clear HO498; clear HO515; clear HO519; clear HB; have HO498 := n0_; have HO515 := n1_; have HO519 := n2_; replace BK504 := Az_ (ukbz_ BK504.out hb); have HB := n4_; clear n0_ n1_ n2_ n4_; (try clear hb); have hcz38_0 : w37.cell? ⟨gb504, 0, none⟩ = some (.slice Ao21 t496.length co21) := (blk_cell BK504.out 0).trans rfl; have hcz38_1 : w37.cell? ⟨gb504, 1, none⟩ = some (.int .i64 t499) := (blk_cell BK504.out 1).trans rfl; have hfz38_0 := blk_frozen BK504.out 0; have hfz38_1 := blk_frozen BK504.out 1) | ((with_reducible refine gate_callee (f := 14) rfl ?_); refine goesL_ (some 162) rfl rfl Tryz.func14 (w94_) rfl #[.agg #[.slice Ao21 t496.length co21, .int .i64 t499]] rfl maz_ ?_; (with_reducible refine (impl_LongestWorm.calls k _ _ t496 t499 t525 t526 t527 _ ?side1 ?side2 A14.out).mono ?_); (case side1 => exact ucz_ ((Kd.V_reads' HO498.out).2.2)); (case side2 => exact (Kd.V_reads' HO498.out).2.1); rintro e w39 ⟨rfl, hb⟩; refine ⟨_, rfl, ?_⟩; have n0_ := Az_ (Kd.V_below (w63_) hb); have n1_ := Az_ (Kd.R_below (w90_) hb); have n2_ := Az_ (Kd.R_below (w91_) hb); have n4_ := Az_ (btz_ (w52_) hb); clear HO498; clear HO515; clear HO519; clear HB; have HO498 := n0_; have HO515 := n1_; have HO519 := n2_; replace BK504 := Az_ (ukbz_ BK504.out hb); have HB := n4_; clear n0_ n1_ n2_ n4_; (try clear hb); have hcz40_0 : w39.cell? ⟨gb504, 0, none⟩ = some (.slice Ao21 t496.length co21) := (blk_cell BK504.out 0).trans rfl; have hcz40_1 : w39.cell? ⟨gb504, 1, none⟩ = some (.int .i64 t499) := (blk_cell BK504.out 1).trans rfl; have hfz40_0 := blk_frozen BK504.out 0; have hfz40_1 := blk_frozen BK504.out 1) | ((with_reducible refine gate_callee (f := 15) rfl ?_); refine goesL_ (some 168) rfl rfl Tryz.func15 (w94_) rfl #[.agg #[.slice Ao21 t496.length co21, .int .i64 t499]] rfl maz_ ?_; (with_reducible refine (spec_LongestWorm.calls k _ _ t496 t499 t528 t529 t530 _ ?side1 ?side2 A15.out).mono ?_); (case side1 => exact ucz_ ((Kd.V_reads' HO498.out).2.2)); (case side2 => exact (Kd.V_reads' HO498.out).2.1); rintro e w41 ⟨rfl, hb⟩; refine ⟨_, rfl, ?_⟩; have n0_ := Az_ (Kd.V_below (w63_) hb); have n1_ := Az_ (Kd.R_below (w90_) hb); have n2_ := Az_ (Kd.R_below (w91_) hb); have n4_ := Az_ (btz_ (w52_) hb); clear HO498; clear HO515; clear HO519; clear HB; have HO498 := n0_; have HO515 := n1_; have HO519 := n2_; replace BK504 := Az_ (ukbz_ BK504.out hb); have HB := n4_; clear n0_ n1_ n2_ n4_; (try clear hb); have hcz42_0 : w41.cell? ⟨gb504, 0, none⟩ = some (.slice Ao21 t496.length co21) := (blk_cell BK504.out 0).trans rfl; have hcz42_1 : w41.cell? ⟨gb504, 1, none⟩ = some (.int .i64 t499) := (blk_cell BK504.out 1).trans rfl; have hfz42_0 := blk_frozen BK504.out 0; have hfz42_1 := blk_frozen BK504.out 1) | ((with_reducible refine gate_callee (f := 16) rfl ?_); refine goesL_ (some 174) rfl rfl Tryz.func16 (w94_) rfl #[.agg #[.slice Ao21 t496.length co21, .int .i64 t499]] rfl maz_ ?_; (with_reducible refine (impl_ShelfText.calls k _ _ t496 t499 t531 t532 _ (libW_below HTAB.out (w52_)) ?side1 ?side2 A16.out).mono ?_); (case side1 => exact ucz_ ((Kd.V_reads' HO498.out).2.2)); (case side2 => exact (Kd.V_reads' HO498.out).2.1); rintro e w43 ⟨rfl, hb⟩; refine ⟨_, rfl, ?_⟩; have n0_ := Az_ (Kd.V_below (w63_) hb); have n1_ := Az_ (Kd.R_below (w90_) hb); have n2_ := Az_ (Kd.R_below (w91_) hb); have n4_ := Az_ (btz_ (w52_) hb); clear HO498; clear HO515; clear HO519; clear HB; have HO498 := n0_; have HO515 := n1_; have HO519 := n2_; replace BK504 := Az_ (ukbz_ BK504.out hb); have HB := n4_; clear n0_ n1_ n2_ n4_; (try clear hb); have hcz44_0 : w43.cell? ⟨gb504, 0, none⟩ = some (.slice Ao21 t496.length co21) := (blk_cell BK504.out 0).trans rfl; have hcz44_1 : w43.cell? ⟨gb504, 1, none⟩ = some (.int .i64 t499) := (blk_cell BK504.out 1).trans rfl; have hfz44_0 := blk_frozen BK504.out 0; have hfz44_1 := blk_frozen BK504.out 1) | ((with_reducible refine gate_callee (f := 17) rfl ?_); refine goesL_ (some 179) rfl rfl Tryz.func17 (w94_) rfl #[.agg #[.slice Ao21 t496.length co21, .int .i64 t499]] rfl maz_ ?_; (with_reducible refine (spec_ShelfText.calls k _ _ t496 t499 t533 t534 _ ?side1 ?side2 A17.out).mono ?_); (case side1 => exact ucz_ ((Kd.V_reads' HO498.out).2.2)); (case side2 => exact (Kd.V_reads' HO498.out).2.1); rintro e w45 ⟨rfl, hb⟩; refine ⟨_, rfl, ?_⟩; have n0_ := Az_ (Kd.V_below (w63_) hb); have n1_ := Az_ (Kd.R_below (w90_) hb); have n2_ := Az_ (Kd.R_below (w91_) hb); have n4_ := Az_ (btz_ (w52_) hb); clear HO498; clear HO515; clear HO519; clear HB; have HO498 := n0_; have HO515 := n1_; have HO519 := n2_; replace BK504 := Az_ (ukbz_ BK504.out hb); have HB := n4_; clear n0_ n1_ n2_ n4_; (try clear hb)))
 (try simp only [Act.put, List.setIfInBounds_toArray, List.set_cons_zero, List.set_cons_succ])
 go_cut [287] from 1 to 0 (fun v287 wc => ∃ (kq : Nat) (x287_17 : Bool), v287 = .bool x287_17 ∧ Aside0 (j0 kq l1 t500 t501 t502 t503 t505 t506 t509 t513 t521 t522 t525 t526 t527 t531 x287_17 t496 t499 = some r) ∧ Aside0 (kq ≤ k) ∧ Aside0 (Kd.R (Kd.int .i64) 3 wc w.heap.size (fun _ => True) v514 t513) ∧ Aside0 (Kd.V (Kd.int .i64) 3 wc w.heap.size (fun k_ => some k_ ≠ (v514 : Value).ownBlock ∧ k_ ≠ gb504) (.slice Ao21 t496.length co21) t496) ∧ Aside0 (wc.heap[gb504]? = some (.cells #[(.slice Ao21 t496.length co21), .int .i64 t499] 26 (0, 0))) ∧ Aside0 (Below w.heap.size w wc))
 case first => as_aux_lemma =>
  have H := HC18.out
  clear HC18
  by_cases c46 : (t506 != t508) = true
  ·rw [if_pos c46] at H
   exact (laws_FnShelvesEaten.j0_no _ _ _ _ _ _ _ _ _ _ _ _ _ _ _ _ _ _ _ hrT H).elim
  rw [if_neg c46] at H
  obtain rfl : t506 = t508 := by simpa using c46
  clear c46
  by_cases c48 : t505 = t507; rotate_left
  ·rw [if_neg c48] at H
   exact (laws_FnShelvesEaten.j0_no _ _ _ _ _ _ _ _ _ _ _ _ _ _ _ _ _ _ _ hrT H).elim
  rw [if_pos c48] at H
  subst c48
  by_cases c49 : (t510 != t512) = true
  ·rw [if_pos c49] at H
   exact (laws_FnShelvesEaten.j0_no _ _ _ _ _ _ _ _ _ _ _ _ _ _ _ _ _ _ _ hrT H).elim
  rw [if_neg c49] at H
  obtain rfl : t510 = t512 := by simpa using c49
  clear c49
  by_cases c51 : t509 = t511; rotate_left
  ·rw [if_neg c51] at H
   exact (laws_FnShelvesEaten.j0_no _ _ _ _ _ _ _ _ _ _ _ _ _ _ _ _ _ _ _ hrT H).elim
  rw [if_pos c51] at H
  subst c51
  by_cases c52 : (t516 != t520) = true
  ·rw [if_pos c52] at H
   exact (laws_FnShelvesEaten.j0_no _ _ _ _ _ _ _ _ _ _ _ _ _ _ _ _ _ _ _ hrT H).elim
  rw [if_neg c52] at H
  obtain rfl : t516 = t520 := by simpa using c52
  clear c52
  replace H := bqz_ H; obtain ⟨t535, A54, H⟩ := H
  replace H : (if t535 = true then (if (t522 != t524) = true then (j0 k l1 t500 t501 t502 t503 t505 t506 t509 t513 t521 t522 t525 t526 t527 t531 true t496 t499) else (if t521 = t523 then (if (t527 != t530) = true then (j0 k l1 t500 t501 t502 t503 t505 t506 t509 t513 t521 t522 t525 t526 t527 t531 true t496 t499) else (if t525 = t528 then (if t526 = t529 then (if (t532 != t534) = true then (j0 k l1 t500 t501 t502 t503 t505 t506 t509 t513 t521 t522 t525 t526 t527 t531 true t496 t499) else (if t531.toList = t533.toList then (if (t510 != t506) = true then (j0 k l1 t500 t501 t502 t503 t505 t506 t509 t513 t521 t522 t525 t526 t527 t531 true t496 t499) else (if (t516 != t506) = true then (j0 k l1 t500 t501 t502 t503 t505 t506 t509 t513 t521 t522 t525 t526 t527 t531 true t496 t499) else (if t506 = true then (if t522 = true then ((impl_IsShelf.f k t496 t499).bind fun t536 => (if (t522 != t536) = true then (j0 k l1 t500 t501 t502 t503 t505 t506 t509 t513 t521 t522 t525 t526 t527 t531 true t496 t499) else ((impl_IsShelf.f k t496 t499).bind fun t537 => ((spec_IsShelf.f k t496 t499).bind fun t538 => (if (t537 != t538) = true then (j0 k l1 t500 t501 t502 t503 t505 t506 t509 t513 t521 t522 t525 t526 t527 t531 true t496 t499) else (if (t532 != t522) = true then (j0 k l1 t500 t501 t502 t503 t505 t506 t509 t513 t521 t522 t525 t526 t527 t531 true t496 t499) else (if t527 = true then (j0 k l1 t500 t501 t502 t503 t505 t506 t509 t513 t521 t522 t525 t526 t527 t531 (!t522) t496 t499) else (j0 k l1 t500 t501 t502 t503 t505 t506 t509 t513 t521 t522 t525 t526 t527 t531 false t496 t499)))))))) else (j0 k l1 t500 t501 t502 t503 t505 t506 t509 t513 t521 t522 t525 t526 t527 t531 true t496 t499)) else ((impl_IsShelf.f k t496 t499).bind fun t539 => (if (t522 != t539) = true then (j0 k l1 t500 t501 t502 t503 t505 t506 t509 t513 t521 t522 t525 t526 t527 t531 true t496 t499) else ((impl_IsShelf.f k t496 t499).bind fun t540 => ((spec_IsShelf.f k t496 t499).bind fun t541 => (if (t540 != t541) = true then (j0 k l1 t500 t501 t502 t503 t505 t506 t509 t513 t521 t522 t525 t526 t527 t531 true t496 t499) else (if (t532 != t522) = true then (j0 k l1 t500 t501 t502 t503 t505 t506 t509 t513 t521 t522 t525 t526 t527 t531 true t496 t499) else (if t527 = true then (j0 k l1 t500 t501 t502 t503 t505 t506 t509 t513 t521 t522 t525 t526 t527 t531 (!t522) t496 t499) else (j0 k l1 t500 t501 t502 t503 t505 t506 t509 t513 t521 t522 t525 t526 t527 t531 false t496 t499))))))))))) else (j0 k l1 t500 t501 t502 t503 t505 t506 t509 t513 t521 t522 t525 t526 t527 t531 true t496 t499))) else (j0 k l1 t500 t501 t502 t503 t505 t506 t509 t513 t521 t522 t525 t526 t527 t531 true t496 t499)) else (j0 k l1 t500 t501 t502 t503 t505 t506 t509 t513 t521 t522 t525 t526 t527 t531 true t496 t499))) else (j0 k l1 t500 t501 t502 t503 t505 t506 t509 t513 t521 t522 t525 t526 t527 t531 true t496 t499))) else (j0 k l1 t500 t501 t502 t503 t505 t506 t509 t513 t521 t522 t525 t526 t527 t531 true t496 t499)) = some r := H
  by_cases c55 : t535 = true; rotate_left
  ·replace c55 := Bool.eq_false_iff.mpr c55
   subst c55
   have H1 : (j0 k l1 t500 t501 t502 t503 t505 t506 t509 t513 t521 t522 t525 t526 t527 t531 true t496 t499) = some r := by rw [if_neg (show ¬ (false = true) by decide)] at H; exact H
   clear H
   have H := H1
   exact (laws_FnShelvesEaten.j0_no _ _ _ _ _ _ _ _ _ _ _ _ _ _ _ _ _ _ _ hrT H).elim
  subst c55
  rw [if_pos rfl] at H
  by_cases c56 : (t522 != t524) = true
  ·rw [if_pos c56] at H
   exact (laws_FnShelvesEaten.j0_no _ _ _ _ _ _ _ _ _ _ _ _ _ _ _ _ _ _ _ hrT H).elim
  rw [if_neg c56] at H
  obtain rfl : t522 = t524 := by simpa using c56
  clear c56
  by_cases c60 : t521 = t523; rotate_left
  ·rw [if_neg c60] at H
   exact (laws_FnShelvesEaten.j0_no _ _ _ _ _ _ _ _ _ _ _ _ _ _ _ _ _ _ _ hrT H).elim
  rw [if_pos c60] at H
  subst c60
  by_cases c61 : (t527 != t530) = true
  ·rw [if_pos c61] at H
   exact (laws_FnShelvesEaten.j0_no _ _ _ _ _ _ _ _ _ _ _ _ _ _ _ _ _ _ _ hrT H).elim
  rw [if_neg c61] at H
  obtain rfl : t527 = t530 := by simpa using c61
  clear c61
  by_cases c65 : t525 = t528; rotate_left
  ·rw [if_neg c65] at H
   exact (laws_FnShelvesEaten.j0_no _ _ _ _ _ _ _ _ _ _ _ _ _ _ _ _ _ _ _ hrT H).elim
  rw [if_pos c65] at H
  subst c65
  by_cases c66 : t526 = t529; rotate_left
  ·rw [if_neg c66] at H
   exact (laws_FnShelvesEaten.j0_no _ _ _ _ _ _ _ _ _ _ _ _ _ _ _ _ _ _ _ hrT H).elim
  rw [if_pos c66] at H
  subst c66
  by_cases c67 : (t532 != t534) = true
  ·rw [if_pos c67] at H
   exact (laws_FnShelvesEaten.j0_no _ _ _ _ _ _ _ _ _ _ _ _ _ _ _ _ _ _ _ hrT H).elim
  rw [if_neg c67] at H
  obtain rfl : t532 = t534 := by simpa using c67
  clear c67
  by_cases c71 : t531.toList = t533.toList; rotate_left
  ·rw [if_neg c71] at H
   exact (laws_FnShelvesEaten.j0_no _ _ _ _ _ _ _ _ _ _ _ _ _ _ _ _ _ _ _ hrT H).elim
  rw [if_pos c71] at H
  have c71b0 : (t531.toList == t533.toList) = true := beq_iff_eq.mpr c71
  have c71b1 : (t531.toList != t533.toList) = false := bne_eq_false_iff_eq.mpr c71
  clear c71
  by_cases c72 : (t510 != t506) = true
  ·rw [if_pos c72] at H
   exact (laws_FnShelvesEaten.j0_no _ _ _ _ _ _ _ _ _ _ _ _ _ _ _ _ _ _ _ hrT H).elim
  rw [if_neg c72] at H
  obtain rfl : t510 = t506 := by simpa using c72
  clear c72
  by_cases c76 : (t516 != t510) = true
  ·rw [if_pos c76] at H
   exact (laws_FnShelvesEaten.j0_no _ _ _ _ _ _ _ _ _ _ _ _ _ _ _ _ _ _ _ hrT H).elim
  rw [if_neg c76] at H
  obtain rfl : t516 = t510 := by simpa using c76
  clear c76
  by_cases c80 : t516 = true; rotate_left
  ·replace c80 := Bool.eq_false_iff.mpr c80
   subst c80
   rw [if_neg nfz_] at H
   replace H := bqz_ H; obtain ⟨t539, A120, H⟩ := H
   replace H : (if (t522 != t539) = true then (j0 k l1 t500 t501 t502 t503 t505 false t509 t513 t521 t522 t525 t526 t527 t531 true t496 t499) else ((impl_IsShelf.f k t496 t499).bind fun t540 => ((spec_IsShelf.f k t496 t499).bind fun t541 => (if (t540 != t541) = true then (j0 k l1 t500 t501 t502 t503 t505 false t509 t513 t521 t522 t525 t526 t527 t531 true t496 t499) else (if (t532 != t522) = true then (j0 k l1 t500 t501 t502 t503 t505 false t509 t513 t521 t522 t525 t526 t527 t531 true t496 t499) else (if t527 = true then (j0 k l1 t500 t501 t502 t503 t505 false t509 t513 t521 t522 t525 t526 t527 t531 (!t522) t496 t499) else (j0 k l1 t500 t501 t502 t503 t505 false t509 t513 t521 t522 t525 t526 t527 t531 false t496 t499))))))) = some r := H
   by_cases c121 : (t522 != t539) = true
   ·rw [if_pos c121] at H
    exact (laws_FnShelvesEaten.j0_no _ _ _ _ _ _ _ _ _ _ _ _ _ _ _ _ _ _ _ hrT H).elim
   rw [if_neg c121] at H
   obtain rfl : t522 = t539 := by simpa using c121
   clear c121
   replace H := bqz_ H; obtain ⟨t540, A126, H⟩ := H
   replace H := bqz_ H; obtain ⟨t541, A127, H⟩ := H
   replace H : (if (t540 != t541) = true then (j0 k l1 t500 t501 t502 t503 t505 false t509 t513 t521 t522 t525 t526 t527 t531 true t496 t499) else (if (t532 != t522) = true then (j0 k l1 t500 t501 t502 t503 t505 false t509 t513 t521 t522 t525 t526 t527 t531 true t496 t499) else (if t527 = true then (j0 k l1 t500 t501 t502 t503 t505 false t509 t513 t521 t522 t525 t526 t527 t531 (!t522) t496 t499) else (j0 k l1 t500 t501 t502 t503 t505 false t509 t513 t521 t522 t525 t526 t527 t531 false t496 t499)))) = some r := H
   by_cases c128 : (t540 != t541) = true
   ·rw [if_pos c128] at H
    exact (laws_FnShelvesEaten.j0_no _ _ _ _ _ _ _ _ _ _ _ _ _ _ _ _ _ _ _ hrT H).elim
   rw [if_neg c128] at H
   obtain rfl : t540 = t541 := by simpa using c128
   clear c128
   by_cases c135 : (t532 != t522) = true
   ·rw [if_pos c135] at H
    exact (laws_FnShelvesEaten.j0_no _ _ _ _ _ _ _ _ _ _ _ _ _ _ _ _ _ _ _ hrT H).elim
   rw [if_neg c135] at H
   obtain rfl : t532 = t522 := by simpa using c135
   clear c135
   by_cases c142 : t527 = true; rotate_left
   ·replace c142 := Bool.eq_false_iff.mpr c142
    subst c142
    rw [if_neg nfz_] at H
    have H' := Az_ H
    clear H
    try go_wp2
    have n0_ := Az_ (Kd.V_drew HO498.out)
    have n1_ := Az_ (rdz_ HO515.out)
    have n2_ := Az_ (rdz_ HO519.out)
    have n3_ := Az_ (kdz_ BK504.out)
    have n4_ := Az_ (bdz_ HB.out)
    clear HO498 HO515 HO519 BK504 HB
    have HO498 := n0_
    have HO515 := n1_
    have HO519 := n2_
    have BK504 := n3_
    have HB := n4_
    clear n0_ n1_ n2_ n3_ n4_
    obtain ⟨Ao150, co150, eo150⟩ := Kd.R_slice HO515.out
    (first | subst eo150 | (injection eo150 with f1_ f2_ f3_; have f4_ := f1_.symm; have f5_ := f3_.symm; clear f1_ f2_ f3_; subst f4_; subst f5_))
    obtain ⟨Ao151, co151, eo151⟩ := Kd.R_slice HO519.out
    (first | subst eo151 | (injection eo151 with f1_ f2_ f3_; have f4_ := f1_.symm; have f5_ := f3_.symm; clear f1_ f2_ f3_; subst f4_; subst f5_))
    as_aux_lemma =>
     refine start_ (n := 106) (S := fun w' => w'.cell? ⟨gb504, 0, none⟩ = some (.slice Ao21 t496.length co21) ∧ w'.cell? ⟨gb504, 1, none⟩ = some (.int .i64 t499)) (ds := []) #[false, false, false, false, false, false, false, false, false, false, false, false, false, false, false, false, false, false, false, false, false, false, false, false, false, false, false, false, false, false, false, false, false, false, false, false, false, false, false, false, false, false, false, false, false, false, false, false, false, false, false, false, false, false, false, false, false, false, false, false, false, false, false, false, false, false, false, false, false, false, false, false, false, false, false, false, false, false, false, false, false, false, false, false, false, false, false, false, false, false, false, false, false, false, false, false, false, false, false, false, false, false, false, false, false, false] (w94_) rfl rfl ⟨(blk_cell BK504.out 0).trans rfl, (blk_cell BK504.out 1).trans rfl⟩ (fun hHeld => ?_); refine with_tabW laws_FnShelvesEaten.tab16 laws_FnShelvesEaten.bits16 (fun HT_ HW_ => ?_)
     generalize w45.drew = w149 at HO498 HO515 HO519 BK504 HB hHeld ⊢
     refine pz_ 0 182 [1,105] ?_
     refine pz_ 1 183 [2,104] ?_
     refine pz_ 2 184 [3,103] ?_
     refine pz_ 3 185 [4,102] ?_
     refine pz_ 4 186 [5,101] ?_
     refine pz_ 5 187 [6,100] ?_
     refine pz_ 6 188 [7,99] ?_
     refine pz_ 7 189 [8,98] ?_
     refine pz_ 8 190 [9,97] ?_
     refine pz_ 9 191 [10,96] ?_
     refine pz_ 10 192 [11,95] ?_
     refine pz_ 11 193 [12,94] ?_
     refine pz_ 12 194 [13,93] ?_
     refine pz_ 13 195 [14,92] ?_
     refine pz_ 14 196 [15,91] ?_
     refine pz_ 15 197 [16,90] ?_
     refine pz_ 16 198 [17,89] ?_
     refine pz_ 17 199 [18,88] ?_
     refine pz_ 18 200 [19,87] ?_
     refine pz_ 19 201 [20,86] ?_
     refine pz_ 20 202 [21,85] ?_
     refine pz_ 21 203 [22,84] ?_
     refine pz_ 22 204 [23,83] ?_
     refine pz_ 23 205 [24,82] ?_
     refine pz_ 24 206 [25,81] ?_
     refine pz_ 25 207 [26,80] ?_
     refine one_ (i := 26) (N := some 208) (mz_ [27,79]) rfl rfl (one_of HT_.out (w94_)) (by decide) (fun K hK => ?_)
     refine goes_ Tryz.func18 (w94_) rfl #[.slice Ao150 t513.length co150, .slice Ao151 t517.length co151] (by rfl) rfl rfl maz_ ?_
     with_reducible refine (laws_fSame.calls k _ _ t513 _ _ t517 true _ ?side1 ?side2 ?side3 ?side4 A54.out).mono ?_
     (case side1 => repeat (first | exact (Kd.R_reads' HO515.out).2.2 | (with_reducible refine Kd.C_alloc ?_ _) | (with_reducible refine Kd.C_drewN ?_ _) | (with_reducible refine Kd.C_drew ?_)))
     (case side2 => exact (Kd.R_reads' HO515.out).2.1)
     (case side3 => repeat (first | exact (Kd.R_reads' HO519.out).2.2 | (with_reducible refine Kd.C_alloc ?_ _) | (with_reducible refine Kd.C_drewN ?_ _) | (with_reducible refine Kd.C_drew ?_)))
     (case side4 => exact (Kd.R_reads' HO519.out).2.1)
     rintro e w' ⟨rfl, ⟨nd, rfl⟩⟩
     refine ⟨_, rfl, ?_⟩
     refine hK.out _ _ ⟨(blk_cell BK504.out 0).trans rfl, (blk_cell BK504.out 1).trans rfl⟩ (fun hHeld => ?_)
     clear hK K
     refine nz_ 208 ?_
     refine pz_ 27 209 [28,78] ?_
     refine pz_ 28 210 [29,77] ?_
     refine pz_ 29 211 [30,76] ?_
     refine pz_ 30 212 [31,75] ?_
     refine pz_ 31 213 [32,74] ?_
     refine pz_ 32 214 [33,73] ?_
     refine pz_ 33 215 [34,72] ?_
     refine pz_ 34 216 [35,71] ?_
     refine pz_ 35 217 [36,70] ?_
     refine pz_ 36 218 [37,69] ?_
     refine pz_ 37 219 [38,68] ?_
     refine pz_ 38 220 [39,67] ?_
     refine pz_ 39 221 [40,66] ?_
     refine pz_ 40 222 [41,65] ?_
     refine pz_ 41 223 [42,64] ?_
     refine pz_ 42 224 [43,63] ?_
     refine pz_ 43 225 [44,62] ?_
     refine pz_ 44 226 [45,61] ?_
     refine pz_ 45 227 [46,60] ?_
     refine pz_ 46 228 [47,59] ?_
     refine pz_ 47 229 [48,58] ?_
     refine pz_ 48 230 [49,57] ?_
     refine pz_ 49 231 [50,56] ?_
     refine pz_ 50 232 [51,55] ?_
     refine pz_ 51 233 [52,54] ?_
     refine pz_ 52 234 [53,53] ?_
     refine pz_ 53 235 [54,52] ?_
     refine pz_ 54 236 [55,51] ?_
     refine pz_ 55 237 [56,50] ?_
     refine pz_ 56 238 [57,49] ?_
     refine pz_ 57 239 [58,48] ?_
     refine pz_ 58 240 [59,47] ?_
     refine pz_ 59 241 [60,46] ?_
     refine pz_ 60 242 [61,45] ?_
     refine pz_ 61 243 [62,44] ?_
     refine pz_ 62 244 [63,43] ?_
     refine pz_ 63 245 [64,42] ?_
     refine pz_ 64 246 [65,41] ?_
     refine pz_ 65 247 [66,40] ?_
     refine pz_ 66 248 [67,39] ?_
     refine pz_ 67 249 [68,38] ?_
     refine pz_ 68 250 [69,37] ?_
     refine pz_ 69 251 [70,36] ?_
     refine pz_ 70 252 [71,35] ?_
     refine pz_ 71 253 [72,34] ?_
     refine pz_ 72 254 [73,33] ?_
     refine pz_ 73 255 [74,32] ?_
     refine pz_ 74 256 [75,31] ?_
     refine pz_ 75 257 [76,30] ?_
     refine pz_ 76 258 [77,29] ?_
     refine qz_ 77 259 [78,28] ?_
     refine qz_ 78 260 [79,27] ?_
     refine pz_ 79 261 [80,26] ?_
     refine pz_ 80 262 [81,25] ?_
     refine pz_ 81 263 [82,24] ?_
     refine pz_ 82 264 [83,23] ?_
     refine tz2_ 83 265 [84,22] ?_
     refine one_ (i := 84) (N := some 266) (mz_ [85,21]) rfl rfl (one_of HT_.out (w94_)) (by decide) (fun K hK => ?_)
     refine goes_ Tryz.func19 (w94_) rfl #[.agg #[.slice Ao21 t496.length co21, .int .i64 t499]] (by rfl) rfl rfl maz_ ?_
     with_reducible refine (impl_IsShelf.calls k _ _ t496 t499 t532 _ ?side1 ?side2 A120.out).mono ?_
     (case side1 => repeat (first | exact (Kd.V_reads' HO498.out).2.2 | (with_reducible refine Kd.C_alloc ?_ _) | (with_reducible refine Kd.C_drewN ?_ _) | (with_reducible refine Kd.C_drew ?_)))
     (case side2 => exact (Kd.V_reads' HO498.out).2.1)
     rintro e w152 ⟨rfl, hb⟩
     refine ⟨_, rfl, ?_⟩
     have n0_ := Az_ (Kd.V_below (w63_) hb)
     have n1_ := Az_ (Kd.R_below (w90_) hb)
     have n2_ := Az_ (Kd.R_below (w91_) hb)
     have n4_ := Az_ (btz_ (w52_) hb)
     clear HO498 HO515 HO519 HB
     have HO498 := n0_
     have HO515 := n1_
     have HO519 := n2_
     replace BK504 := Az_ (ukbz_ BK504.out hb)
     have HB := n4_
     clear n0_ n1_ n2_ n4_
     clear hb
     refine hK.out _ _ ⟨(blk_cell BK504.out 0).trans rfl, (blk_cell BK504.out 1).trans rfl⟩ (fun hHeld => ?_)
     clear hK K
     refine nz_ 266 ?_
     refine pz_ 85 267 [86,20] ?_
     refine pz_ 86 268 [87,19] ?_
     refine pz_ 87 269 [88,18] ?_
     refine tz2_ 88 270 [89,17] ?_
     refine tz2_ 90 272 [89,1,1,15] ?_
     refine one_ (i := 89) (N := some 271) (mz_ [91,15]) rfl rfl (one_of HT_.out (w94_)) (by decide) (fun K hK => ?_)
     refine goes_ Tryz.func19 (w94_) rfl #[.agg #[.slice Ao21 t496.length co21, .int .i64 t499]] (by rfl) rfl rfl maz_ ?_
     with_reducible refine (impl_IsShelf.calls k _ _ t496 t499 t540 _ ?side1 ?side2 A126.out).mono ?_
     (case side1 => repeat (first | exact (Kd.V_reads' HO498.out).2.2 | (with_reducible refine Kd.C_alloc ?_ _) | (with_reducible refine Kd.C_drewN ?_ _) | (with_reducible refine Kd.C_drew ?_)))
     (case side2 => exact (Kd.V_reads' HO498.out).2.1)
     rintro e w153 ⟨rfl, hb⟩
     refine ⟨_, rfl, ?_⟩
     have n0_ := Az_ (Kd.V_below (w63_) hb)
     have n1_ := Az_ (Kd.R_below (w90_) hb)
     have n2_ := Az_ (Kd.R_below (w91_) hb)
     have n4_ := Az_ (btz_ (w52_) hb)
     clear HO498 HO515 HO519 HB
     have HO498 := n0_
     have HO515 := n1_
     have HO519 := n2_
     replace BK504 := Az_ (ukbz_ BK504.out hb)
     have HB := n4_
     clear n0_ n1_ n2_ n4_
     clear hb
     refine hK.out _ _ ⟨(blk_cell BK504.out 0).trans rfl, (blk_cell BK504.out 1).trans rfl⟩ (fun hHeld => ?_)
     clear hK K
     refine nz_ 271 ?_
     refine one_ (i := 91) (N := some 273) (mz_ [92,14]) rfl rfl (one_of HT_.out (w94_)) (by decide) (fun K hK => ?_)
     refine goes_ Tryz.func20 (w94_) rfl #[.agg #[.slice Ao21 t496.length co21, .int .i64 t499]] (by rfl) rfl rfl maz_ ?_
     with_reducible refine (spec_IsShelf.calls k _ _ t496 t499 t540 _ ?side1 ?side2 A127.out).mono ?_
     (case side1 => repeat (first | exact (Kd.V_reads' HO498.out).2.2 | (with_reducible refine Kd.C_alloc ?_ _) | (with_reducible refine Kd.C_drewN ?_ _) | (with_reducible refine Kd.C_drew ?_)))
     (case side2 => exact (Kd.V_reads' HO498.out).2.1)
     rintro e w154 ⟨rfl, hb⟩
     refine ⟨_, rfl, ?_⟩
     have n0_ := Az_ (Kd.V_below (w63_) hb)
     have n1_ := Az_ (Kd.R_below (w90_) hb)
     have n2_ := Az_ (Kd.R_below (w91_) hb)
     have n4_ := Az_ (btz_ (w52_) hb)
     clear HO498 HO515 HO519 HB
     have HO498 := n0_
     have HO515 := n1_
     have HO519 := n2_
     replace BK504 := Az_ (ukbz_ BK504.out hb)
     have HB := n4_
     clear n0_ n1_ n2_ n4_
     clear hb
     refine hK.out _ _ ⟨(blk_cell BK504.out 0).trans rfl, (blk_cell BK504.out 1).trans rfl⟩ (fun hHeld => ?_)
     clear hK K
     refine nz_ 273 ?_
     refine pz_ 92 274 [93,13] ?_
     refine pz_ 93 275 [94,12] ?_
     refine pz_ 94 276 [95,11] ?_
     refine pz_ 95 277 [96,10] ?_
     refine pz_ 96 278 [97,9] ?_
     refine pz_ 97 279 [98,8] ?_
     refine pz_ 98 280 [99,7] ?_
     refine pz_ 99 281 [100,6] ?_
     refine pz_ 100 282 [101,5] ?_
     refine pz_ 101 283 [102,4] ?_
     refine qz_ 102 284 [103,3] ?_
     refine qz_ 103 285 [104,2] ?_
     refine pz_ 104 286 [105,1] ?_
     refine pz_ 105 287 [106] ?_
     refine done_ (done_of HT_.out (w94_)) ?_
     try go_wp2
     go_meet
     case rel => exact ⟨_, (false), qaz_, H', ⟨w80_⟩, ⟨w57_⟩, ⟨w48_⟩, ⟨w71_⟩, ⟨w52_⟩⟩
   subst c142
   rw [if_pos rfl] at H
   have H' := Az_ H
   clear H
   try go_wp2
   have n0_ := Az_ (Kd.V_drew HO498.out)
   have n1_ := Az_ (rdz_ HO515.out)
   have n2_ := Az_ (rdz_ HO519.out)
   have n3_ := Az_ (kdz_ BK504.out)
   have n4_ := Az_ (bdz_ HB.out)
   clear HO498 HO515 HO519 BK504 HB
   have HO498 := n0_
   have HO515 := n1_
   have HO519 := n2_
   have BK504 := n3_
   have HB := n4_
   clear n0_ n1_ n2_ n3_ n4_
   obtain ⟨Ao144, co144, eo144⟩ := Kd.R_slice HO515.out
   (first | subst eo144 | (injection eo144 with f1_ f2_ f3_; have f4_ := f1_.symm; have f5_ := f3_.symm; clear f1_ f2_ f3_; subst f4_; subst f5_))
   obtain ⟨Ao145, co145, eo145⟩ := Kd.R_slice HO519.out
   (first | subst eo145 | (injection eo145 with f1_ f2_ f3_; have f4_ := f1_.symm; have f5_ := f3_.symm; clear f1_ f2_ f3_; subst f4_; subst f5_))
   as_aux_lemma =>
    refine start_ (n := 106) (S := fun w' => w'.cell? ⟨gb504, 0, none⟩ = some (.slice Ao21 t496.length co21) ∧ w'.cell? ⟨gb504, 1, none⟩ = some (.int .i64 t499)) (ds := []) #[false, false, false, false, false, false, false, false, false, false, false, false, false, false, false, false, false, false, false, false, false, false, false, false, false, false, false, false, false, false, false, false, false, false, false, false, false, false, false, false, false, false, false, false, false, false, false, false, false, false, false, false, false, false, false, false, false, false, false, false, false, false, false, false, false, false, false, false, false, false, false, false, false, false, false, false, false, false, false, false, false, false, false, false, false, false, false, false, false, false, false, false, false, false, false, false, false, false, false, false, false, false, false, false, false, false] (w94_) rfl rfl ⟨(blk_cell BK504.out 0).trans rfl, (blk_cell BK504.out 1).trans rfl⟩ (fun hHeld => ?_); refine with_tabW laws_FnShelvesEaten.tab16 laws_FnShelvesEaten.bits16 (fun HT_ HW_ => ?_)
    generalize w45.drew = w143 at HO498 HO515 HO519 BK504 HB hHeld ⊢
    refine pz_ 0 182 [1,105] ?_
    refine pz_ 1 183 [2,104] ?_
    refine pz_ 2 184 [3,103] ?_
    refine pz_ 3 185 [4,102] ?_
    refine pz_ 4 186 [5,101] ?_
    refine pz_ 5 187 [6,100] ?_
    refine pz_ 6 188 [7,99] ?_
    refine pz_ 7 189 [8,98] ?_
    refine pz_ 8 190 [9,97] ?_
    refine pz_ 9 191 [10,96] ?_
    refine pz_ 10 192 [11,95] ?_
    refine pz_ 11 193 [12,94] ?_
    refine pz_ 12 194 [13,93] ?_
    refine pz_ 13 195 [14,92] ?_
    refine pz_ 14 196 [15,91] ?_
    refine pz_ 15 197 [16,90] ?_
    refine pz_ 16 198 [17,89] ?_
    refine pz_ 17 199 [18,88] ?_
    refine pz_ 18 200 [19,87] ?_
    refine pz_ 19 201 [20,86] ?_
    refine pz_ 20 202 [21,85] ?_
    refine pz_ 21 203 [22,84] ?_
    refine pz_ 22 204 [23,83] ?_
    refine pz_ 23 205 [24,82] ?_
    refine pz_ 24 206 [25,81] ?_
    refine pz_ 25 207 [26,80] ?_
    refine one_ (i := 26) (N := some 208) (mz_ [27,79]) rfl rfl (one_of HT_.out (w94_)) (by decide) (fun K hK => ?_)
    refine goes_ Tryz.func18 (w94_) rfl #[.slice Ao144 t513.length co144, .slice Ao145 t517.length co145] (by rfl) rfl rfl maz_ ?_
    with_reducible refine (laws_fSame.calls k _ _ t513 _ _ t517 true _ ?side1 ?side2 ?side3 ?side4 A54.out).mono ?_
    (case side1 => repeat (first | exact (Kd.R_reads' HO515.out).2.2 | (with_reducible refine Kd.C_alloc ?_ _) | (with_reducible refine Kd.C_drewN ?_ _) | (with_reducible refine Kd.C_drew ?_)))
    (case side2 => exact (Kd.R_reads' HO515.out).2.1)
    (case side3 => repeat (first | exact (Kd.R_reads' HO519.out).2.2 | (with_reducible refine Kd.C_alloc ?_ _) | (with_reducible refine Kd.C_drewN ?_ _) | (with_reducible refine Kd.C_drew ?_)))
    (case side4 => exact (Kd.R_reads' HO519.out).2.1)
    rintro e w' ⟨rfl, ⟨nd, rfl⟩⟩
    refine ⟨_, rfl, ?_⟩
    refine hK.out _ _ ⟨(blk_cell BK504.out 0).trans rfl, (blk_cell BK504.out 1).trans rfl⟩ (fun hHeld => ?_)
    clear hK K
    refine nz_ 208 ?_
    refine pz_ 27 209 [28,78] ?_
    refine pz_ 28 210 [29,77] ?_
    refine pz_ 29 211 [30,76] ?_
    refine pz_ 30 212 [31,75] ?_
    refine pz_ 31 213 [32,74] ?_
    refine pz_ 32 214 [33,73] ?_
    refine pz_ 33 215 [34,72] ?_
    refine pz_ 34 216 [35,71] ?_
    refine pz_ 35 217 [36,70] ?_
    refine pz_ 36 218 [37,69] ?_
    refine pz_ 37 219 [38,68] ?_
    refine pz_ 38 220 [39,67] ?_
    refine pz_ 39 221 [40,66] ?_
    refine pz_ 40 222 [41,65] ?_
    refine pz_ 41 223 [42,64] ?_
    refine pz_ 42 224 [43,63] ?_
    refine pz_ 43 225 [44,62] ?_
    refine pz_ 44 226 [45,61] ?_
    refine pz_ 45 227 [46,60] ?_
    refine pz_ 46 228 [47,59] ?_
    refine pz_ 47 229 [48,58] ?_
    refine pz_ 48 230 [49,57] ?_
    refine pz_ 49 231 [50,56] ?_
    refine pz_ 50 232 [51,55] ?_
    refine pz_ 51 233 [52,54] ?_
    refine pz_ 52 234 [53,53] ?_
    refine pz_ 53 235 [54,52] ?_
    refine pz_ 54 236 [55,51] ?_
    refine pz_ 55 237 [56,50] ?_
    refine pz_ 56 238 [57,49] ?_
    refine pz_ 57 239 [58,48] ?_
    refine pz_ 58 240 [59,47] ?_
    refine pz_ 59 241 [60,46] ?_
    refine pz_ 60 242 [61,45] ?_
    refine pz_ 61 243 [62,44] ?_
    refine pz_ 62 244 [63,43] ?_
    refine pz_ 63 245 [64,42] ?_
    refine pz_ 64 246 [65,41] ?_
    refine pz_ 65 247 [66,40] ?_
    refine pz_ 66 248 [67,39] ?_
    refine pz_ 67 249 [68,38] ?_
    refine pz_ 68 250 [69,37] ?_
    refine pz_ 69 251 [70,36] ?_
    refine pz_ 70 252 [71,35] ?_
    refine pz_ 71 253 [72,34] ?_
    refine pz_ 72 254 [73,33] ?_
    refine pz_ 73 255 [74,32] ?_
    refine pz_ 74 256 [75,31] ?_
    refine pz_ 75 257 [76,30] ?_
    refine pz_ 76 258 [77,29] ?_
    refine qz_ 77 259 [78,28] ?_
    refine qz_ 78 260 [79,27] ?_
    refine pz_ 79 261 [80,26] ?_
    refine pz_ 80 262 [81,25] ?_
    refine pz_ 81 263 [82,24] ?_
    refine pz_ 82 264 [83,23] ?_
    refine tz2_ 83 265 [84,22] ?_
    refine one_ (i := 84) (N := some 266) (mz_ [85,21]) rfl rfl (one_of HT_.out (w94_)) (by decide) (fun K hK => ?_)
    refine goes_ Tryz.func19 (w94_) rfl #[.agg #[.slice Ao21 t496.length co21, .int .i64 t499]] (by rfl) rfl rfl maz_ ?_
    with_reducible refine (impl_IsShelf.calls k _ _ t496 t499 t532 _ ?side1 ?side2 A120.out).mono ?_
    (case side1 => repeat (first | exact (Kd.V_reads' HO498.out).2.2 | (with_reducible refine Kd.C_alloc ?_ _) | (with_reducible refine Kd.C_drewN ?_ _) | (with_reducible refine Kd.C_drew ?_)))
    (case side2 => exact (Kd.V_reads' HO498.out).2.1)
    rintro e w146 ⟨rfl, hb⟩
    refine ⟨_, rfl, ?_⟩
    have n0_ := Az_ (Kd.V_below (w63_) hb)
    have n1_ := Az_ (Kd.R_below (w90_) hb)
    have n2_ := Az_ (Kd.R_below (w91_) hb)
    have n4_ := Az_ (btz_ (w52_) hb)
    clear HO498 HO515 HO519 HB
    have HO498 := n0_
    have HO515 := n1_
    have HO519 := n2_
    replace BK504 := Az_ (ukbz_ BK504.out hb)
    have HB := n4_
    clear n0_ n1_ n2_ n4_
    clear hb
    refine hK.out _ _ ⟨(blk_cell BK504.out 0).trans rfl, (blk_cell BK504.out 1).trans rfl⟩ (fun hHeld => ?_)
    clear hK K
    refine nz_ 266 ?_
    refine pz_ 85 267 [86,20] ?_
    refine pz_ 86 268 [87,19] ?_
    refine pz_ 87 269 [88,18] ?_
    refine tz2_ 88 270 [89,17] ?_
    refine tz2_ 90 272 [89,1,1,15] ?_
    refine one_ (i := 89) (N := some 271) (mz_ [91,15]) rfl rfl (one_of HT_.out (w94_)) (by decide) (fun K hK => ?_)
    refine goes_ Tryz.func19 (w94_) rfl #[.agg #[.slice Ao21 t496.length co21, .int .i64 t499]] (by rfl) rfl rfl maz_ ?_
    with_reducible refine (impl_IsShelf.calls k _ _ t496 t499 t540 _ ?side1 ?side2 A126.out).mono ?_
    (case side1 => repeat (first | exact (Kd.V_reads' HO498.out).2.2 | (with_reducible refine Kd.C_alloc ?_ _) | (with_reducible refine Kd.C_drewN ?_ _) | (with_reducible refine Kd.C_drew ?_)))
    (case side2 => exact (Kd.V_reads' HO498.out).2.1)
    rintro e w147 ⟨rfl, hb⟩
    refine ⟨_, rfl, ?_⟩
    have n0_ := Az_ (Kd.V_below (w63_) hb)
    have n1_ := Az_ (Kd.R_below (w90_) hb)
    have n2_ := Az_ (Kd.R_below (w91_) hb)
    have n4_ := Az_ (btz_ (w52_) hb)
    clear HO498 HO515 HO519 HB
    have HO498 := n0_
    have HO515 := n1_
    have HO519 := n2_
    replace BK504 := Az_ (ukbz_ BK504.out hb)
    have HB := n4_
    clear n0_ n1_ n2_ n4_
    clear hb
    refine hK.out _ _ ⟨(blk_cell BK504.out 0).trans rfl, (blk_cell BK504.out 1).trans rfl⟩ (fun hHeld => ?_)
    clear hK K
    refine nz_ 271 ?_
    refine one_ (i := 91) (N := some 273) (mz_ [92,14]) rfl rfl (one_of HT_.out (w94_)) (by decide) (fun K hK => ?_)
    refine goes_ Tryz.func20 (w94_) rfl #[.agg #[.slice Ao21 t496.length co21, .int .i64 t499]] (by rfl) rfl rfl maz_ ?_
    with_reducible refine (spec_IsShelf.calls k _ _ t496 t499 t540 _ ?side1 ?side2 A127.out).mono ?_
    (case side1 => repeat (first | exact (Kd.V_reads' HO498.out).2.2 | (with_reducible refine Kd.C_alloc ?_ _) | (with_reducible refine Kd.C_drewN ?_ _) | (with_reducible refine Kd.C_drew ?_)))
    (case side2 => exact (Kd.V_reads' HO498.out).2.1)
    rintro e w148 ⟨rfl, hb⟩
    refine ⟨_, rfl, ?_⟩
    have n0_ := Az_ (Kd.V_below (w63_) hb)
    have n1_ := Az_ (Kd.R_below (w90_) hb)
    have n2_ := Az_ (Kd.R_below (w91_) hb)
    have n4_ := Az_ (btz_ (w52_) hb)
    clear HO498 HO515 HO519 HB
    have HO498 := n0_
    have HO515 := n1_
    have HO519 := n2_
    replace BK504 := Az_ (ukbz_ BK504.out hb)
    have HB := n4_
    clear n0_ n1_ n2_ n4_
    clear hb
    refine hK.out _ _ ⟨(blk_cell BK504.out 0).trans rfl, (blk_cell BK504.out 1).trans rfl⟩ (fun hHeld => ?_)
    clear hK K
    refine nz_ 273 ?_
    refine pz_ 92 274 [93,13] ?_
    refine pz_ 93 275 [94,12] ?_
    refine pz_ 94 276 [95,11] ?_
    refine pz_ 95 277 [96,10] ?_
    refine pz_ 96 278 [97,9] ?_
    refine pz_ 97 279 [98,8] ?_
    refine pz_ 98 280 [99,7] ?_
    refine pz_ 99 281 [100,6] ?_
    refine pz_ 100 282 [101,5] ?_
    refine pz_ 101 283 [102,4] ?_
    refine pz_ 102 284 [103,3] ?_
    refine pz_ 103 285 [104,2] ?_
    refine pz_ 104 286 [105,1] ?_
    refine pz_ 105 287 [106] ?_
    refine done_ (done_of HT_.out (w94_)) ?_
    try go_wp2
    go_meet
    case rel => exact ⟨_, (!t532), qaz_, H', ⟨w80_⟩, ⟨w57_⟩, ⟨w48_⟩, ⟨w71_⟩, ⟨w52_⟩⟩
  subst c80
  rw [if_pos rfl] at H
  by_cases c81 : t522 = true; rotate_left
  ·replace c81 := Bool.eq_false_iff.mpr c81
   subst c81
   have H1 : (j0 k l1 t500 t501 t502 t503 t505 true t509 t513 t521 false t525 t526 t527 t531 true t496 t499) = some r := by rw [if_neg (show ¬ (false = true) by decide)] at H; exact H
   clear H
   have H := H1
   exact (laws_FnShelvesEaten.j0_no _ _ _ _ _ _ _ _ _ _ _ _ _ _ _ _ _ _ _ hrT H).elim
  subst c81
  rw [if_pos rfl] at H
  replace H := bqz_ H; obtain ⟨t536, A82, H⟩ := H
  replace H : (if (true != t536) = true then (j0 k l1 t500 t501 t502 t503 t505 true t509 t513 t521 true t525 t526 t527 t531 true t496 t499) else ((impl_IsShelf.f k t496 t499).bind fun t537 => ((spec_IsShelf.f k t496 t499).bind fun t538 => (if (t537 != t538) = true then (j0 k l1 t500 t501 t502 t503 t505 true t509 t513 t521 true t525 t526 t527 t531 true t496 t499) else (if (t532 != true) = true then (j0 k l1 t500 t501 t502 t503 t505 true t509 t513 t521 true t525 t526 t527 t531 true t496 t499) else (if t527 = true then (j0 k l1 t500 t501 t502 t503 t505 true t509 t513 t521 true t525 t526 t527 t531 (!true) t496 t499) else (j0 k l1 t500 t501 t502 t503 t505 true t509 t513 t521 true t525 t526 t527 t531 false t496 t499))))))) = some r := H
  by_cases c83 : (true != t536) = true
  ·rw [if_pos c83] at H
   exact (laws_FnShelvesEaten.j0_no _ _ _ _ _ _ _ _ _ _ _ _ _ _ _ _ _ _ _ hrT H).elim
  rw [if_neg c83] at H
  have c83b0 : (true != t536) = false := by simpa using c83
  (try (have c83b1 : decide (true = t536) = true := by simpa using c83))
  (try (have c83b2 : (true == t536) = true := by simpa using c83))
  clear c83
  replace H := bqz_ H; obtain ⟨t537, A88, H⟩ := H
  replace H := bqz_ H; obtain ⟨t538, A89, H⟩ := H
  replace H : (if (t537 != t538) = true then (j0 k l1 t500 t501 t502 t503 t505 true t509 t513 t521 true t525 t526 t527 t531 true t496 t499) else (if (t532 != true) = true then (j0 k l1 t500 t501 t502 t503 t505 true t509 t513 t521 true t525 t526 t527 t531 true t496 t499) else (if t527 = true then (j0 k l1 t500 t501 t502 t503 t505 true t509 t513 t521 true t525 t526 t527 t531 (!true) t496 t499) else (j0 k l1 t500 t501 t502 t503 t505 true t509 t513 t521 true t525 t526 t527 t531 false t496 t499)))) = some r := H
  by_cases c90 : (t537 != t538) = true
  ·rw [if_pos c90] at H
   exact (laws_FnShelvesEaten.j0_no _ _ _ _ _ _ _ _ _ _ _ _ _ _ _ _ _ _ _ hrT H).elim
  rw [if_neg c90] at H
  obtain rfl : t537 = t538 := by simpa using c90
  clear c90
  by_cases c97 : (t532 != true) = true
  ·rw [if_pos c97] at H
   exact (laws_FnShelvesEaten.j0_no _ _ _ _ _ _ _ _ _ _ _ _ _ _ _ _ _ _ _ hrT H).elim
  rw [if_neg c97] at H
  have c97b0 : (t532 != true) = false := by simpa using c97
  (try (have c97b1 : decide (t532 = true) = true := by simpa using c97))
  (try (have c97b2 : (t532 == true) = true := by simpa using c97))
  clear c97
  by_cases c104 : t527 = true; rotate_left
  ·replace c104 := Bool.eq_false_iff.mpr c104
   subst c104
   rw [if_neg nfz_] at H
   have H' := Az_ H
   clear H
   try go_wp2
   have n0_ := Az_ (Kd.V_drew HO498.out)
   have n1_ := Az_ (rdz_ HO515.out)
   have n2_ := Az_ (rdz_ HO519.out)
   have n3_ := Az_ (kdz_ BK504.out)
   have n4_ := Az_ (bdz_ HB.out)
   clear HO498 HO515 HO519 BK504 HB
   have HO498 := n0_
   have HO515 := n1_
   have HO519 := n2_
   have BK504 := n3_
   have HB := n4_
   clear n0_ n1_ n2_ n3_ n4_
   obtain ⟨Ao112, co112, eo112⟩ := Kd.R_slice HO515.out
   (first | subst eo112 | (injection eo112 with f1_ f2_ f3_; have f4_ := f1_.symm; have f5_ := f3_.symm; clear f1_ f2_ f3_; subst f4_; subst f5_))
   obtain ⟨Ao113, co113, eo113⟩ := Kd.R_slice HO519.out
   (first | subst eo113 | (injection eo113 with f1_ f2_ f3_; have f4_ := f1_.symm; have f5_ := f3_.symm; clear f1_ f2_ f3_; subst f4_; subst f5_))
   as_aux_lemma =>
    refine start_ (n := 106) (S := fun w' => w'.cell? ⟨gb504, 0, none⟩ = some (.slice Ao21 t496.length co21) ∧ w'.cell? ⟨gb504, 1, none⟩ = some (.int .i64 t499)) (ds := []) #[false, false, false, false, false, false, false, false, false, false, false, false, false, false, false, false, false, false, false, false, false, false, false, false, false, false, false, false, false, false, false, false, false, false, false, false, false, false, false, false, false, false, false, false, false, false, false, false, false, false, false, false, false, false, false, false, false, false, false, false, false, false, false, false, false, false, false, false, false, false, false, false, false, false, false, false, false, false, false, false, false, false, false, false, false, false, false, false, false, false, false, false, false, false, false, false, false, false, false, false, false, false, false, false, false, false] (w94_) rfl rfl ⟨(blk_cell BK504.out 0).trans rfl, (blk_cell BK504.out 1).trans rfl⟩ (fun hHeld => ?_); refine with_tabW laws_FnShelvesEaten.tab16 laws_FnShelvesEaten.bits16 (fun HT_ HW_ => ?_)
    generalize w45.drew = w111 at HO498 HO515 HO519 BK504 HB hHeld ⊢
    refine pz_ 0 182 [1,105] ?_
    refine pz_ 1 183 [2,104] ?_
    refine pz_ 2 184 [3,103] ?_
    refine pz_ 3 185 [4,102] ?_
    refine pz_ 4 186 [5,101] ?_
    refine pz_ 5 187 [6,100] ?_
    refine pz_ 6 188 [7,99] ?_
    refine pz_ 7 189 [8,98] ?_
    refine pz_ 8 190 [9,97] ?_
    refine pz_ 9 191 [10,96] ?_
    refine pz_ 10 192 [11,95] ?_
    refine pz_ 11 193 [12,94] ?_
    refine pz_ 12 194 [13,93] ?_
    refine pz_ 13 195 [14,92] ?_
    refine pz_ 14 196 [15,91] ?_
    refine pz_ 15 197 [16,90] ?_
    refine pz_ 16 198 [17,89] ?_
    refine pz_ 17 199 [18,88] ?_
    refine pz_ 18 200 [19,87] ?_
    refine pz_ 19 201 [20,86] ?_
    refine pz_ 20 202 [21,85] ?_
    refine pz_ 21 203 [22,84] ?_
    refine pz_ 22 204 [23,83] ?_
    refine pz_ 23 205 [24,82] ?_
    refine pz_ 24 206 [25,81] ?_
    refine pz_ 25 207 [26,80] ?_
    refine one_ (i := 26) (N := some 208) (mz_ [27,79]) rfl rfl (one_of HT_.out (w94_)) (by decide) (fun K hK => ?_)
    refine goes_ Tryz.func18 (w94_) rfl #[.slice Ao112 t513.length co112, .slice Ao113 t517.length co113] (by rfl) rfl rfl maz_ ?_
    with_reducible refine (laws_fSame.calls k _ _ t513 _ _ t517 true _ ?side1 ?side2 ?side3 ?side4 A54.out).mono ?_
    (case side1 => repeat (first | exact (Kd.R_reads' HO515.out).2.2 | (with_reducible refine Kd.C_alloc ?_ _) | (with_reducible refine Kd.C_drewN ?_ _) | (with_reducible refine Kd.C_drew ?_)))
    (case side2 => exact (Kd.R_reads' HO515.out).2.1)
    (case side3 => repeat (first | exact (Kd.R_reads' HO519.out).2.2 | (with_reducible refine Kd.C_alloc ?_ _) | (with_reducible refine Kd.C_drewN ?_ _) | (with_reducible refine Kd.C_drew ?_)))
    (case side4 => exact (Kd.R_reads' HO519.out).2.1)
    rintro e w' ⟨rfl, ⟨nd, rfl⟩⟩
    refine ⟨_, rfl, ?_⟩
    refine hK.out _ _ ⟨(blk_cell BK504.out 0).trans rfl, (blk_cell BK504.out 1).trans rfl⟩ (fun hHeld => ?_)
    clear hK K
    refine nz_ 208 ?_
    refine pz_ 27 209 [28,78] ?_
    refine pz_ 28 210 [29,77] ?_
    refine pz_ 29 211 [30,76] ?_
    refine pz_ 30 212 [31,75] ?_
    refine pz_ 31 213 [32,74] ?_
    refine pz_ 32 214 [33,73] ?_
    refine pz_ 33 215 [34,72] ?_
    refine pz_ 34 216 [35,71] ?_
    refine pz_ 35 217 [36,70] ?_
    refine pz_ 36 218 [37,69] ?_
    refine pz_ 37 219 [38,68] ?_
    refine pz_ 38 220 [39,67] ?_
    refine pz_ 39 221 [40,66] ?_
    refine pz_ 40 222 [41,65] ?_
    refine pz_ 41 223 [42,64] ?_
    refine pz_ 42 224 [43,63] ?_
    refine pz_ 43 225 [44,62] ?_
    refine pz_ 44 226 [45,61] ?_
    refine pz_ 45 227 [46,60] ?_
    refine pz_ 46 228 [47,59] ?_
    refine pz_ 47 229 [48,58] ?_
    refine pz_ 48 230 [49,57] ?_
    refine pz_ 49 231 [50,56] ?_
    refine pz_ 50 232 [51,55] ?_
    refine pz_ 51 233 [52,54] ?_
    refine pz_ 52 234 [53,53] ?_
    refine pz_ 53 235 [54,52] ?_
    refine pz_ 54 236 [55,51] ?_
    refine pz_ 55 237 [56,50] ?_
    refine pz_ 56 238 [57,49] ?_
    refine pz_ 57 239 [58,48] ?_
    refine pz_ 58 240 [59,47] ?_
    refine pz_ 59 241 [60,46] ?_
    refine pz_ 60 242 [61,45] ?_
    refine pz_ 61 243 [62,44] ?_
    refine pz_ 62 244 [63,43] ?_
    refine pz_ 63 245 [64,42] ?_
    refine pz_ 64 246 [65,41] ?_
    refine pz_ 65 247 [66,40] ?_
    refine pz_ 66 248 [67,39] ?_
    refine pz_ 67 249 [68,38] ?_
    refine pz_ 68 250 [69,37] ?_
    refine pz_ 69 251 [70,36] ?_
    refine pz_ 70 252 [71,35] ?_
    refine pz_ 71 253 [72,34] ?_
    refine pz_ 72 254 [73,33] ?_
    refine pz_ 73 255 [74,32] ?_
    refine pz_ 74 256 [75,31] ?_
    refine pz_ 75 257 [76,30] ?_
    refine pz_ 76 258 [77,29] ?_
    refine pz_ 77 259 [78,28] ?_
    refine pz_ 78 260 [79,27] ?_
    refine pz_ 79 261 [80,26] ?_
    refine pz_ 80 262 [81,25] ?_
    refine pz_ 81 263 [82,24] ?_
    refine pz_ 82 264 [83,23] ?_
    refine tz2_ 83 265 [84,22] ?_
    refine one_ (i := 84) (N := some 266) (mz_ [85,21]) rfl rfl (one_of HT_.out (w94_)) (by decide) (fun K hK => ?_)
    refine goes_ Tryz.func19 (w94_) rfl #[.agg #[.slice Ao21 t496.length co21, .int .i64 t499]] (by rfl) rfl rfl maz_ ?_
    with_reducible refine (impl_IsShelf.calls k _ _ t496 t499 t536 _ ?side1 ?side2 A82.out).mono ?_
    (case side1 => repeat (first | exact (Kd.V_reads' HO498.out).2.2 | (with_reducible refine Kd.C_alloc ?_ _) | (with_reducible refine Kd.C_drewN ?_ _) | (with_reducible refine Kd.C_drew ?_)))
    (case side2 => exact (Kd.V_reads' HO498.out).2.1)
    rintro e w114 ⟨rfl, hb⟩
    refine ⟨_, rfl, ?_⟩
    have n0_ := Az_ (Kd.V_below (w63_) hb)
    have n1_ := Az_ (Kd.R_below (w90_) hb)
    have n2_ := Az_ (Kd.R_below (w91_) hb)
    have n4_ := Az_ (btz_ (w52_) hb)
    clear HO498 HO515 HO519 HB
    have HO498 := n0_
    have HO515 := n1_
    have HO519 := n2_
    replace BK504 := Az_ (ukbz_ BK504.out hb)
    have HB := n4_
    clear n0_ n1_ n2_ n4_
    clear hb
    refine hK.out _ _ ⟨(blk_cell BK504.out 0).trans rfl, (blk_cell BK504.out 1).trans rfl⟩ (fun hHeld => ?_)
    clear hK K
    refine nz_ 266 ?_
    refine pz_ 85 267 [86,20] ?_
    refine pz_ 86 268 [87,19] ?_
    refine pz_ 87 269 [88,18] ?_
    refine tz2_ 88 270 [89,17] ?_
    refine tz2_ 90 272 [89,1,1,15] ?_
    refine one_ (i := 89) (N := some 271) (mz_ [91,15]) rfl rfl (one_of HT_.out (w94_)) (by decide) (fun K hK => ?_)
    refine goes_ Tryz.func19 (w94_) rfl #[.agg #[.slice Ao21 t496.length co21, .int .i64 t499]] (by rfl) rfl rfl maz_ ?_
    with_reducible refine (impl_IsShelf.calls k _ _ t496 t499 t537 _ ?side1 ?side2 A88.out).mono ?_
    (case side1 => repeat (first | exact (Kd.V_reads' HO498.out).2.2 | (with_reducible refine Kd.C_alloc ?_ _) | (with_reducible refine Kd.C_drewN ?_ _) | (with_reducible refine Kd.C_drew ?_)))
    (case side2 => exact (Kd.V_reads' HO498.out).2.1)
    rintro e w115 ⟨rfl, hb⟩
    refine ⟨_, rfl, ?_⟩
    have n0_ := Az_ (Kd.V_below (w63_) hb)
    have n1_ := Az_ (Kd.R_below (w90_) hb)
    have n2_ := Az_ (Kd.R_below (w91_) hb)
    have n4_ := Az_ (btz_ (w52_) hb)
    clear HO498 HO515 HO519 HB
    have HO498 := n0_
    have HO515 := n1_
    have HO519 := n2_
    replace BK504 := Az_ (ukbz_ BK504.out hb)
    have HB := n4_
    clear n0_ n1_ n2_ n4_
    clear hb
    refine hK.out _ _ ⟨(blk_cell BK504.out 0).trans rfl, (blk_cell BK504.out 1).trans rfl⟩ (fun hHeld => ?_)
    clear hK K
    refine nz_ 271 ?_
    refine one_ (i := 91) (N := some 273) (mz_ [92,14]) rfl rfl (one_of HT_.out (w94_)) (by decide) (fun K hK => ?_)
    refine goes_ Tryz.func20 (w94_) rfl #[.agg #[.slice Ao21 t496.length co21, .int .i64 t499]] (by rfl) rfl rfl maz_ ?_
    with_reducible refine (spec_IsShelf.calls k _ _ t496 t499 t537 _ ?side1 ?side2 A89.out).mono ?_
    (case side1 => repeat (first | exact (Kd.V_reads' HO498.out).2.2 | (with_reducible refine Kd.C_alloc ?_ _) | (with_reducible refine Kd.C_drewN ?_ _) | (with_reducible refine Kd.C_drew ?_)))
    (case side2 => exact (Kd.V_reads' HO498.out).2.1)
    rintro e w116 ⟨rfl, hb⟩
    refine ⟨_, rfl, ?_⟩
    have n0_ := Az_ (Kd.V_below (w63_) hb)
    have n1_ := Az_ (Kd.R_below (w90_) hb)
    have n2_ := Az_ (Kd.R_below (w91_) hb)
    have n4_ := Az_ (btz_ (w52_) hb)
    clear HO498 HO515 HO519 HB
    have HO498 := n0_
    have HO515 := n1_
    have HO519 := n2_
    replace BK504 := Az_ (ukbz_ BK504.out hb)
    have HB := n4_
    clear n0_ n1_ n2_ n4_
    clear hb
    refine hK.out _ _ ⟨(blk_cell BK504.out 0).trans rfl, (blk_cell BK504.out 1).trans rfl⟩ (fun hHeld => ?_)
    clear hK K
    refine nz_ 273 ?_
    refine pz_ 92 274 [93,13] ?_
    refine pz_ 93 275 [94,12] ?_
    refine pz_ 94 276 [95,11] ?_
    refine pz_ 95 277 [96,10] ?_
    refine pz_ 96 278 [97,9] ?_
    refine pz_ 97 279 [98,8] ?_
    refine pz_ 98 280 [99,7] ?_
    refine pz_ 99 281 [100,6] ?_
    refine pz_ 100 282 [101,5] ?_
    refine pz_ 101 283 [102,4] ?_
    refine qz_ 102 284 [103,3] ?_
    refine qz_ 103 285 [104,2] ?_
    refine pz_ 104 286 [105,1] ?_
    refine pz_ 105 287 [106] ?_
    refine done_ (done_of HT_.out (w94_)) ?_
    try go_wp2
    go_meet
    case rel => exact ⟨_, (false), qaz_, H', ⟨w80_⟩, ⟨w57_⟩, ⟨w48_⟩, ⟨w71_⟩, ⟨w52_⟩⟩
  subst c104
  rw [if_pos rfl] at H
  have H' := Az_ H
  clear H
  try go_wp2
  have n0_ := Az_ (Kd.V_drew HO498.out)
  have n1_ := Az_ (rdz_ HO515.out)
  have n2_ := Az_ (rdz_ HO519.out)
  have n3_ := Az_ (kdz_ BK504.out)
  have n4_ := Az_ (bdz_ HB.out)
  clear HO498 HO515 HO519 BK504 HB
  have HO498 := n0_
  have HO515 := n1_
  have HO519 := n2_
  have BK504 := n3_
  have HB := n4_
  clear n0_ n1_ n2_ n3_ n4_
  obtain ⟨Ao106, co106, eo106⟩ := Kd.R_slice HO515.out
  (first | subst eo106 | (injection eo106 with f1_ f2_ f3_; have f4_ := f1_.symm; have f5_ := f3_.symm; clear f1_ f2_ f3_; subst f4_; subst f5_))
  obtain ⟨Ao107, co107, eo107⟩ := Kd.R_slice HO519.out
  (first | subst eo107 | (injection eo107 with f1_ f2_ f3_; have f4_ := f1_.symm; have f5_ := f3_.symm; clear f1_ f2_ f3_; subst f4_; subst f5_))
  as_aux_lemma =>
   refine start_ (n := 106) (S := fun w' => w'.cell? ⟨gb504, 0, none⟩ = some (.slice Ao21 t496.length co21) ∧ w'.cell? ⟨gb504, 1, none⟩ = some (.int .i64 t499)) (ds := []) #[false, false, false, false, false, false, false, false, false, false, false, false, false, false, false, false, false, false, false, false, false, false, false, false, false, false, false, false, false, false, false, false, false, false, false, false, false, false, false, false, false, false, false, false, false, false, false, false, false, false, false, false, false, false, false, false, false, false, false, false, false, false, false, false, false, false, false, false, false, false, false, false, false, false, false, false, false, false, false, false, false, false, false, false, false, false, false, false, false, false, false, false, false, false, false, false, false, false, false, false, false, false, false, false, false, false] (w94_) rfl rfl ⟨(blk_cell BK504.out 0).trans rfl, (blk_cell BK504.out 1).trans rfl⟩ (fun hHeld => ?_); refine with_tabW laws_FnShelvesEaten.tab16 laws_FnShelvesEaten.bits16 (fun HT_ HW_ => ?_)
   generalize w45.drew = w105 at HO498 HO515 HO519 BK504 HB hHeld ⊢
   refine pz_ 0 182 [1,105] ?_
   refine pz_ 1 183 [2,104] ?_
   refine pz_ 2 184 [3,103] ?_
   refine pz_ 3 185 [4,102] ?_
   refine pz_ 4 186 [5,101] ?_
   refine pz_ 5 187 [6,100] ?_
   refine pz_ 6 188 [7,99] ?_
   refine pz_ 7 189 [8,98] ?_
   refine pz_ 8 190 [9,97] ?_
   refine pz_ 9 191 [10,96] ?_
   refine pz_ 10 192 [11,95] ?_
   refine pz_ 11 193 [12,94] ?_
   refine pz_ 12 194 [13,93] ?_
   refine pz_ 13 195 [14,92] ?_
   refine pz_ 14 196 [15,91] ?_
   refine pz_ 15 197 [16,90] ?_
   refine pz_ 16 198 [17,89] ?_
   refine pz_ 17 199 [18,88] ?_
   refine pz_ 18 200 [19,87] ?_
   refine pz_ 19 201 [20,86] ?_
   refine pz_ 20 202 [21,85] ?_
   refine pz_ 21 203 [22,84] ?_
   refine pz_ 22 204 [23,83] ?_
   refine pz_ 23 205 [24,82] ?_
   refine pz_ 24 206 [25,81] ?_
   refine pz_ 25 207 [26,80] ?_
   refine one_ (i := 26) (N := some 208) (mz_ [27,79]) rfl rfl (one_of HT_.out (w94_)) (by decide) (fun K hK => ?_)
   refine goes_ Tryz.func18 (w94_) rfl #[.slice Ao106 t513.length co106, .slice Ao107 t517.length co107] (by rfl) rfl rfl maz_ ?_
   with_reducible refine (laws_fSame.calls k _ _ t513 _ _ t517 true _ ?side1 ?side2 ?side3 ?side4 A54.out).mono ?_
   (case side1 => repeat (first | exact (Kd.R_reads' HO515.out).2.2 | (with_reducible refine Kd.C_alloc ?_ _) | (with_reducible refine Kd.C_drewN ?_ _) | (with_reducible refine Kd.C_drew ?_)))
   (case side2 => exact (Kd.R_reads' HO515.out).2.1)
   (case side3 => repeat (first | exact (Kd.R_reads' HO519.out).2.2 | (with_reducible refine Kd.C_alloc ?_ _) | (with_reducible refine Kd.C_drewN ?_ _) | (with_reducible refine Kd.C_drew ?_)))
   (case side4 => exact (Kd.R_reads' HO519.out).2.1)
   rintro e w' ⟨rfl, ⟨nd, rfl⟩⟩
   refine ⟨_, rfl, ?_⟩
   refine hK.out _ _ ⟨(blk_cell BK504.out 0).trans rfl, (blk_cell BK504.out 1).trans rfl⟩ (fun hHeld => ?_)
   clear hK K
   refine nz_ 208 ?_
   refine pz_ 27 209 [28,78] ?_
   refine pz_ 28 210 [29,77] ?_
   refine pz_ 29 211 [30,76] ?_
   refine pz_ 30 212 [31,75] ?_
   refine pz_ 31 213 [32,74] ?_
   refine pz_ 32 214 [33,73] ?_
   refine pz_ 33 215 [34,72] ?_
   refine pz_ 34 216 [35,71] ?_
   refine pz_ 35 217 [36,70] ?_
   refine pz_ 36 218 [37,69] ?_
   refine pz_ 37 219 [38,68] ?_
   refine pz_ 38 220 [39,67] ?_
   refine pz_ 39 221 [40,66] ?_
   refine pz_ 40 222 [41,65] ?_
   refine pz_ 41 223 [42,64] ?_
   refine pz_ 42 224 [43,63] ?_
   refine pz_ 43 225 [44,62] ?_
   refine pz_ 44 226 [45,61] ?_
   refine pz_ 45 227 [46,60] ?_
   refine pz_ 46 228 [47,59] ?_
   refine pz_ 47 229 [48,58] ?_
   refine pz_ 48 230 [49,57] ?_
   refine pz_ 49 231 [50,56] ?_
   refine pz_ 50 232 [51,55] ?_
   refine pz_ 51 233 [52,54] ?_
   refine pz_ 52 234 [53,53] ?_
   refine pz_ 53 235 [54,52] ?_
   refine pz_ 54 236 [55,51] ?_
   refine pz_ 55 237 [56,50] ?_
   refine pz_ 56 238 [57,49] ?_
   refine pz_ 57 239 [58,48] ?_
   refine pz_ 58 240 [59,47] ?_
   refine pz_ 59 241 [60,46] ?_
   refine pz_ 60 242 [61,45] ?_
   refine pz_ 61 243 [62,44] ?_
   refine pz_ 62 244 [63,43] ?_
   refine pz_ 63 245 [64,42] ?_
   refine pz_ 64 246 [65,41] ?_
   refine pz_ 65 247 [66,40] ?_
   refine pz_ 66 248 [67,39] ?_
   refine pz_ 67 249 [68,38] ?_
   refine pz_ 68 250 [69,37] ?_
   refine pz_ 69 251 [70,36] ?_
   refine pz_ 70 252 [71,35] ?_
   refine pz_ 71 253 [72,34] ?_
   refine pz_ 72 254 [73,33] ?_
   refine pz_ 73 255 [74,32] ?_
   refine pz_ 74 256 [75,31] ?_
   refine pz_ 75 257 [76,30] ?_
   refine pz_ 76 258 [77,29] ?_
   refine pz_ 77 259 [78,28] ?_
   refine pz_ 78 260 [79,27] ?_
   refine pz_ 79 261 [80,26] ?_
   refine pz_ 80 262 [81,25] ?_
   refine pz_ 81 263 [82,24] ?_
   refine pz_ 82 264 [83,23] ?_
   refine tz2_ 83 265 [84,22] ?_
   refine one_ (i := 84) (N := some 266) (mz_ [85,21]) rfl rfl (one_of HT_.out (w94_)) (by decide) (fun K hK => ?_)
   refine goes_ Tryz.func19 (w94_) rfl #[.agg #[.slice Ao21 t496.length co21, .int .i64 t499]] (by rfl) rfl rfl maz_ ?_
   with_reducible refine (impl_IsShelf.calls k _ _ t496 t499 t536 _ ?side1 ?side2 A82.out).mono ?_
   (case side1 => repeat (first | exact (Kd.V_reads' HO498.out).2.2 | (with_reducible refine Kd.C_alloc ?_ _) | (with_reducible refine Kd.C_drewN ?_ _) | (with_reducible refine Kd.C_drew ?_)))
   (case side2 => exact (Kd.V_reads' HO498.out).2.1)
   rintro e w108 ⟨rfl, hb⟩
   refine ⟨_, rfl, ?_⟩
   have n0_ := Az_ (Kd.V_below (w63_) hb)
   have n1_ := Az_ (Kd.R_below (w90_) hb)
   have n2_ := Az_ (Kd.R_below (w91_) hb)
   have n4_ := Az_ (btz_ (w52_) hb)
   clear HO498 HO515 HO519 HB
   have HO498 := n0_
   have HO515 := n1_
   have HO519 := n2_
   replace BK504 := Az_ (ukbz_ BK504.out hb)
   have HB := n4_
   clear n0_ n1_ n2_ n4_
   clear hb
   refine hK.out _ _ ⟨(blk_cell BK504.out 0).trans rfl, (blk_cell BK504.out 1).trans rfl⟩ (fun hHeld => ?_)
   clear hK K
   refine nz_ 266 ?_
   refine pz_ 85 267 [86,20] ?_
   refine pz_ 86 268 [87,19] ?_
   refine pz_ 87 269 [88,18] ?_
   refine tz2_ 88 270 [89,17] ?_
   refine tz2_ 90 272 [89,1,1,15] ?_
   refine one_ (i := 89) (N := some 271) (mz_ [91,15]) rfl rfl (one_of HT_.out (w94_)) (by decide) (fun K hK => ?_)
   refine goes_ Tryz.func19 (w94_) rfl #[.agg #[.slice Ao21 t496.length co21, .int .i64 t499]] (by rfl) rfl rfl maz_ ?_
   with_reducible refine (impl_IsShelf.calls k _ _ t496 t499 t537 _ ?side1 ?side2 A88.out).mono ?_
   (case side1 => repeat (first | exact (Kd.V_reads' HO498.out).2.2 | (with_reducible refine Kd.C_alloc ?_ _) | (with_reducible refine Kd.C_drewN ?_ _) | (with_reducible refine Kd.C_drew ?_)))
   (case side2 => exact (Kd.V_reads' HO498.out).2.1)
   rintro e w109 ⟨rfl, hb⟩
   refine ⟨_, rfl, ?_⟩
   have n0_ := Az_ (Kd.V_below (w63_) hb)
   have n1_ := Az_ (Kd.R_below (w90_) hb)
   have n2_ := Az_ (Kd.R_below (w91_) hb)
   have n4_ := Az_ (btz_ (w52_) hb)
   clear HO498 HO515 HO519 HB
   have HO498 := n0_
   have HO515 := n1_
   have HO519 := n2_
   replace BK504 := Az_ (ukbz_ BK504.out hb)
   have HB := n4_
   clear n0_ n1_ n2_ n4_
   clear hb
   refine hK.out _ _ ⟨(blk_cell BK504.out 0).trans rfl, (blk_cell BK504.out 1).trans rfl⟩ (fun hHeld => ?_)
   clear hK K
   refine nz_ 271 ?_
   refine one_ (i := 91) (N := some 273) (mz_ [92,14]) rfl rfl (one_of HT_.out (w94_)) (by decide) (fun K hK => ?_)
   refine goes_ Tryz.func20 (w94_) rfl #[.agg #[.slice Ao21 t496.length co21, .int .i64 t499]] (by rfl) rfl rfl maz_ ?_
   with_reducible refine (spec_IsShelf.calls k _ _ t496 t499 t537 _ ?side1 ?side2 A89.out).mono ?_
   (case side1 => repeat (first | exact (Kd.V_reads' HO498.out).2.2 | (with_reducible refine Kd.C_alloc ?_ _) | (with_reducible refine Kd.C_drewN ?_ _) | (with_reducible refine Kd.C_drew ?_)))
   (case side2 => exact (Kd.V_reads' HO498.out).2.1)
   rintro e w110 ⟨rfl, hb⟩
   refine ⟨_, rfl, ?_⟩
   have n0_ := Az_ (Kd.V_below (w63_) hb)
   have n1_ := Az_ (Kd.R_below (w90_) hb)
   have n2_ := Az_ (Kd.R_below (w91_) hb)
   have n4_ := Az_ (btz_ (w52_) hb)
   clear HO498 HO515 HO519 HB
   have HO498 := n0_
   have HO515 := n1_
   have HO519 := n2_
   replace BK504 := Az_ (ukbz_ BK504.out hb)
   have HB := n4_
   clear n0_ n1_ n2_ n4_
   clear hb
   refine hK.out _ _ ⟨(blk_cell BK504.out 0).trans rfl, (blk_cell BK504.out 1).trans rfl⟩ (fun hHeld => ?_)
   clear hK K
   refine nz_ 273 ?_
   refine pz_ 92 274 [93,13] ?_
   refine pz_ 93 275 [94,12] ?_
   refine pz_ 94 276 [95,11] ?_
   refine pz_ 95 277 [96,10] ?_
   refine pz_ 96 278 [97,9] ?_
   refine pz_ 97 279 [98,8] ?_
   refine pz_ 98 280 [99,7] ?_
   refine pz_ 99 281 [100,6] ?_
   refine pz_ 100 282 [101,5] ?_
   refine pz_ 101 283 [102,4] ?_
   refine pz_ 102 284 [103,3] ?_
   refine pz_ 103 285 [104,2] ?_
   refine pz_ 104 286 [105,1] ?_
   refine pz_ 105 287 [106] ?_
   refine done_ (done_of HT_.out (w94_)) ?_
   try go_wp2
   go_meet
   case rel => exact ⟨_, (!true), qaz_, H', ⟨w80_⟩, ⟨w57_⟩, ⟨w48_⟩, ⟨w71_⟩, ⟨w52_⟩⟩
 case rest => as_aux_lemma =>
  clear HC18
  obtain ⟨kq, x287_17, rfl, HA, HJ17, HO_18, HO_505000, BK504, HB⟩ := hcut
  cases kq with
  | zero => exact absurd HA.out (by simp [j0])
  | succ kj17 =>
   have H := HA.out
   clear HA
   simp only [j0] at H
   by_cases c172 : x287_17 = true
   ·subst c172
    rw [if_pos rfl] at H
    exact absurd ((Option.some.inj H).trans hrT) (by decide)
   replace c172 := Bool.eq_false_iff.mpr c172
   subst c172
   rw [if_neg nfz_] at H
   have HC173 := Az_ H
   clear H
   go_upto_if 288 with (fail)
   go_cut [] from 1 to 0 (fun wc => ∃ (kq : Nat), Aside0 (j2 kq l1 t521 t522 t525 t526 t527 t531 t496 t499 = some r) ∧ Aside0 (kq ≤ kj17) ∧ Aside0 (Kd.V (Kd.int .i64) 3 wc w.heap.size (fun k_ => k_ ≠ gb504) (.slice Ao21 t496.length co21) t496) ∧ Aside0 (wc.heap[gb504]? = some (.cells #[(.slice Ao21 t496.length co21), .int .i64 t499] 26 (0, 0))) ∧ Aside0 (Below w.heap.size w wc))
   case first => as_aux_lemma =>
    have H := HC173.out
    clear HC173
    by_cases c174 : t506 = true; rotate_left
    ·replace c174 := Bool.eq_false_iff.mpr c174
     subst c174
     rw [if_neg nfz_] at H
     have H' := Az_ H
     clear H
     go_wp2
     go_meet
     case rel => exact ⟨_, H', ⟨by have := HJ17.out; first | omega | exact Nat.le_refl _⟩, ⟨by (with_reducible repeat (first | apply Kd.V_alloc | apply Kd.V_drewN | apply Kd.V_drew)); exact Kd.V_mono HO_505000.out (fun _ hk => hk.2)⟩, ⟨w71_⟩, ⟨w52_⟩⟩
    subst c174
    rw [if_pos rfl] at H
    replace H := bqz_ H; obtain ⟨⟨t542, t543⟩, A175, H⟩ := H
    replace H := bqz_ H; obtain ⟨⟨t544, t545⟩, A176, H⟩ := H
    replace H := bqz_ H; obtain ⟨⟨t546, t547⟩, A177, H⟩ := H
    replace H := bqz_ H; obtain ⟨⟨t548, t549⟩, A178, H⟩ := H
    replace H : (laws_FnShelvesEaten.l0 kj17 l1 t505 t509 t513 t521 t522 t525 t526 t527 t531 t542 t543 t544 t545 t546 t547 t548 t549 (wrap64 (t509 * t499)) t513 (t513.length : Int) 0 t496 t499) = some r := H
    have H' := Az_ H
    clear H
    have hcz179_0 : wc.cell? ⟨gb504, 0, none⟩ = some (.slice Ao21 t496.length co21) := (blk_cell BK504.out 0).trans rfl
    have hcz179_1 : wc.cell? ⟨gb504, 1, none⟩ = some (.int .i64 t499) := (blk_cell BK504.out 1).trans rfl
    have hfz179_0 := blk_frozen BK504.out 0
    have hfz179_1 := blk_frozen BK504.out 1
    go_wp2_with (first | ((with_reducible refine gate_callee (f := 21) rfl ?_); refine goesL_ (some 293) rfl rfl Tryz.func21 (w94_) rfl #[.agg #[.slice Ao21 t496.length co21, .int .i64 t499], .int .i64 t500, .bool t501] rfl maz_ ?_; (with_reducible refine (impl_FaceOf.calls kj17 _ _ t496 t499 t500 t501 t542 t543 _ ?side1 ?side2 A175.out).mono ?_); (case side1 => exact ucz_ ((Kd.V_reads' HO_505000.out).2.2)); (case side2 => exact (Kd.V_reads' HO_505000.out).2.1); rintro e w180 ⟨rfl, hb⟩; refine ⟨_, rfl, ?_⟩; have n0_ := Az_ (Kd.R_below (by exact urz_ HO_18.out) hb); have n1_ := Az_ (Kd.V_below (w59_) hb); have n3_ := Az_ (btz_ (w52_) hb); clear HO_18; clear HO_505000; clear HB; have HO_18 := n0_; have HO_505000 := n1_; replace BK504 := Az_ (ukbz_ BK504.out hb); have HB := n3_; clear n0_ n1_ n3_; (try clear hb); have hcz181_0 : w180.cell? ⟨gb504, 0, none⟩ = some (.slice Ao21 t496.length co21) := (blk_cell BK504.out 0).trans rfl; have hcz181_1 : w180.cell? ⟨gb504, 1, none⟩ = some (.int .i64 t499) := (blk_cell BK504.out 1).trans rfl; have hfz181_0 := blk_frozen BK504.out 0; have hfz181_1 := blk_frozen BK504.out 1; clear A175) | ((with_reducible refine gate_callee (f := 21) rfl ?_); refine goesL_ (some 300) rfl rfl Tryz.func21 (w94_) rfl #[.agg #[.slice Ao21 t496.length co21, .int .i64 t499], .int .i64 t502, .bool t503] rfl maz_ ?_; (with_reducible refine (impl_FaceOf.calls kj17 _ _ t496 t499 t502 t503 t544 t545 _ ?side1 ?side2 A176.out).mono ?_); (case side1 => exact ucz_ ((Kd.V_reads' HO_505000.out).2.2)); (case side2 => exact (Kd.V_reads' HO_505000.out).2.1); rintro e w182 ⟨rfl, hb⟩; refine ⟨_, rfl, ?_⟩; have n0_ := Az_ (Kd.R_below (by exact urz_ HO_18.out) hb); have n1_ := Az_ (Kd.V_below (w59_) hb); have n3_ := Az_ (btz_ (w52_) hb); clear HO_18; clear HO_505000; clear HB; have HO_18 := n0_; have HO_505000 := n1_; replace BK504 := Az_ (ukbz_ BK504.out hb); have HB := n3_; clear n0_ n1_ n3_; (try clear hb); have hcz183_0 : w182.cell? ⟨gb504, 0, none⟩ = some (.slice Ao21 t496.length co21) := (blk_cell BK504.out 0).trans rfl; have hcz183_1 : w182.cell? ⟨gb504, 1, none⟩ = some (.int .i64 t499) := (blk_cell BK504.out 1).trans rfl; have hfz183_0 := blk_frozen BK504.out 0; have hfz183_1 := blk_frozen BK504.out 1) | ((with_reducible refine gate_callee (f := 6) rfl ?_); refine goesL_ (some 309) rfl rfl Tryz.func6 (w94_) rfl #[.agg #[.slice Ao21 t496.length co21, .int .i64 t499], .int .i64 t502, .bool t503, .int .i64 t500, .bool t501] rfl maz_ ?_; (with_reducible refine (impl_WormEats.calls kj17 _ _ t496 t499 t502 t503 t500 t501 t546 t547 _ ?side1 ?side2 A177.out).mono ?_); (case side1 => exact ucz_ ((Kd.V_reads' HO_505000.out).2.2)); (case side2 => exact (Kd.V_reads' HO_505000.out).2.1); rintro e w184 ⟨rfl, hb⟩; refine ⟨_, rfl, ?_⟩; have n0_ := Az_ (Kd.R_below (by exact urz_ HO_18.out) hb); have n1_ := Az_ (Kd.V_below (w59_) hb); have n3_ := Az_ (btz_ (w52_) hb); clear HO_18; clear HO_505000; clear HB; have HO_18 := n0_; have HO_505000 := n1_; replace BK504 := Az_ (ukbz_ BK504.out hb); have HB := n3_; clear n0_ n1_ n3_; (try clear hb); have hcz185_0 : w184.cell? ⟨gb504, 0, none⟩ = some (.slice Ao21 t496.length co21) := (blk_cell BK504.out 0).trans rfl; have hcz185_1 : w184.cell? ⟨gb504, 1, none⟩ = some (.int .i64 t499) := (blk_cell BK504.out 1).trans rfl; have hfz185_0 := blk_frozen BK504.out 0; have hfz185_1 := blk_frozen BK504.out 1) | ((with_reducible refine gate_callee (f := 8) rfl ?_); refine goesL_ (some 318) rfl rfl Tryz.func8 (w94_) rfl #[.agg #[.slice Ao21 t496.length co21, .int .i64 t499], .int .i64 t502, .bool t503, .int .i64 t500, .bool t501] rfl maz_ ?_; (with_reducible refine (impl_CoversEaten.calls kj17 _ _ t496 t499 t502 t503 t500 t501 t548 t549 _ ?side1 ?side2 A178.out).mono ?_); (case side1 => exact ucz_ ((Kd.V_reads' HO_505000.out).2.2)); (case side2 => exact (Kd.V_reads' HO_505000.out).2.1); rintro e w186 ⟨rfl, hb⟩; refine ⟨_, rfl, ?_⟩; have n0_ := Az_ (Kd.R_below (by exact urz_ HO_18.out) hb); have n1_ := Az_ (Kd.V_below (w59_) hb); have n3_ := Az_ (btz_ (w52_) hb); clear HO_18; clear HO_505000; clear HB; have HO_18 := n0_; have HO_505000 := n1_; replace BK504 := Az_ (ukbz_ BK504.out hb); have HB := n3_; clear n0_ n1_ n3_; (try clear hb); have hcz187_0 : w186.cell? ⟨gb504, 0, none⟩ = some (.slice Ao21 t496.length co21) := (blk_cell BK504.out 0).trans rfl; have hcz187_1 : w186.cell? ⟨gb504, 1, none⟩ = some (.int .i64 t499) := (blk_cell BK504.out 1).trans rfl; have hfz187_0 := blk_frozen BK504.out 0; have hfz187_1 := blk_frozen BK504.out 1; obtain ⟨Ao188, co188, eo188⟩ := Kd.R_slice HO_18.out; subst eo188))
    go_loopg [44, 327] kj17 (fun kq v44 v327 w' => ∃ (x44_2 : Int) (x327_2 : Int), v44 = .int .i64 x44_2 ∧ v327 = .int .i64 x327_2 ∧ Aside0 (laws_FnShelvesEaten.l0 kq l1 t505 t509 t513 t521 t522 t525 t526 t527 t531 t542 t543 t544 t545 t546 t547 t548 t549 x44_2 t513 (t513.length : Int) x327_2 t496 t499 = some r) ∧ Aside0 (kq ≤ kj17) ∧ Aside0 (Kd.R (Kd.int .i64) 3 w' w.heap.size (fun _ => True) (.slice Ao188 t513.length co188) t513) ∧ Aside0 (Kd.R (Kd.int .i64) 3 w' w.heap.size (fun _ => True) (.slice Ao188 t513.length co188) t513) ∧ Aside0 (Kd.V (Kd.int .i64) 3 w' w.heap.size (fun k_ => some k_ ≠ ((.slice Ao188 t513.length co188) : Value).ownBlock ∧ some k_ ≠ ((.slice Ao188 t513.length co188) : Value).ownBlock ∧ k_ ≠ gb504) (.slice Ao21 t496.length co21) t496) ∧ Aside0 (w'.heap[gb504]? = some (.cells #[(.slice Ao21 t496.length co21), .int .i64 t499] 26 (0, 0))) ∧ Aside0 (Below w.heap.size w w'))
    case atStart => exact ⟨(wrap64 (t509 * t499)), (0), qaz_, qaz_, H', ⟨Nat.le_refl _⟩, ⟨w76_⟩, ⟨w76_⟩, ⟨by (with_reducible repeat (first | apply Kd.V_alloc | apply Kd.V_drewN | apply Kd.V_drew)); exact Kd.V_mono HO_505000.out (fun _ hk => ⟨hk.1, ⟨hk.1, hk.2⟩⟩)⟩, ⟨w71_⟩, ⟨w52_⟩⟩
    case round =>
     clear H'
     clear hcz179_0 hcz179_1 hcz181_0 hcz181_1 hcz183_0 hcz183_1 hcz185_0 hcz185_1 hcz187_0 hcz187_1 hfz179_0 hfz179_1 hfz181_0 hfz181_1 hfz183_0 hfz183_1 hfz185_0 hfz185_1 hfz187_0 hfz187_1
     obtain ⟨x44_2, x327_2, rfl, rfl, HA, HK2, HO_18, HO_325, HO_505000, BK504, HB⟩ := hrel
     cases gk with
     | zero => exact absurd HA.out (by simp [laws_FnShelvesEaten.l0])
     | succ k2 =>
      have H := HA.out
      clear HA
      simp only [laws_FnShelvesEaten.l0] at H
      by_cases c189 : x327_2 < (t513.length : Int)
      ·rw [if_pos c189] at H
       have c189b0 := decide_eq_true c189
       clear c189
       (first | rw [c189b0] | (simp only [i64_w, i32_w]; rw [c189b0]) | skip)
       by_cases c190 : 0 ≤ x327_2; rotate_left
       ·rw [if_neg c190] at H
        exact absurd H (by simp)
       rw [if_pos c190] at H
       have c190b0 := decide_eq_true c190
       clear c190
       by_cases c191 : x327_2 < (t513.length : Int); rotate_left
       ·rw [if_neg c191] at H
        exact absurd H (by simp)
       rw [if_pos c191] at H
       have c191b0 := decide_eq_true c191
       clear c191
       by_cases c192 : 0 ≤ (rd t513 x327_2); rotate_left
       ·rw [if_neg c192] at H
        exact absurd H (by simp)
       rw [if_pos c192] at H
       have c192b0 := decide_eq_true c192
       clear c192
       by_cases c193 : (rd t513 x327_2) < (t496.length : Int); rotate_left
       ·rw [if_neg c193] at H
        exact absurd H (by simp)
       rw [if_pos c193] at H
       have c193b0 := decide_eq_true c193
       clear c193
       have H' := Az_ H
       clear H
       have p550 : 0 ≤ (x327_2 : Int) := od_
       have q550 : x327_2 < (t513.length : Int) := od_
       obtain ⟨ad550, e550, hx550_0⟩ := Kd.at_int (Kd.R_reads' HO_325.out).2.2 x327_2 p550 q550
       cases e550
       replace p550 := eq_true p550
       replace q550 := eq_true q550
       have hcz194_0 : wr.cell? ⟨gb504, 0, none⟩ = some (.slice Ao21 t496.length co21) := (blk_cell BK504.out 0).trans rfl
       have hcz194_1 : wr.cell? ⟨gb504, 1, none⟩ = some (.int .i64 t499) := (blk_cell BK504.out 1).trans rfl
       have hfz194_0 := blk_frozen BK504.out 0
       have hfz194_1 := blk_frozen BK504.out 1
       have p551 : 0 ≤ ((rd t513 x327_2) : Int) := od_
       have q551 : (rd t513 x327_2) < (t496.length : Int) := od_
       obtain ⟨ad551, e551, hx551_0⟩ := Kd.at_int (Kd.V_reads' HO_505000.out).2.2 (rd t513 x327_2) p551 q551
       cases e551
       replace p551 := eq_true p551
       replace q551 := eq_true q551
       go_wp2
       go_roundg k2
       case measure => have := HJ17.out; have := HK2.out; omega
       case rel => exact ⟨(wrap64 (x44_2 + (rd t496 (rd t513 x327_2)))), (wrap64 (x327_2 + 1)), qaz_, qaz_, H', ⟨by have := HJ17.out; have := HK2.out; omega⟩, ⟨w76_⟩, ⟨by (with_reducible repeat (first | apply raz_ | apply rnz_ | apply rdz_)); exact HO_325.out⟩, ⟨w59_⟩, ⟨w71_⟩, ⟨w52_⟩⟩
      rw [if_neg c189] at H
      have c189b0 := decide_eq_false c189
      clear c189
      (first | rw [c189b0] | (simp only [i64_w, i32_w]; rw [c189b0]) | skip)
      by_cases c195 : t543 = true; rotate_left
      ·replace c195 := Bool.eq_false_iff.mpr c195
       subst c195
       rw [if_neg nfz_] at H
       exact absurd ((Option.some.inj H).trans hrT) (by decide)
      subst c195
      rw [if_pos rfl] at H
      by_cases c196 : t545 = true; rotate_left
      ·replace c196 := Bool.eq_false_iff.mpr c196
       subst c196
       rw [if_neg nfz_] at H
       exact absurd ((Option.some.inj H).trans hrT) (by decide)
      subst c196
      rw [if_pos rfl] at H
      by_cases c197 : t505 = (wrap64 (t542 - t544))
      ·rw [if_pos c197] at H
       have c197b0 : (t505 == (wrap64 (t542 - t544))) = true := beq_iff_eq.mpr c197
       have c197b1 : (t505 != (wrap64 (t542 - t544))) = false := bne_eq_false_iff_eq.mpr c197
       clear c197
       by_cases c198 : t547 = true; rotate_left
       ·replace c198 := Bool.eq_false_iff.mpr c198
        subst c198
        rw [if_neg nfz_] at H
        exact absurd ((Option.some.inj H).trans hrT) (by decide)
       subst c198
       rw [if_pos rfl] at H
       by_cases c199 : t546 = t505; rotate_left
       ·rw [if_neg c199] at H
        have c199b0 : (t546 == t505) = false := beq_eq_false_iff_ne.mpr c199
        have c199b1 : (t546 != t505) = true := bne_iff_ne.mpr c199
        exact absurd ((Option.some.inj H).trans hrT) (by decide)
       rw [if_pos c199] at H
       subst c199
       by_cases c200 : t549 = true; rotate_left
       ·replace c200 := Bool.eq_false_iff.mpr c200
        subst c200
        rw [if_neg nfz_] at H
        exact absurd ((Option.some.inj H).trans hrT) (by decide)
       subst c200
       rw [if_pos rfl] at H
       by_cases c201 : t548 = t509; rotate_left
       ·rw [if_neg c201] at H
        have c201b0 : (t548 == t509) = false := beq_eq_false_iff_ne.mpr c201
        have c201b1 : (t548 != t509) = true := bne_iff_ne.mpr c201
        exact absurd ((Option.some.inj H).trans hrT) (by decide)
       rw [if_pos c201] at H
       subst c201
       by_cases c202 : x44_2 = t546; rotate_left
       ·rw [if_neg c202] at H
        have c202b0 : (x44_2 == t546) = false := beq_eq_false_iff_ne.mpr c202
        have c202b1 : (x44_2 != t546) = true := bne_iff_ne.mpr c202
        exact absurd ((Option.some.inj H).trans hrT) (by decide)
       rw [if_pos c202] at H
       have c202b0 : (x44_2 == t546) = true := beq_iff_eq.mpr c202
       have c202b1 : (x44_2 != t546) = false := bne_eq_false_iff_eq.mpr c202
       clear c202
       by_cases c203 : (Int.tmod t548 2) = 0; rotate_left
       ·rw [if_neg c203] at H
        have c203b0 : ((Int.tmod t548 2) == 0) = false := beq_eq_false_iff_ne.mpr c203
        have c203b1 : ((Int.tmod t548 2) != 0) = true := bne_iff_ne.mpr c203
        exact absurd ((Option.some.inj H).trans hrT) (by decide)
       rw [if_pos c203] at H
       have c203b0 : ((Int.tmod t548 2) == 0) = true := beq_iff_eq.mpr c203
       have c203b1 : ((Int.tmod t548 2) != 0) = false := bne_eq_false_iff_eq.mpr c203
       clear c203
       replace H := bqz_ H; obtain ⟨t552, A204, H⟩ := H
       replace H : (if t552 = true then (j2 k2 l1 t521 t522 t525 t526 t527 t531 t496 t499) else (some false)) = some r := H
       by_cases c205 : t552 = true; rotate_left
       ·replace c205 := Bool.eq_false_iff.mpr c205
        subst c205
        rw [if_neg nfz_] at H
        exact absurd ((Option.some.inj H).trans hrT) (by decide)
       subst c205
       rw [if_pos rfl] at H
       have H' := Az_ H
       clear H
       go_wp2_with ((go_at_call 22; (with_reducible refine (laws_fRises.calls k2 _ _ t513 true _ ?side1 ?side2 A204.out).mono ?_); (case side1 => exact ucz_ ((Kd.R_reads' HO_18.out).2.2)); (case side2 => exact (Kd.R_reads' HO_18.out).2.1); rintro e w' ⟨rfl, ⟨nd, rfl⟩⟩))
       go_meet
       case rel => exact ⟨_, H', ⟨by have := HJ17.out; have := HK2.out; first | omega | exact Nat.le_refl _⟩, ⟨w54_⟩, ⟨w71_⟩, ⟨w52_⟩⟩
      rw [if_neg c197] at H
      have c197b0 : (t505 == (wrap64 (t542 - t544))) = false := beq_eq_false_iff_ne.mpr c197
      have c197b1 : (t505 != (wrap64 (t542 - t544))) = true := bne_iff_ne.mpr c197
      by_cases c206 : t505 = (wrap64 (t544 - t542)); rotate_left
      ·rw [if_neg c206] at H
       have c206b0 : (t505 == (wrap64 (t544 - t542))) = false := beq_eq_false_iff_ne.mpr c206
       have c206b1 : (t505 != (wrap64 (t544 - t542))) = true := bne_iff_ne.mpr c206
       exact absurd ((Option.some.inj H).trans hrT) (by decide)
      rw [if_pos c206] at H
      have c206b0 : (t505 == (wrap64 (t544 - t542))) = true := beq_iff_eq.mpr c206
      have c206b1 : (t505 != (wrap64 (t544 - t542))) = false := bne_eq_false_iff_eq.mpr c206
      clear c206
      by_cases c207 : t547 = true; rotate_left
      ·replace c207 := Bool.eq_false_iff.mpr c207
       subst c207
       rw [if_neg nfz_] at H
       exact absurd ((Option.some.inj H).trans hrT) (by decide)
      subst c207
      rw [if_pos rfl] at H
      by_cases c208 : t546 = t505; rotate_left
      ·rw [if_neg c208] at H
       have c208b0 : (t546 == t505) = false := beq_eq_false_iff_ne.mpr c208
       have c208b1 : (t546 != t505) = true := bne_iff_ne.mpr c208
       exact absurd ((Option.some.inj H).trans hrT) (by decide)
      rw [if_pos c208] at H
      subst c208
      by_cases c209 : t549 = true; rotate_left
      ·replace c209 := Bool.eq_false_iff.mpr c209
       subst c209
       rw [if_neg nfz_] at H
       exact absurd ((Option.some.inj H).trans hrT) (by decide)
      subst c209
      rw [if_pos rfl] at H
      by_cases c210 : t548 = t509; rotate_left
      ·rw [if_neg c210] at H
       have c210b0 : (t548 == t509) = false := beq_eq_false_iff_ne.mpr c210
       have c210b1 : (t548 != t509) = true := bne_iff_ne.mpr c210
       exact absurd ((Option.some.inj H).trans hrT) (by decide)
      rw [if_pos c210] at H
      subst c210
      by_cases c211 : x44_2 = t546; rotate_left
      ·rw [if_neg c211] at H
       have c211b0 : (x44_2 == t546) = false := beq_eq_false_iff_ne.mpr c211
       have c211b1 : (x44_2 != t546) = true := bne_iff_ne.mpr c211
       exact absurd ((Option.some.inj H).trans hrT) (by decide)
      rw [if_pos c211] at H
      have c211b0 : (x44_2 == t546) = true := beq_iff_eq.mpr c211
      have c211b1 : (x44_2 != t546) = false := bne_eq_false_iff_eq.mpr c211
      clear c211
      by_cases c212 : (Int.tmod t548 2) = 0; rotate_left
      ·rw [if_neg c212] at H
       have c212b0 : ((Int.tmod t548 2) == 0) = false := beq_eq_false_iff_ne.mpr c212
       have c212b1 : ((Int.tmod t548 2) != 0) = true := bne_iff_ne.mpr c212
       exact absurd ((Option.some.inj H).trans hrT) (by decide)
      rw [if_pos c212] at H
      have c212b0 : ((Int.tmod t548 2) == 0) = true := beq_iff_eq.mpr c212
      have c212b1 : ((Int.tmod t548 2) != 0) = false := bne_eq_false_iff_eq.mpr c212
      clear c212
      replace H := bqz_ H; obtain ⟨t553, A213, H⟩ := H
      replace H : (if t553 = true then (j2 k2 l1 t521 t522 t525 t526 t527 t531 t496 t499) else (some false)) = some r := H
      by_cases c214 : t553 = true; rotate_left
      ·replace c214 := Bool.eq_false_iff.mpr c214
       subst c214
       rw [if_neg nfz_] at H
       exact absurd ((Option.some.inj H).trans hrT) (by decide)
      subst c214
      rw [if_pos rfl] at H
      have H' := Az_ H
      clear H
      go_wp2_with ((go_at_call 22; (with_reducible refine (laws_fRises.calls k2 _ _ t513 true _ ?side1 ?side2 A213.out).mono ?_); (case side1 => exact ucz_ ((Kd.R_reads' HO_18.out).2.2)); (case side2 => exact (Kd.R_reads' HO_18.out).2.1); rintro e w' ⟨rfl, ⟨nd, rfl⟩⟩))
      go_meet
      case rel => exact ⟨_, H', ⟨by have := HJ17.out; have := HK2.out; first | omega | exact Nat.le_refl _⟩, ⟨w54_⟩, ⟨w71_⟩, ⟨w52_⟩⟩
   case rest => as_aux_lemma =>
    clear HC173
    obtain ⟨kq, HA, HJ172, HO_505000, BK504, HB⟩ := hcut
    cases kq with
    | zero => exact absurd HA.out (by simp [j2])
    | succ kj172 =>
     have H := HA.out
     clear HA
     simp only [j2] at H
     have HC215 := Az_ H
     clear H
     go_upto_if 392 with (fail)
     go_cut [] from 1 to 0 (fun wc => ∃ (kq : Nat), Aside0 (j5 kq l1 t525 t526 t527 t496 t499 = some r) ∧ Aside0 (kq ≤ kj172) ∧ Aside0 (Kd.V (Kd.int .i64) 3 wc w.heap.size (fun k_ => k_ ≠ gb504) (.slice Ao21 t496.length co21) t496) ∧ Aside0 (wc.heap[gb504]? = some (.cells #[(.slice Ao21 t496.length co21), .int .i64 t499] 26 (0, 0))) ∧ Aside0 (Below w.heap.size w wc))
     case first => as_aux_lemma =>
      have H := HC215.out
      clear HC215
      by_cases c216 : t522 = true; rotate_left
      ·replace c216 := Bool.eq_false_iff.mpr c216
       subst c216
       rw [if_neg nfz_] at H
       have H' := Az_ H
       clear H
       go_wp2
       go_meet
       case rel => exact ⟨_, H', ⟨by have := HJ17.out; have := HJ172.out; first | omega | exact Nat.le_refl _⟩, ⟨w59_⟩, ⟨w71_⟩, ⟨w52_⟩⟩
      subst c216
      rw [if_pos rfl] at H
      replace H := bqz_ H; obtain ⟨⟨t554, t557, t558⟩, A217, H⟩ := H
      replace H : ((laws_fSum.f kj172 t496).bind fun t560 => (if t521 = (wrap64 (t560 + (wrap64 ((wrap64 (2 * t499)) * (t496.length : Int))))) then (if t558 = true then ((laws_fShelf.f kj172 t554 t557 t496 t499).bind fun t561 => (if t561 = true then (j3 kj172 l1 t521 t525 t526 t527 (t527 != (decide ((t496.length : Int) > 1))) t496 t499) else (j3 kj172 l1 t521 t525 t526 t527 true t496 t499))) else (j3 kj172 l1 t521 t525 t526 t527 true t496 t499)) else (j3 kj172 l1 t521 t525 t526 t527 true t496 t499))) = some r := H
      have HC218 := Az_ H
      clear H
      go_upto_region 33 with (first | ((with_reducible refine gate_callee (f := 23) rfl ?_); refine goesL_ (some 395) rfl rfl Tryz.func23 (w94_) rfl #[.string t531] rfl maz_ ?_; (with_reducible refine (impl_ParseShelf.calls kj172 t531 t554 t557 t558 _ (libW_below HTAB.out (w52_)) A217.out).mono ?_); rintro e w219 ⟨v555, rfl, ho0, hb⟩; refine ⟨_, rfl, ?_⟩; have n0_ := Az_ (Kd.V_elder' (w59_) (Kd.R_base ho0) hb); have n1_ := Az_ (Kd.R_lower ho0 (below_size (w52_))); have n3_ := Az_ (btz_ (w52_) hb); clear HO_505000; clear HB; have HO_505000 := n0_; have HO556 := n1_; replace BK504 := Az_ (ukbz_ BK504.out hb); have HB := n3_; clear n0_ n1_ n3_; (try clear hb); (try clear ho0)) | ((with_reducible refine gate_dst (N := 47) rfl ?_); (try (refine gate_guard (by rfl) ?_; dsimp only)); refine box_event ?hg (N := 47) ?hd (cs := #[.slice none 0 0, .int .i64 0]) (t := 26) ?hr ?_; (case hd => rfl); (case hg => rfl); (case hr => first | (go_simp; done) | (go_simp; rfl)); intro gb559 hg w220 hbox hb; have n0_ := Az_ (Kd.V_below (Kd.V_elderB (w59_) gb559 (Nat.le_of_eq hg.symm)) hb); have n1_ := Az_ (Kd.R_below (by exact urz_ HO556.out) hb); have n3_ := Az_ (btz_ (w52_) hb); have n4_ := Az_ (hbox); have n5_ := Az_ ((by rw [hg]; exact (below_size (w52_)) : w.heap.size ≤ gb559)); have n6_ := Az_ ((by rw [hg]; exact (below_size (w52_)) : w.heap.size ≤ gb559)); have n7_ := Az_ ((by rw [hg]; exact Nat.ne_of_lt (uklz_ BK504.out) : gb504 ≠ gb559)); have n8_ := Az_ ((by rw [hg]; exact Nat.ne_of_gt (uklz_ BK504.out) : gb559 ≠ gb504)); clear HO_505000; clear HO556; clear HB; have HO_505000 := n0_; have HO556 := n1_; replace BK504 := Az_ (ukbz_ BK504.out hb); have HB := n3_; have BK559 := n4_; have GW559 := n5_; have GE559 := n6_; have NB504_559 := n7_; have NB559_504 := n8_; clear n0_ n1_ n3_ n4_ n5_ n6_ n7_ n8_; clear hb hbox hg; obtain ⟨Ao221, co221, eo221⟩ := Kd.R_slice HO556.out; subst eo221; have hnb222 := NB559_504.out; have hnc222 := NB504_559.out; have hcz223_0 : w220.cell? ⟨gb559, 0, none⟩ = some (.slice none 0 0) := (blk_cell BK559.out 0).trans rfl; have hcz223_1 : w220.cell? ⟨gb559, 1, none⟩ = some (.int .i64 0) := (blk_cell BK559.out 1).trans rfl; have hfz223_0 := blk_frozen BK559.out 0; have hfz223_1 := blk_frozen BK559.out 1))
      (try simp only [Act.put, List.setIfInBounds_toArray, List.set_cons_zero, List.set_cons_succ])
      go_cut [428] from 1 to 0 (fun v428 wc => ∃ (kq : Nat) (x428_217 : Bool), v428 = .bool x428_217 ∧ Aside0 (j3 kq l1 t521 t525 t526 t527 x428_217 t496 t499 = some r) ∧ Aside0 (kq ≤ kj172) ∧ Aside0 (Kd.V (Kd.int .i64) 3 wc w.heap.size (fun k_ => some k_ ≠ ((.slice Ao221 t554.length co221) : Value).ownBlock ∧ k_ ≠ gb504 ∧ k_ ≠ gb559) (.slice Ao21 t496.length co21) t496) ∧ Aside0 (Kd.R (Kd.int .i64) 3 wc w.heap.size (fun _ => True) (.slice Ao221 t554.length co221) t554) ∧ Aside0 (wc.heap[gb504]? = some (.cells #[(.slice Ao21 t496.length co21), .int .i64 t499] 26 (0, 0))) ∧ Aside0 (wc.heap[gb559]? = some (.cells #[(.slice Ao221 t554.length co221), .int .i64 t557] 26 (0, 0))) ∧ Aside0 (Below w.heap.size w wc))
      case first => as_aux_lemma =>
       have H := HC218.out
       clear HC218
       replace H := bqz_ H; obtain ⟨t560, A224, H⟩ := H
       replace H : (if t521 = (wrap64 (t560 + (wrap64 ((wrap64 (2 * t499)) * (t496.length : Int))))) then (if t558 = true then ((laws_fShelf.f kj172 t554 t557 t496 t499).bind fun t561 => (if t561 = true then (j3 kj172 l1 t521 t525 t526 t527 (t527 != (decide ((t496.length : Int) > 1))) t496 t499) else (j3 kj172 l1 t521 t525 t526 t527 true t496 t499))) else (j3 kj172 l1 t521 t525 t526 t527 true t496 t499)) else (j3 kj172 l1 t521 t525 t526 t527 true t496 t499)) = some r := H
       by_cases c225 : t521 = (wrap64 (t560 + (wrap64 ((wrap64 (2 * t499)) * (t496.length : Int))))); rotate_left
       ·rw [if_neg c225] at H
        exact (laws_FnShelvesEaten.j3_no _ _ _ _ _ _ _ _ _ hrT H).elim
       rw [if_pos c225] at H
       have c225b0 : (t521 == (wrap64 (t560 + (wrap64 ((wrap64 (2 * t499)) * (t496.length : Int)))))) = true := beq_iff_eq.mpr c225
       have c225b1 : (t521 != (wrap64 (t560 + (wrap64 ((wrap64 (2 * t499)) * (t496.length : Int)))))) = false := bne_eq_false_iff_eq.mpr c225
       clear c225
       (first | rw [c225b0] | (simp only [i64_w, i32_w]; rw [c225b0]) | skip)
       by_cases c226 : t558 = true; rotate_left
       ·replace c226 := Bool.eq_false_iff.mpr c226
        subst c226
        have H1 : (j3 kj172 l1 t521 t525 t526 t527 true t496 t499) = some r := by rw [if_neg (show ¬ (false = true) by decide)] at H; exact H
        clear H
        have H := H1
        exact (laws_FnShelvesEaten.j3_no _ _ _ _ _ _ _ _ _ hrT H).elim
       subst c226
       rw [if_pos rfl] at H
       replace H := bqz_ H; obtain ⟨t561, A227, H⟩ := H
       replace H : (if t561 = true then (j3 kj172 l1 t521 t525 t526 t527 (t527 != (decide ((t496.length : Int) > 1))) t496 t499) else (j3 kj172 l1 t521 t525 t526 t527 true t496 t499)) = some r := H
       by_cases c228 : t561 = true; rotate_left
       ·replace c228 := Bool.eq_false_iff.mpr c228
        subst c228
        have H1 : (j3 kj172 l1 t521 t525 t526 t527 true t496 t499) = some r := by rw [if_neg (show ¬ (false = true) by decide)] at H; exact H
        clear H
        have H := H1
        exact (laws_FnShelvesEaten.j3_no _ _ _ _ _ _ _ _ _ hrT H).elim
       subst c228
       rw [if_pos rfl] at H
       have H' := Az_ H
       clear H
       try go_wp2
       have n0_ : Aside0 (Kd.V (Kd.int .i64) 3 ((w220.setCell ⟨gb559, 0, none⟩ (.slice Ao221 t554.length co221)).setCell ⟨gb559, 1, none⟩ (.int .i64 t557)) w.heap.size (fun k_ => some k_ ≠ (.slice Ao221 t554.length co221 : Value).ownBlock ∧ k_ ≠ gb504 ∧ k_ ≠ gb559) (.slice Ao21 t496.length co21) t496) := ⟨by (with_reducible repeat (first | apply Kd.V_alloc | apply Kd.V_drewN | apply Kd.V_drew)); exact Kd.V_mono (Kd.V_far (p := ⟨gb559, 1, none⟩) (Kd.V_far (p := ⟨gb559, 0, none⟩) (Kd.V_mono HO_505000.out (fun k_ hk => (⟨hk, hk.2⟩ : _ ∧ k_ ≠ gb559))) (fun _ hk => hk.2) (.slice Ao221 t554.length co221)) (fun _ hk => hk.2) (.int .i64 t557)) (fun _ hk => ⟨hk.1.1.2, ⟨hk.1.1.1, hk.1.2⟩⟩)⟩
       have n1_ : Aside0 (Kd.R (Kd.int .i64) 3 ((w220.setCell ⟨gb559, 0, none⟩ (.slice Ao221 t554.length co221)).setCell ⟨gb559, 1, none⟩ (.int .i64 t557)) w.heap.size (fun _ => True) (.slice Ao221 t554.length co221) t554) := ⟨by (with_reducible repeat (first | apply raz_ | apply rnz_ | apply rdz_)); exact Kd.R_mono (Kd.R_far (p := ⟨gb559, 1, none⟩) (Kd.R_far (p := ⟨gb559, 0, none⟩) (Kd.R_types HO556.out BK559.out (by decide)) (fun _ hk => hk.2) (.slice Ao221 t554.length co221)) (fun _ hk => hk.2) (.int .i64 t557)) (fun _ hk => trivial)⟩
       have n2_ : Aside0 (((w220.setCell ⟨gb559, 0, none⟩ (.slice Ao221 t554.length co221)).setCell ⟨gb559, 1, none⟩ (.int .i64 t557)).heap[gb504]? = some (.cells #[.slice Ao21 t496.length co21, .int .i64 t499] 26 (0, 0))) := ⟨by (with_reducible repeat (first | refine knz_ ?_ _ | refine kdz_ ?_ | refine kaz_ ?_ _)); refine blk_far ?_ NB504_559.out _; (with_reducible repeat (first | refine knz_ ?_ _ | refine kdz_ ?_ | refine kaz_ ?_ _)); refine blk_far ?_ NB504_559.out _; (with_reducible repeat (first | refine knz_ ?_ _ | refine kdz_ ?_ | refine kaz_ ?_ _)); exact BK504.out⟩
       have n3_ : Aside0 (((w220.setCell ⟨gb559, 0, none⟩ (.slice Ao221 t554.length co221)).setCell ⟨gb559, 1, none⟩ (.int .i64 t557)).heap[gb559]? = some (.cells #[.slice Ao221 t554.length co221, .int .i64 t557] 26 (0, 0))) := ⟨by (with_reducible repeat (first | refine knz_ ?_ _ | refine kdz_ ?_ | refine kaz_ ?_ _)); refine blk_put (cs := #[.slice Ao221 t554.length co221, .int .i64 0]) ?_ 1 _ rfl; (with_reducible repeat (first | refine knz_ ?_ _ | refine kdz_ ?_ | refine kaz_ ?_ _)); refine blk_put (cs := #[.slice none 0 0, .int .i64 0]) ?_ 0 _ rfl; (with_reducible repeat (first | refine knz_ ?_ _ | refine kdz_ ?_ | refine kaz_ ?_ _)); exact BK559.out⟩
       have n4_ : Aside0 (Below w.heap.size w ((w220.setCell ⟨gb559, 0, none⟩ (.slice Ao221 t554.length co221)).setCell ⟨gb559, 1, none⟩ (.int .i64 t557))) := ⟨w52_⟩
       clear HO_505000
       clear HO556
       clear BK504
       clear BK559
       clear HB
       generalize ((w220.setCell ⟨gb559, 0, none⟩ (.slice Ao221 t554.length co221)).setCell ⟨gb559, 1, none⟩ (.int .i64 t557)) = w229 at n0_ n1_ n2_ n3_ n4_ ⊢
       have HO_505000 := n0_
       have HO556 := n1_
       have BK504 := n2_
       have BK559 := n3_
       have HB := n4_
       clear n0_ n1_ n2_ n3_ n4_
       have n0_ := Az_ (Kd.V_drew HO_505000.out)
       have n1_ := Az_ (rdz_ HO556.out)
       have n2_ := Az_ (kdz_ BK504.out)
       have n3_ := Az_ (kdz_ BK559.out)
       have n4_ := Az_ (bdz_ HB.out)
       clear HO_505000 HO556 BK504 BK559 HB
       have HO_505000 := n0_
       have HO556 := n1_
       have BK504 := n2_
       have BK559 := n3_
       have HB := n4_
       clear n0_ n1_ n2_ n3_ n4_
       refine start_ (n := 31) (S := fun w' => w'.cell? ⟨gb504, 0, none⟩ = some (.slice Ao21 t496.length co21) ∧ w'.cell? ⟨gb504, 1, none⟩ = some (.int .i64 t499) ∧ w'.cell? ⟨gb559, 0, none⟩ = some (.slice Ao221 t554.length co221) ∧ w'.cell? ⟨gb559, 1, none⟩ = some (.int .i64 t557)) (ds := []) #[false, false, false, false, false, false, false, false, false, false, false, false, false, false, false, false, false, false, false, false, false, false, false, false, false, false, false, false, false, false, false] (w94_) rfl rfl ⟨(blk_cell BK504.out 0).trans rfl, (blk_cell BK504.out 1).trans rfl, (blk_cell BK559.out 0).trans rfl, (blk_cell BK559.out 1).trans rfl⟩ (fun hHeld => ?_); refine with_tabW laws_FnShelvesEaten.tab33 laws_FnShelvesEaten.bits33 (fun HT_ HW_ => ?_)
       generalize w229.drew = w230 at HO_505000 HO556 BK504 BK559 HB hHeld ⊢
       refine pz_ 0 398 [1,30] ?_
       refine pz_ 1 399 [2,29] ?_
       refine pz_ 4 402 [2,2,1,26] ?_
       refine pz_ 7 405 [2,2,1,2,1,23] ?_
       refine tz4_ 2 400 [3,1,1,2,1,23] ?_
       refine tz4_ 5 403 [3,1,2,1,1,23] ?_
       refine pz_ 6 404 [3,1,4,23] ?_
       refine tz4_ 8 406 [3,1,5,22] ?_
       refine pz_ 9 407 [3,1,6,21] ?_
       refine pz_ 10 408 [3,1,7,20] ?_
       refine one_ (i := 3) (N := some 401) (mz_ [11,20]) rfl rfl (one_of HT_.out (w94_)) (by decide) (fun K hK => ?_)
       refine goes_ Tryz.func24 (w94_) rfl #[.slice Ao21 t496.length co21] (by rfl) rfl rfl maz_ ?_
       with_reducible refine (laws_fSum.calls kj172 _ _ t496 t560 _ ?side1 ?side2 A224.out).mono ?_
       (case side1 => repeat (first | exact (Kd.V_reads' HO_505000.out).2.2 | (with_reducible refine Kd.C_alloc ?_ _) | (with_reducible refine Kd.C_drewN ?_ _) | (with_reducible refine Kd.C_drew ?_)))
       (case side2 => exact (Kd.V_reads' HO_505000.out).2.1)
       rintro e w' ⟨rfl, ⟨nd, rfl⟩⟩
       refine ⟨_, rfl, ?_⟩
       refine hK.out _ _ ⟨(blk_cell BK504.out 0).trans rfl, (blk_cell BK504.out 1).trans rfl, (blk_cell BK559.out 0).trans rfl, (blk_cell BK559.out 1).trans rfl⟩ (fun hHeld => ?_)
       clear hK K
       refine nz_ 401 ?_
       refine pz_ 11 409 [12,19] ?_
       refine pz_ 12 410 [13,18] ?_
       refine pz_ 13 411 [14,17] ?_
       refine pz_ 14 412 [15,16] ?_
       refine pz_ 15 413 [16,15] ?_
       refine pz_ 16 414 [17,14] ?_
       refine pz_ 17 415 [18,13] ?_
       refine tz4_ 18 416 [19,12] ?_
       refine tz4_ 19 417 [20,11] ?_
       refine one_ (i := 20) (N := some 418) (mz_ [21,10]) rfl rfl (one_of HT_.out (w94_)) (by decide) (fun K hK => ?_)
       refine goes_ Tryz.func25 (w94_) rfl #[.agg #[.slice Ao221 t554.length co221, .int .i64 t557], .agg #[.slice Ao21 t496.length co21, .int .i64 t499]] (by rfl) rfl rfl maz_ ?_
       with_reducible refine (laws_fShelf.calls kj172 _ _ t554 t557 _ _ t496 t499 true _ ?side1 ?side2 ?side3 ?side4 A227.out).mono ?_
       (case side1 => repeat (first | exact (Kd.R_reads' HO556.out).2.2 | (with_reducible refine Kd.C_alloc ?_ _) | (with_reducible refine Kd.C_drewN ?_ _) | (with_reducible refine Kd.C_drew ?_)))
       (case side2 => exact (Kd.R_reads' HO556.out).2.1)
       (case side3 => repeat (first | exact (Kd.V_reads' HO_505000.out).2.2 | (with_reducible refine Kd.C_alloc ?_ _) | (with_reducible refine Kd.C_drewN ?_ _) | (with_reducible refine Kd.C_drew ?_)))
       (case side4 => exact (Kd.V_reads' HO_505000.out).2.1)
       rintro e w231 ⟨rfl, hb⟩
       refine ⟨_, rfl, ?_⟩
       have n0_ := Az_ (Kd.V_below (w59_) hb)
       have n1_ := Az_ (Kd.R_below (by exact urz_ HO556.out) hb)
       have n4_ := Az_ (btz_ (w52_) hb)
       clear HO_505000 HO556 HB
       have HO_505000 := n0_
       have HO556 := n1_
       replace BK504 := Az_ (ukbz_ BK504.out hb)
       replace BK559 := Az_ (ukbz_ BK559.out hb)
       have HB := n4_
       clear n0_ n1_ n4_
       clear hb
       refine hK.out _ _ ⟨(blk_cell BK504.out 0).trans rfl, (blk_cell BK504.out 1).trans rfl, (blk_cell BK559.out 0).trans rfl, (blk_cell BK559.out 1).trans rfl⟩ (fun hHeld => ?_)
       clear hK K
       refine nz_ 418 ?_
       refine pz_ 21 419 [22,9] ?_
       refine pz_ 22 420 [23,8] ?_
       refine pz_ 23 421 [24,7] ?_
       refine pz_ 24 422 [25,6] ?_
       refine pz_ 25 423 [26,5] ?_
       refine tz4_ 26 424 [27,4] ?_
       refine pz_ 27 425 [28,3] ?_
       refine pz_ 28 426 [29,2] ?_
       refine pz_ 29 427 [30,1] ?_
       refine pz_ 30 428 [31] ?_
       refine done_ (done_of HT_.out (w94_)) ?_
       try go_wp2
       go_meet
       case rel => exact ⟨_, ((t527 != (decide ((t496.length : Int) > 1)))), qaz_, H', ⟨by have := HJ17.out; have := HJ172.out; first | omega | exact Nat.le_refl _⟩, ⟨w59_⟩, ⟨by (with_reducible repeat (first | apply raz_ | apply rnz_ | apply rdz_)); exact HO556.out⟩, ⟨w71_⟩, ⟨w72_⟩, ⟨w52_⟩⟩
      case rest => as_aux_lemma =>
       clear HC218
       obtain ⟨kq, x428_217, rfl, HA, HJ217, HO_505000, HO_560000, BK504, BK559, HB⟩ := hcut
       cases kq with
       | zero => exact absurd HA.out (by simp [j3])
       | succ kj217 =>
        have H := HA.out
        clear HA
        simp only [j3] at H
        by_cases c239 : x428_217 = true
        ·subst c239
         rw [if_pos rfl] at H
         exact absurd ((Option.some.inj H).trans hrT) (by decide)
        replace c239 := Bool.eq_false_iff.mpr c239
        subst c239
        rw [if_neg nfz_] at H
        have H' := Az_ H
        clear H
        have hnb240 := NB504_559.out
        have hnc240 := NB559_504.out
        have hcz241_0 : wc.cell? ⟨gb504, 0, none⟩ = some (.slice Ao21 t496.length co21) := (blk_cell BK504.out 0).trans rfl
        have hcz241_1 : wc.cell? ⟨gb504, 1, none⟩ = some (.int .i64 t499) := (blk_cell BK504.out 1).trans rfl
        have hfz241_0 := blk_frozen BK504.out 0
        have hfz241_1 := blk_frozen BK504.out 1
        go_wp2
        go_loopg [49, 432] kj217 (fun kq v49 v432 w' => ∃ (x49_4 : Int) (x432_4 : Int), v49 = .int .i64 x49_4 ∧ v432 = .int .i64 x432_4 ∧ Aside0 (laws_FnShelvesEaten.l1 kq l1 t521 t525 t526 t527 x49_4 t496 (t496.length : Int) x432_4 t496 t499 = some r) ∧ Aside0 (kq ≤ kj217) ∧ Aside0 (Kd.V (Kd.int .i64) 3 w' w.heap.size (fun k_ => some k_ ≠ ((.slice Ao221 t554.length co221) : Value).ownBlock ∧ k_ ≠ gb504 ∧ k_ ≠ gb559) (.slice Ao21 t496.length co21) t496) ∧ Aside0 (Kd.V (Kd.int .i64) 3 w' w.heap.size (fun k_ => some k_ ≠ ((.slice Ao221 t554.length co221) : Value).ownBlock ∧ k_ ≠ gb504 ∧ k_ ≠ gb559) (.slice Ao21 t496.length co21) t496) ∧ Aside0 (Kd.R (Kd.int .i64) 3 w' w.heap.size (fun _ => True) (.slice Ao221 t554.length co221) t554) ∧ Aside0 (w'.heap[gb504]? = some (.cells #[(.slice Ao21 t496.length co21), .int .i64 t499] 26 (0, 0))) ∧ Aside0 (w'.heap[gb559]? = some (.cells #[(.slice Ao221 t554.length co221), .int .i64 t557] 26 (0, 0))) ∧ Aside0 (Below w.heap.size w w'))
        case atStart => exact ⟨(0), (0), qaz_, qaz_, H', ⟨Nat.le_refl _⟩, ⟨w59_⟩, ⟨w59_⟩, ⟨by (with_reducible repeat (first | apply raz_ | apply rnz_ | apply rdz_)); exact HO_560000.out⟩, ⟨w71_⟩, ⟨w72_⟩, ⟨w52_⟩⟩
        case round =>
         clear H'
         clear hcz241_0 hcz241_1 hfz241_0 hfz241_1
         obtain ⟨x49_4, x432_4, rfl, rfl, HA, HK4, HO_430, HO_505000, HO_560000, BK504, BK559, HB⟩ := hrel
         cases gk with
         | zero => exact absurd HA.out (by simp [laws_FnShelvesEaten.l1])
         | succ k4 =>
          have H := HA.out
          clear HA
          simp only [laws_FnShelvesEaten.l1] at H
          by_cases c242 : x432_4 < (t496.length : Int); rotate_left
          ·rw [if_neg c242] at H
           have c242b0 := decide_eq_false c242
           clear c242
           by_cases c317 : x49_4 = t521; rotate_left
           ·rw [if_neg c317] at H
            have c317b0 : (x49_4 == t521) = false := beq_eq_false_iff_ne.mpr c317
            have c317b1 : (x49_4 != t521) = true := bne_iff_ne.mpr c317
            obtain rfl := Option.some.inj H; clear hrT
            go_wp2
            go_ret
            exact ⟨w74_, w52_⟩
           rw [if_pos c317] at H
           have c317b0 : (x49_4 == t521) = true := beq_iff_eq.mpr c317
           have c317b1 : (x49_4 != t521) = false := bne_eq_false_iff_eq.mpr c317
           clear c317
           have H' := Az_ H
           clear H
           go_wp2
           go_meet
           case rel => exact ⟨_, H', ⟨by have := HJ17.out; have := HJ172.out; have := HJ217.out; have := HK4.out; first | omega | exact Nat.le_refl _⟩, ⟨by (with_reducible repeat (first | apply Kd.V_alloc | apply Kd.V_drewN | apply Kd.V_drew)); exact Kd.V_mono HO_505000.out (fun _ hk => hk.2.1)⟩, ⟨w71_⟩, ⟨w52_⟩⟩
          rw [if_pos c242] at H
          have c242b0 := decide_eq_true c242
          clear c242
          by_cases c243 : 0 ≤ x432_4; rotate_left
          ·rw [if_neg c243] at H
           exact absurd H (by simp)
          rw [if_pos c243] at H
          have c243b0 := decide_eq_true c243
          clear c243
          by_cases c244 : x432_4 < (t496.length : Int); rotate_left
          ·rw [if_neg c244] at H
           exact absurd H (by simp)
          rw [if_pos c244] at H
          have c244b0 := decide_eq_true c244
          clear c244
          replace H := bqz_ H; obtain ⟨⟨t563, t564, t565⟩, A245, H⟩ := H
          replace H := bqz_ H; obtain ⟨⟨t566, t567⟩, A246, H⟩ := H
          replace H := bqz_ H; obtain ⟨⟨t568, t569⟩, A247, H⟩ := H
          replace H : (if t565 = true then (if t563 = x49_4 then (if t564 = (wrap64 ((wrap64 (t563 + (rd t496 x432_4))) + (wrap64 (2 * t499)))) then (if t567 = true then (if t566 = (wrap64 (t564 - t499)) then (if t569 = true then (if t568 = (wrap64 (t563 + t499)) then (laws_FnShelvesEaten.l1 k4 l1 t521 t525 t526 t527 t564 t496 (t496.length : Int) (wrap64 (x432_4 + 1)) t496 t499) else (some false)) else (some false)) else (some false)) else (some false)) else (some false)) else (some false)) else (some false)) = some r := H
          by_cases c248 : t565 = true; rotate_left
          ·replace c248 := Bool.eq_false_iff.mpr c248
           subst c248
           rw [if_neg nfz_] at H
           exact absurd ((Option.some.inj H).trans hrT) (by decide)
          subst c248
          rw [if_pos rfl] at H
          by_cases c249 : t563 = x49_4; rotate_left
          ·rw [if_neg c249] at H
           have c249b0 : (t563 == x49_4) = false := beq_eq_false_iff_ne.mpr c249
           have c249b1 : (t563 != x49_4) = true := bne_iff_ne.mpr c249
           exact absurd ((Option.some.inj H).trans hrT) (by decide)
          rw [if_pos c249] at H
          have c249b0 : (t563 == x49_4) = true := beq_iff_eq.mpr c249
          have c249b1 : (t563 != x49_4) = false := bne_eq_false_iff_eq.mpr c249
          clear c249
          by_cases c250 : t564 = (wrap64 ((wrap64 (t563 + (rd t496 x432_4))) + (wrap64 (2 * t499)))); rotate_left
          ·rw [if_neg c250] at H
           have c250b0 : (t564 == (wrap64 ((wrap64 (t563 + (rd t496 x432_4))) + (wrap64 (2 * t499))))) = false := beq_eq_false_iff_ne.mpr c250
           have c250b1 : (t564 != (wrap64 ((wrap64 (t563 + (rd t496 x432_4))) + (wrap64 (2 * t499))))) = true := bne_iff_ne.mpr c250
           exact absurd ((Option.some.inj H).trans hrT) (by decide)
          rw [if_pos c250] at H
          have c250b0 : (t564 == (wrap64 ((wrap64 (t563 + (rd t496 x432_4))) + (wrap64 (2 * t499))))) = true := beq_iff_eq.mpr c250
          have c250b1 : (t564 != (wrap64 ((wrap64 (t563 + (rd t496 x432_4))) + (wrap64 (2 * t499))))) = false := bne_eq_false_iff_eq.mpr c250
          clear c250
          by_cases c251 : t567 = true; rotate_left
          ·replace c251 := Bool.eq_false_iff.mpr c251
           subst c251
           rw [if_neg nfz_] at H
           exact absurd ((Option.some.inj H).trans hrT) (by decide)
          subst c251
          rw [if_pos rfl] at H
          by_cases c252 : t566 = (wrap64 (t564 - t499)); rotate_left
          ·rw [if_neg c252] at H
           have c252b0 : (t566 == (wrap64 (t564 - t499))) = false := beq_eq_false_iff_ne.mpr c252
           have c252b1 : (t566 != (wrap64 (t564 - t499))) = true := bne_iff_ne.mpr c252
           exact absurd ((Option.some.inj H).trans hrT) (by decide)
          rw [if_pos c252] at H
          have c252b0 : (t566 == (wrap64 (t564 - t499))) = true := beq_iff_eq.mpr c252
          have c252b1 : (t566 != (wrap64 (t564 - t499))) = false := bne_eq_false_iff_eq.mpr c252
          clear c252
          by_cases c253 : t569 = true; rotate_left
          ·replace c253 := Bool.eq_false_iff.mpr c253
           subst c253
           rw [if_neg nfz_] at H
           exact absurd ((Option.some.inj H).trans hrT) (by decide)
          subst c253
          rw [if_pos rfl] at H
          by_cases c254 : t568 = (wrap64 (t563 + t499)); rotate_left
          ·rw [if_neg c254] at H
           have c254b0 : (t568 == (wrap64 (t563 + t499))) = false := beq_eq_false_iff_ne.mpr c254
           have c254b1 : (t568 != (wrap64 (t563 + t499))) = true := bne_iff_ne.mpr c254
           exact absurd ((Option.some.inj H).trans hrT) (by decide)
          rw [if_pos c254] at H
          have c254b0 : (t568 == (wrap64 (t563 + t499))) = true := beq_iff_eq.mpr c254
          have c254b1 : (t568 != (wrap64 (t563 + t499))) = false := bne_eq_false_iff_eq.mpr c254
          clear c254
          have H' := Az_ H
          clear H
          have p562 : 0 ≤ (x432_4 : Int) := od_
          have q562 : x432_4 < (t496.length : Int) := od_
          obtain ⟨ad562, e562, hx562_0⟩ := Kd.at_int (Kd.V_reads' HO_430.out).2.2 x432_4 p562 q562
          cases e562
          replace p562 := eq_true p562
          replace q562 := eq_true q562
          have hnb255 := NB504_559.out
          have hnc255 := NB559_504.out
          have hcz256_0 : wr.cell? ⟨gb504, 0, none⟩ = some (.slice (some ad562) t496.length co21) := (blk_cell BK504.out 0).trans rfl
          have hcz256_1 : wr.cell? ⟨gb504, 1, none⟩ = some (.int .i64 t499) := (blk_cell BK504.out 1).trans rfl
          have hfz256_0 := blk_frozen BK504.out 0
          have hfz256_1 := blk_frozen BK504.out 1
          go_wp2_with (first | ((with_reducible refine gate_callee (f := 26) rfl ?_); refine goesL_ (some 440) rfl rfl Tryz.func26 (w94_) rfl #[.agg #[.slice (some ad562) t496.length co21, .int .i64 t499], .int .i64 x432_4] rfl maz_ ?_; (with_reducible refine (impl_PlaceOfVolume.calls k4 _ _ t496 t499 x432_4 t563 t564 true _ ?side1 ?side2 A245.out).mono ?_); (case side1 => exact ucz_ ((Kd.V_reads' HO_505000.out).2.2)); (case side2 => exact (Kd.V_reads' HO_505000.out).2.1); rintro e w257 ⟨rfl, hb⟩; refine ⟨_, rfl, ?_⟩; have n0_ := Az_ (Kd.V_below (w61_) hb); have n1_ := Az_ (Kd.V_below (w59_) hb); have n2_ := Az_ (Kd.R_below (by exact urz_ HO_560000.out) hb); have n5_ := Az_ (btz_ (w52_) hb); clear HO_430; clear HO_505000; clear HO_560000; clear HB; have HO_430 := n0_; have HO_505000 := n1_; have HO_560000 := n2_; replace BK504 := Az_ (ukbz_ BK504.out hb); replace BK559 := Az_ (ukbz_ BK559.out hb); have HB := n5_; clear n0_ n1_ n2_ n5_; (try clear hb); have hcz258_0 : w257.cell? ⟨gb504, 0, none⟩ = some (.slice (some ad562) t496.length co21) := (blk_cell BK504.out 0).trans rfl; have hcz258_1 : w257.cell? ⟨gb504, 1, none⟩ = some (.int .i64 t499) := (blk_cell BK504.out 1).trans rfl; have hfz258_0 := blk_frozen BK504.out 0; have hfz258_1 := blk_frozen BK504.out 1) | ((with_reducible refine gate_callee (f := 21) rfl ?_); refine goesL_ (some 447) rfl rfl Tryz.func21 (w94_) rfl #[.agg #[.slice (some ad562) t496.length co21, .int .i64 t499], .int .i64 x432_4, .bool false] rfl maz_ ?_; (with_reducible refine (impl_FaceOf.calls k4 _ _ t496 t499 x432_4 false t566 true _ ?side1 ?side2 A246.out).mono ?_); (case side1 => exact ucz_ ((Kd.V_reads' HO_505000.out).2.2)); (case side2 => exact (Kd.V_reads' HO_505000.out).2.1); rintro e w259 ⟨rfl, hb⟩; refine ⟨_, rfl, ?_⟩; have n0_ := Az_ (Kd.V_below (w61_) hb); have n1_ := Az_ (Kd.V_below (w59_) hb); have n2_ := Az_ (Kd.R_below (by exact urz_ HO_560000.out) hb); have n5_ := Az_ (btz_ (w52_) hb); clear HO_430; clear HO_505000; clear HO_560000; clear HB; have HO_430 := n0_; have HO_505000 := n1_; have HO_560000 := n2_; replace BK504 := Az_ (ukbz_ BK504.out hb); replace BK559 := Az_ (ukbz_ BK559.out hb); have HB := n5_; clear n0_ n1_ n2_ n5_; (try clear hb); have hcz260_0 : w259.cell? ⟨gb504, 0, none⟩ = some (.slice (some ad562) t496.length co21) := (blk_cell BK504.out 0).trans rfl; have hcz260_1 : w259.cell? ⟨gb504, 1, none⟩ = some (.int .i64 t499) := (blk_cell BK504.out 1).trans rfl; have hfz260_0 := blk_frozen BK504.out 0; have hfz260_1 := blk_frozen BK504.out 1; clear A246) | ((with_reducible refine gate_callee (f := 21) rfl ?_); refine goesL_ (some 453) rfl rfl Tryz.func21 (w94_) rfl #[.agg #[.slice (some ad562) t496.length co21, .int .i64 t499], .int .i64 x432_4, .bool true] rfl maz_ ?_; (with_reducible refine (impl_FaceOf.calls k4 _ _ t496 t499 x432_4 true t568 true _ ?side1 ?side2 A247.out).mono ?_); (case side1 => exact ucz_ ((Kd.V_reads' HO_505000.out).2.2)); (case side2 => exact (Kd.V_reads' HO_505000.out).2.1); rintro e w261 ⟨rfl, hb⟩; refine ⟨_, rfl, ?_⟩; have n0_ := Az_ (Kd.V_below (w61_) hb); have n1_ := Az_ (Kd.V_below (w59_) hb); have n2_ := Az_ (Kd.R_below (by exact urz_ HO_560000.out) hb); have n5_ := Az_ (btz_ (w52_) hb); clear HO_430; clear HO_505000; clear HO_560000; clear HB; have HO_430 := n0_; have HO_505000 := n1_; have HO_560000 := n2_; replace BK504 := Az_ (ukbz_ BK504.out hb); replace BK559 := Az_ (ukbz_ BK559.out hb); have HB := n5_; clear n0_ n1_ n2_ n5_; (try clear hb); have hcz262_0 : w261.cell? ⟨gb504, 0, none⟩ = some (.slice (some ad562) t496.length co21) := (blk_cell BK504.out 0).trans rfl; have hcz262_1 : w261.cell? ⟨gb504, 1, none⟩ = some (.int .i64 t499) := (blk_cell BK504.out 1).trans rfl; have hfz262_0 := blk_frozen BK504.out 0; have hfz262_1 := blk_frozen BK504.out 1))
          go_roundg k4
          case measure => have := HJ17.out; have := HJ172.out; have := HJ217.out; have := HK4.out; omega
          case rel => exact ⟨(t564), (wrap64 (x432_4 + 1)), qaz_, qaz_, H', ⟨by have := HJ17.out; have := HJ172.out; have := HJ217.out; have := HK4.out; omega⟩, ⟨w61_⟩, ⟨w59_⟩, ⟨by (with_reducible repeat (first | apply raz_ | apply rnz_ | apply rdz_)); exact HO_560000.out⟩, ⟨w71_⟩, ⟨w72_⟩, ⟨w52_⟩⟩
     case rest => as_aux_lemma =>
      clear HC215
      obtain ⟨kq, HA, HJ214, HO_505000, BK504, HB⟩ := hcut
      cases kq with
      | zero => exact absurd HA.out (by simp [j5])
      | succ kj214 =>
       have H := HA.out
       clear HA
       simp only [j5] at H
       have HC318 := Az_ H
       clear H
       go_upto_if 503 with (fail)
       go_cut [] from 1 to 0 (fun wc => ∃ (kq : Nat), Aside0 (j9 kq l1 = some r) ∧ Aside0 (kq ≤ kj214) ∧ Aside0 (Kd.V (Kd.int .i64) 3 wc w.heap.size (fun k_ => k_ ≠ gb504) (.slice Ao21 t496.length co21) t496) ∧ Aside0 (wc.heap[gb504]? = some (.cells #[(.slice Ao21 t496.length co21), .int .i64 t499] 26 (0, 0))) ∧ Aside0 (Below w.heap.size w wc))
       case first => as_aux_lemma =>
        have H := HC318.out
        clear HC318
        by_cases c319 : t527 = true; rotate_left
        ·replace c319 := Bool.eq_false_iff.mpr c319
         subst c319
         rw [if_neg nfz_] at H
         have H' := Az_ H
         clear H
         go_wp2
         go_meet
         case rel => exact ⟨_, H', ⟨by have := HJ17.out; have := HJ172.out; have := HJ214.out; first | omega | exact Nat.le_refl _⟩, ⟨w59_⟩, ⟨w71_⟩, ⟨w52_⟩⟩
        subst c319
        rw [if_pos rfl] at H
        replace H := bqz_ H; obtain ⟨⟨t570, t571⟩, A320, H⟩ := H
        replace H : (if t571 = true then (j6 kj214 l1 t525 t526 t570 (t525 == t526) t496 t499) else (j6 kj214 l1 t525 t526 t570 true t496 t499)) = some r := H
        have HC321 := Az_ H
        clear H
        have hcz322_0 : wc.cell? ⟨gb504, 0, none⟩ = some (.slice Ao21 t496.length co21) := (blk_cell BK504.out 0).trans rfl
        have hcz322_1 : wc.cell? ⟨gb504, 1, none⟩ = some (.int .i64 t499) := (blk_cell BK504.out 1).trans rfl
        have hfz322_0 := blk_frozen BK504.out 0
        have hfz322_1 := blk_frozen BK504.out 1
        go_upto_region 50 with (((with_reducible refine gate_callee (f := 6) rfl ?_); refine goesL_ (some 508) rfl rfl Tryz.func6 (w94_) rfl #[.agg #[.slice Ao21 t496.length co21, .int .i64 t499], .int .i64 t525, .bool false, .int .i64 t526, .bool true] rfl maz_ ?_; (with_reducible refine (impl_WormEats.calls kj214 _ _ t496 t499 t525 false t526 true t570 t571 _ ?side1 ?side2 A320.out).mono ?_); (case side1 => exact ucz_ ((Kd.V_reads' HO_505000.out).2.2)); (case side2 => exact (Kd.V_reads' HO_505000.out).2.1); rintro e w323 ⟨rfl, hb⟩; refine ⟨_, rfl, ?_⟩; have n0_ := Az_ (Kd.V_below (w59_) hb); have n2_ := Az_ (btz_ (w52_) hb); clear HO_505000; clear HB; have HO_505000 := n0_; replace BK504 := Az_ (ukbz_ BK504.out hb); have HB := n2_; clear n0_ n2_; (try clear hb)))
        (try simp only [Act.put, List.setIfInBounds_toArray, List.set_cons_zero, List.set_cons_succ])
        go_cut [517] from 1 to 0 (fun v517 wc => ∃ (kq : Nat) (x517_320 : Bool), v517 = .bool x517_320 ∧ Aside0 (j6 kq l1 t525 t526 t570 x517_320 t496 t499 = some r) ∧ Aside0 (kq ≤ kj214) ∧ Aside0 (Kd.V (Kd.int .i64) 3 wc w.heap.size (fun k_ => k_ ≠ gb504) (.slice Ao21 t496.length co21) t496) ∧ Aside0 (wc.heap[gb504]? = some (.cells #[(.slice Ao21 t496.length co21), .int .i64 t499] 26 (0, 0))) ∧ Aside0 (Below w.heap.size w wc))
        case first => as_aux_lemma =>
         have H := HC321.out
         clear HC321
         by_cases c324 : t571 = true; rotate_left
         ·replace c324 := Bool.eq_false_iff.mpr c324
          subst c324
          have H1 : (j6 kj214 l1 t525 t526 t570 true t496 t499) = some r := by rw [if_neg (show ¬ (false = true) by decide)] at H; exact H
          clear H
          have H := H1
          exact (laws_FnShelvesEaten.j6_no _ _ _ _ _ _ _ _ hrT H).elim
         subst c324
         rw [if_pos rfl] at H
         have H' := Az_ H
         clear H
         go_wp2
         go_meet
         case rel => exact ⟨_, ((t525 == t526)), qaz_, H', ⟨by have := HJ17.out; have := HJ172.out; have := HJ214.out; first | omega | exact Nat.le_refl _⟩, ⟨w59_⟩, ⟨w71_⟩, ⟨w52_⟩⟩
        case rest => as_aux_lemma =>
         clear HC321
         clear hcz322_0 hcz322_1 hfz322_0 hfz322_1
         obtain ⟨kq, x517_320, rfl, HA, HJ320, HO_505000, BK504, HB⟩ := hcut
         cases kq with
         | zero => exact absurd HA.out (by simp [j6])
         | succ kj320 =>
          have H := HA.out
          clear HA
          simp only [j6] at H
          by_cases c325 : x517_320 = true
          ·subst c325
           rw [if_pos rfl] at H
           exact absurd ((Option.some.inj H).trans hrT) (by decide)
          replace c325 := Bool.eq_false_iff.mpr c325
          subst c325
          rw [if_neg nfz_] at H
          have H' := Az_ H
          clear H
          have hcz326_0 : wc.cell? ⟨gb504, 0, none⟩ = some (.slice Ao21 t496.length co21) := (blk_cell BK504.out 0).trans rfl
          have hcz326_1 : wc.cell? ⟨gb504, 1, none⟩ = some (.int .i64 t499) := (blk_cell BK504.out 1).trans rfl
          have hfz326_0 := blk_frozen BK504.out 0
          have hfz326_1 := blk_frozen BK504.out 1
          go_wp2
          go_loopg [521] kj320 (fun kq v521 w' => ∃ (x521_5 : Int), v521 = .int .i64 x521_5 ∧ Aside0 (laws_FnShelvesEaten.l2 kq l1 t525 t526 t570 (t496.length : Int) x521_5 t496 t499 = some r) ∧ Aside0 (kq ≤ kj320) ∧ Aside0 (Kd.V (Kd.int .i64) 3 w' w.heap.size (fun k_ => k_ ≠ gb504) (.slice Ao21 t496.length co21) t496) ∧ Aside0 (w'.heap[gb504]? = some (.cells #[(.slice Ao21 t496.length co21), .int .i64 t499] 26 (0, 0))) ∧ Aside0 (Below w.heap.size w w'))
          case atStart => exact ⟨(0), qaz_, H', ⟨Nat.le_refl _⟩, ⟨w59_⟩, ⟨w71_⟩, ⟨w52_⟩⟩
          case round =>
           clear H'
           clear hcz326_0 hcz326_1 hfz326_0 hfz326_1
           obtain ⟨x521_5, rfl, HA, HK5, HO_505000, BK504, HB⟩ := hrel
           cases gk with
           | zero => exact absurd HA.out (by simp [laws_FnShelvesEaten.l2])
           | succ k5 =>
            have H := HA.out
            clear HA
            simp only [laws_FnShelvesEaten.l2] at H
            by_cases c327 : x521_5 < (t496.length : Int); rotate_left
            ·rw [if_neg c327] at H
             have c327b0 := decide_eq_false c327
             clear c327
             have H' := Az_ H
             clear H
             go_wp2
             go_meet
             case rel => exact ⟨_, H', ⟨by have := HJ17.out; have := HJ172.out; have := HJ214.out; have := HJ320.out; have := HK5.out; first | omega | exact Nat.le_refl _⟩, ⟨w59_⟩, ⟨w71_⟩, ⟨w52_⟩⟩
            rw [if_pos c327] at H
            have c327b0 := decide_eq_true c327
            clear c327
            have H' := Az_ H
            clear H
            have hcz328_0 : wr.cell? ⟨gb504, 0, none⟩ = some (.slice Ao21 t496.length co21) := (blk_cell BK504.out 0).trans rfl
            have hcz328_1 : wr.cell? ⟨gb504, 1, none⟩ = some (.int .i64 t499) := (blk_cell BK504.out 1).trans rfl
            have hfz328_0 := blk_frozen BK504.out 0
            have hfz328_1 := blk_frozen BK504.out 1
            go_wp2
            go_loopg [527] k5 (fun kq v527 w' => ∃ (x527_6 : Int), v527 = .int .i64 x527_6 ∧ Aside0 (laws_FnShelvesEaten.l3 kq l1 t525 t526 t570 x521_5 (t496.length : Int) x521_5 (t496.length : Int) x527_6 t496 t499 = some r) ∧ Aside0 (kq ≤ k5) ∧ Aside0 (Kd.V (Kd.int .i64) 3 w' w.heap.size (fun k_ => k_ ≠ gb504) (.slice Ao21 t496.length co21) t496) ∧ Aside0 (w'.heap[gb504]? = some (.cells #[(.slice Ao21 t496.length co21), .int .i64 t499] 26 (0, 0))) ∧ Aside0 (Below w.heap.size w w'))
            case atStart => exact ⟨(0), qaz_, H', ⟨Nat.le_refl _⟩, ⟨w59_⟩, ⟨w71_⟩, ⟨w52_⟩⟩
            case round =>
             clear H'
             clear c327b0 hcz328_0 hcz328_1 hfz328_0 hfz328_1
             obtain ⟨x527_6, rfl, HA, HK6, HO_505000, BK504, HB⟩ := hrel
             cases gk with
             | zero => exact absurd HA.out (by simp [laws_FnShelvesEaten.l3])
             | succ k6 =>
              have H := HA.out
              clear HA
              simp only [laws_FnShelvesEaten.l3] at H
              by_cases c329 : x527_6 < (t496.length : Int); rotate_left
              ·rw [if_neg c329] at H
               have c329b0 := decide_eq_false c329
               clear c329
               have H' := Az_ H
               clear H
               go_wp2
               go_roundg k6
               case measure => have := HJ17.out; have := HJ172.out; have := HJ214.out; have := HJ320.out; have := HK5.out; have := HK6.out; omega
               case rel => exact ⟨(wrap64 (x521_5 + 1)), qaz_, H', ⟨w58_⟩, ⟨w59_⟩, ⟨w71_⟩, ⟨w52_⟩⟩
              rw [if_pos c329] at H
              have c329b0 := decide_eq_true c329
              clear c329
              replace H := bqz_ H; obtain ⟨⟨t572, t573⟩, A330, H⟩ := H
              replace H : (if x521_5 = x527_6 then (laws_FnShelvesEaten.l3 k6 l1 t525 t526 t570 x521_5 (t496.length : Int) x521_5 (t496.length : Int) (wrap64 (x527_6 + 1)) t496 t499) else (if t573 = true then (if t572 > t570 then (some false) else (if t572 = t570 then (if x521_5 < t525 then (some false) else (if x521_5 = t525 then (if x527_6 < t526 then (some false) else (laws_FnShelvesEaten.l3 k6 l1 t525 t526 t570 x521_5 (t496.length : Int) x521_5 (t496.length : Int) (wrap64 (x527_6 + 1)) t496 t499)) else (laws_FnShelvesEaten.l3 k6 l1 t525 t526 t570 x521_5 (t496.length : Int) x521_5 (t496.length : Int) (wrap64 (x527_6 + 1)) t496 t499))) else (laws_FnShelvesEaten.l3 k6 l1 t525 t526 t570 x521_5 (t496.length : Int) x521_5 (t496.length : Int) (wrap64 (x527_6 + 1)) t496 t499))) else (some false))) = some r := H
              by_cases c331 : x521_5 = x527_6
              ·rw [if_pos c331] at H
               have c331b0 : (x521_5 == x527_6) = true := beq_iff_eq.mpr c331
               have c331b1 : (x521_5 != x527_6) = false := bne_eq_false_iff_eq.mpr c331
               clear c331
               have H' := Az_ H
               clear H
               have hcz332_0 : wr.cell? ⟨gb504, 0, none⟩ = some (.slice Ao21 t496.length co21) := (blk_cell BK504.out 0).trans rfl
               have hcz332_1 : wr.cell? ⟨gb504, 1, none⟩ = some (.int .i64 t499) := (blk_cell BK504.out 1).trans rfl
               have hfz332_0 := blk_frozen BK504.out 0
               have hfz332_1 := blk_frozen BK504.out 1
               go_wp2_with (((with_reducible refine gate_callee (f := 6) rfl ?_); refine goesL_ (some 534) rfl rfl Tryz.func6 (w94_) rfl #[.agg #[.slice Ao21 t496.length co21, .int .i64 t499], .int .i64 x521_5, .bool false, .int .i64 x527_6, .bool true] rfl maz_ ?_; (with_reducible refine (impl_WormEats.calls k6 _ _ t496 t499 x521_5 false x527_6 true t572 t573 _ ?side1 ?side2 A330.out).mono ?_); (case side1 => exact ucz_ ((Kd.V_reads' HO_505000.out).2.2)); (case side2 => exact (Kd.V_reads' HO_505000.out).2.1); rintro e w333 ⟨rfl, hb⟩; refine ⟨_, rfl, ?_⟩; have n0_ := Az_ (Kd.V_below (w59_) hb); have n2_ := Az_ (btz_ (w52_) hb); clear HO_505000; clear HB; have HO_505000 := n0_; replace BK504 := Az_ (ukbz_ BK504.out hb); have HB := n2_; clear n0_ n2_; (try clear hb)))
               go_roundg k6
               case measure => have := HJ17.out; have := HJ172.out; have := HJ214.out; have := HJ320.out; have := HK5.out; have := HK6.out; omega
               case rel => exact ⟨(wrap64 (x527_6 + 1)), qaz_, H', ⟨w58_⟩, ⟨w59_⟩, ⟨w71_⟩, ⟨w52_⟩⟩
              rw [if_neg c331] at H
              have c331b0 : (x521_5 == x527_6) = false := beq_eq_false_iff_ne.mpr c331
              have c331b1 : (x521_5 != x527_6) = true := bne_iff_ne.mpr c331
              by_cases c334 : t573 = true; rotate_left
              ·replace c334 := Bool.eq_false_iff.mpr c334
               subst c334
               rw [if_neg nfz_] at H
               exact absurd ((Option.some.inj H).trans hrT) (by decide)
              subst c334
              rw [if_pos rfl] at H
              by_cases c335 : t572 > t570
              ·rw [if_pos c335] at H
               have c335b0 := decide_eq_true c335
               clear c335
               exact absurd ((Option.some.inj H).trans hrT) (by decide)
              rw [if_neg c335] at H
              have c335b0 := decide_eq_false c335
              clear c335
              by_cases c338 : t572 = t570; rotate_left
              ·rw [if_neg c338] at H
               have c338b0 : (t572 == t570) = false := beq_eq_false_iff_ne.mpr c338
               have c338b1 : (t572 != t570) = true := bne_iff_ne.mpr c338
               have H' := Az_ H
               clear H
               have hcz350_0 : wr.cell? ⟨gb504, 0, none⟩ = some (.slice Ao21 t496.length co21) := (blk_cell BK504.out 0).trans rfl
               have hcz350_1 : wr.cell? ⟨gb504, 1, none⟩ = some (.int .i64 t499) := (blk_cell BK504.out 1).trans rfl
               have hfz350_0 := blk_frozen BK504.out 0
               have hfz350_1 := blk_frozen BK504.out 1
               go_wp2_with (((with_reducible refine gate_callee (f := 6) rfl ?_); refine goesL_ (some 534) rfl rfl Tryz.func6 (w94_) rfl #[.agg #[.slice Ao21 t496.length co21, .int .i64 t499], .int .i64 x521_5, .bool false, .int .i64 x527_6, .bool true] rfl maz_ ?_; (with_reducible refine (impl_WormEats.calls k6 _ _ t496 t499 x521_5 false x527_6 true t572 true _ ?side1 ?side2 A330.out).mono ?_); (case side1 => exact ucz_ ((Kd.V_reads' HO_505000.out).2.2)); (case side2 => exact (Kd.V_reads' HO_505000.out).2.1); rintro e w351 ⟨rfl, hb⟩; refine ⟨_, rfl, ?_⟩; have n0_ := Az_ (Kd.V_below (w59_) hb); have n2_ := Az_ (btz_ (w52_) hb); clear HO_505000; clear HB; have HO_505000 := n0_; replace BK504 := Az_ (ukbz_ BK504.out hb); have HB := n2_; clear n0_ n2_; (try clear hb)))
               go_roundg k6
               case measure => have := HJ17.out; have := HJ172.out; have := HJ214.out; have := HJ320.out; have := HK5.out; have := HK6.out; omega
               case rel => exact ⟨(wrap64 (x527_6 + 1)), qaz_, H', ⟨w58_⟩, ⟨w59_⟩, ⟨w71_⟩, ⟨w52_⟩⟩
              rw [if_pos c338] at H
              subst c338
              by_cases c339 : x521_5 < t525
              ·rw [if_pos c339] at H
               have c339b0 := decide_eq_true c339
               clear c339
               exact absurd ((Option.some.inj H).trans hrT) (by decide)
              rw [if_neg c339] at H
              have c339b0 := decide_eq_false c339
              clear c339
              by_cases c342 : x521_5 = t525; rotate_left
              ·rw [if_neg c342] at H
               have c342b0 : (x521_5 == t525) = false := beq_eq_false_iff_ne.mpr c342
               have c342b1 : (x521_5 != t525) = true := bne_iff_ne.mpr c342
               have H' := Az_ H
               clear H
               have hcz348_0 : wr.cell? ⟨gb504, 0, none⟩ = some (.slice Ao21 t496.length co21) := (blk_cell BK504.out 0).trans rfl
               have hcz348_1 : wr.cell? ⟨gb504, 1, none⟩ = some (.int .i64 t499) := (blk_cell BK504.out 1).trans rfl
               have hfz348_0 := blk_frozen BK504.out 0
               have hfz348_1 := blk_frozen BK504.out 1
               go_wp2_with (((with_reducible refine gate_callee (f := 6) rfl ?_); refine goesL_ (some 534) rfl rfl Tryz.func6 (w94_) rfl #[.agg #[.slice Ao21 t496.length co21, .int .i64 t499], .int .i64 x521_5, .bool false, .int .i64 x527_6, .bool true] rfl maz_ ?_; (with_reducible refine (impl_WormEats.calls k6 _ _ t496 t499 x521_5 false x527_6 true t572 true _ ?side1 ?side2 A330.out).mono ?_); (case side1 => exact ucz_ ((Kd.V_reads' HO_505000.out).2.2)); (case side2 => exact (Kd.V_reads' HO_505000.out).2.1); rintro e w349 ⟨rfl, hb⟩; refine ⟨_, rfl, ?_⟩; have n0_ := Az_ (Kd.V_below (w59_) hb); have n2_ := Az_ (btz_ (w52_) hb); clear HO_505000; clear HB; have HO_505000 := n0_; replace BK504 := Az_ (ukbz_ BK504.out hb); have HB := n2_; clear n0_ n2_; (try clear hb)))
               go_roundg k6
               case measure => have := HJ17.out; have := HJ172.out; have := HJ214.out; have := HJ320.out; have := HK5.out; have := HK6.out; omega
               case rel => exact ⟨(wrap64 (x527_6 + 1)), qaz_, H', ⟨w58_⟩, ⟨w59_⟩, ⟨w71_⟩, ⟨w52_⟩⟩
              rw [if_pos c342] at H
              have c342b0 : (x521_5 == t525) = true := beq_iff_eq.mpr c342
              have c342b1 : (x521_5 != t525) = false := bne_eq_false_iff_eq.mpr c342
              clear c342
              by_cases c343 : x527_6 < t526
              ·rw [if_pos c343] at H
               have c343b0 := decide_eq_true c343
               clear c343
               exact absurd ((Option.some.inj H).trans hrT) (by decide)
              rw [if_neg c343] at H
              have c343b0 := decide_eq_false c343
              clear c343
              have H' := Az_ H
              clear H
              have hcz346_0 : wr.cell? ⟨gb504, 0, none⟩ = some (.slice Ao21 t496.length co21) := (blk_cell BK504.out 0).trans rfl
              have hcz346_1 : wr.cell? ⟨gb504, 1, none⟩ = some (.int .i64 t499) := (blk_cell BK504.out 1).trans rfl
              have hfz346_0 := blk_frozen BK504.out 0
              have hfz346_1 := blk_frozen BK504.out 1
              go_wp2_with (((with_reducible refine gate_callee (f := 6) rfl ?_); refine goesL_ (some 534) rfl rfl Tryz.func6 (w94_) rfl #[.agg #[.slice Ao21 t496.length co21, .int .i64 t499], .int .i64 x521_5, .bool false, .int .i64 x527_6, .bool true] rfl maz_ ?_; (with_reducible refine (impl_WormEats.calls k6 _ _ t496 t499 x521_5 false x527_6 true t572 true _ ?side1 ?side2 A330.out).mono ?_); (case side1 => exact ucz_ ((Kd.V_reads' HO_505000.out).2.2)); (case side2 => exact (Kd.V_reads' HO_505000.out).2.1); rintro e w347 ⟨rfl, hb⟩; refine ⟨_, rfl, ?_⟩; have n0_ := Az_ (Kd.V_below (w59_) hb); have n2_ := Az_ (btz_ (w52_) hb); clear HO_505000; clear HB; have HO_505000 := n0_; replace BK504 := Az_ (ukbz_ BK504.out hb); have HB := n2_; clear n0_ n2_; (try clear hb)))
              go_roundg k6
              case measure => have := HJ17.out; have := HJ172.out; have := HJ214.out; have := HJ320.out; have := HK5.out; have := HK6.out; omega
              case rel => exact ⟨(wrap64 (x527_6 + 1)), qaz_, H', ⟨w58_⟩, ⟨w59_⟩, ⟨w71_⟩, ⟨w52_⟩⟩
       case rest => as_aux_lemma =>
        clear HC318
        obtain ⟨kq, HA, HJ317, HO_505000, BK504, HB⟩ := hcut
        cases kq with
        | zero => exact absurd HA.out (by simp [j9])
        | succ kj317 =>
         have H := HA.out
         clear HA
         simp only [j9] at H
         replace H := bqz_ H; obtain ⟨⟨t574, t577, t578, t579⟩, A354, H⟩ := H
         replace H := bqz_ H; obtain ⟨⟨t581, t584, t585⟩, A355, H⟩ := H
         replace H := bqz_ H; obtain ⟨⟨t587, t590, t591⟩, A356, H⟩ := H
         replace H := bqz_ H; obtain ⟨t593, A357, H⟩ := H
         replace H := bqz_ H; obtain ⟨⟨t594, t597, t598⟩, A358, H⟩ := H
         replace H := bqz_ H; obtain ⟨⟨t600, t603, t604⟩, A359, H⟩ := H
         replace H : (if (t585 != t591) = true then (j10 kj317 t578 t579 t585 t593 t598 true t574 t577 t581 t584 t594 t597) else ((laws_fShelf.f kj317 t581 t584 t587 t590).bind fun t606 => (if t606 = true then (if (t598 != t604) = true then (j10 kj317 t578 t579 t585 t593 t598 true t574 t577 t581 t584 t594 t597) else ((laws_fShelf.f kj317 t594 t597 t600 t603).bind fun t607 => (j10 kj317 t578 t579 t585 t593 t598 (!t607) t574 t577 t581 t584 t594 t597))) else (j10 kj317 t578 t579 t585 t593 t598 true t574 t577 t581 t584 t594 t597)))) = some r := H
         have HC360 := Az_ H
         clear H
         go_upto_region 69 with (first | ((with_reducible refine gate_callee (f := 27) rfl ?_); refine goesL_ (some 573) rfl rfl Tryz.func27 (w94_) rfl #[.slice A1 l1.length c1] rfl maz_ ?_; (with_reducible refine (spec_DrawSwapVolumes.calls kj317 _ _ l1 t574 t577 t578 t579 _ ?side1 ?side2 A354.out).mono ?_); (case side1 => exact ucz_ ((Kd.C_below HR1.out HB.out))); (case side2 => exact HC1.out); rintro e w361 ⟨v575, rfl, ho0, hb⟩; refine ⟨_, rfl, ?_⟩; have n0_ := Az_ (Kd.V_below (w59_) hb); have n1_ := Az_ (Kd.V_lower (Kd.V_mono (ok' := fun k_ => k_ ≠ gb504) ho0 (fun k_ hk_ => (Kd.freshB (g := gb504) (o := .cells #[.slice Ao21 t496.length co21, .int .i64 t499] 26 (0, 0)) (by exact ukz_ BK504.out) k_ hk_))) (below_size (w52_))); have n3_ := Az_ (btz_ (w52_) hb); clear HO_505000; clear HB; have HO_505000 := n0_; have HO576 := n1_; replace BK504 := Az_ (ukbz_ BK504.out hb); have HB := n3_; clear n0_ n1_ n3_; (try clear hb); (try clear ho0)) | ((with_reducible refine gate_dst (N := 65) rfl ?_); (try (refine gate_guard (by rfl) ?_; dsimp only)); refine box_event ?hg (N := 65) ?hd (cs := #[.slice none 0 0, .int .i64 0]) (t := 26) ?hr ?_; (case hd => rfl); (case hg => rfl); (case hr => first | (go_simp; done) | (go_simp; rfl)); intro gb580 hg w362 hbox hb; have n0_ := Az_ (Kd.V_below (Kd.V_elderB (w59_) gb580 (Nat.le_of_eq hg.symm)) hb); have n1_ := Az_ (Kd.V_below (Kd.V_elderB (w64_) gb580 (Nat.le_of_eq hg.symm)) hb); have n3_ := Az_ (btz_ (w52_) hb); have n4_ := Az_ (hbox); have n5_ := Az_ ((by rw [hg]; exact (below_size (w52_)) : w.heap.size ≤ gb580)); have n6_ := Az_ ((by rw [hg]; exact (below_size (w52_)) : w.heap.size ≤ gb580)); have n7_ := Az_ ((by rw [hg]; exact Nat.ne_of_lt (uklz_ BK504.out) : gb504 ≠ gb580)); have n8_ := Az_ ((by rw [hg]; exact Nat.ne_of_gt (uklz_ BK504.out) : gb580 ≠ gb504)); clear HO_505000; clear HO576; clear HB; have HO_505000 := n0_; have HO576 := n1_; replace BK504 := Az_ (ukbz_ BK504.out hb); have HB := n3_; have BK580 := n4_; have GW580 := n5_; have GE580 := n6_; have NB504_580 := n7_; have NB580_504 := n8_; clear n0_ n1_ n3_ n4_ n5_ n6_ n7_ n8_; clear hb hbox hg; obtain ⟨Ao363, co363, eo363⟩ := Kd.V_slice HO576.out; subst eo363; have hnb364 := NB580_504.out; have hnc364 := NB504_580.out; have hcz365_0 : w362.cell? ⟨gb580, 0, none⟩ = some (.slice none 0 0) := (blk_cell BK580.out 0).trans rfl; have hcz365_1 : w362.cell? ⟨gb580, 1, none⟩ = some (.int .i64 0) := (blk_cell BK580.out 1).trans rfl; have hfz365_0 := blk_frozen BK580.out 0; have hfz365_1 := blk_frozen BK580.out 1) | ((with_reducible refine gate_callee (f := 28) rfl ?_); refine goesL_ (some 581) rfl rfl Tryz.func28 (w94_) rfl #[.agg #[.slice Ao363 t574.length co363, .int .i64 t577], .int .i64 t578, .int .i64 t579] rfl maz_ ?_; (with_reducible refine (impl_SwapVolumes.calls kj317 _ _ t574 t577 t578 t579 t581 t584 t585 _ ?side1 ?side2 A355.out).mono ?_); (case side1 => refine (Kd.V_reads' (e := 3) (base := w.heap.size) (ok := fun k_ => (k_ ≠ gb504 ∧ k_ ≠ gb580)) (n := t574.length) (c := co363) ?_).2.2; exact (w7_)); (case side2 => exact (Kd.V_reads' HO576.out).2.1); rintro e w366 ⟨v582, rfl, ho0, hb⟩; refine ⟨_, rfl, ?_⟩; replace HO_505000 := Az_ (Kd.V_elder' (by (with_reducible repeat (first | apply Kd.V_alloc | apply Kd.V_drewN | apply Kd.V_drew)); exact (Kd.V_mono (Kd.V_far (p := ⟨gb580, 1, none⟩) (Kd.V_far (p := ⟨gb580, 0, none⟩) (Kd.V_mono HO_505000.out (fun k_ hk => (⟨hk, hk.2⟩ : _ ∧ k_ ≠ gb580))) (fun _ hk => hk.2) (.slice Ao363 t574.length co363)) (fun _ hk => hk.2) (.int .i64 t577)) (fun _ h_ => h_.1))) (Kd.R_base ho0) hb); replace HO576 := Az_ (Kd.V_elder' (w7_) (Kd.R_base ho0) hb); have HO583 := Az_ (Kd.R_lower ho0 (below_size (w52_))); replace BK504 := Az_ (kbz_ (g := gb504) (o := .cells #[.slice Ao21 t496.length co21, .int .i64 t499] 26 (0, 0)) (by (with_reducible repeat (first | refine knz_ ?_ _ | refine kdz_ ?_ | refine kaz_ ?_ _)); refine blk_far ?_ NB504_580.out _; (with_reducible repeat (first | refine knz_ ?_ _ | refine kdz_ ?_ | refine kaz_ ?_ _)); refine blk_far ?_ NB504_580.out _; (with_reducible repeat (first | refine knz_ ?_ _ | refine kdz_ ?_ | refine kaz_ ?_ _)); exact BK504.out) hb); replace BK580 := Az_ (kbz_ (g := gb580) (o := .cells #[.slice Ao363 t574.length co363, .int .i64 t577] 26 (0, 0)) (by (with_reducible repeat (first | refine knz_ ?_ _ | refine kdz_ ?_ | refine kaz_ ?_ _)); refine blk_put (cs := #[.slice Ao363 t574.length co363, .int .i64 0]) ?_ 1 _ rfl; (with_reducible repeat (first | refine knz_ ?_ _ | refine kdz_ ?_ | refine kaz_ ?_ _)); refine blk_put (cs := #[.slice none 0 0, .int .i64 0]) ?_ 0 _ rfl; (with_reducible repeat (first | refine knz_ ?_ _ | refine kdz_ ?_ | refine kaz_ ?_ _)); exact BK580.out) hb); replace HB := Az_ (btz_ (w52_) hb); (try clear hb); (try clear ho0)) | ((with_reducible refine gate_dst (N := 68) rfl ?_); (try (refine gate_guard (by rfl) ?_; dsimp only)); refine box_event ?hg (N := 68) ?hd (cs := #[.slice none 0 0, .int .i64 0]) (t := 26) ?hr ?_; (case hd => rfl); (case hg => rfl); (case hr => first | (go_simp; done) | (go_simp; rfl)); intro gb586 hg w367 hbox hb; have n0_ := Az_ (Kd.V_below (Kd.V_elderB (w59_) gb586 (Nat.le_of_eq hg.symm)) hb); have n1_ := Az_ (Kd.V_below (Kd.V_elderB (w64_) gb586 (Nat.le_of_eq hg.symm)) hb); have n2_ := Az_ (Kd.R_below (by exact urz_ HO583.out) hb); have n5_ := Az_ (btz_ (w52_) hb); have n6_ := Az_ (hbox); have n7_ := Az_ ((by rw [hg]; exact (below_size (w52_)) : w.heap.size ≤ gb586)); have n8_ := Az_ ((by rw [hg]; exact (below_size (w52_)) : w.heap.size ≤ gb586)); have n9_ := Az_ ((by rw [hg]; exact Nat.ne_of_lt (uklz_ BK504.out) : gb504 ≠ gb586)); have n10_ := Az_ ((by rw [hg]; exact Nat.ne_of_gt (uklz_ BK504.out) : gb586 ≠ gb504)); have n11_ := Az_ ((by rw [hg]; exact Nat.ne_of_lt (uklz_ BK580.out) : gb580 ≠ gb586)); have n12_ := Az_ ((by rw [hg]; exact Nat.ne_of_gt (uklz_ BK580.out) : gb586 ≠ gb580)); clear HO_505000; clear HO576; clear HO583; clear HB; have HO_505000 := n0_; have HO576 := n1_; have HO583 := n2_; replace BK504 := Az_ (ukbz_ BK504.out hb); replace BK580 := Az_ (ukbz_ BK580.out hb); have HB := n5_; have BK586 := n6_; have GW586 := n7_; have GE586 := n8_; have NB504_586 := n9_; have NB586_504 := n10_; have NB580_586 := n11_; have NB586_580 := n12_; clear n0_ n1_ n2_ n5_ n6_ n7_ n8_ n9_ n10_ n11_ n12_; clear hb hbox hg; obtain ⟨Ao368, co368, eo368⟩ := Kd.R_slice HO583.out; subst eo368; have hnb369 := NB586_504.out; have hnc369 := NB504_586.out; have hnb370 := NB586_580.out; have hnc370 := NB580_586.out; have hcz371_0 : w367.cell? ⟨gb586, 0, none⟩ = some (.slice none 0 0) := (blk_cell BK586.out 0).trans rfl; have hcz371_1 : w367.cell? ⟨gb586, 1, none⟩ = some (.int .i64 0) := (blk_cell BK586.out 1).trans rfl; have hfz371_0 := blk_frozen BK586.out 0; have hfz371_1 := blk_frozen BK586.out 1; have hcz372_0 : w367.cell? ⟨gb580, 0, none⟩ = some (.slice Ao363 t574.length co363) := (blk_cell BK580.out 0).trans rfl; have hcz372_1 : w367.cell? ⟨gb580, 1, none⟩ = some (.int .i64 t577) := (blk_cell BK580.out 1).trans rfl; have hfz372_0 := blk_frozen BK580.out 0; have hfz372_1 := blk_frozen BK580.out 1) | ((with_reducible refine gate_callee (f := 29) rfl ?_); refine goesL_ (some 588) rfl rfl Tryz.func29 (w94_) rfl #[.agg #[.slice Ao363 t574.length co363, .int .i64 t577], .int .i64 t578, .int .i64 t579] rfl maz_ ?_; (with_reducible refine (spec_SwapVolumes.calls kj317 _ _ t574 t577 t578 t579 t587 t590 t591 _ ?side1 ?side2 A356.out).mono ?_); (case side1 => refine (Kd.V_reads' (e := 3) (base := w.heap.size) (ok := fun k_ => (((k_ ≠ gb504 ∧ k_ ≠ gb580) ∧ some k_ ≠ (.slice Ao368 t581.length co368 : Value).ownBlock) ∧ k_ ≠ gb586)) (n := t574.length) (c := co363) ?_).2.2; exact (w8_)); (case side2 => exact (Kd.V_reads' HO576.out).2.1); rintro e w373 ⟨v588, rfl, ho0, hb⟩; refine ⟨_, rfl, ?_⟩; replace HO_505000 := Az_ (Kd.V_elder' (by (with_reducible repeat (first | apply Kd.V_alloc | apply Kd.V_drewN | apply Kd.V_drew)); exact (Kd.V_mono (Kd.V_far (p := ⟨gb586, 1, none⟩) (Kd.V_far (p := ⟨gb586, 0, none⟩) (Kd.V_mono HO_505000.out (fun k_ hk => (⟨hk, hk.2⟩ : _ ∧ k_ ≠ gb586))) (fun _ hk => hk.2) (.slice Ao368 t581.length co368)) (fun _ hk => hk.2) (.int .i64 t584)) (fun _ h_ => h_.1))) (Kd.R_base ho0) hb); replace HO576 := Az_ (Kd.V_elder' (w8_) (Kd.R_base ho0) hb); have HO589 := Az_ (Kd.R_lower (Kd.R_new' ho0 (Kd.R_lt (w14_))) (below_size (w52_))); replace HO583 := Az_ (rez_ (w14_) (Kd.R_base ho0) hb); replace BK504 := Az_ (kbz_ (g := gb504) (o := .cells #[.slice Ao21 t496.length co21, .int .i64 t499] 26 (0, 0)) (by (with_reducible repeat (first | refine knz_ ?_ _ | refine kdz_ ?_ | refine kaz_ ?_ _)); refine blk_far ?_ NB504_586.out _; (with_reducible repeat (first | refine knz_ ?_ _ | refine kdz_ ?_ | refine kaz_ ?_ _)); refine blk_far ?_ NB504_586.out _; (with_reducible repeat (first | refine knz_ ?_ _ | refine kdz_ ?_ | refine kaz_ ?_ _)); exact BK504.out) hb); replace BK580 := Az_ (kbz_ (g := gb580) (o := .cells #[.slice Ao363 t574.length co363, .int .i64 t577] 26 (0, 0)) (by (with_reducible repeat (first | refine knz_ ?_ _ | refine kdz_ ?_ | refine kaz_ ?_ _)); refine blk_far ?_ NB580_586.out _; (with_reducible repeat (first | refine knz_ ?_ _ | refine kdz_ ?_ | refine kaz_ ?_ _)); refine blk_far ?_ NB580_586.out _; (with_reducible repeat (first | refine knz_ ?_ _ | refine kdz_ ?_ | refine kaz_ ?_ _)); exact BK580.out) hb); replace BK586 := Az_ (kbz_ (g := gb586) (o := .cells #[.slice Ao368 t581.length co368, .int .i64 t584] 26 (0, 0)) (by (with_reducible repeat (first | refine knz_ ?_ _ | refine kdz_ ?_ | refine kaz_ ?_ _)); refine blk_put (cs := #[.slice Ao368 t581.length co368, .int .i64 0]) ?_ 1 _ rfl; (with_reducible repeat (first | refine knz_ ?_ _ | refine kdz_ ?_ | refine kaz_ ?_ _)); refine blk_put (cs := #[.slice none 0 0, .int .i64 0]) ?_ 0 _ rfl; (with_reducible repeat (first | refine knz_ ?_ _ | refine kdz_ ?_ | refine kaz_ ?_ _)); exact BK586.out) hb); replace HB := Az_ (btz_ (w52_) hb); (try clear hb); (try clear ho0)) | ((with_reducible refine gate_dst (N := 70) rfl ?_); (try (refine gate_guard (by rfl) ?_; dsimp only)); refine box_event ?hg (N := 70) ?hd (cs := #[.slice none 0 0, .int .i64 0]) (t := 26) ?hr ?_; (case hd => rfl); (case hg => rfl); (case hr => first | (go_simp; done) | (go_simp; rfl)); intro gb592 hg w374 hbox hb; have n0_ := Az_ (Kd.V_below (Kd.V_elderB (w59_) gb592 (Nat.le_of_eq hg.symm)) hb); have n1_ := Az_ (Kd.V_below (Kd.V_elderB (w64_) gb592 (Nat.le_of_eq hg.symm)) hb); have n2_ := Az_ (Kd.R_below (by exact urz_ HO583.out) hb); have n3_ := Az_ (Kd.R_below (by exact urz_ HO589.out) hb); have n7_ := Az_ (btz_ (w52_) hb); have n8_ := Az_ (hbox); have n9_ := Az_ ((by rw [hg]; exact (below_size (w52_)) : w.heap.size ≤ gb592)); have n10_ := Az_ ((by rw [hg]; exact (below_size (w52_)) : w.heap.size ≤ gb592)); have n11_ := Az_ ((by rw [hg]; exact Nat.ne_of_lt (uklz_ BK504.out) : gb504 ≠ gb592)); have n12_ := Az_ ((by rw [hg]; exact Nat.ne_of_gt (uklz_ BK504.out) : gb592 ≠ gb504)); have n13_ := Az_ ((by rw [hg]; exact Nat.ne_of_lt (uklz_ BK580.out) : gb580 ≠ gb592)); have n14_ := Az_ ((by rw [hg]; exact Nat.ne_of_gt (uklz_ BK580.out) : gb592 ≠ gb580)); have n15_ := Az_ ((by rw [hg]; exact Nat.ne_of_lt (uklz_ BK586.out) : gb586 ≠ gb592)); have n16_ := Az_ ((by rw [hg]; exact Nat.ne_of_gt (uklz_ BK586.out) : gb592 ≠ gb586)); clear HO_505000; clear HO576; clear HO583; clear HO589; clear HB; have HO_505000 := n0_; have HO576 := n1_; have HO583 := n2_; have HO589 := n3_; replace BK504 := Az_ (ukbz_ BK504.out hb); replace BK580 := Az_ (ukbz_ BK580.out hb); replace BK586 := Az_ (ukbz_ BK586.out hb); have HB := n7_; have BK592 := n8_; have GW592 := n9_; have GE592 := n10_; have NB504_592 := n11_; have NB592_504 := n12_; have NB580_592 := n13_; have NB592_580 := n14_; have NB586_592 := n15_; have NB592_586 := n16_; clear n0_ n1_ n2_ n3_ n7_ n8_ n9_ n10_ n11_ n12_ n13_ n14_ n15_ n16_; clear hb hbox hg; obtain ⟨Ao375, co375, eo375⟩ := Kd.R_slice HO589.out; subst eo375; have hnb376 := NB592_504.out; have hnc376 := NB504_592.out; have hnb377 := NB592_580.out; have hnc377 := NB580_592.out; have hnb378 := NB592_586.out; have hnc378 := NB586_592.out; have hcz379_0 : w374.cell? ⟨gb592, 0, none⟩ = some (.slice none 0 0) := (blk_cell BK592.out 0).trans rfl; have hcz379_1 : w374.cell? ⟨gb592, 1, none⟩ = some (.int .i64 0) := (blk_cell BK592.out 1).trans rfl; have hfz379_0 := blk_frozen BK592.out 0; have hfz379_1 := blk_frozen BK592.out 1) | ((with_reducible refine gate_callee (f := 30) rfl ?_); refine goesL_ (some 592) rfl rfl Tryz.func30 (w94_) rfl #[.slice A1 l1.length c1] rfl maz_ ?_; (with_reducible refine (spec_DrawParseShelf.calls kj317 _ _ l1 t593 _ ?side1 ?side2 A357.out).mono ?_); (case side1 => exact Kd.C_below HR1.out (w52_)); (case side2 => exact HC1.out); rintro e w380 ⟨rfl, hb⟩; refine ⟨_, rfl, ?_⟩; replace HO_505000 := Az_ (Kd.V_below (by (with_reducible repeat (first | apply Kd.V_alloc | apply Kd.V_drewN | apply Kd.V_drew)); exact (Kd.V_mono (Kd.V_far (p := ⟨gb592, 1, none⟩) (Kd.V_far (p := ⟨gb592, 0, none⟩) (Kd.V_mono HO_505000.out (fun k_ hk => (⟨hk, hk.2⟩ : _ ∧ k_ ≠ gb592))) (fun _ hk => hk.2) (.slice Ao375 t587.length co375)) (fun _ hk => hk.2) (.int .i64 t590)) (fun _ h_ => h_.1))) hb); replace HO576 := Az_ (Kd.V_below (by (with_reducible repeat (first | apply Kd.V_alloc | apply Kd.V_drewN | apply Kd.V_drew)); exact (Kd.V_mono (Kd.V_far (p := ⟨gb592, 1, none⟩) (Kd.V_far (p := ⟨gb592, 0, none⟩) (Kd.V_mono HO576.out (fun k_ hk => (⟨hk, hk.2⟩ : _ ∧ k_ ≠ gb592))) (fun _ hk => hk.2) (.slice Ao375 t587.length co375)) (fun _ hk => hk.2) (.int .i64 t590)) (fun _ h_ => h_.1))) hb); replace HO583 := Az_ (Kd.R_below (by (with_reducible repeat (first | apply raz_ | apply rnz_ | apply rdz_)); exact (Kd.R_mono (Kd.R_far (p := ⟨gb592, 1, none⟩) (Kd.R_far (p := ⟨gb592, 0, none⟩) (Kd.R_types HO583.out BK592.out (by decide)) (fun _ hk => hk.2) (.slice Ao375 t587.length co375)) (fun _ hk => hk.2) (.int .i64 t590)) (fun _ h_ => h_.1))) hb); replace HO589 := Az_ (Kd.R_below (by (with_reducible repeat (first | apply raz_ | apply rnz_ | apply rdz_)); exact (Kd.R_mono (Kd.R_far (p := ⟨gb592, 1, none⟩) (Kd.R_far (p := ⟨gb592, 0, none⟩) (Kd.R_types HO589.out BK592.out (by decide)) (fun _ hk => hk.2) (.slice Ao375 t587.length co375)) (fun _ hk => hk.2) (.int .i64 t590)) (fun _ h_ => h_.1))) hb); replace BK504 := Az_ (kbz_ (g := gb504) (o := .cells #[.slice Ao21 t496.length co21, .int .i64 t499] 26 (0, 0)) (by (with_reducible repeat (first | refine knz_ ?_ _ | refine kdz_ ?_ | refine kaz_ ?_ _)); refine blk_far ?_ NB504_592.out _; (with_reducible repeat (first | refine knz_ ?_ _ | refine kdz_ ?_ | refine kaz_ ?_ _)); refine blk_far ?_ NB504_592.out _; (with_reducible repeat (first | refine knz_ ?_ _ | refine kdz_ ?_ | refine kaz_ ?_ _)); exact BK504.out) hb); replace BK580 := Az_ (kbz_ (g := gb580) (o := .cells #[.slice Ao363 t574.length co363, .int .i64 t577] 26 (0, 0)) (by (with_reducible repeat (first | refine knz_ ?_ _ | refine kdz_ ?_ | refine kaz_ ?_ _)); refine blk_far ?_ NB580_592.out _; (with_reducible repeat (first | refine knz_ ?_ _ | refine kdz_ ?_ | refine kaz_ ?_ _)); refine blk_far ?_ NB580_592.out _; (with_reducible repeat (first | refine knz_ ?_ _ | refine kdz_ ?_ | refine kaz_ ?_ _)); exact BK580.out) hb); replace BK586 := Az_ (kbz_ (g := gb586) (o := .cells #[.slice Ao368 t581.length co368, .int .i64 t584] 26 (0, 0)) (by (with_reducible repeat (first | refine knz_ ?_ _ | refine kdz_ ?_ | refine kaz_ ?_ _)); refine blk_far ?_ NB586_592.out _; (with_reducible repeat (first | refine knz_ ?_ _ | refine kdz_ ?_ | refine kaz_ ?_ _)); refine blk_far ?_ NB586_592.out _; (with_reducible repeat (first | refine knz_ ?_ _ | refine kdz_ ?_ | refine kaz_ ?_ _)); exact BK586.out) hb); replace BK592 := Az_ (kbz_ (g := gb592) (o := .cells #[.slice Ao375 t587.length co375, .int .i64 t590] 26 (0, 0)) (by (with_reducible repeat (first | refine knz_ ?_ _ | refine kdz_ ?_ | refine kaz_ ?_ _)); refine blk_put (cs := #[.slice Ao375 t587.length co375, .int .i64 0]) ?_ 1 _ rfl; (with_reducible repeat (first | refine knz_ ?_ _ | refine kdz_ ?_ | refine kaz_ ?_ _)); refine blk_put (cs := #[.slice none 0 0, .int .i64 0]) ?_ 0 _ rfl; (with_reducible repeat (first | refine knz_ ?_ _ | refine kdz_ ?_ | refine kaz_ ?_ _)); exact BK592.out) hb); replace HB := Az_ (btz_ (w52_) hb); (try clear hb)) | ((with_reducible refine gate_callee (f := 23) rfl ?_); refine goesL_ (some 595) rfl rfl Tryz.func23 (w94_) rfl #[.string t593] rfl maz_ ?_; (with_reducible refine (impl_ParseShelf.calls kj317 t593 t594 t597 t598 _ (libW_below HTAB.out (w52_)) A358.out).mono ?_); rintro e w381 ⟨v595, rfl, ho0, hb⟩; refine ⟨_, rfl, ?_⟩; have n0_ := Az_ (Kd.V_elder' (w59_) (Kd.R_base ho0) hb); have n1_ := Az_ (Kd.V_elder' (w64_) (Kd.R_base ho0) hb); have n2_ := Az_ (rez_ (by exact urz_ HO583.out) (Kd.R_base ho0) hb); have n3_ := Az_ (rez_ (by exact urz_ HO589.out) (Kd.R_base ho0) hb); have n4_ := Az_ (Kd.R_lower (Kd.R_new' (Kd.R_new' ho0 (Kd.R_lt (by exact urz_ HO583.out))) (Kd.R_lt (by exact urz_ HO589.out))) (below_size (w52_))); have n9_ := Az_ (btz_ (w52_) hb); clear HO_505000; clear HO576; clear HO583; clear HO589; clear HB; have HO_505000 := n0_; have HO576 := n1_; have HO583 := n2_; have HO589 := n3_; have HO596 := n4_; replace BK504 := Az_ (ukbz_ BK504.out hb); replace BK580 := Az_ (ukbz_ BK580.out hb); replace BK586 := Az_ (ukbz_ BK586.out hb); replace BK592 := Az_ (ukbz_ BK592.out hb); have HB := n9_; clear n0_ n1_ n2_ n3_ n4_ n9_; (try clear hb); (try clear ho0)) | ((with_reducible refine gate_dst (N := 73) rfl ?_); (try (refine gate_guard (by rfl) ?_; dsimp only)); refine box_event ?hg (N := 73) ?hd (cs := #[.slice none 0 0, .int .i64 0]) (t := 26) ?hr ?_; (case hd => rfl); (case hg => rfl); (case hr => first | (go_simp; done) | (go_simp; rfl)); intro gb599 hg w382 hbox hb; have n0_ := Az_ (Kd.V_below (Kd.V_elderB (w59_) gb599 (Nat.le_of_eq hg.symm)) hb); have n1_ := Az_ (Kd.V_below (Kd.V_elderB (w64_) gb599 (Nat.le_of_eq hg.symm)) hb); have n2_ := Az_ (Kd.R_below (by exact urz_ HO583.out) hb); have n3_ := Az_ (Kd.R_below (by exact urz_ HO589.out) hb); have n4_ := Az_ (Kd.R_below (by exact urz_ HO596.out) hb); have n9_ := Az_ (btz_ (w52_) hb); have n10_ := Az_ (hbox); have n11_ := Az_ ((by rw [hg]; exact (below_size (w52_)) : w.heap.size ≤ gb599)); have n12_ := Az_ ((by rw [hg]; exact (below_size (w52_)) : w.heap.size ≤ gb599)); have n13_ := Az_ ((by rw [hg]; exact Nat.ne_of_lt (uklz_ BK504.out) : gb504 ≠ gb599)); have n14_ := Az_ ((by rw [hg]; exact Nat.ne_of_gt (uklz_ BK504.out) : gb599 ≠ gb504)); have n15_ := Az_ ((by rw [hg]; exact Nat.ne_of_lt (uklz_ BK580.out) : gb580 ≠ gb599)); have n16_ := Az_ ((by rw [hg]; exact Nat.ne_of_gt (uklz_ BK580.out) : gb599 ≠ gb580)); have n17_ := Az_ ((by rw [hg]; exact Nat.ne_of_lt (uklz_ BK586.out) : gb586 ≠ gb599)); have n18_ := Az_ ((by rw [hg]; exact Nat.ne_of_gt (uklz_ BK586.out) : gb599 ≠ gb586)); have n19_ := Az_ ((by rw [hg]; exact Nat.ne_of_lt (uklz_ BK592.out) : gb592 ≠ gb599)); have n20_ := Az_ ((by rw [hg]; exact Nat.ne_of_gt (uklz_ BK592.out) : gb599 ≠ gb592)); clear HO_505000; clear HO576; clear HO583; clear HO589; clear HO596; clear HB; have HO_505000 := n0_; have HO576 := n1_; have HO583 := n2_; have HO589 := n3_; have HO596 := n4_; replace BK504 := Az_ (ukbz_ BK504.out hb); replace BK580 := Az_ (ukbz_ BK580.out hb); replace BK586 := Az_ (ukbz_ BK586.out hb); replace BK592 := Az_ (ukbz_ BK592.out hb); have HB := n9_; have BK599 := n10_; have GW599 := n11_; have GE599 := n12_; have NB504_599 := n13_; have NB599_504 := n14_; have NB580_599 := n15_; have NB599_580 := n16_; have NB586_599 := n17_; have NB599_586 := n18_; have NB592_599 := n19_; have NB599_592 := n20_; clear n0_ n1_ n2_ n3_ n4_ n9_ n10_ n11_ n12_ n13_ n14_ n15_ n16_ n17_ n18_ n19_ n20_; clear hb hbox hg; obtain ⟨Ao383, co383, eo383⟩ := Kd.R_slice HO596.out; subst eo383; have hnb384 := NB599_504.out; have hnc384 := NB504_599.out; have hnb385 := NB599_580.out; have hnc385 := NB580_599.out; have hnb386 := NB599_586.out; have hnc386 := NB586_599.out; have hnb387 := NB599_592.out; have hnc387 := NB592_599.out; have hcz388_0 : w382.cell? ⟨gb599, 0, none⟩ = some (.slice none 0 0) := (blk_cell BK599.out 0).trans rfl; have hcz388_1 : w382.cell? ⟨gb599, 1, none⟩ = some (.int .i64 0) := (blk_cell BK599.out 1).trans rfl; have hfz388_0 := blk_frozen BK599.out 0; have hfz388_1 := blk_frozen BK599.out 1) | ((with_reducible refine gate_callee (f := 31) rfl ?_); refine goesL_ (some 600) rfl rfl Tryz.func31 (w94_) rfl #[.string t593] rfl maz_ ?_; (with_reducible refine (spec_ParseShelf.calls kj317 t593 t600 t603 t604 _ A359.out).mono ?_); rintro e w389 ⟨v601, rfl, ho0, hb⟩; refine ⟨_, rfl, ?_⟩; replace HO_505000 := Az_ (Kd.V_elder' (by (with_reducible repeat (first | apply Kd.V_alloc | apply Kd.V_drewN | apply Kd.V_drew)); exact (Kd.V_mono (Kd.V_far (p := ⟨gb599, 1, none⟩) (Kd.V_far (p := ⟨gb599, 0, none⟩) (Kd.V_mono HO_505000.out (fun k_ hk => (⟨hk, hk.2⟩ : _ ∧ k_ ≠ gb599))) (fun _ hk => hk.2) (.slice Ao383 t594.length co383)) (fun _ hk => hk.2) (.int .i64 t597)) (fun _ h_ => h_.1))) (Kd.R_base ho0) hb); replace HO576 := Az_ (Kd.V_elder' (by (with_reducible repeat (first | apply Kd.V_alloc | apply Kd.V_drewN | apply Kd.V_drew)); exact (Kd.V_mono (Kd.V_far (p := ⟨gb599, 1, none⟩) (Kd.V_far (p := ⟨gb599, 0, none⟩) (Kd.V_mono HO576.out (fun k_ hk => (⟨hk, hk.2⟩ : _ ∧ k_ ≠ gb599))) (fun _ hk => hk.2) (.slice Ao383 t594.length co383)) (fun _ hk => hk.2) (.int .i64 t597)) (fun _ h_ => h_.1))) (Kd.R_base ho0) hb); have HO602 := Az_ (Kd.R_lower (Kd.R_new' (Kd.R_new' (Kd.R_new' ho0 (Kd.R_lt (w15_))) (Kd.R_lt (w16_))) (Kd.R_lt (w17_))) (below_size (w52_))); replace HO583 := Az_ (rez_ (w15_) (Kd.R_base ho0) hb); replace HO589 := Az_ (rez_ (w16_) (Kd.R_base ho0) hb); replace HO596 := Az_ (rez_ (w17_) (Kd.R_base ho0) hb); replace BK504 := Az_ (kbz_ (g := gb504) (o := .cells #[.slice Ao21 t496.length co21, .int .i64 t499] 26 (0, 0)) (by (with_reducible repeat (first | refine knz_ ?_ _ | refine kdz_ ?_ | refine kaz_ ?_ _)); refine blk_far ?_ NB504_599.out _; (with_reducible repeat (first | refine knz_ ?_ _ | refine kdz_ ?_ | refine kaz_ ?_ _)); refine blk_far ?_ NB504_599.out _; (with_reducible repeat (first | refine knz_ ?_ _ | refine kdz_ ?_ | refine kaz_ ?_ _)); exact BK504.out) hb); replace BK580 := Az_ (kbz_ (g := gb580) (o := .cells #[.slice Ao363 t574.length co363, .int .i64 t577] 26 (0, 0)) (by (with_reducible repeat (first | refine knz_ ?_ _ | refine kdz_ ?_ | refine kaz_ ?_ _)); refine blk_far ?_ NB580_599.out _; (with_reducible repeat (first | refine knz_ ?_ _ | refine kdz_ ?_ | refine kaz_ ?_ _)); refine blk_far ?_ NB580_599.out _; (with_reducible repeat (first | refine knz_ ?_ _ | refine kdz_ ?_ | refine kaz_ ?_ _)); exact BK580.out) hb); replace BK586 := Az_ (kbz_ (g := gb586) (o := .cells #[.slice Ao368 t581.length co368, .int .i64 t584] 26 (0, 0)) (by (with_reducible repeat (first | refine knz_ ?_ _ | refine kdz_ ?_ | refine kaz_ ?_ _)); refine blk_far ?_ NB586_599.out _; (with_reducible repeat (first | refine knz_ ?_ _ | refine kdz_ ?_ | refine kaz_ ?_ _)); refine blk_far ?_ NB586_599.out _; (with_reducible repeat (first | refine knz_ ?_ _ | refine kdz_ ?_ | refine kaz_ ?_ _)); exact BK586.out) hb); replace BK592 := Az_ (kbz_ (g := gb592) (o := .cells #[.slice Ao375 t587.length co375, .int .i64 t590] 26 (0, 0)) (by (with_reducible repeat (first | refine knz_ ?_ _ | refine kdz_ ?_ | refine kaz_ ?_ _)); refine blk_far ?_ NB592_599.out _; (with_reducible repeat (first | refine knz_ ?_ _ | refine kdz_ ?_ | refine kaz_ ?_ _)); refine blk_far ?_ NB592_599.out _; (with_reducible repeat (first | refine knz_ ?_ _ | refine kdz_ ?_ | refine kaz_ ?_ _)); exact BK592.out) hb); replace BK599 := Az_ (kbz_ (g := gb599) (o := .cells #[.slice Ao383 t594.length co383, .int .i64 t597] 26 (0, 0)) (by (with_reducible repeat (first | refine knz_ ?_ _ | refine kdz_ ?_ | refine kaz_ ?_ _)); refine blk_put (cs := #[.slice Ao383 t594.length co383, .int .i64 0]) ?_ 1 _ rfl; (with_reducible repeat (first | refine knz_ ?_ _ | refine kdz_ ?_ | refine kaz_ ?_ _)); refine blk_put (cs := #[.slice none 0 0, .int .i64 0]) ?_ 0 _ rfl; (with_reducible repeat (first | refine knz_ ?_ _ | refine kdz_ ?_ | refine kaz_ ?_ _)); exact BK599.out) hb); replace HB := Az_ (btz_ (w52_) hb); (try clear hb); (try clear ho0)) | ((with_reducible refine gate_dst (N := 75) rfl ?_); (try (refine gate_guard (by rfl) ?_; dsimp only)); refine box_event ?hg (N := 75) ?hd (cs := #[.slice none 0 0, .int .i64 0]) (t := 26) ?hr ?_; (case hd => rfl); (case hg => rfl); (case hr => first | (go_simp; done) | (go_simp; rfl)); intro gb605 hg w390 hbox hb; have n0_ := Az_ (Kd.V_below (Kd.V_elderB (w59_) gb605 (Nat.le_of_eq hg.symm)) hb); have n1_ := Az_ (Kd.V_below (Kd.V_elderB (w64_) gb605 (Nat.le_of_eq hg.symm)) hb); have n2_ := Az_ (Kd.R_below (by exact urz_ HO583.out) hb); have n3_ := Az_ (Kd.R_below (by exact urz_ HO589.out) hb); have n4_ := Az_ (Kd.R_below (by exact urz_ HO596.out) hb); have n5_ := Az_ (Kd.R_below (by exact urz_ HO602.out) hb); have n11_ := Az_ (btz_ (w52_) hb); have n12_ := Az_ (hbox); have n13_ := Az_ ((by rw [hg]; exact (below_size (w52_)) : w.heap.size ≤ gb605)); have n14_ := Az_ ((by rw [hg]; exact (below_size (w52_)) : w.heap.size ≤ gb605)); have n15_ := Az_ ((by rw [hg]; exact Nat.ne_of_lt (uklz_ BK504.out) : gb504 ≠ gb605)); have n16_ := Az_ ((by rw [hg]; exact Nat.ne_of_gt (uklz_ BK504.out) : gb605 ≠ gb504)); have n17_ := Az_ ((by rw [hg]; exact Nat.ne_of_lt (uklz_ BK580.out) : gb580 ≠ gb605)); have n18_ := Az_ ((by rw [hg]; exact Nat.ne_of_gt (uklz_ BK580.out) : gb605 ≠ gb580)); have n19_ := Az_ ((by rw [hg]; exact Nat.ne_of_lt (uklz_ BK586.out) : gb586 ≠ gb605)); have n20_ := Az_ ((by rw [hg]; exact Nat.ne_of_gt (uklz_ BK586.out) : gb605 ≠ gb586)); have n21_ := Az_ ((by rw [hg]; exact Nat.ne_of_lt (uklz_ BK592.out) : gb592 ≠ gb605)); have n22_ := Az_ ((by rw [hg]; exact Nat.ne_of_gt (uklz_ BK592.out) : gb605 ≠ gb592)); have n23_ := Az_ ((by rw [hg]; exact Nat.ne_of_lt (uklz_ BK599.out) : gb599 ≠ gb605)); have n24_ := Az_ ((by rw [hg]; exact Nat.ne_of_gt (uklz_ BK599.out) : gb605 ≠ gb599)); clear HO_505000; clear HO576; clear HO583; clear HO589; clear HO596; clear HO602; clear HB; have HO_505000 := n0_; have HO576 := n1_; have HO583 := n2_; have HO589 := n3_; have HO596 := n4_; have HO602 := n5_; replace BK504 := Az_ (ukbz_ BK504.out hb); replace BK580 := Az_ (ukbz_ BK580.out hb); replace BK586 := Az_ (ukbz_ BK586.out hb); replace BK592 := Az_ (ukbz_ BK592.out hb); replace BK599 := Az_ (ukbz_ BK599.out hb); have HB := n11_; have BK605 := n12_; have GW605 := n13_; have GE605 := n14_; have NB504_605 := n15_; have NB605_504 := n16_; have NB580_605 := n17_; have NB605_580 := n18_; have NB586_605 := n19_; have NB605_586 := n20_; have NB592_605 := n21_; have NB605_592 := n22_; have NB599_605 := n23_; have NB605_599 := n24_; clear n0_ n1_ n2_ n3_ n4_ n5_ n11_ n12_ n13_ n14_ n15_ n16_ n17_ n18_ n19_ n20_ n21_ n22_ n23_ n24_; clear hb hbox hg; obtain ⟨Ao391, co391, eo391⟩ := Kd.R_slice HO602.out; subst eo391; have hnb392 := NB605_504.out; have hnc392 := NB504_605.out; have hnb393 := NB605_580.out; have hnc393 := NB580_605.out; have hnb394 := NB605_586.out; have hnc394 := NB586_605.out; have hnb395 := NB605_592.out; have hnc395 := NB592_605.out; have hnb396 := NB605_599.out; have hnc396 := NB599_605.out; have hcz397_0 : w390.cell? ⟨gb605, 0, none⟩ = some (.slice none 0 0) := (blk_cell BK605.out 0).trans rfl; have hcz397_1 : w390.cell? ⟨gb605, 1, none⟩ = some (.int .i64 0) := (blk_cell BK605.out 1).trans rfl; have hfz397_0 := blk_frozen BK605.out 0; have hfz397_1 := blk_frozen BK605.out 1))
         (try simp only [Act.put, List.setIfInBounds_toArray, List.set_cons_zero, List.set_cons_succ])
         go_cut [622] from 1 to 0 (fun v622 wc => ∃ (kq : Nat) (x622_359 : Bool), v622 = .bool x622_359 ∧ Aside0 (j10 kq t578 t579 t585 t593 t598 x622_359 t574 t577 t581 t584 t594 t597 = some r) ∧ Aside0 (kq ≤ kj317) ∧ Aside0 (Kd.V (Kd.int .i64) 3 wc w.heap.size (fun k_ => some k_ ≠ ((.slice Ao368 t581.length co368) : Value).ownBlock ∧ some k_ ≠ ((.slice Ao375 t587.length co375) : Value).ownBlock ∧ some k_ ≠ ((.slice Ao383 t594.length co383) : Value).ownBlock ∧ some k_ ≠ ((.slice Ao391 t600.length co391) : Value).ownBlock ∧ k_ ≠ gb504 ∧ k_ ≠ gb580 ∧ k_ ≠ gb586 ∧ k_ ≠ gb592 ∧ k_ ≠ gb599 ∧ k_ ≠ gb605) (.slice Ao21 t496.length co21) t496) ∧ Aside0 (Kd.V (Kd.int .i64) 3 wc w.heap.size (fun k_ => some k_ ≠ ((.slice Ao368 t581.length co368) : Value).ownBlock ∧ some k_ ≠ ((.slice Ao375 t587.length co375) : Value).ownBlock ∧ some k_ ≠ ((.slice Ao383 t594.length co383) : Value).ownBlock ∧ some k_ ≠ ((.slice Ao391 t600.length co391) : Value).ownBlock ∧ k_ ≠ gb504 ∧ k_ ≠ gb580 ∧ k_ ≠ gb586 ∧ k_ ≠ gb592 ∧ k_ ≠ gb599 ∧ k_ ≠ gb605) (.slice Ao363 t574.length co363) t574) ∧ Aside0 (Kd.R (Kd.int .i64) 3 wc w.heap.size (fun k_ => some k_ ≠ ((.slice Ao375 t587.length co375) : Value).ownBlock ∧ some k_ ≠ ((.slice Ao383 t594.length co383) : Value).ownBlock ∧ some k_ ≠ ((.slice Ao391 t600.length co391) : Value).ownBlock) (.slice Ao368 t581.length co368) t581) ∧ Aside0 (Kd.R (Kd.int .i64) 3 wc w.heap.size (fun k_ => some k_ ≠ ((.slice Ao368 t581.length co368) : Value).ownBlock ∧ some k_ ≠ ((.slice Ao383 t594.length co383) : Value).ownBlock ∧ some k_ ≠ ((.slice Ao391 t600.length co391) : Value).ownBlock) (.slice Ao375 t587.length co375) t587) ∧ Aside0 (Kd.R (Kd.int .i64) 3 wc w.heap.size (fun k_ => some k_ ≠ ((.slice Ao368 t581.length co368) : Value).ownBlock ∧ some k_ ≠ ((.slice Ao375 t587.length co375) : Value).ownBlock ∧ some k_ ≠ ((.slice Ao391 t600.length co391) : Value).ownBlock) (.slice Ao383 t594.length co383) t594) ∧ Aside0 (Kd.R (Kd.int .i64) 3 wc w.heap.size (fun k_ => some k_ ≠ ((.slice Ao368 t581.length co368) : Value).ownBlock ∧ some k_ ≠ ((.slice Ao375 t587.length co375) : Value).ownBlock ∧ some k_ ≠ ((.slice Ao383 t594.length co383) : Value).ownBlock) (.slice Ao391 t600.length co391) t600) ∧ Aside0 (wc.heap[gb504]? = some (.cells #[(.slice Ao21 t496.length co21), .int .i64 t499] 26 (0, 0))) ∧ Aside0 (wc.heap[gb580]? = some (.cells #[(.slice Ao363 t574.length co363), .int .i64 t577] 26 (0, 0))) ∧ Aside0 (wc.heap[gb586]? = some (.cells #[(.slice Ao368 t581.length co368), .int .i64 t584] 26 (0, 0))) ∧ Aside0 (wc.heap[gb592]? = some (.cells #[(.slice Ao375 t587.length co375), .int .i64 t590] 26 (0, 0))) ∧ Aside0 (wc.heap[gb599]? = some (.cells #[(.slice Ao383 t594.length co383), .int .i64 t597] 26 (0, 0))) ∧ Aside0 (wc.heap[gb605]? = some (.cells #[(.slice Ao391 t600.length co391), .int .i64 t603] 26 (0, 0))) ∧ Aside0 (Below w.heap.size w wc))
         case first => as_aux_lemma =>
          have H := HC360.out
          clear HC360
          by_cases c398 : (t585 != t591) = true
          ·rw [if_pos c398] at H
           exact (laws_FnShelvesEaten.j10_no _ _ _ _ _ _ _ _ _ _ _ _ _ hrT H).elim
          rw [if_neg c398] at H
          obtain rfl : t585 = t591 := by simpa using c398
          clear c398
          replace H := bqz_ H; obtain ⟨t606, A399, H⟩ := H
          replace H : (if t606 = true then (if (t598 != t604) = true then (j10 kj317 t578 t579 t585 t593 t598 true t574 t577 t581 t584 t594 t597) else ((laws_fShelf.f kj317 t594 t597 t600 t603).bind fun t607 => (j10 kj317 t578 t579 t585 t593 t598 (!t607) t574 t577 t581 t584 t594 t597))) else (j10 kj317 t578 t579 t585 t593 t598 true t574 t577 t581 t584 t594 t597)) = some r := H
          by_cases c400 : t606 = true; rotate_left
          ·replace c400 := Bool.eq_false_iff.mpr c400
           subst c400
           have H1 : (j10 kj317 t578 t579 t585 t593 t598 true t574 t577 t581 t584 t594 t597) = some r := by rw [if_neg (show ¬ (false = true) by decide)] at H; exact H
           clear H
           have H := H1
           exact (laws_FnShelvesEaten.j10_no _ _ _ _ _ _ _ _ _ _ _ _ _ hrT H).elim
          subst c400
          rw [if_pos rfl] at H
          by_cases c401 : (t598 != t604) = true
          ·rw [if_pos c401] at H
           exact (laws_FnShelvesEaten.j10_no _ _ _ _ _ _ _ _ _ _ _ _ _ hrT H).elim
          rw [if_neg c401] at H
          obtain rfl : t598 = t604 := by simpa using c401
          clear c401
          replace H := bqz_ H; obtain ⟨t607, A414, H⟩ := H
          replace H : (j10 kj317 t578 t579 t585 t593 t598 (!t607) t574 t577 t581 t584 t594 t597) = some r := H
          have H' := Az_ H
          clear H
          have hnb415 := NB586_504.out
          have hnc415 := NB504_586.out
          have hnb416 := NB586_580.out
          have hnc416 := NB580_586.out
          have hnb417 := NB586_592.out
          have hnc417 := NB592_586.out
          have hnb418 := NB586_599.out
          have hnc418 := NB599_586.out
          have hnb419 := NB586_605.out
          have hnc419 := NB605_586.out
          have hcz420_0 : w390.cell? ⟨gb586, 0, none⟩ = some (.slice Ao368 t581.length co368) := (blk_cell BK586.out 0).trans rfl
          have hcz420_1 : w390.cell? ⟨gb586, 1, none⟩ = some (.int .i64 t584) := (blk_cell BK586.out 1).trans rfl
          have hfz420_0 := blk_frozen BK586.out 0
          have hfz420_1 := blk_frozen BK586.out 1
          have hnb421 := NB592_504.out
          have hnc421 := NB504_592.out
          have hnb422 := NB592_580.out
          have hnc422 := NB580_592.out
          have hnb423 := NB592_599.out
          have hnc423 := NB599_592.out
          have hnb424 := NB592_605.out
          have hnc424 := NB605_592.out
          have hcz425_0 : w390.cell? ⟨gb592, 0, none⟩ = some (.slice Ao375 t587.length co375) := (blk_cell BK592.out 0).trans rfl
          have hcz425_1 : w390.cell? ⟨gb592, 1, none⟩ = some (.int .i64 t590) := (blk_cell BK592.out 1).trans rfl
          have hfz425_0 := blk_frozen BK592.out 0
          have hfz425_1 := blk_frozen BK592.out 1
          go_wp2_with (first | (go_at_call 25; (with_reducible refine (laws_fShelf.calls kj317 _ _ t581 t584 _ _ t587 t590 true _ ?side1 ?side2 ?side3 ?side4 A399.out).mono ?_); (case side1 => refine (Kd.R_reads' (e := 3) (base := w.heap.size) (ok := fun k_ => (((True ∧ some k_ ≠ (.slice Ao375 t587.length co375 : Value).ownBlock) ∧ some k_ ≠ (.slice Ao383 t594.length co383 : Value).ownBlock) ∧ some k_ ≠ (.slice Ao391 t600.length co391 : Value).ownBlock)) (n := t581.length) (c := co368) ?_).2.2; exact (w18_)); (case side2 => exact (Kd.R_reads' HO583.out).2.1); (case side3 => refine (Kd.R_reads' (e := 3) (base := w.heap.size) (ok := fun k_ => (((True ∧ some k_ ≠ (.slice Ao368 t581.length co368 : Value).ownBlock) ∧ some k_ ≠ (.slice Ao383 t594.length co383 : Value).ownBlock) ∧ some k_ ≠ (.slice Ao391 t600.length co391 : Value).ownBlock)) (n := t587.length) (c := co375) ?_).2.2; exact (w19_)); (case side4 => exact (Kd.R_reads' HO589.out).2.1); rintro e w426 ⟨rfl, hb⟩; replace HO_505000 := Az_ (Kd.V_below (by (with_reducible repeat (first | apply Kd.V_alloc | apply Kd.V_drewN | apply Kd.V_drew)); exact (Kd.V_mono (Kd.V_far (p := ⟨gb605, 1, none⟩) (Kd.V_far (p := ⟨gb605, 0, none⟩) (Kd.V_mono HO_505000.out (fun k_ hk => (⟨hk, hk.2⟩ : _ ∧ k_ ≠ gb605))) (fun _ hk => hk.2) (.slice Ao391 t600.length co391)) (fun _ hk => hk.2) (.int .i64 t603)) (fun _ h_ => h_.1))) hb); replace HO576 := Az_ (Kd.V_below (by (with_reducible repeat (first | apply Kd.V_alloc | apply Kd.V_drewN | apply Kd.V_drew)); exact (Kd.V_mono (Kd.V_far (p := ⟨gb605, 1, none⟩) (Kd.V_far (p := ⟨gb605, 0, none⟩) (Kd.V_mono HO576.out (fun k_ hk => (⟨hk, hk.2⟩ : _ ∧ k_ ≠ gb605))) (fun _ hk => hk.2) (.slice Ao391 t600.length co391)) (fun _ hk => hk.2) (.int .i64 t603)) (fun _ h_ => h_.1))) hb); replace HO583 := Az_ (Kd.R_below (w18_) hb); replace HO589 := Az_ (Kd.R_below (w19_) hb); replace HO596 := Az_ (Kd.R_below (by (with_reducible repeat (first | apply raz_ | apply rnz_ | apply rdz_)); exact (Kd.R_mono (Kd.R_far (p := ⟨gb605, 1, none⟩) (Kd.R_far (p := ⟨gb605, 0, none⟩) (Kd.R_types HO596.out BK605.out (by decide)) (fun _ hk => hk.2) (.slice Ao391 t600.length co391)) (fun _ hk => hk.2) (.int .i64 t603)) (fun _ h_ => h_.1))) hb); replace HO602 := Az_ (Kd.R_below (by (with_reducible repeat (first | apply raz_ | apply rnz_ | apply rdz_)); exact (Kd.R_mono (Kd.R_far (p := ⟨gb605, 1, none⟩) (Kd.R_far (p := ⟨gb605, 0, none⟩) (Kd.R_types HO602.out BK605.out (by decide)) (fun _ hk => hk.2) (.slice Ao391 t600.length co391)) (fun _ hk => hk.2) (.int .i64 t603)) (fun _ h_ => h_.1))) hb); replace BK504 := Az_ (kbz_ (g := gb504) (o := .cells #[.slice Ao21 t496.length co21, .int .i64 t499] 26 (0, 0)) (by (with_reducible repeat (first | refine knz_ ?_ _ | refine kdz_ ?_ | refine kaz_ ?_ _)); refine blk_far ?_ NB504_605.out _; (with_reducible repeat (first | refine knz_ ?_ _ | refine kdz_ ?_ | refine kaz_ ?_ _)); refine blk_far ?_ NB504_605.out _; (with_reducible repeat (first | refine knz_ ?_ _ | refine kdz_ ?_ | refine kaz_ ?_ _)); exact BK504.out) hb); replace BK580 := Az_ (kbz_ (g := gb580) (o := .cells #[.slice Ao363 t574.length co363, .int .i64 t577] 26 (0, 0)) (by (with_reducible repeat (first | refine knz_ ?_ _ | refine kdz_ ?_ | refine kaz_ ?_ _)); refine blk_far ?_ NB580_605.out _; (with_reducible repeat (first | refine knz_ ?_ _ | refine kdz_ ?_ | refine kaz_ ?_ _)); refine blk_far ?_ NB580_605.out _; (with_reducible repeat (first | refine knz_ ?_ _ | refine kdz_ ?_ | refine kaz_ ?_ _)); exact BK580.out) hb); replace BK586 := Az_ (kbz_ (g := gb586) (o := .cells #[.slice Ao368 t581.length co368, .int .i64 t584] 26 (0, 0)) (by (with_reducible repeat (first | refine knz_ ?_ _ | refine kdz_ ?_ | refine kaz_ ?_ _)); refine blk_far ?_ NB586_605.out _; (with_reducible repeat (first | refine knz_ ?_ _ | refine kdz_ ?_ | refine kaz_ ?_ _)); refine blk_far ?_ NB586_605.out _; (with_reducible repeat (first | refine knz_ ?_ _ | refine kdz_ ?_ | refine kaz_ ?_ _)); exact BK586.out) hb); replace BK592 := Az_ (kbz_ (g := gb592) (o := .cells #[.slice Ao375 t587.length co375, .int .i64 t590] 26 (0, 0)) (by (with_reducible repeat (first | refine knz_ ?_ _ | refine kdz_ ?_ | refine kaz_ ?_ _)); refine blk_far ?_ NB592_605.out _; (with_reducible repeat (first | refine knz_ ?_ _ | refine kdz_ ?_ | refine kaz_ ?_ _)); refine blk_far ?_ NB592_605.out _; (with_reducible repeat (first | refine knz_ ?_ _ | refine kdz_ ?_ | refine kaz_ ?_ _)); exact BK592.out) hb); replace BK599 := Az_ (kbz_ (g := gb599) (o := .cells #[.slice Ao383 t594.length co383, .int .i64 t597] 26 (0, 0)) (by (with_reducible repeat (first | refine knz_ ?_ _ | refine kdz_ ?_ | refine kaz_ ?_ _)); refine blk_far ?_ NB599_605.out _; (with_reducible repeat (first | refine knz_ ?_ _ | refine kdz_ ?_ | refine kaz_ ?_ _)); refine blk_far ?_ NB599_605.out _; (with_reducible repeat (first | refine knz_ ?_ _ | refine kdz_ ?_ | refine kaz_ ?_ _)); exact BK599.out) hb); replace BK605 := Az_ (kbz_ (g := gb605) (o := .cells #[.slice Ao391 t600.length co391, .int .i64 t603] 26 (0, 0)) (by (with_reducible repeat (first | refine knz_ ?_ _ | refine kdz_ ?_ | refine kaz_ ?_ _)); refine blk_put (cs := #[.slice Ao391 t600.length co391, .int .i64 0]) ?_ 1 _ rfl; (with_reducible repeat (first | refine knz_ ?_ _ | refine kdz_ ?_ | refine kaz_ ?_ _)); refine blk_put (cs := #[.slice none 0 0, .int .i64 0]) ?_ 0 _ rfl; (with_reducible repeat (first | refine knz_ ?_ _ | refine kdz_ ?_ | refine kaz_ ?_ _)); exact BK605.out) hb); replace HB := Az_ (btz_ (w52_) hb); (try clear hb); have hnb427 := NB599_504.out; have hnc427 := NB504_599.out; have hnb428 := NB599_580.out; have hnc428 := NB580_599.out; have hnb429 := NB599_605.out; have hnc429 := NB605_599.out; have hcz430_0 : w426.cell? ⟨gb599, 0, none⟩ = some (.slice Ao383 t594.length co383) := (blk_cell BK599.out 0).trans rfl; have hcz430_1 : w426.cell? ⟨gb599, 1, none⟩ = some (.int .i64 t597) := (blk_cell BK599.out 1).trans rfl; have hfz430_0 := blk_frozen BK599.out 0; have hfz430_1 := blk_frozen BK599.out 1; have hnb431 := NB605_504.out; have hnc431 := NB504_605.out; have hnb432 := NB605_580.out; have hnc432 := NB580_605.out; have hcz433_0 : w426.cell? ⟨gb605, 0, none⟩ = some (.slice Ao391 t600.length co391) := (blk_cell BK605.out 0).trans rfl; have hcz433_1 : w426.cell? ⟨gb605, 1, none⟩ = some (.int .i64 t603) := (blk_cell BK605.out 1).trans rfl; have hfz433_0 := blk_frozen BK605.out 0; have hfz433_1 := blk_frozen BK605.out 1; clear A399) | (go_at_call 25; (with_reducible refine (laws_fShelf.calls kj317 _ _ t594 t597 _ _ t600 t603 t607 _ ?side1 ?side2 ?side3 ?side4 A414.out).mono ?_); (case side1 => exact ucz_ ((Kd.R_reads' HO596.out).2.2)); (case side2 => exact (Kd.R_reads' HO596.out).2.1); (case side3 => exact ucz_ ((Kd.R_reads' HO602.out).2.2)); (case side4 => exact (Kd.R_reads' HO602.out).2.1); rintro e w434 ⟨rfl, hb⟩; have n0_ := Az_ (Kd.V_below (w59_) hb); have n1_ := Az_ (Kd.V_below (w64_) hb); have n2_ := Az_ (Kd.R_below (by exact urz_ HO583.out) hb); have n3_ := Az_ (Kd.R_below (by exact urz_ HO589.out) hb); have n4_ := Az_ (Kd.R_below (by exact urz_ HO596.out) hb); have n5_ := Az_ (Kd.R_below (by exact urz_ HO602.out) hb); have n12_ := Az_ (btz_ (w52_) hb); clear HO_505000; clear HO576; clear HO583; clear HO589; clear HO596; clear HO602; clear HB; have HO_505000 := n0_; have HO576 := n1_; have HO583 := n2_; have HO589 := n3_; have HO596 := n4_; have HO602 := n5_; replace BK504 := Az_ (ukbz_ BK504.out hb); replace BK580 := Az_ (ukbz_ BK580.out hb); replace BK586 := Az_ (ukbz_ BK586.out hb); replace BK592 := Az_ (ukbz_ BK592.out hb); replace BK599 := Az_ (ukbz_ BK599.out hb); replace BK605 := Az_ (ukbz_ BK605.out hb); have HB := n12_; clear n0_ n1_ n2_ n3_ n4_ n5_ n12_; (try clear hb)))
          go_meet
          case rel => exact ⟨_, (!t607), qaz_, H', ⟨by have := HJ17.out; have := HJ172.out; have := HJ214.out; have := HJ317.out; first | omega | exact Nat.le_refl _⟩, ⟨by (with_reducible repeat (first | apply Kd.V_alloc | apply Kd.V_drewN | apply Kd.V_drew)); exact Kd.V_mono HO_505000.out (fun _ hk => ⟨hk.1.1.1.1.1.1.1.2, ⟨hk.1.1.1.1.1.2, ⟨hk.1.1.1.2, ⟨hk.1.2, ⟨hk.1.1.1.1.1.1.1.1.1, ⟨hk.1.1.1.1.1.1.1.1.2, ⟨hk.1.1.1.1.1.1.2, ⟨hk.1.1.1.1.2, ⟨hk.1.1.2, hk.2⟩⟩⟩⟩⟩⟩⟩⟩⟩)⟩, ⟨by (with_reducible repeat (first | apply Kd.V_alloc | apply Kd.V_drewN | apply Kd.V_drew)); exact Kd.V_mono HO576.out (fun _ hk => ⟨hk.1.1.1.1.1.1.1.2, ⟨hk.1.1.1.1.1.2, ⟨hk.1.1.1.2, ⟨hk.1.2, ⟨hk.1.1.1.1.1.1.1.1.1, ⟨hk.1.1.1.1.1.1.1.1.2, ⟨hk.1.1.1.1.1.1.2, ⟨hk.1.1.1.1.2, ⟨hk.1.1.2, hk.2⟩⟩⟩⟩⟩⟩⟩⟩⟩)⟩, ⟨by (with_reducible repeat (first | apply raz_ | apply rnz_ | apply rdz_)); exact Kd.R_mono HO583.out (fun _ hk => ⟨hk.1.1.2, ⟨hk.1.2, hk.2⟩⟩)⟩, ⟨by (with_reducible repeat (first | apply raz_ | apply rnz_ | apply rdz_)); exact Kd.R_mono HO589.out (fun _ hk => ⟨hk.1.1.2, ⟨hk.1.2, hk.2⟩⟩)⟩, ⟨by (with_reducible repeat (first | apply raz_ | apply rnz_ | apply rdz_)); exact Kd.R_mono HO596.out (fun _ hk => ⟨hk.1.1.2, ⟨hk.1.2, hk.2⟩⟩)⟩, ⟨by (with_reducible repeat (first | apply raz_ | apply rnz_ | apply rdz_)); exact Kd.R_mono HO602.out (fun _ hk => ⟨hk.1.1.2, ⟨hk.1.2, hk.2⟩⟩)⟩, ⟨w71_⟩, ⟨by (with_reducible repeat (first | refine knz_ ?_ _ | refine kdz_ ?_ | refine kaz_ ?_ _)); exact BK580.out⟩, ⟨by (with_reducible repeat (first | refine knz_ ?_ _ | refine kdz_ ?_ | refine kaz_ ?_ _)); exact BK586.out⟩, ⟨by (with_reducible repeat (first | refine knz_ ?_ _ | refine kdz_ ?_ | refine kaz_ ?_ _)); exact BK592.out⟩, ⟨by (with_reducible repeat (first | refine knz_ ?_ _ | refine kdz_ ?_ | refine kaz_ ?_ _)); exact BK599.out⟩, ⟨by (with_reducible repeat (first | refine knz_ ?_ _ | refine kdz_ ?_ | refine kaz_ ?_ _)); exact BK605.out⟩, ⟨w52_⟩⟩
         case rest => as_aux_lemma =>
          clear HC360
          clear hcz365_0 hcz365_1 hcz371_0 hcz371_1 hcz372_0 hcz372_1 hcz379_0 hcz379_1 hcz388_0 hcz388_1 hcz397_0 hcz397_1 hfz365_0 hfz365_1 hfz371_0 hfz371_1 hfz372_0 hfz372_1 hfz379_0 hfz379_1 hfz388_0 hfz388_1 hfz397_0 hfz397_1
          obtain ⟨kq, x622_359, rfl, HA, HJ359, HO_505000, HO_581000, HO_587000, HO_593000, HO_600000, HO_606000, BK504, BK580, BK586, BK592, BK599, BK605, HB⟩ := hcut
          cases kq with
          | zero => exact absurd HA.out (by simp [j10])
          | succ kj359 =>
           have H := HA.out
           clear HA
           simp only [j10] at H
           by_cases c447 : x622_359 = true
           ·subst c447
            rw [if_pos rfl] at H
            exact absurd ((Option.some.inj H).trans hrT) (by decide)
           replace c447 := Bool.eq_false_iff.mpr c447
           subst c447
           rw [if_neg nfz_] at H
           by_cases c448 : t585 = true; rotate_left
           ·replace c448 := Bool.eq_false_iff.mpr c448
            subst c448
            rw [if_neg nfz_] at H
            by_cases c558 : t598 = true; rotate_left
            ·replace c558 := Bool.eq_false_iff.mpr c558
             subst c558
             rw [if_neg nfz_] at H
             obtain rfl := Option.some.inj H; clear hrT
             go_wp2
             go_ret
             exact ⟨w74_, w52_⟩
            subst c558
            rw [if_pos rfl] at H
            replace H := bqz_ H; obtain ⟨⟨t621, t622⟩, A559, H⟩ := H
            replace H : (if t622 = true then (some (t621.toList == t593.toList)) else (some false)) = some r := H
            by_cases c560 : t622 = true; rotate_left
            ·replace c560 := Bool.eq_false_iff.mpr c560
             subst c560
             rw [if_neg nfz_] at H
             exact absurd ((Option.some.inj H).trans hrT) (by decide)
            subst c560
            rw [if_pos rfl] at H
            obtain rfl := Option.some.inj H; clear hrT
            have hnb561 := NB599_504.out
            have hnc561 := NB504_599.out
            have hnb562 := NB599_580.out
            have hnc562 := NB580_599.out
            have hnb563 := NB599_586.out
            have hnc563 := NB586_599.out
            have hnb564 := NB599_592.out
            have hnc564 := NB592_599.out
            have hnb565 := NB599_605.out
            have hnc565 := NB605_599.out
            have hcz566_0 : wc.cell? ⟨gb599, 0, none⟩ = some (.slice Ao383 t594.length co383) := (blk_cell BK599.out 0).trans rfl
            have hcz566_1 : wc.cell? ⟨gb599, 1, none⟩ = some (.int .i64 t597) := (blk_cell BK599.out 1).trans rfl
            have hfz566_0 := blk_frozen BK599.out 0
            have hfz566_1 := blk_frozen BK599.out 1
            go_wp2_with (((with_reducible refine gate_callee (f := 16) rfl ?_); refine goesL_ (some 665) rfl rfl Tryz.func16 (w94_) rfl #[.agg #[.slice Ao383 t594.length co383, .int .i64 t597]] rfl maz_ ?_; (with_reducible refine (impl_ShelfText.calls kj359 _ _ t594 t597 t621 true _ (libW_below HTAB.out (w52_)) ?side1 ?side2 A559.out).mono ?_); (case side1 => exact ucz_ ((Kd.R_reads' HO_600000.out).2.2)); (case side2 => exact (Kd.R_reads' HO_600000.out).2.1); rintro e w567 ⟨rfl, hb⟩; refine ⟨_, rfl, ?_⟩; have n0_ := Az_ (Kd.V_below (w59_) hb); have n1_ := Az_ (Kd.V_below (w60_) hb); have n2_ := Az_ (Kd.R_below (w81_) hb); have n3_ := Az_ (Kd.R_below (w82_) hb); have n4_ := Az_ (Kd.R_below (w83_) hb); have n5_ := Az_ (Kd.R_below (w84_) hb); have n12_ := Az_ (btz_ (w52_) hb); clear HO_505000; clear HO_581000; clear HO_587000; clear HO_593000; clear HO_600000; clear HO_606000; clear HB; have HO_505000 := n0_; have HO_581000 := n1_; have HO_587000 := n2_; have HO_593000 := n3_; have HO_600000 := n4_; have HO_606000 := n5_; replace BK504 := Az_ (ukbz_ BK504.out hb); replace BK580 := Az_ (ukbz_ BK580.out hb); replace BK586 := Az_ (ukbz_ BK586.out hb); replace BK592 := Az_ (ukbz_ BK592.out hb); replace BK599 := Az_ (ukbz_ BK599.out hb); replace BK605 := Az_ (ukbz_ BK605.out hb); have HB := n12_; clear n0_ n1_ n2_ n3_ n4_ n5_ n12_; (try clear hb)))
            go_ret
            exact ⟨w74_, w52_⟩
           subst c448
           rw [if_pos rfl] at H
           replace H := bqz_ H; obtain ⟨⟨t608, t611, t612⟩, A449, H⟩ := H
           replace H := bqz_ H; obtain ⟨⟨t614, t615⟩, A450, H⟩ := H
           replace H := bqz_ H; obtain ⟨⟨t616, t617⟩, A451, H⟩ := H
           replace H : (if t612 = true then ((laws_fShelf.f kj359 t608 t611 t574 t577).bind fun t618 => (if t618 = true then (if t615 = true then (if t617 = true then (j11 kj359 t593 t598 (t614 != t616) t594 t597) else (j11 kj359 t593 t598 true t594 t597)) else (j11 kj359 t593 t598 true t594 t597)) else (j11 kj359 t593 t598 true t594 t597))) else (j11 kj359 t593 t598 true t594 t597)) = some r := H
           have HC452 := Az_ H
           clear H
           have hnb453 := NB586_504.out
           have hnc453 := NB504_586.out
           have hnb454 := NB586_580.out
           have hnc454 := NB580_586.out
           have hnb455 := NB586_592.out
           have hnc455 := NB592_586.out
           have hnb456 := NB586_599.out
           have hnc456 := NB599_586.out
           have hnb457 := NB586_605.out
           have hnc457 := NB605_586.out
           have hcz458_0 : wc.cell? ⟨gb586, 0, none⟩ = some (.slice Ao368 t581.length co368) := (blk_cell BK586.out 0).trans rfl
           have hcz458_1 : wc.cell? ⟨gb586, 1, none⟩ = some (.int .i64 t584) := (blk_cell BK586.out 1).trans rfl
           have hfz458_0 := blk_frozen BK586.out 0
           have hfz458_1 := blk_frozen BK586.out 1
           go_upto_region 75 with (first | ((with_reducible refine gate_callee (f := 28) rfl ?_); refine goesL_ (some 628) rfl rfl Tryz.func28 (w94_) rfl #[.agg #[.slice Ao368 t581.length co368, .int .i64 t584], .int .i64 t578, .int .i64 t579] rfl maz_ ?_; (with_reducible refine (impl_SwapVolumes.calls kj359 _ _ t581 t584 t578 t579 t608 t611 t612 _ ?side1 ?side2 A449.out).mono ?_); (case side1 => exact ucz_ ((Kd.R_reads' HO_587000.out).2.2)); (case side2 => exact (Kd.R_reads' HO_587000.out).2.1); rintro e w459 ⟨v609, rfl, ho0, hb⟩; refine ⟨_, rfl, ?_⟩; have n0_ := Az_ (Kd.V_elder' (w59_) (Kd.R_base ho0) hb); have n1_ := Az_ (Kd.V_elder' (w60_) (Kd.R_base ho0) hb); have n2_ := Az_ (rez_ (w81_) (Kd.R_base ho0) hb); have n3_ := Az_ (rez_ (w82_) (Kd.R_base ho0) hb); have n4_ := Az_ (rez_ (w83_) (Kd.R_base ho0) hb); have n5_ := Az_ (rez_ (w84_) (Kd.R_base ho0) hb); have n6_ := Az_ (Kd.R_lower (Kd.R_new' (Kd.R_new' (Kd.R_new' (Kd.R_new' ho0 (Kd.R_lt (w81_))) (Kd.R_lt (w82_))) (Kd.R_lt (w83_))) (Kd.R_lt (w84_))) (below_size (w52_))); have n13_ := Az_ (btz_ (w52_) hb); clear HO_505000; clear HO_581000; clear HO_587000; clear HO_593000; clear HO_600000; clear HO_606000; clear HB; have HO_505000 := n0_; have HO_581000 := n1_; have HO_587000 := n2_; have HO_593000 := n3_; have HO_600000 := n4_; have HO_606000 := n5_; have HO610 := n6_; replace BK504 := Az_ (ukbz_ BK504.out hb); replace BK580 := Az_ (ukbz_ BK580.out hb); replace BK586 := Az_ (ukbz_ BK586.out hb); replace BK592 := Az_ (ukbz_ BK592.out hb); replace BK599 := Az_ (ukbz_ BK599.out hb); replace BK605 := Az_ (ukbz_ BK605.out hb); have HB := n13_; clear n0_ n1_ n2_ n3_ n4_ n5_ n6_ n13_; (try clear hb); (try clear ho0)) | ((with_reducible refine gate_dst (N := 77) rfl ?_); (try (refine gate_guard (by rfl) ?_; dsimp only)); refine box_event ?hg (N := 77) ?hd (cs := #[.slice none 0 0, .int .i64 0]) (t := 26) ?hr ?_; (case hd => rfl); (case hg => rfl); (case hr => first | (go_simp; done) | (go_simp; rfl)); intro gb613 hg w460 hbox hb; have n0_ := Az_ (Kd.V_below (Kd.V_elderB (w59_) gb613 (Nat.le_of_eq hg.symm)) hb); have n1_ := Az_ (Kd.V_below (Kd.V_elderB (w60_) gb613 (Nat.le_of_eq hg.symm)) hb); have n2_ := Az_ (Kd.R_below (w81_) hb); have n3_ := Az_ (Kd.R_below (w82_) hb); have n4_ := Az_ (Kd.R_below (w83_) hb); have n5_ := Az_ (Kd.R_below (w84_) hb); have n6_ := Az_ (Kd.R_below (by exact urz_ HO610.out) hb); have n13_ := Az_ (btz_ (w52_) hb); have n14_ := Az_ (hbox); have n15_ := Az_ ((by rw [hg]; exact (below_size (w52_)) : w.heap.size ≤ gb613)); have n16_ := Az_ ((by rw [hg]; exact (below_size (w52_)) : w.heap.size ≤ gb613)); have n17_ := Az_ ((by rw [hg]; exact Nat.ne_of_lt (uklz_ BK504.out) : gb504 ≠ gb613)); have n18_ := Az_ ((by rw [hg]; exact Nat.ne_of_gt (uklz_ BK504.out) : gb613 ≠ gb504)); have n19_ := Az_ ((by rw [hg]; exact Nat.ne_of_lt (uklz_ BK580.out) : gb580 ≠ gb613)); have n20_ := Az_ ((by rw [hg]; exact Nat.ne_of_gt (uklz_ BK580.out) : gb613 ≠ gb580)); have n21_ := Az_ ((by rw [hg]; exact Nat.ne_of_lt (uklz_ BK586.out) : gb586 ≠ gb613)); have n22_ := Az_ ((by rw [hg]; exact Nat.ne_of_gt (uklz_ BK586.out) : gb613 ≠ gb586)); have n23_ := Az_ ((by rw [hg]; exact Nat.ne_of_lt (uklz_ BK592.out) : gb592 ≠ gb613)); have n24_ := Az_ ((by rw [hg]; exact Nat.ne_of_gt (uklz_ BK592.out) : gb613 ≠ gb592)); have n25_ := Az_ ((by rw [hg]; exact Nat.ne_of_lt (uklz_ BK599.out) : gb599 ≠ gb613)); have n26_ := Az_ ((by rw [hg]; exact Nat.ne_of_gt (uklz_ BK599.out) : gb613 ≠ gb599)); have n27_ := Az_ ((by rw [hg]; exact Nat.ne_of_lt (uklz_ BK605.out) : gb605 ≠ gb613)); have n28_ := Az_ ((by rw [hg]; exact Nat.ne_of_gt (uklz_ BK605.out) : gb613 ≠ gb605)); clear HO_505000; clear HO_581000; clear HO_587000; clear HO_593000; clear HO_600000; clear HO_606000; clear HO610; clear HB; have HO_505000 := n0_; have HO_581000 := n1_; have HO_587000 := n2_; have HO_593000 := n3_; have HO_600000 := n4_; have HO_606000 := n5_; have HO610 := n6_; replace BK504 := Az_ (ukbz_ BK504.out hb); replace BK580 := Az_ (ukbz_ BK580.out hb); replace BK586 := Az_ (ukbz_ BK586.out hb); replace BK592 := Az_ (ukbz_ BK592.out hb); replace BK599 := Az_ (ukbz_ BK599.out hb); replace BK605 := Az_ (ukbz_ BK605.out hb); have HB := n13_; have BK613 := n14_; have GW613 := n15_; have GE613 := n16_; have NB504_613 := n17_; have NB613_504 := n18_; have NB580_613 := n19_; have NB613_580 := n20_; have NB586_613 := n21_; have NB613_586 := n22_; have NB592_613 := n23_; have NB613_592 := n24_; have NB599_613 := n25_; have NB613_599 := n26_; have NB605_613 := n27_; have NB613_605 := n28_; clear n0_ n1_ n2_ n3_ n4_ n5_ n6_ n13_ n14_ n15_ n16_ n17_ n18_ n19_ n20_ n21_ n22_ n23_ n24_ n25_ n26_ n27_ n28_; clear hb hbox hg; obtain ⟨Ao461, co461, eo461⟩ := Kd.R_slice HO610.out; subst eo461; have hnb462 := NB613_504.out; have hnc462 := NB504_613.out; have hnb463 := NB613_580.out; have hnc463 := NB580_613.out; have hnb464 := NB613_586.out; have hnc464 := NB586_613.out; have hnb465 := NB613_592.out; have hnc465 := NB592_613.out; have hnb466 := NB613_599.out; have hnc466 := NB599_613.out; have hnb467 := NB613_605.out; have hnc467 := NB605_613.out; have hcz468_0 : w460.cell? ⟨gb613, 0, none⟩ = some (.slice none 0 0) := (blk_cell BK613.out 0).trans rfl; have hcz468_1 : w460.cell? ⟨gb613, 1, none⟩ = some (.int .i64 0) := (blk_cell BK613.out 1).trans rfl; have hfz468_0 := blk_frozen BK613.out 0; have hfz468_1 := blk_frozen BK613.out 1; have hnb469 := NB580_504.out; have hnc469 := NB504_580.out; have hnb470 := NB580_592.out; have hnc470 := NB592_580.out; have hnb471 := NB580_599.out; have hnc471 := NB599_580.out; have hnb472 := NB580_605.out; have hnc472 := NB605_580.out; have hcz473_0 : w460.cell? ⟨gb580, 0, none⟩ = some (.slice Ao363 t574.length co363) := (blk_cell BK580.out 0).trans rfl; have hcz473_1 : w460.cell? ⟨gb580, 1, none⟩ = some (.int .i64 t577) := (blk_cell BK580.out 1).trans rfl; have hfz473_0 := blk_frozen BK580.out 0; have hfz473_1 := blk_frozen BK580.out 1) | ((with_reducible refine gate_callee (f := 12) rfl ?_); refine goesL_ (some 633) rfl rfl Tryz.func12 (w94_) rfl #[.agg #[.slice Ao363 t574.length co363, .int .i64 t577]] rfl maz_ ?_; (with_reducible refine (impl_WidthOf.calls kj359 _ _ t574 t577 t614 t615 _ ?side1 ?side2 A450.out).mono ?_); (case side1 => refine (Kd.V_reads' (e := 3) (base := w.heap.size) (ok := fun k_ => (((some k_ ≠ (.slice Ao368 t581.length co368 : Value).ownBlock ∧ (some k_ ≠ (.slice Ao375 t587.length co375 : Value).ownBlock ∧ (some k_ ≠ (.slice Ao383 t594.length co383 : Value).ownBlock ∧ (some k_ ≠ (.slice Ao391 t600.length co391 : Value).ownBlock ∧ (k_ ≠ gb504 ∧ (k_ ≠ gb580 ∧ (k_ ≠ gb586 ∧ (k_ ≠ gb592 ∧ (k_ ≠ gb599 ∧ k_ ≠ gb605))))))))) ∧ some k_ ≠ (.slice Ao461 t608.length co461 : Value).ownBlock) ∧ k_ ≠ gb613)) (n := t574.length) (c := co363) ?_).2.2; exact (w6_)); (case side2 => exact (Kd.V_reads' HO_581000.out).2.1); rintro e w474 ⟨rfl, hb⟩; refine ⟨_, rfl, ?_⟩; replace HO_505000 := Az_ (Kd.V_below (by (with_reducible repeat (first | apply Kd.V_alloc | apply Kd.V_drewN | apply Kd.V_drew)); exact (Kd.V_mono (Kd.V_far (p := ⟨gb613, 1, none⟩) (Kd.V_far (p := ⟨gb613, 0, none⟩) (Kd.V_mono HO_505000.out (fun k_ hk => (⟨hk, hk.2⟩ : _ ∧ k_ ≠ gb613))) (fun _ hk => hk.2) (.slice Ao461 t608.length co461)) (fun _ hk => hk.2) (.int .i64 t611)) (fun _ h_ => h_.1))) hb); replace HO_581000 := Az_ (Kd.V_below (w6_) hb); replace HO_587000 := Az_ (Kd.R_below (by (with_reducible repeat (first | apply raz_ | apply rnz_ | apply rdz_)); exact (Kd.R_mono (Kd.R_far (p := ⟨gb613, 1, none⟩) (Kd.R_far (p := ⟨gb613, 0, none⟩) (Kd.R_types HO_587000.out BK613.out (by decide)) (fun _ hk => hk.2) (.slice Ao461 t608.length co461)) (fun _ hk => hk.2) (.int .i64 t611)) (fun _ h_ => h_.1))) hb); replace HO_593000 := Az_ (Kd.R_below (by (with_reducible repeat (first | apply raz_ | apply rnz_ | apply rdz_)); exact (Kd.R_mono (Kd.R_far (p := ⟨gb613, 1, none⟩) (Kd.R_far (p := ⟨gb613, 0, none⟩) (Kd.R_types HO_593000.out BK613.out (by decide)) (fun _ hk => hk.2) (.slice Ao461 t608.length co461)) (fun _ hk => hk.2) (.int .i64 t611)) (fun _ h_ => h_.1))) hb); replace HO_600000 := Az_ (Kd.R_below (by (with_reducible repeat (first | apply raz_ | apply rnz_ | apply rdz_)); exact (Kd.R_mono (Kd.R_far (p := ⟨gb613, 1, none⟩) (Kd.R_far (p := ⟨gb613, 0, none⟩) (Kd.R_types HO_600000.out BK613.out (by decide)) (fun _ hk => hk.2) (.slice Ao461 t608.length co461)) (fun _ hk => hk.2) (.int .i64 t611)) (fun _ h_ => h_.1))) hb); replace HO_606000 := Az_ (Kd.R_below (by (with_reducible repeat (first | apply raz_ | apply rnz_ | apply rdz_)); exact (Kd.R_mono (Kd.R_far (p := ⟨gb613, 1, none⟩) (Kd.R_far (p := ⟨gb613, 0, none⟩) (Kd.R_types HO_606000.out BK613.out (by decide)) (fun _ hk => hk.2) (.slice Ao461 t608.length co461)) (fun _ hk => hk.2) (.int .i64 t611)) (fun _ h_ => h_.1))) hb); replace HO610 := Az_ (Kd.R_below (by (with_reducible repeat (first | apply raz_ | apply rnz_ | apply rdz_)); exact (Kd.R_mono (Kd.R_far (p := ⟨gb613, 1, none⟩) (Kd.R_far (p := ⟨gb613, 0, none⟩) (Kd.R_types HO610.out BK613.out (by decide)) (fun _ hk => hk.2) (.slice Ao461 t608.length co461)) (fun _ hk => hk.2) (.int .i64 t611)) (fun _ h_ => h_.1))) hb); replace BK504 := Az_ (kbz_ (g := gb504) (o := .cells #[.slice Ao21 t496.length co21, .int .i64 t499] 26 (0, 0)) (by (with_reducible repeat (first | refine knz_ ?_ _ | refine kdz_ ?_ | refine kaz_ ?_ _)); refine blk_far ?_ NB504_613.out _; (with_reducible repeat (first | refine knz_ ?_ _ | refine kdz_ ?_ | refine kaz_ ?_ _)); refine blk_far ?_ NB504_613.out _; (with_reducible repeat (first | refine knz_ ?_ _ | refine kdz_ ?_ | refine kaz_ ?_ _)); exact BK504.out) hb); replace BK580 := Az_ (kbz_ (g := gb580) (o := .cells #[.slice Ao363 t574.length co363, .int .i64 t577] 26 (0, 0)) (by (with_reducible repeat (first | refine knz_ ?_ _ | refine kdz_ ?_ | refine kaz_ ?_ _)); refine blk_far ?_ NB580_613.out _; (with_reducible repeat (first | refine knz_ ?_ _ | refine kdz_ ?_ | refine kaz_ ?_ _)); refine blk_far ?_ NB580_613.out _; (with_reducible repeat (first | refine knz_ ?_ _ | refine kdz_ ?_ | refine kaz_ ?_ _)); exact BK580.out) hb); replace BK586 := Az_ (kbz_ (g := gb586) (o := .cells #[.slice Ao368 t581.length co368, .int .i64 t584] 26 (0, 0)) (by (with_reducible repeat (first | refine knz_ ?_ _ | refine kdz_ ?_ | refine kaz_ ?_ _)); refine blk_far ?_ NB586_613.out _; (with_reducible repeat (first | refine knz_ ?_ _ | refine kdz_ ?_ | refine kaz_ ?_ _)); refine blk_far ?_ NB586_613.out _; (with_reducible repeat (first | refine knz_ ?_ _ | refine kdz_ ?_ | refine kaz_ ?_ _)); exact BK586.out) hb); replace BK592 := Az_ (kbz_ (g := gb592) (o := .cells #[.slice Ao375 t587.length co375, .int .i64 t590] 26 (0, 0)) (by (with_reducible repeat (first | refine knz_ ?_ _ | refine kdz_ ?_ | refine kaz_ ?_ _)); refine blk_far ?_ NB592_613.out _; (with_reducible repeat (first | refine knz_ ?_ _ | refine kdz_ ?_ | refine kaz_ ?_ _)); refine blk_far ?_ NB592_613.out _; (with_reducible repeat (first | refine knz_ ?_ _ | refine kdz_ ?_ | refine kaz_ ?_ _)); exact BK592.out) hb); replace BK599 := Az_ (kbz_ (g := gb599) (o := .cells #[.slice Ao383 t594.length co383, .int .i64 t597] 26 (0, 0)) (by (with_reducible repeat (first | refine knz_ ?_ _ | refine kdz_ ?_ | refine kaz_ ?_ _)); refine blk_far ?_ NB599_613.out _; (with_reducible repeat (first | refine knz_ ?_ _ | refine kdz_ ?_ | refine kaz_ ?_ _)); refine blk_far ?_ NB599_613.out _; (with_reducible repeat (first | refine knz_ ?_ _ | refine kdz_ ?_ | refine kaz_ ?_ _)); exact BK599.out) hb); replace BK605 := Az_ (kbz_ (g := gb605) (o := .cells #[.slice Ao391 t600.length co391, .int .i64 t603] 26 (0, 0)) (by (with_reducible repeat (first | refine knz_ ?_ _ | refine kdz_ ?_ | refine kaz_ ?_ _)); refine blk_far ?_ NB605_613.out _; (with_reducible repeat (first | refine knz_ ?_ _ | refine kdz_ ?_ | refine kaz_ ?_ _)); refine blk_far ?_ NB605_613.out _; (with_reducible repeat (first | refine knz_ ?_ _ | refine kdz_ ?_ | refine kaz_ ?_ _)); exact BK605.out) hb); replace BK613 := Az_ (kbz_ (g := gb613) (o := .cells #[.slice Ao461 t608.length co461, .int .i64 t611] 26 (0, 0)) (by (with_reducible repeat (first | refine knz_ ?_ _ | refine kdz_ ?_ | refine kaz_ ?_ _)); refine blk_put (cs := #[.slice Ao461 t608.length co461, .int .i64 0]) ?_ 1 _ rfl; (with_reducible repeat (first | refine knz_ ?_ _ | refine kdz_ ?_ | refine kaz_ ?_ _)); refine blk_put (cs := #[.slice none 0 0, .int .i64 0]) ?_ 0 _ rfl; (with_reducible repeat (first | refine knz_ ?_ _ | refine kdz_ ?_ | refine kaz_ ?_ _)); exact BK613.out) hb); replace HB := Az_ (btz_ (w52_) hb); (try clear hb); have hcz475_0 : w474.cell? ⟨gb586, 0, none⟩ = some (.slice Ao368 t581.length co368) := (blk_cell BK586.out 0).trans rfl; have hcz475_1 : w474.cell? ⟨gb586, 1, none⟩ = some (.int .i64 t584) := (blk_cell BK586.out 1).trans rfl; have hfz475_0 := blk_frozen BK586.out 0; have hfz475_1 := blk_frozen BK586.out 1; clear A450) | ((with_reducible refine gate_callee (f := 12) rfl ?_); refine goesL_ (some 638) rfl rfl Tryz.func12 (w94_) rfl #[.agg #[.slice Ao368 t581.length co368, .int .i64 t584]] rfl maz_ ?_; (with_reducible refine (impl_WidthOf.calls kj359 _ _ t581 t584 t616 t617 _ ?side1 ?side2 A451.out).mono ?_); (case side1 => exact ucz_ ((Kd.R_reads' HO_587000.out).2.2)); (case side2 => exact (Kd.R_reads' HO_587000.out).2.1); rintro e w476 ⟨rfl, hb⟩; refine ⟨_, rfl, ?_⟩; have n0_ := Az_ (Kd.V_below (w59_) hb); have n1_ := Az_ (Kd.V_below (w60_) hb); have n2_ := Az_ (Kd.R_below (w81_) hb); have n3_ := Az_ (Kd.R_below (w82_) hb); have n4_ := Az_ (Kd.R_below (w83_) hb); have n5_ := Az_ (Kd.R_below (w84_) hb); have n6_ := Az_ (Kd.R_below (by exact urz_ HO610.out) hb); have n14_ := Az_ (btz_ (w52_) hb); clear HO_505000; clear HO_581000; clear HO_587000; clear HO_593000; clear HO_600000; clear HO_606000; clear HO610; clear HB; have HO_505000 := n0_; have HO_581000 := n1_; have HO_587000 := n2_; have HO_593000 := n3_; have HO_600000 := n4_; have HO_606000 := n5_; have HO610 := n6_; replace BK504 := Az_ (ukbz_ BK504.out hb); replace BK580 := Az_ (ukbz_ BK580.out hb); replace BK586 := Az_ (ukbz_ BK586.out hb); replace BK592 := Az_ (ukbz_ BK592.out hb); replace BK599 := Az_ (ukbz_ BK599.out hb); replace BK605 := Az_ (ukbz_ BK605.out hb); replace BK613 := Az_ (ukbz_ BK613.out hb); have HB := n14_; clear n0_ n1_ n2_ n3_ n4_ n5_ n6_ n14_; (try clear hb)))
           (try simp only [Act.put, List.setIfInBounds_toArray, List.set_cons_zero, List.set_cons_succ])
           go_cut [661] from 1 to 0 (fun v661 wc => ∃ (kq : Nat) (x661_451 : Bool), v661 = .bool x661_451 ∧ Aside0 (j11 kq t593 t598 x661_451 t594 t597 = some r) ∧ Aside0 (kq ≤ kj359) ∧ Aside0 (Kd.V (Kd.int .i64) 3 wc w.heap.size (fun k_ => some k_ ≠ ((.slice Ao368 t581.length co368) : Value).ownBlock ∧ some k_ ≠ ((.slice Ao375 t587.length co375) : Value).ownBlock ∧ some k_ ≠ ((.slice Ao383 t594.length co383) : Value).ownBlock ∧ some k_ ≠ ((.slice Ao391 t600.length co391) : Value).ownBlock ∧ some k_ ≠ ((.slice Ao461 t608.length co461) : Value).ownBlock ∧ k_ ≠ gb504 ∧ k_ ≠ gb580 ∧ k_ ≠ gb586 ∧ k_ ≠ gb592 ∧ k_ ≠ gb599 ∧ k_ ≠ gb605 ∧ k_ ≠ gb613) (.slice Ao21 t496.length co21) t496) ∧ Aside0 (Kd.V (Kd.int .i64) 3 wc w.heap.size (fun k_ => some k_ ≠ ((.slice Ao368 t581.length co368) : Value).ownBlock ∧ some k_ ≠ ((.slice Ao375 t587.length co375) : Value).ownBlock ∧ some k_ ≠ ((.slice Ao383 t594.length co383) : Value).ownBlock ∧ some k_ ≠ ((.slice Ao391 t600.length co391) : Value).ownBlock ∧ some k_ ≠ ((.slice Ao461 t608.length co461) : Value).ownBlock ∧ k_ ≠ gb504 ∧ k_ ≠ gb580 ∧ k_ ≠ gb586 ∧ k_ ≠ gb592 ∧ k_ ≠ gb599 ∧ k_ ≠ gb605 ∧ k_ ≠ gb613) (.slice Ao363 t574.length co363) t574) ∧ Aside0 (Kd.R (Kd.int .i64) 3 wc w.heap.size (fun k_ => some k_ ≠ ((.slice Ao375 t587.length co375) : Value).ownBlock ∧ some k_ ≠ ((.slice Ao383 t594.length co383) : Value).ownBlock ∧ some k_ ≠ ((.slice Ao391 t600.length co391) : Value).ownBlock ∧ some k_ ≠ ((.slice Ao461 t608.length co461) : Value).ownBlock) (.slice Ao368 t581.length co368) t581) ∧ Aside0 (Kd.R (Kd.int .i64) 3 wc w.heap.size (fun k_ => some k_ ≠ ((.slice Ao368 t581.length co368) : Value).ownBlock ∧ some k_ ≠ ((.slice Ao383 t594.length co383) : Value).ownBlock ∧ some k_ ≠ ((.slice Ao391 t600.length co391) : Value).ownBlock ∧ some k_ ≠ ((.slice Ao461 t608.length co461) : Value).ownBlock) (.slice Ao375 t587.length co375) t587) ∧ Aside0 (Kd.R (Kd.int .i64) 3 wc w.heap.size (fun k_ => some k_ ≠ ((.slice Ao368 t581.length co368) : Value).ownBlock ∧ some k_ ≠ ((.slice Ao375 t587.length co375) : Value).ownBlock ∧ some k_ ≠ ((.slice Ao391 t600.length co391) : Value).ownBlock ∧ some k_ ≠ ((.slice Ao461 t608.length co461) : Value).ownBlock) (.slice Ao383 t594.length co383) t594) ∧ Aside0 (Kd.R (Kd.int .i64) 3 wc w.heap.size (fun k_ => some k_ ≠ ((.slice Ao368 t581.length co368) : Value).ownBlock ∧ some k_ ≠ ((.slice Ao375 t587.length co375) : Value).ownBlock ∧ some k_ ≠ ((.slice Ao383 t594.length co383) : Value).ownBlock ∧ some k_ ≠ ((.slice Ao461 t608.length co461) : Value).ownBlock) (.slice Ao391 t600.length co391) t600) ∧ Aside0 (Kd.R (Kd.int .i64) 3 wc w.heap.size (fun k_ => some k_ ≠ ((.slice Ao368 t581.length co368) : Value).ownBlock ∧ some k_ ≠ ((.slice Ao375 t587.length co375) : Value).ownBlock ∧ some k_ ≠ ((.slice Ao383 t594.length co383) : Value).ownBlock ∧ some k_ ≠ ((.slice Ao391 t600.length co391) : Value).ownBlock) (.slice Ao461 t608.length co461) t608) ∧ Aside0 (wc.heap[gb504]? = some (.cells #[(.slice Ao21 t496.length co21), .int .i64 t499] 26 (0, 0))) ∧ Aside0 (wc.heap[gb580]? = some (.cells #[(.slice Ao363 t574.length co363), .int .i64 t577] 26 (0, 0))) ∧ Aside0 (wc.heap[gb586]? = some (.cells #[(.slice Ao368 t581.length co368), .int .i64 t584] 26 (0, 0))) ∧ Aside0 (wc.heap[gb592]? = some (.cells #[(.slice Ao375 t587.length co375), .int .i64 t590] 26 (0, 0))) ∧ Aside0 (wc.heap[gb599]? = some (.cells #[(.slice Ao383 t594.length co383), .int .i64 t597] 26 (0, 0))) ∧ Aside0 (wc.heap[gb605]? = some (.cells #[(.slice Ao391 t600.length co391), .int .i64 t603] 26 (0, 0))) ∧ Aside0 (wc.heap[gb613]? = some (.cells #[(.slice Ao461 t608.length co461), .int .i64 t611] 26 (0, 0))) ∧ Aside0 (Below w.heap.size w wc))
           case first => as_aux_lemma =>
            have H := HC452.out
            clear HC452
            by_cases c477 : t612 = true; rotate_left
            ·replace c477 := Bool.eq_false_iff.mpr c477
             subst c477
             have H1 : (j11 kj359 t593 t598 true t594 t597) = some r := by rw [if_neg (show ¬ (false = true) by decide)] at H; exact H
             clear H
             have H := H1
             exact (laws_FnShelvesEaten.j11_no _ _ _ _ _ _ hrT H).elim
            subst c477
            rw [if_pos rfl] at H
            replace H := bqz_ H; obtain ⟨t618, A478, H⟩ := H
            replace H : (if t618 = true then (if t615 = true then (if t617 = true then (j11 kj359 t593 t598 (t614 != t616) t594 t597) else (j11 kj359 t593 t598 true t594 t597)) else (j11 kj359 t593 t598 true t594 t597)) else (j11 kj359 t593 t598 true t594 t597)) = some r := H
            by_cases c479 : t618 = true; rotate_left
            ·replace c479 := Bool.eq_false_iff.mpr c479
             subst c479
             have H1 : (j11 kj359 t593 t598 true t594 t597) = some r := by rw [if_neg (show ¬ (false = true) by decide)] at H; exact H
             clear H
             have H := H1
             exact (laws_FnShelvesEaten.j11_no _ _ _ _ _ _ hrT H).elim
            subst c479
            rw [if_pos rfl] at H
            by_cases c480 : t615 = true; rotate_left
            ·replace c480 := Bool.eq_false_iff.mpr c480
             subst c480
             have H1 : (j11 kj359 t593 t598 true t594 t597) = some r := by rw [if_neg (show ¬ (false = true) by decide)] at H; exact H
             clear H
             have H := H1
             exact (laws_FnShelvesEaten.j11_no _ _ _ _ _ _ hrT H).elim
            subst c480
            rw [if_pos rfl] at H
            by_cases c481 : t617 = true; rotate_left
            ·replace c481 := Bool.eq_false_iff.mpr c481
             subst c481
             have H1 : (j11 kj359 t593 t598 true t594 t597) = some r := by rw [if_neg (show ¬ (false = true) by decide)] at H; exact H
             clear H
             have H := H1
             exact (laws_FnShelvesEaten.j11_no _ _ _ _ _ _ hrT H).elim
            subst c481
            rw [if_pos rfl] at H
            have H' := Az_ H
            clear H
            have hnb482 := NB613_504.out
            have hnc482 := NB504_613.out
            have hnb483 := NB613_580.out
            have hnc483 := NB580_613.out
            have hnb484 := NB613_586.out
            have hnc484 := NB586_613.out
            have hnb485 := NB613_592.out
            have hnc485 := NB592_613.out
            have hnb486 := NB613_599.out
            have hnc486 := NB599_613.out
            have hnb487 := NB613_605.out
            have hnc487 := NB605_613.out
            have hcz488_0 : w476.cell? ⟨gb613, 0, none⟩ = some (.slice Ao461 t608.length co461) := (blk_cell BK613.out 0).trans rfl
            have hcz488_1 : w476.cell? ⟨gb613, 1, none⟩ = some (.int .i64 t611) := (blk_cell BK613.out 1).trans rfl
            have hfz488_0 := blk_frozen BK613.out 0
            have hfz488_1 := blk_frozen BK613.out 1
            have hnb489 := NB580_504.out
            have hnc489 := NB504_580.out
            have hnb490 := NB580_586.out
            have hnc490 := NB586_580.out
            have hnb491 := NB580_592.out
            have hnc491 := NB592_580.out
            have hnb492 := NB580_599.out
            have hnc492 := NB599_580.out
            have hnb493 := NB580_605.out
            have hnc493 := NB605_580.out
            have hcz494_0 : w476.cell? ⟨gb580, 0, none⟩ = some (.slice Ao363 t574.length co363) := (blk_cell BK580.out 0).trans rfl
            have hcz494_1 : w476.cell? ⟨gb580, 1, none⟩ = some (.int .i64 t577) := (blk_cell BK580.out 1).trans rfl
            have hfz494_0 := blk_frozen BK580.out 0
            have hfz494_1 := blk_frozen BK580.out 1
            go_wp2_with ((go_at_call 25; (with_reducible refine (laws_fShelf.calls kj359 _ _ t608 t611 _ _ t574 t577 true _ ?side1 ?side2 ?side3 ?side4 A478.out).mono ?_); (case side1 => exact ucz_ ((Kd.R_reads' HO610.out).2.2)); (case side2 => exact (Kd.R_reads' HO610.out).2.1); (case side3 => exact ucz_ ((Kd.V_reads' HO_581000.out).2.2)); (case side4 => exact (Kd.V_reads' HO_581000.out).2.1); rintro e w495 ⟨rfl, hb⟩; have n0_ := Az_ (Kd.V_below (w59_) hb); have n1_ := Az_ (Kd.V_below (w60_) hb); have n2_ := Az_ (Kd.R_below (w81_) hb); have n3_ := Az_ (Kd.R_below (w82_) hb); have n4_ := Az_ (Kd.R_below (w83_) hb); have n5_ := Az_ (Kd.R_below (w84_) hb); have n6_ := Az_ (Kd.R_below (by exact urz_ HO610.out) hb); have n14_ := Az_ (btz_ (w52_) hb); clear HO_505000; clear HO_581000; clear HO_587000; clear HO_593000; clear HO_600000; clear HO_606000; clear HO610; clear HB; have HO_505000 := n0_; have HO_581000 := n1_; have HO_587000 := n2_; have HO_593000 := n3_; have HO_600000 := n4_; have HO_606000 := n5_; have HO610 := n6_; replace BK504 := Az_ (ukbz_ BK504.out hb); replace BK580 := Az_ (ukbz_ BK580.out hb); replace BK586 := Az_ (ukbz_ BK586.out hb); replace BK592 := Az_ (ukbz_ BK592.out hb); replace BK599 := Az_ (ukbz_ BK599.out hb); replace BK605 := Az_ (ukbz_ BK605.out hb); replace BK613 := Az_ (ukbz_ BK613.out hb); have HB := n14_; clear n0_ n1_ n2_ n3_ n4_ n5_ n6_ n14_; (try clear hb)))
            go_meet
            case rel => exact ⟨_, ((t614 != t616)), qaz_, H', ⟨by have := HJ17.out; have := HJ172.out; have := HJ214.out; have := HJ317.out; have := HJ359.out; first | omega | exact Nat.le_refl _⟩, ⟨by (with_reducible repeat (first | apply Kd.V_alloc | apply Kd.V_drewN | apply Kd.V_drew)); exact Kd.V_mono HO_505000.out (fun _ hk => ⟨hk.1.1.1, ⟨hk.1.1.2.1, ⟨hk.1.1.2.2.1, ⟨hk.1.1.2.2.2.1, ⟨hk.1.2, ⟨hk.1.1.2.2.2.2.1, ⟨hk.1.1.2.2.2.2.2.1, ⟨hk.1.1.2.2.2.2.2.2.1, ⟨hk.1.1.2.2.2.2.2.2.2.1, ⟨hk.1.1.2.2.2.2.2.2.2.2.1, ⟨hk.1.1.2.2.2.2.2.2.2.2.2, hk.2⟩⟩⟩⟩⟩⟩⟩⟩⟩⟩⟩)⟩, ⟨by (with_reducible repeat (first | apply Kd.V_alloc | apply Kd.V_drewN | apply Kd.V_drew)); exact Kd.V_mono HO_581000.out (fun _ hk => ⟨hk.1.1.1, ⟨hk.1.1.2.1, ⟨hk.1.1.2.2.1, ⟨hk.1.1.2.2.2.1, ⟨hk.1.2, ⟨hk.1.1.2.2.2.2.1, ⟨hk.1.1.2.2.2.2.2.1, ⟨hk.1.1.2.2.2.2.2.2.1, ⟨hk.1.1.2.2.2.2.2.2.2.1, ⟨hk.1.1.2.2.2.2.2.2.2.2.1, ⟨hk.1.1.2.2.2.2.2.2.2.2.2, hk.2⟩⟩⟩⟩⟩⟩⟩⟩⟩⟩⟩)⟩, ⟨by (with_reducible repeat (first | apply raz_ | apply rnz_ | apply rdz_)); exact Kd.R_mono HO_587000.out (fun _ hk => ⟨hk.1.1, ⟨hk.1.2.1, ⟨hk.1.2.2, hk.2⟩⟩⟩)⟩, ⟨by (with_reducible repeat (first | apply raz_ | apply rnz_ | apply rdz_)); exact Kd.R_mono HO_593000.out (fun _ hk => ⟨hk.1.1, ⟨hk.1.2.1, ⟨hk.1.2.2, hk.2⟩⟩⟩)⟩, ⟨by (with_reducible repeat (first | apply raz_ | apply rnz_ | apply rdz_)); exact Kd.R_mono HO_600000.out (fun _ hk => ⟨hk.1.1, ⟨hk.1.2.1, ⟨hk.1.2.2, hk.2⟩⟩⟩)⟩, ⟨by (with_reducible repeat (first | apply raz_ | apply rnz_ | apply rdz_)); exact Kd.R_mono HO_606000.out (fun _ hk => ⟨hk.1.1, ⟨hk.1.2.1, ⟨hk.1.2.2, hk.2⟩⟩⟩)⟩, ⟨by (with_reducible repeat (first | apply raz_ | apply rnz_ | apply rdz_)); exact Kd.R_mono HO610.out (fun _ hk => ⟨hk.1.1.1.2, ⟨hk.1.1.2, ⟨hk.1.2, hk.2⟩⟩⟩)⟩, ⟨w71_⟩, ⟨by (with_reducible repeat (first | refine knz_ ?_ _ | refine kdz_ ?_ | refine kaz_ ?_ _)); exact BK580.out⟩, ⟨by (with_reducible repeat (first | refine knz_ ?_ _ | refine kdz_ ?_ | refine kaz_ ?_ _)); exact BK586.out⟩, ⟨by (with_reducible repeat (first | refine knz_ ?_ _ | refine kdz_ ?_ | refine kaz_ ?_ _)); exact BK592.out⟩, ⟨by (with_reducible repeat (first | refine knz_ ?_ _ | refine kdz_ ?_ | refine kaz_ ?_ _)); exact BK599.out⟩, ⟨by (with_reducible repeat (first | refine knz_ ?_ _ | refine kdz_ ?_ | refine kaz_ ?_ _)); exact BK605.out⟩, ⟨by (with_reducible repeat (first | refine knz_ ?_ _ | refine kdz_ ?_ | refine kaz_ ?_ _)); exact BK613.out⟩, ⟨w52_⟩⟩
           case rest => as_aux_lemma =>
            clear HC452
            clear hcz458_0 hcz458_1 hcz468_0 hcz468_1 hcz473_0 hcz473_1 hcz475_0 hcz475_1 hfz458_0 hfz458_1 hfz468_0 hfz468_1 hfz473_0 hfz473_1 hfz475_0 hfz475_1
            obtain ⟨kq, x661_451, rfl, HA, HJ451, HO_505000, HO_581000, HO_587000, HO_593000, HO_600000, HO_606000, HO_614000, BK504, BK580, BK586, BK592, BK599, BK605, BK613, HB⟩ := hcut
            cases kq with
            | zero => exact absurd HA.out (by simp [j11])
            | succ kj451 =>
             have H := HA.out
             clear HA
             simp only [j11] at H
             by_cases c538 : x661_451 = true
             ·subst c538
              rw [if_pos rfl] at H
              exact absurd ((Option.some.inj H).trans hrT) (by decide)
             replace c538 := Bool.eq_false_iff.mpr c538
             subst c538
             rw [if_neg nfz_] at H
             by_cases c539 : t598 = true; rotate_left
             ·replace c539 := Bool.eq_false_iff.mpr c539
              subst c539
              rw [if_neg nfz_] at H
              obtain rfl := Option.some.inj H; clear hrT
              go_wp2
              go_ret
              exact ⟨w74_, w52_⟩
             subst c539
             rw [if_pos rfl] at H
             replace H := bqz_ H; obtain ⟨⟨t619, t620⟩, A540, H⟩ := H
             replace H : (if t620 = true then (some (t619.toList == t593.toList)) else (some false)) = some r := H
             by_cases c541 : t620 = true; rotate_left
             ·replace c541 := Bool.eq_false_iff.mpr c541
              subst c541
              rw [if_neg nfz_] at H
              exact absurd ((Option.some.inj H).trans hrT) (by decide)
             subst c541
             rw [if_pos rfl] at H
             obtain rfl := Option.some.inj H; clear hrT
             have hnb542 := NB599_504.out
             have hnc542 := NB504_599.out
             have hnb543 := NB599_580.out
             have hnc543 := NB580_599.out
             have hnb544 := NB599_586.out
             have hnc544 := NB586_599.out
             have hnb545 := NB599_592.out
             have hnc545 := NB592_599.out
             have hnb546 := NB599_605.out
             have hnc546 := NB605_599.out
             have hnb547 := NB599_613.out
             have hnc547 := NB613_599.out
             have hcz548_0 : wc.cell? ⟨gb599, 0, none⟩ = some (.slice Ao383 t594.length co383) := (blk_cell BK599.out 0).trans rfl
             have hcz548_1 : wc.cell? ⟨gb599, 1, none⟩ = some (.int .i64 t597) := (blk_cell BK599.out 1).trans rfl
             have hfz548_0 := blk_frozen BK599.out 0
             have hfz548_1 := blk_frozen BK599.out 1
             go_wp2_with (((with_reducible refine gate_callee (f := 16) rfl ?_); refine goesL_ (some 665) rfl rfl Tryz.func16 (w94_) rfl #[.agg #[.slice Ao383 t594.length co383, .int .i64 t597]] rfl maz_ ?_; (with_reducible refine (impl_ShelfText.calls kj451 _ _ t594 t597 t619 true _ (libW_below HTAB.out (w52_)) ?side1 ?side2 A540.out).mono ?_); (case side1 => exact ucz_ ((Kd.R_reads' HO_600000.out).2.2)); (case side2 => exact (Kd.R_reads' HO_600000.out).2.1); rintro e w549 ⟨rfl, hb⟩; refine ⟨_, rfl, ?_⟩; have n0_ := Az_ (Kd.V_below (w59_) hb); have n1_ := Az_ (Kd.V_below (w60_) hb); have n2_ := Az_ (Kd.R_below (w81_) hb); have n3_ := Az_ (Kd.R_below (w82_) hb); have n4_ := Az_ (Kd.R_below (w83_) hb); have n5_ := Az_ (Kd.R_below (w84_) hb); have n6_ := Az_ (Kd.R_below (by exact urz_ HO_614000.out) hb); have n14_ := Az_ (btz_ (w52_) hb); clear HO_505000; clear HO_581000; clear HO_587000; clear HO_593000; clear HO_600000; clear HO_606000; clear HO_614000; clear HB; have HO_505000 := n0_; have HO_581000 := n1_; have HO_587000 := n2_; have HO_593000 := n3_; have HO_600000 := n4_; have HO_606000 := n5_; have HO_614000 := n6_; replace BK504 := Az_ (ukbz_ BK504.out hb); replace BK580 := Az_ (ukbz_ BK580.out hb); replace BK586 := Az_ (ukbz_ BK586.out hb); replace BK592 := Az_ (ukbz_ BK592.out hb); replace BK599 := Az_ (ukbz_ BK599.out hb); replace BK605 := Az_ (ukbz_ BK605.out hb); replace BK613 := Az_ (ukbz_ BK613.out hb); have HB := n14_; clear n0_ n1_ n2_ n3_ n4_ n5_ n6_ n14_; (try clear hb)))
             go_ret
             exact ⟨w74_, w52_⟩
end Go.Proofs.YtimladcenifppaaGreatDoor.P
