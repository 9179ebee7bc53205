/- strings.Count of a text of one byte. -/
import Derived.Test.YtmcingnpbececaaDoorPx0
import Derived.Test.YtmcingnpbececaaDoorShelf
namespace Go.Proofs.YtmcingnpbececaaDoor.P
open Go.RowKit Go.Proofs.YtmcingnpbececaaDoorW.PrintWords

def strcount.f (s sub : ByteArray) : Option Int := match sub with
  | ⟨⟨[c]⟩⟩ => some (Lib.countByte s.data.toList c)
  | _ => none
theorem strcount.calls (a0 a1 : ByteArray) (r : Int) (w : World) (h : strcount.f a0 a1 = some r) :
    Calls Tryd.prog 67 #[.string a0, .string a1] w fun e w' => e = .returned (.int .i64 r) ∧ Drawn0 w w' := by
  obtain ⟨⟨l⟩⟩ := a1
  match l, h with
  | [c], h =>
    obtain rfl := Option.some.inj (show some ((Lib.countByte a0.data.toList c : Int)) = some r from h)
    refine (Tryd.strings_Count_one a0 c w).mono fun e w' ⟨he, hw⟩ => ⟨he, ?_⟩
    subst hw; exact Drawn0.refl _
end Go.Proofs.YtmcingnpbececaaDoor.P
