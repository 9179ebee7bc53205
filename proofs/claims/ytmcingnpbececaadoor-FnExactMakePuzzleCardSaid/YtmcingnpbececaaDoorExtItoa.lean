/- strconv.Itoa at the numbers 0 to 99. -/
import Derived.Test.YtmcingnpbececaaDoorPx0
import Derived.Test.YtmcingnpbececaaDoorShelf
namespace Go.Proofs.YtmcingnpbececaaDoor.P
open Go.RowKit Go.Proofs.YtmcingnpbececaaDoorW.PrintWords

def itoa.f (x : Int) : Option ByteArray := if 0 ≤ x ∧ x < 100 then some ⟨(Lib.decDigits x.toNat).toArray⟩ else none
theorem itoa.calls (a0 : Int) (r : ByteArray) (w : World) (h : itoa.f a0 = some r) :
    Calls Tryd.prog 46 #[.int .i64 a0] w fun e w' => e = .returned (.string r) ∧ Drawn0 w w' := by
  unfold itoa.f at h
  split at h
  · rename_i hc
    obtain rfl := Option.some.inj h
    obtain ⟨k, rfl⟩ := Int.eq_ofNat_of_zero_le hc.1
    refine (Tryd.strconv_Itoa_small k (by omega) w).mono fun e w' ⟨he, hw⟩ => ⟨?_, ?_⟩
    · simpa using he
    · subst hw; exact Drawn0.refl _
  · cases h
end Go.Proofs.YtmcingnpbececaaDoor.P
