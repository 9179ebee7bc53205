/- strings.Join at a row of the caller's own: the texts with the sign between them; asked that the whole is shorter than 2^47 bytes. -/
import Derived.Test.YtmcingnpbececaaDoorPx0
import Derived.Test.YtmcingnpbececaaDoorShelf
namespace Go.Proofs.YtmcingnpbececaaDoor.P
open Go.RowKit Go.Proofs.YtmcingnpbececaaDoorW.PrintWords Go.Proofs.YtmcingnpbececaaDoorW.PrintLast Go.Proofs.YtmcingnpbececaaDoorW.PrintMore
set_option linter.unusedVariables false

def joinB (l : List ByteArray) (s : ByteArray) : List UInt8 := Lib.join (l.map (·.data.toList)) s.data.toList
def strjoin.f (l : List ByteArray) (s : ByteArray) : Option ByteArray := if (joinB l s).length ≤ 140737488355328 ∧ l.length ≤ 140737488355328 then some ⟨(joinB l s).toArray⟩ else none
theorem strjoin.calls (A0 : Option Addr) (c0 : Nat) (l0 : List ByteArray) (a1 : ByteArray) (r : ByteArray) (w : World) (hr0 : ∃ base ok, Kd.R Kd.string 9 w base ok (.slice A0 l0.length c0) l0) (hc0 : l0.length ≤ c0) (h : strjoin.f l0 a1 = some r) :
    Calls Tryd.prog 58 #[.slice A0 l0.length c0, .string a1] w fun e w' => e = .returned (.string r) ∧ Below w.heap.size w w' := by
  obtain ⟨base, ok, hrow⟩ := hr0
  unfold strjoin.f at h
  by_cases hl : (joinB l0 a1).length ≤ 140737488355328 ∧ l0.length ≤ 140737488355328
  · rw [if_pos hl] at h
    obtain rfl := Option.some.inj h
    rcases Nat.eq_zero_or_pos l0.length with h0 | h0
    · have hn := List.length_eq_zero_iff.1 h0
      subst hn
      exact (Tryd.strings_Join_none A0 c0 a1 w).mono fun e w' ⟨he, hw⟩ => ⟨he, hw ▸ Below.refl _ _⟩
    · obtain ⟨g, cap, e, hb, hg, _⟩ := Kd.R_form hrow h0
      injection e with e1 e2 e3
      subst e1 e3
      refine Tryd.strings_Join g 0 c0 l0 a1 w (fun j x hj => ?_) hg hl.2 hc0 hl.1
      have hjl := (List.getElem?_eq_some_iff.1 hj).1
      have := (Kd.R_celln ByteArray.empty hrow (j : Int) (by omega) (by omega)).1
      rw [Int.toNat_natCast] at this
      rw [Nat.zero_add, this]
      unfold rdOf
      rw [Int.toNat_natCast, List.getD_eq_getElem?_getD, hj]
      rfl
  · rw [if_neg hl] at h
    cases h
end Go.Proofs.YtmcingnpbececaaDoor.P
