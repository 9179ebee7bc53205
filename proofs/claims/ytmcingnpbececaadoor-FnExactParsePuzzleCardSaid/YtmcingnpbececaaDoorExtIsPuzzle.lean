/- impl.IsPuzzle answers whether there are at most six clues and the closure answers false at each; asked only that the closure answers. -/
import Derived.Test.YtmcingnpbececaaDoorPx6
import Derived.Test.YtmcingnpbececaaDoorExtFuncClue
namespace Go.Proofs.YtmcingnpbececaaDoor.P
open Go.RowKit Go.Proofs.YtmcingnpbececaaDoorW.PrintWords Go.Proofs.YtmcingnpbececaaDoorW.PrintLast Go.Proofs.YtmcingnpbececaaDoorW.PrintMore
set_option linter.unusedVariables false
set_option linter.unusedSimpArgs false

def badClue (x : S51) : Bool := (impl_IsPuzzle_1.f 1 x.f0 x.f1 x.f2).getD false
def impl_IsPuzzle.f (l : List S51) : Option Bool :=
  if 6 < l.length then some false else if l.all (fun x => (impl_IsPuzzle_1.f 1 x.f0 x.f1 x.f2).isSome) = true then some (!l.any badClue) else none
theorem badClue_some {x : S51} (h : (impl_IsPuzzle_1.f 1 x.f0 x.f1 x.f2).isSome = true) : impl_IsPuzzle_1.f 1 x.f0 x.f1 x.f2 = some (badClue x) := by
  unfold badClue
  cases e : impl_IsPuzzle_1.f 1 x.f0 x.f1 x.f2 with
  | none => rw [e] at h; cases h
  | some b => rfl

set_option maxHeartbeats 2000000 in
set_option maxRecDepth 100000 in
theorem impl_IsPuzzle.calls (A0_0 : Option Addr) (c0_0 : Nat) (l0_0 : List S51) (r : Bool) (w : World) (hr0_0 : Kd.C k51 w A0_0 l0_0.length l0_0) (hc0_0 : l0_0.length ≤ c0_0) (h : impl_IsPuzzle.f l0_0 = some r) :
    Calls Tryd.prog 39 #[.agg #[.slice A0_0 l0_0.length c0_0]] w fun e w' => e = .returned (.bool r) ∧ Below w.heap.size w w' := by
  have hu41 := Tryd.underlying26
  unfold impl_IsPuzzle.f at h
  have HR := Aside0.mk hr0_0
  clear hr0_0
  by_cases c2 : 6 < l0_0.length
  · rw [if_pos c2] at h
    obtain rfl := Option.some.inj h
    have c3 : (6 : Int) < (l0_0.length : Int) := by omega
    go_enter Tryd.func39, Tryd.ntmps39
    go_wp2
    go_ret
    exact ⟨rfl, (Below.refl _ _).alloc (Nat.le_refl _) _⟩
  · rw [if_neg c2] at h
    have c3 : (l0_0.length : Int) ≤ 6 := by omega
    by_cases c4 : l0_0.all (fun x => (impl_IsPuzzle_1.f 1 x.f0 x.f1 x.f2).isSome) = true
    · rw [if_pos c4] at h
      have HS := Aside0.mk (Option.some.inj h)
      clear h
      have eg := enters_of Tryd.func55 (by kernel_rfl) rfl
      have hcall : ∀ W, Below w.heap.size w W → Calls Tryd.prog 54 #[.slice A0_0 l0_0.length c0_0, .func (.func 55) #[] #[]] W fun e w' => e = .returned (.bool (l0_0.any badClue)) ∧ Below W.heap.size W w' := fun W hW =>
        containsFunc_clue 55 #[] badClue eg A0_0 c0_0 l0_0 W (Kd.C_below HR.out hW) (fun W' x hx _ => impl_IsPuzzle_1.calls 1 x.f0 x.f1 x.f2 (badClue x) W' (badClue_some (List.all_eq_true.1 c4 x hx)))
      have hcall1 := hcall _ ((Below.refl w.heap.size w).alloc (Nat.le_refl _) (.cells #[.slice A0_0 l0_0.length c0_0] 26))
      clear hcall c4 eg
      go_enter Tryd.func39, Tryd.ntmps39
      go_wp2_with (go_at_call 54; refine hcall1.mono ?_; rintro e w' ⟨rfl, hb'⟩)
      go_ret
      exact ⟨by first | rfl | (rw [HS.out]; rfl), below_step ((Below.refl _ _).alloc (Nat.le_refl _) _) hb'⟩
    · rw [if_neg c4] at h
      cases h
end Go.Proofs.YtmcingnpbececaaDoor.P
