/- FnBindingsTurned returns true for every input, and its arguments read behind the call as before; no condition. -/
import Derived.Test.YtppbpefehpbejaaZbt25
import Derived.Test.YtppbpefehpbejaaZbt26
import Derived.Test.YtppbpefehpbejaaRows
import Derived.WalkKit
import Derived.ProofKit
import Derived.OpenShut
import Derived.ShutString
import Derived.ChangeOld
import Derived.Below
import Derived.SizedLaws
namespace Go.Proofs.Ytppbpefehpbejaa.fnBindingsTurned
open Go.ChangeShapes Go.WideShapes Go.ChangeAt Go.RowKit Go.Proofs.Ytppbpefehpbejaa.P Go.Proofs.Ytppbpefehpbejaa.Open Go.Proofs.YtppbpefehpbejaaW.PrintWords
open Go.ChangeMaps (open_string shut_string)
set_option linter.unusedVariables false
theorem own : ownKnob Try.prog.godebug = none := by kernel_rfl
theorem laidOut : laidOutB Try.prog = true := by kernel_rfl
set_option maxRecDepth 100000 in
set_option maxHeartbeats 1000000 in
theorem lifted (os : Os) (started : os.Started) (H : Type) (enc : TypeId × Value → H) :
    ReturnsInHanded {} Try.checked os 4 .any (Rows.fnBindingsTurnedSpec.pre6 enc Try.prog Try.f4 Rows.fnBindingsTurnedRow.domain false) (Rows.fnBindingsTurnedSpec.post enc Try.prog Try.f4 false true false false) := by
  refine returnsInHanded_of_change_sized (C := Try.checked) own started (by kernel_rfl) Try.func4
    (ChangeSpec.witness6 (enc := enc) (C := Try.checked) false ⟨#[], #[(.slice none 0 0), (.slice none 0 0)], []⟩ 8 (by kernel_rfl) (by kernel_rfl) (by kernel_rfl) (by kernel_rfl)) ?_
  intro W base args ds gs before hval0 hW hcnd hsz0 _
  have hval : ∀ (j : Nat) t v, Try.f4.params[j]? = some t → args[j]? = some v → Value.okWide Try.prog W .any base t v := hval0
  have hW' := hW
  obtain ⟨p, q, hA0, hV, rfl, hfz, hnd⟩ := hW
  have hA : DataW.TrodAll enc Try.prog W 0 (fun _ => true) true Try.f4.params.toList args.toList ds p := hA0
  rw [Try.params4] at hA hval
  obtain ⟨v0, vs0, d0, ds0, p0, q0, hargs, rfl, rfl, h0, r0⟩ := trodAll_cons hA
  obtain ⟨v1, vs1, d1, ds1, p1, q1, rfl, rfl, rfl, h1, r1⟩ := trodAll_cons r0
  obtain ⟨rfl, rfl, rfl⟩ := trodAll_nil r1
  obtain rfl : args = #[v0, v1] := by cases args; simp_all
  obtain ⟨rfl, rfl⟩ := trodVars_none hV
  have k0_ := h0
  have lt0 : ∀ x ∈ p0, x.block < W.heap.size := by obtain ⟨m, hm⟩ := k0_; exact DataW.trod_lt m _ _ _ hm
  obtain ⟨A0, c0, l0, rfl, hr0, hc0, w0⟩ := arg_slice (opens_slice (P := Try.prog) (t := 22) (e := 5) (d := (Kd.int .u8)) Try.underlying22 (by kernel_rfl) (opens_int (P := Try.prog) (t := 5) Try.underlying5)) h0 (by obtain ⟨a, m, c, e⟩ := okWide_slice Try.underlying22 (hval 0 22 v0 rfl rfl); exact ⟨_, _, _, e⟩)
  have k1_ := h1
  have lt1 : ∀ x ∈ p1, x.block < W.heap.size := by obtain ⟨m, hm⟩ := k1_; exact DataW.trod_lt m _ _ _ hm
  obtain ⟨A1, c1, l1, rfl, hr1, hc1, w1⟩ := arg_slice (opens_slice (P := Try.prog) (t := 22) (e := 5) (d := (Kd.int .u8)) Try.underlying22 (by kernel_rfl) (opens_int (P := Try.prog) (t := 5) Try.underlying5)) h1 (by obtain ⟨a, m, c, e⟩ := okWide_slice Try.underlying22 (hval 1 22 v1 rfl rfl); exact ⟨_, _, _, e⟩)
  clear hA0 hval0 hsz0
  obtain ⟨k, h⟩ := Pure.FnBindingsTurned l0 l1 w0 w1
  refine (laws_FnBindingsTurned.calls k _ _ l0 _ _ l1 true W hr0 hc0 hr1 hc1 h rfl).mono fun e W' ⟨he, bel0⟩ => ?_
  have bel := bel0
  subst he
  exact ⟨_, rfl, _, _, _, [], _, [], hW', trodAll_mk1 (shut_bool Try.underlying4 _), (trodAll_cons_mk (Below.trod laidOut (by kernel_rfl) (of_decide_eq_true (by kernel_rfl)) k0_ bel lt0) (trodAll_cons_mk (Below.trod laidOut (by kernel_rfl) (of_decide_eq_true (by kernel_rfl)) k1_ bel lt1) trodAll_mk0)), rfl, bel.frame _, fun h => by cases h⟩
theorem over : Rows.fnBindingsTurnedRow.holds Try.pinned (OpenSpec.ofChange Rows.fnBindingsTurnedSpec) :=
  OpenClaim.holds_of_wide 4 Try.f4 rfl rfl rfl rfl rfl rfl rfl ⟨rfl, rfl, rfl, rfl, rfl⟩ rfl rfl rfl rfl rfl (by kernel_rfl) Try.func4 (by kernel_rfl)
    (of_decide_eq_true (by kernel_rfl)) (by unfold Func.isWrapper; first | (rw [if_pos (by decide +kernel)]; kernel_rfl) | (rw [if_neg (by decide +kernel)]; exact ⟨rfl, rfl⟩))
    (fun os started H enc _ => lifted os started H enc)
theorem proved : Rows.FnBindingsTurnedSaid := over
#print axioms proved
end Go.Proofs.Ytppbpefehpbejaa.fnBindingsTurned
namespace Go.Proofs.Ytppbpefehpbejaa
/-- The statement, under a short name, for the claim. -/
theorem fnBindingsTurned_holds : Rows.FnBindingsTurnedSaid := fnBindingsTurned.proved
end Go.Proofs.Ytppbpefehpbejaa
