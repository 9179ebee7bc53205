/- FnExactAddClue returns true for every input, and its arguments read behind the call as before; no condition. -/
import Derived.Test.YtmcingnpbececaaRows
import Derived.Test.YtmcingnpbececaaPx9
import Derived.Test.YtmcingnpbececaaPureFnExactAddClue
import Derived.Test.YtmcingnpbececaaOpen
import Derived.WalkKit
import Derived.ProofKit
import Derived.OpenShut
import Derived.ShutString
import Derived.ChangeOld
import Derived.Below
import Derived.SizedLaws
namespace Go.Proofs.Ytmcingnpbececaa.fnExactAddClue
open Go.ChangeShapes Go.WideShapes Go.ChangeAt Go.RowKit Go.Proofs.Ytmcingnpbececaa.P Go.Proofs.Ytmcingnpbececaa.Open Go.Proofs.YtmcingnpbececaaW.PrintWords
open Go.ChangeMaps (open_string shut_string)
set_option linter.unusedVariables false
theorem own : ownKnob Try.prog.godebug = none := by kernel_rfl
theorem laidOut : laidOutB Try.prog = true := by kernel_rfl
theorem opens_st26 : Opens Try.prog 26 k26 (fun x => ((Lit.int .i64 x.f0).wf = true ∧ ((Lit.int .i64 x.f1).wf = true ∧ (Lit.int .i64 x.f2).wf = true))) := by
  have h := opens_struct (P := Try.prog) (t := 26) Try.underlying26 (by kernel_rfl) (opensFs_cons rfl (by kernel_rfl) (opens_int (P := Try.prog) (t := 3) Try.underlying3) (opensFs_cons rfl (by kernel_rfl) (opens_int (P := Try.prog) (t := 3) Try.underlying3) (opensFs_one rfl (by kernel_rfl) (opens_int (P := Try.prog) (t := 3) Try.underlying3))))
  exact opens_iso (fun x : S26 => (x.f0, x.f1, x.f2)) (fun p => ⟨p.1, p.2.1, p.2.2⟩) (fun _ => rfl) h
theorem opens_st24 : Opens Try.prog 24 k24 (fun x => (x.f0.length ≤ maxLen ∧ ∀ x0_, x0_ ∈ x.f0 → ((Lit.int .i64 x0_.f0).wf = true ∧ ((Lit.int .i64 x0_.f1).wf = true ∧ (Lit.int .i64 x0_.f2).wf = true)))) := by
  have h := opens_struct (P := Try.prog) (t := 24) Try.underlying24 (by kernel_rfl) (opensFs_one rfl (by kernel_rfl) (opens_slice (P := Try.prog) (t := 22) (e := 26) (d := k26) Try.underlying22 (by kernel_rfl) opens_st26))
  exact opens_iso (fun x : S24 => x.f0) (fun p => ⟨p⟩) (fun _ => rfl) h
set_option maxRecDepth 100000 in
set_option maxHeartbeats 1000000 in
theorem lifted (os : Os) (started : os.Started) (H : Type) (enc : TypeId × Value → H) :
    ReturnsInHanded {} Try.checked os 3 .any (Rows.fnExactAddClueSpec.pre6 enc Try.prog Try.f3 Rows.fnExactAddClueRow.domain false) (Rows.fnExactAddClueSpec.post enc Try.prog Try.f3 false true false false) := by
  refine returnsInHanded_of_change_sized (C := Try.checked) own started (by kernel_rfl) Try.func3
    (ChangeSpec.witness6 (enc := enc) (C := Try.checked) false ⟨#[], #[(.agg #[(.slice none 0 0)]), (.agg #[(.int .i64 0), (.int .i64 0), (.int .i64 0)])], []⟩ 8 (by kernel_rfl) (by kernel_rfl) (by kernel_rfl) (by kernel_rfl)) ?_
  intro W base args ds gs before hval0 hW hcnd hsz0 _
  have hval : ∀ (j : Nat) t v, Try.f3.params[j]? = some t → args[j]? = some v → Value.okWide Try.prog W .any base t v := hval0
  have hW' := hW
  obtain ⟨p, q, hA0, hV, rfl, hfz, hnd⟩ := hW
  have hA : DataW.TrodAll enc Try.prog W 0 (fun _ => true) true Try.f3.params.toList args.toList ds p := hA0
  rw [Try.params3] at hA hval
  obtain ⟨v0, vs0, d0, ds0, p0, q0, hargs, rfl, rfl, h0, r0⟩ := trodAll_cons hA
  obtain ⟨v1, vs1, d1, ds1, p1, q1, rfl, rfl, rfl, h1, r1⟩ := trodAll_cons r0
  obtain ⟨rfl, rfl, rfl⟩ := trodAll_nil r1
  obtain rfl : args = #[v0, v1] := by cases args; simp_all
  obtain ⟨rfl, rfl⟩ := trodVars_none hV
  have k0_ := h0
  have lt0 : ∀ x ∈ p0, x.block < W.heap.size := by obtain ⟨m, hm⟩ := k0_; exact DataW.trod_lt m _ _ _ hm
  obtain ⟨cs0, y0, rfl, hK0, w0⟩ := arg_struct opens_st24 h0 (agg_of_okWide Try.underlying24 (hval 0 24 v0 rfl rfl))
  obtain ⟨A0_0, c0_0, rfl, hc0_0, hr0_0⟩ := k24_open hK0
  have k1_ := h1
  have lt1 : ∀ x ∈ p1, x.block < W.heap.size := by obtain ⟨m, hm⟩ := k1_; exact DataW.trod_lt m _ _ _ hm
  obtain ⟨cs1, y1, rfl, hK1, w1⟩ := arg_struct opens_st26 h1 (agg_of_okWide Try.underlying26 (hval 1 26 v1 rfl rfl))
  obtain rfl := k26_open hK1
  clear hA0 hval0 hsz0
  obtain ⟨k, h⟩ := Pure.FnExactAddClue y0.f0 y1.f0 y1.f1 y1.f2 w0 w1.1 w1.2.1 w1.2.2
  refine (laws_FnExactAddClue.calls k _ _ y0.f0 y1.f0 y1.f1 y1.f2 true W hr0_0 hc0_0 h).mono fun e W' ⟨he, bel0⟩ => ?_
  have bel := bel0
  subst he
  exact ⟨_, rfl, _, _, _, [], _, [], hW', trodAll_mk1 (shut_bool Try.underlying4 _), (trodAll_cons_mk (Below.trod laidOut (by kernel_rfl) (of_decide_eq_true (by kernel_rfl)) k0_ bel lt0) (trodAll_cons_mk (Below.trod laidOut (by kernel_rfl) (of_decide_eq_true (by kernel_rfl)) k1_ bel lt1) trodAll_mk0)), rfl, bel.frame _, fun h => by cases h⟩
theorem over : Rows.fnExactAddClueRow.holds Try.pinned (OpenSpec.ofChange Rows.fnExactAddClueSpec) :=
  OpenClaim.holds_of_wide 3 Try.f3 rfl rfl rfl rfl rfl rfl rfl ⟨rfl, rfl, rfl, rfl, rfl⟩ rfl rfl rfl rfl rfl (by kernel_rfl) Try.func3 (by kernel_rfl)
    (of_decide_eq_true (by kernel_rfl)) (by unfold Func.isWrapper; first | (rw [if_pos (by decide +kernel)]; kernel_rfl) | (rw [if_neg (by decide +kernel)]; exact ⟨rfl, rfl⟩))
    (fun os started H enc _ => lifted os started H enc)
theorem proved : Rows.FnExactAddClueSaid := over
#print axioms proved
end Go.Proofs.Ytmcingnpbececaa.fnExactAddClue
namespace Go.Proofs.Ytmcingnpbececaa
/-- The statement, under a short name, for the claim. -/
theorem fnExactAddClue_holds : Rows.FnExactAddClueSaid := fnExactAddClue.proved
end Go.Proofs.Ytmcingnpbececaa
