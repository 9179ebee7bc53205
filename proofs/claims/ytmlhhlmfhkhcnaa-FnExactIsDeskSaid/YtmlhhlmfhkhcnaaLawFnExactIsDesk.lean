/- FnExactIsDesk returns true for every input, and its arguments read behind the call as before; no condition. -/
import Derived.Test.YtmlhhlmfhkhcnaaRows
import Derived.Test.YtmlhhlmfhkhcnaaPx11
import Derived.Test.YtmlhhlmfhkhcnaaPureFnExactIsDesk
import Derived.Test.YtmlhhlmfhkhcnaaOpen
import Derived.WalkKit
import Derived.ProofKit
import Derived.OpenShut
import Derived.ShutString
import Derived.ChangeOld
import Derived.Below
import Derived.SizedLaws
namespace Go.Proofs.Ytmlhhlmfhkhcnaa.fnExactIsDesk
open Go.ChangeShapes Go.WideShapes Go.ChangeAt Go.RowKit Go.Proofs.Ytmlhhlmfhkhcnaa.P Go.Proofs.Ytmlhhlmfhkhcnaa.Open Go.Proofs.YtmlhhlmfhkhcnaaW.PrintWords
open Go.ChangeMaps (open_string shut_string)
set_option linter.unusedVariables false
theorem own : ownKnob Try.prog.godebug = none := by kernel_rfl
theorem laidOut : laidOutB Try.prog = true := by kernel_rfl
theorem opens_st42 : Opens Try.prog 42 k42 (fun x => ((x.f0.length ≤ maxLen ∧ ∀ x0_, x0_ ∈ x.f0 → (Lit.int .i64 x0_).wf = true) ∧ (Lit.int .i64 x.f1).wf = true)) := by
  have h := opens_struct (P := Try.prog) (t := 42) Try.underlying42 (by kernel_rfl) (opensFs_cons rfl (by kernel_rfl) (opens_slice (P := Try.prog) (t := 22) (e := 3) (d := (Kd.int .i64)) Try.underlying22 (by kernel_rfl) (opens_int (P := Try.prog) (t := 3) Try.underlying3)) (opensFs_one rfl (by kernel_rfl) (opens_int (P := Try.prog) (t := 3) Try.underlying3)))
  exact opens_iso (fun x : S42 => (x.f0, x.f1)) (fun p => ⟨p.1, p.2⟩) (fun _ => rfl) h
theorem opens_st67 : Opens Try.prog 67 k67 (fun x => ((Lit.int .i64 x.f0).wf = true ∧ (Lit.int .i64 x.f1).wf = true)) := by
  have h := opens_struct (P := Try.prog) (t := 67) Try.underlying67 (by kernel_rfl) (opensFs_cons rfl (by kernel_rfl) (opens_int (P := Try.prog) (t := 3) Try.underlying3) (opensFs_one rfl (by kernel_rfl) (opens_int (P := Try.prog) (t := 3) Try.underlying3)))
  exact opens_iso (fun x : S67 => (x.f0, x.f1)) (fun p => ⟨p.1, p.2⟩) (fun _ => rfl) h
theorem opens_st44 : Opens Try.prog 44 k44 (fun x => ((Lit.int .i64 x.f0).wf = true ∧ ((Lit.int .i64 x.f1).wf = true ∧ (((x.f2.f0.length ≤ maxLen ∧ ∀ x0_, x0_ ∈ x.f2.f0 → (Lit.int .i64 x0_).wf = true) ∧ (Lit.int .i64 x.f2.f1).wf = true) ∧ ((x.f3.length ≤ maxLen ∧ ∀ x0_, x0_ ∈ x.f3 → ((Lit.int .i64 x0_.f0).wf = true ∧ (Lit.int .i64 x0_.f1).wf = true)) ∧ (x.f4.length ≤ maxLen ∧ ∀ x0_, x0_ ∈ x.f4 → (Lit.int .i64 x0_).wf = true)))))) := by
  have h := opens_struct (P := Try.prog) (t := 44) Try.underlying44 (by kernel_rfl) (opensFs_cons rfl (by kernel_rfl) (opens_int (P := Try.prog) (t := 3) Try.underlying3) (opensFs_cons rfl (by kernel_rfl) (opens_int (P := Try.prog) (t := 3) Try.underlying3) (opensFs_cons rfl (by kernel_rfl) opens_st42 (opensFs_cons rfl (by kernel_rfl) (opens_slice (P := Try.prog) (t := 32) (e := 67) (d := k67) Try.underlying32 (by kernel_rfl) opens_st67) (opensFs_one rfl (by kernel_rfl) (opens_slice (P := Try.prog) (t := 22) (e := 3) (d := (Kd.int .i64)) Try.underlying22 (by kernel_rfl) (opens_int (P := Try.prog) (t := 3) Try.underlying3)))))))
  exact opens_iso (fun x : S44 => (x.f0, x.f1, x.f2, x.f3, x.f4)) (fun p => ⟨p.1, p.2.1, p.2.2.1, p.2.2.2.1, p.2.2.2.2⟩) (fun _ => rfl) h
set_option maxRecDepth 100000 in
set_option maxHeartbeats 1000000 in
theorem lifted (os : Os) (started : os.Started) (H : Type) (enc : TypeId × Value → H) :
    ReturnsInHanded {} Try.checked os 10 .any (Rows.fnExactIsDeskSpec.pre6 enc Try.prog Try.f10 Rows.fnExactIsDeskRow.domain false) (Rows.fnExactIsDeskSpec.post enc Try.prog Try.f10 false true false false) := by
  refine returnsInHanded_of_change_sized (C := Try.checked) own started (by kernel_rfl) Try.func10
    (ChangeSpec.witness6 (enc := enc) (C := Try.checked) false ⟨#[], #[(.agg #[(.int .i64 0), (.int .i64 0), (.slice none 0 0), (.int .i64 0), (.slice none 0 0), (.slice none 0 0)])], []⟩ 8 (by kernel_rfl) (by kernel_rfl) (by kernel_rfl) (by kernel_rfl)) ?_
  intro W base args ds gs before hval0 hW hcnd hsz0 _
  have hval : ∀ (j : Nat) t v, Try.f10.params[j]? = some t → args[j]? = some v → Value.okWide Try.prog W .any base t v := hval0
  have hW' := hW
  obtain ⟨p, q, hA0, hV, rfl, hfz, hnd⟩ := hW
  have hA : DataW.TrodAll enc Try.prog W 0 (fun _ => true) true Try.f10.params.toList args.toList ds p := hA0
  rw [Try.params10] at hA hval
  obtain ⟨v0, vs0, d0, ds0, p0, q0, hargs, rfl, rfl, h0, r0⟩ := trodAll_cons hA
  obtain ⟨rfl, rfl, rfl⟩ := trodAll_nil r0
  obtain rfl : args = #[v0] := by cases args; simp_all
  obtain ⟨rfl, rfl⟩ := trodVars_none hV
  have k0_ := h0
  have lt0 : ∀ x ∈ p0, x.block < W.heap.size := by obtain ⟨m, hm⟩ := k0_; exact DataW.trod_lt m _ _ _ hm
  obtain ⟨cs0, y0, rfl, hK0, w0⟩ := arg_struct opens_st44 h0 (agg_of_okWide Try.underlying44 (hval 0 44 v0 rfl rfl))
  obtain ⟨A0_2, c0_2, A0_4, c0_4, A0_5, c0_5, rfl, hc0_2, hr0_2, hc0_4, hr0_4, hc0_5, hr0_5⟩ := k44_open hK0
  clear hA0 hval0 hsz0
  obtain ⟨k, h⟩ := Pure.FnExactIsDesk y0.f0 y0.f1 y0.f2.f0 y0.f2.f1 y0.f3 y0.f4 w0.1 w0.2.1 w0.2.2.1.1 w0.2.2.1.2 w0.2.2.2.1 w0.2.2.2.2
  refine (laws_FnExactIsDesk.calls k y0.f0 y0.f1 _ _ y0.f2.f0 y0.f2.f1 _ _ y0.f3 _ _ y0.f4 true W hr0_2 hc0_2 hr0_4 hc0_4 hr0_5 hc0_5 h).mono fun e W' ⟨he, bel0⟩ => ?_
  have bel := bel0
  subst he
  exact ⟨_, rfl, _, _, _, [], _, [], hW', trodAll_mk1 (shut_bool Try.underlying4 _), (trodAll_cons_mk (Below.trod laidOut (by kernel_rfl) (of_decide_eq_true (by kernel_rfl)) k0_ bel lt0) trodAll_mk0), rfl, bel.frame _, fun h => by cases h⟩
theorem over : Rows.fnExactIsDeskRow.holds Try.pinned (OpenSpec.ofChange Rows.fnExactIsDeskSpec) :=
  OpenClaim.holds_of_wide 10 Try.f10 rfl rfl rfl rfl rfl rfl rfl ⟨rfl, rfl, rfl, rfl, rfl⟩ rfl rfl rfl rfl rfl (by kernel_rfl) Try.func10 (by kernel_rfl)
    (of_decide_eq_true (by kernel_rfl)) (by unfold Func.isWrapper; first | (rw [if_pos (by decide +kernel)]; kernel_rfl) | (rw [if_neg (by decide +kernel)]; exact ⟨rfl, rfl⟩))
    (fun os started H enc _ => lifted os started H enc)
theorem proved : Rows.FnExactIsDeskSaid := over
#print axioms proved
end Go.Proofs.Ytmlhhlmfhkhcnaa.fnExactIsDesk
namespace Go.Proofs.Ytmlhhlmfhkhcnaa
/-- The statement, under a short name, for the claim. -/
theorem fnExactIsDesk_holds : Rows.FnExactIsDeskSaid := fnExactIsDesk.proved
end Go.Proofs.Ytmlhhlmfhkhcnaa
