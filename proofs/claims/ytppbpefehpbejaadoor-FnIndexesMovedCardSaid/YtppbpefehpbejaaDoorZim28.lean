/- FnIndexesMoved returns true for every input, and its arguments read behind the call as before; no condition. -/
import Derived.Test.YtppbpefehpbejaaDoorZim26
import Derived.Test.YtppbpefehpbejaaDoorZim27
import Derived.Test.YtppbpefehpbejaaDoorCards
import Derived.Test.YtppbpefehpbejaaDoorTie
import Derived.LaidMore
import Derived.Lay
import Derived.MakeChecks
import Derived.Stop.Joined
import Derived.SevenTiedAt
import Derived.Test.YtppbpefehpbejaaDoorRows
import Derived.WalkKit
import Derived.ProofKit
import Derived.OpenShut
import Derived.ShutString
import Derived.ChangeOld
import Derived.Below
import Derived.SizedLaws
namespace Go.Proofs.YtppbpefehpbejaaDoor.fnIndexesMoved
open Go.ChangeShapes Go.WideShapes Go.ChangeAt Go.RowKit Go.Proofs.YtppbpefehpbejaaDoor.P Go.Proofs.YtppbpefehpbejaaDoor.Open Go.Proofs.YtppbpefehpbejaaDoorW.PrintWords
open Go.ChangeMaps (open_string shut_string)
set_option linter.unusedVariables false
theorem own : ownKnob Tryd.prog.godebug = none := by kernel_rfl
theorem laidOut : laidOutB Tryd.prog = true := by kernel_rfl
set_option maxRecDepth 100000 in
theorem door_met (os : Os) (args : Array Value) : laidMetH Tryd.prog Rows.fnIndexesMovedRow.laid ((World.laidAll Tryd.prog os Rows.fnIndexesMovedRow.laid).forCall (fun _ _ => 0) ⟨#[], args, []⟩).memory := by
  rw [MakeChecks.laidMetH_plain _ _ _ (w162_)]; exact laidMet_laidAll _ (w162_) (w162_)
set_option maxRecDepth 100000 in
set_option maxHeartbeats 1000000 in
theorem lifted (os : Os) (started : os.Started) (H : Type) (enc : TypeId × Value → H) :
    ReturnsInHanded {} Tryd.checked os 5 .any (fun w args => (Rows.fnIndexesMovedSpec.pre enc Tryd.prog Tryd.f5 [] false w args ∧ laidMetH Tryd.prog Rows.fnIndexesMovedRow.laid w) ∧ sizedMet enc Tryd.prog Tryd.f5 (OpenSpec.ofChange Rows.fnIndexesMovedSpec) false w args)
      (Rows.fnIndexesMovedSpec.post enc Tryd.prog Tryd.f5 false true false false) := by
  refine lift_shaped (C := Tryd.checked) (X := fun w _ => laidMetH Tryd.prog Rows.fnIndexesMovedRow.laid w) (fun _ _ _ hh h => h.of_heap hh) own started (w162_) Tryd.func5
    (ChangeSpec.witness_shaped (enc := enc) (C := Tryd.checked) (os := os) (X := fun w _ => laidMetH Tryd.prog Rows.fnIndexesMovedRow.laid w) false (World.laidAll Tryd.prog os Rows.fnIndexesMovedRow.laid) #[(.slice none 0 0), (.slice none 0 0)] 8 (World.laidAll_os _ _ _) (World.shaped_of_ZipB (w162_) (w162_)) (w162_) (w162_) (w162_) (door_met os _)) ?_
  intro W base args ds gs before hShp hval0 hW hcnd hsz0 hL _
  have hval : ∀ (j : Nat) t v, Tryd.f5.params[j]? = some t → args[j]? = some v → Value.okWide Tryd.prog W .any base t v := hval0
  have hW' := hW
  obtain ⟨p, q, hA0, hV, rfl, hfz, hnd⟩ := hW
  have hA : DataW.TrodAll enc Tryd.prog W 0 (fun _ => true) true Tryd.f5.params.toList args.toList ds p := hA0
  rw [Tryd.params5] at hA hval
  obtain ⟨v0, vs0, d0, ds0, p0, q0, hargs, rfl, rfl, h0, r0⟩ := trodAll_cons hA
  obtain ⟨v1, vs1, d1, ds1, p1, q1, rfl, rfl, rfl, h1, r1⟩ := trodAll_cons r0
  obtain ⟨rfl, rfl, rfl⟩ := trodAll_nil r1
  obtain rfl : args = #[v0, v1] := by cases args; simp_all
  obtain ⟨rfl, rfl⟩ := trodVars_none hV
  have k0_ := h0
  have lt0 : ∀ x ∈ p0, x.block < W.heap.size := by obtain ⟨m, hm⟩ := k0_; exact DataW.trod_lt m _ _ _ hm
  obtain ⟨A0, c0, l0, rfl, hr0, hc0, w0⟩ := arg_slice (opens_slice (P := Tryd.prog) (t := 22) (e := 5) (d := (Kd.int .u8)) Tryd.underlying22 (w162_) (opens_int (P := Tryd.prog) (t := 5) Tryd.underlying5)) h0 (by obtain ⟨a, m, c, e⟩ := okWide_slice Tryd.underlying22 (hval 0 22 v0 rfl rfl); exact ⟨_, _, _, e⟩)
  have k1_ := h1
  have lt1 : ∀ x ∈ p1, x.block < W.heap.size := by obtain ⟨m, hm⟩ := k1_; exact DataW.trod_lt m _ _ _ hm
  obtain ⟨A1, c1, l1, rfl, hr1, hc1, w1⟩ := arg_slice (opens_slice (P := Tryd.prog) (t := 22) (e := 5) (d := (Kd.int .u8)) Tryd.underlying22 (w162_) (opens_int (P := Tryd.prog) (t := 5) Tryd.underlying5)) h1 (by obtain ⟨a, m, c, e⟩ := okWide_slice Tryd.underlying22 (hval 1 22 v1 rfl rfl); exact ⟨_, _, _, e⟩)
  clear hA0 hval0 hsz0
  obtain ⟨k, h⟩ := Pure.FnIndexesMoved l0 l1 w0 w1
  have hTab : LibW W := libW_of hL hShp (w162_) (w162_) (w162_)
  refine (laws_FnIndexesMoved.calls k _ _ l0 _ _ l1 true W hTab hr0 hc0 hr1 hc1 h rfl).mono fun e W' ⟨he, bel0⟩ => ?_
  have bel := bel0
  subst he
  exact ⟨_, rfl, _, _, _, [], _, [], hW', trodAll_mk1 (shut_bool Tryd.underlying4 _), (trodAll_cons_mk (Below.trod laidOut (w162_) (of_decide_eq_true (w162_)) k0_ bel lt0) (trodAll_cons_mk (Below.trod laidOut (w162_) (of_decide_eq_true (w162_)) k1_ bel lt1) trodAll_mk0)), rfl, bel.frame _, fun h => by cases h⟩
theorem over : Rows.fnIndexesMovedRow.holds Tryd.pinned (OpenSpec.ofChange Rows.fnIndexesMovedSpec) :=
  OpenClaim.holds_of_wide 5 Tryd.f5 rfl rfl rfl rfl rfl rfl rfl ⟨rfl, rfl, rfl, rfl, rfl⟩ rfl rfl rfl rfl rfl (w162_) Tryd.func5 (w162_)
    (of_decide_eq_true (w162_)) (by unfold Func.isWrapper; first | (rw [if_pos (by decide +kernel)]; kernel_rfl) | (rw [if_neg (by decide +kernel)]; exact ⟨rfl, rfl⟩))
    (fun os started H enc _ => lifted os started H enc)
theorem proved : Rows.FnIndexesMovedSaid := over
theorem proved_card : Rows.FnIndexesMovedCardSaid :=
  Claim7.holds_tied_plain_at .later [] [.data, .data, .data, .sentinel, .sentinel] true (true, "a0eff44989bedead89e42a4878d494c64d3a78785b8486f86ec50e1a6f0d22bb") true
    over (fun _ h => by cases h) (w162_) (fun _ h => by cases h) fnIndexesMoved_row_tie rfl ⟨rfl, rfl⟩ (w162_) rfl
    (fun f fn hf hfn => by
      obtain rfl : f = 5 := Option.some.inj ((show Tryd.prog.funcNamed "loop.example/g01394/laws.FnIndexesMoved" = some 5 by kernel_rfl).symm.trans hf) |>.symm
      obtain rfl : fn = Tryd.f5 := (Option.some.inj (Tryd.func5.symm.trans hfn)).symm
      exact ⟨w162_, fun j t ht => by
        rw [Tryd.params5] at ht
        have hm : t ∈ [22, 22] := by simpa using Array.mem_of_getElem? ht
        have hall : ([22, 22].all fun u => !Tryd.prog.wantsStandIn u) = true := by kernel_rfl
        exact (show Tryd.prog.wantsStandIn t = false by simpa using List.all_eq_true.1 hall t hm)⟩)
    (w162_)
#print axioms proved_card
end Go.Proofs.YtppbpefehpbejaaDoor.fnIndexesMoved
namespace Go.Proofs.YtppbpefehpbejaaDoor
theorem fnIndexesMoved_holds : Rows.FnIndexesMovedCardSaid := fnIndexesMoved.proved_card
end Go.Proofs.YtppbpefehpbejaaDoor
