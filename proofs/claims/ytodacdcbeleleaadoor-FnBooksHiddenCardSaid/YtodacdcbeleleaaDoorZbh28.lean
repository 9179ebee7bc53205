/- FnBooksHidden returns true for every input, and its arguments read behind the call as before; no condition. -/
import Derived.Test.YtodacdcbeleleaaDoorZbh26
import Derived.Test.YtodacdcbeleleaaDoorZbh27
import Derived.Test.YtodacdcbeleleaaDoorCards
import Derived.Test.YtodacdcbeleleaaDoorTie
import Derived.LaidMore
import Derived.Stop.Joined
import Derived.SevenTiedAt
import Derived.Test.YtodacdcbeleleaaDoorRows
import Derived.WalkKit
import Derived.ProofKit
import Derived.OpenShut
import Derived.ShutString
import Derived.ChangeOld
import Derived.Below
import Derived.SizedLaws
namespace Go.Proofs.YtodacdcbeleleaaDoor.fnBooksHidden
open Go.ChangeShapes Go.WideShapes Go.ChangeAt Go.RowKit Go.Proofs.YtodacdcbeleleaaDoor.P Go.Proofs.YtodacdcbeleleaaDoor.Open Go.Proofs.YtodacdcbeleleaaDoorW.PrintWords
open Go.ChangeMaps (open_string shut_string)
set_option linter.unusedVariables false
theorem own : ownKnob Tryd.prog.godebug = none := by kernel_rfl
theorem laidOut : laidOutB Tryd.prog = true := by kernel_rfl
set_option maxRecDepth 100000 in
theorem door_met (os : Os) (args : Array Value) : laidMetH Tryd.prog Rows.fnBooksHiddenRow.laid ((World.doorLaid Tryd.prog 24 os).forCall (fun _ _ => 0) ⟨#[], args, []⟩).memory :=
  laidMetH_of_parts3 (fuel := 8) (laidMet_of_run' 8 (w204_) (w204_)) (w204_) (w204_)
set_option maxRecDepth 100000 in
set_option maxHeartbeats 1000000 in
theorem lifted (os : Os) (started : os.Started) (H : Type) (enc : TypeId × Value → H) :
    ReturnsInHanded {} Tryd.checked os 3 .any (fun w args => (Rows.fnBooksHiddenSpec.pre enc Tryd.prog Tryd.f3 [] false w args ∧ laidMetH Tryd.prog Rows.fnBooksHiddenRow.laid w) ∧ sizedMet enc Tryd.prog Tryd.f3 (OpenSpec.ofChange Rows.fnBooksHiddenSpec) false w args)
      (Rows.fnBooksHiddenSpec.post enc Tryd.prog Tryd.f3 false true false false) := by
  refine returnsInHanded_of_change_and (C := Tryd.checked) (X := fun w _ => laidMetH Tryd.prog Rows.fnBooksHiddenRow.laid w) (fun _ _ _ hh h => h.of_heap hh) own started (w204_) Tryd.func3
    (ChangeSpec.witness_shaped (enc := enc) (C := Tryd.checked) (os := os) (X := fun w _ => laidMetH Tryd.prog Rows.fnBooksHiddenRow.laid w) false (World.doorLaid Tryd.prog 24 os) #[(.slice none 0 0), (.slice none 0 0)] 8 rfl (World.shaped_of_RefB (w204_) (w204_)) (w204_) (w204_) (w204_) (door_met os _)) ?_
  intro W base args ds gs before hval0 hW hcnd hsz0 hL _
  have hval : ∀ (j : Nat) t v, Tryd.f3.params[j]? = some t → args[j]? = some v → Value.okWide Tryd.prog W .any base t v := hval0
  have hW' := hW
  obtain ⟨p, q, hA0, hV, rfl, hfz, hnd⟩ := hW
  have hA : DataW.TrodAll enc Tryd.prog W 0 (fun _ => true) true Tryd.f3.params.toList args.toList ds p := hA0
  rw [Tryd.params3] at hA hval
  obtain ⟨v0, vs0, d0, ds0, p0, q0, hargs, rfl, rfl, h0, r0⟩ := trodAll_cons hA
  obtain ⟨v1, vs1, d1, ds1, p1, q1, rfl, rfl, rfl, h1, r1⟩ := trodAll_cons r0
  obtain ⟨rfl, rfl, rfl⟩ := trodAll_nil r1
  obtain rfl : args = #[v0, v1] := by cases args; simp_all
  obtain ⟨rfl, rfl⟩ := trodVars_none hV
  have k0_ := h0
  have lt0 : ∀ x ∈ p0, x.block < W.heap.size := by obtain ⟨m, hm⟩ := k0_; exact DataW.trod_lt m _ _ _ hm
  obtain ⟨A0, c0, l0, rfl, hr0, hc0, w0⟩ := arg_slice (opens_slice (P := Tryd.prog) (t := 22) (e := 5) (d := (Kd.int .u8)) Tryd.underlying22 (w204_) (opens_int (P := Tryd.prog) (t := 5) Tryd.underlying5)) h0 (by obtain ⟨a, m, c, e⟩ := okWide_slice Tryd.underlying22 (hval 0 22 v0 rfl rfl); exact ⟨_, _, _, e⟩)
  have k1_ := h1
  have lt1 : ∀ x ∈ p1, x.block < W.heap.size := by obtain ⟨m, hm⟩ := k1_; exact DataW.trod_lt m _ _ _ hm
  obtain ⟨A1, c1, l1, rfl, hr1, hc1, w1⟩ := arg_slice (opens_slice (P := Tryd.prog) (t := 22) (e := 5) (d := (Kd.int .u8)) Tryd.underlying22 (w204_) (opens_int (P := Tryd.prog) (t := 5) Tryd.underlying5)) h1 (by obtain ⟨a, m, c, e⟩ := okWide_slice Tryd.underlying22 (hval 1 22 v1 rfl rfl); exact ⟨_, _, _, e⟩)
  clear hA0 hval0 hsz0
  obtain ⟨k, h⟩ := Pure.FnBooksHidden l0 l1 w0 w1
  refine (laws_FnBooksHidden.calls k _ _ l0 _ _ l1 true W hr0 hc0 hr1 hc1 h rfl).mono fun e W' ⟨he, bel0⟩ => ?_
  have bel := bel0
  subst he
  exact ⟨_, rfl, _, _, _, [], _, [], hW', trodAll_mk1 (shut_bool Tryd.underlying4 _), (trodAll_cons_mk (Below.trod laidOut (w204_) (of_decide_eq_true (w204_)) k0_ bel lt0) (trodAll_cons_mk (Below.trod laidOut (w204_) (of_decide_eq_true (w204_)) k1_ bel lt1) trodAll_mk0)), rfl, bel.frame _, fun h => by cases h⟩
theorem over : Rows.fnBooksHiddenRow.holds Tryd.pinned (OpenSpec.ofChange Rows.fnBooksHiddenSpec) :=
  OpenClaim.holds_of_wide 3 Tryd.f3 rfl rfl rfl rfl rfl rfl rfl ⟨rfl, rfl, rfl, rfl, rfl⟩ rfl rfl rfl rfl rfl (w204_) Tryd.func3 (w204_)
    (of_decide_eq_true (w204_)) (w133_)
    (fun os started H enc _ => lifted os started H enc)
theorem proved : Rows.FnBooksHiddenSaid := over
theorem proved_card : Rows.FnBooksHiddenCardSaid :=
  Claim7.holds_tied_plain_at .later [] [.data, .data, .data] true (true, "f1a0fc3679a215a8d2c44070122deb3369a0a58c4274218162d77a45a7bac739") false
    over (fun _ h => by cases h) (w204_) (fun _ h => by cases h) fnBooksHidden_row_tie rfl ⟨rfl, rfl⟩ (w204_) rfl
    (fun f fn hf hfn => by
      obtain rfl : f = 3 := Option.some.inj ((show Tryd.prog.funcNamed "loop.example/g01394/laws.FnBooksHidden" = some 3 by kernel_rfl).symm.trans hf) |>.symm
      obtain rfl : fn = Tryd.f3 := (Option.some.inj (Tryd.func3.symm.trans hfn)).symm
      exact ⟨w204_, fun j t ht => by
        rw [Tryd.params3] at ht
        have hm : t ∈ [22, 22] := by simpa using Array.mem_of_getElem? ht
        have hall : ([22, 22].all fun u => !Tryd.prog.wantsStandIn u) = true := by kernel_rfl
        exact (show Tryd.prog.wantsStandIn t = false by simpa using List.all_eq_true.1 hall t hm)⟩)
    (w204_)
#print axioms proved_card
end Go.Proofs.YtodacdcbeleleaaDoor.fnBooksHidden
namespace Go.Proofs.YtodacdcbeleleaaDoor
theorem fnBooksHidden_holds : Rows.FnBooksHiddenCardSaid := fnBooksHidden.proved_card
end Go.Proofs.YtodacdcbeleleaaDoor
