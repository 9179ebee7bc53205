/- FnShelvesEaten returns true for every input, and its arguments read behind the call as before; no condition. -/
import Derived.Test.YtimladcenifppaaGreatDoorZse26
import Derived.Test.YtimladcenifppaaGreatDoorZse27
import Derived.Test.YtimladcenifppaaGreatDoorCards
import Derived.Test.YtimladcenifppaaGreatDoorTie
import Derived.LaidMore
import Derived.Lay
import Derived.MakeChecks
import Derived.Stop.Joined
import Derived.SevenTiedAt
import Derived.Test.YtimladcenifppaaGreatDoorRows
import Derived.WalkKit
import Derived.ProofKit
import Derived.OpenShut
import Derived.ShutString
import Derived.ChangeOld
import Derived.Below
import Derived.SizedLaws
namespace Go.Proofs.YtimladcenifppaaGreatDoor.fnShelvesEaten
open Go.ChangeShapes Go.WideShapes Go.ChangeAt Go.RowKit Go.Proofs.YtimladcenifppaaGreatDoor.P Go.Proofs.YtimladcenifppaaGreatDoor.Open Go.Proofs.YtimladcenifppaaGreatDoorW.PrintWords
open Go.ChangeMaps (open_string shut_string)
set_option linter.unusedVariables false
theorem own : ownKnob Tryz.prog.godebug = none := by kernel_rfl
theorem laidOut : laidOutB Tryz.prog = true := by kernel_rfl
set_option maxRecDepth 100000 in
theorem door_met (os : Os) (args : Array Value) : laidMetH Tryz.prog Rows.fnShelvesEatenRow.laid ((World.laidAll Tryz.prog os Rows.fnShelvesEatenRow.laid).forCall (fun _ _ => 0) ⟨#[], args, []⟩).memory := by
  rw [MakeChecks.laidMetH_plain _ _ _ (w94_)]; exact laidMet_laidAll _ (w94_) (w94_)
set_option maxRecDepth 100000 in
set_option maxHeartbeats 1000000 in
theorem lifted (os : Os) (started : os.Started) (H : Type) (enc : TypeId × Value → H) :
    ReturnsInHanded {} Tryz.checked os 3 .any (fun w args => (Rows.fnShelvesEatenSpec.pre enc Tryz.prog Tryz.f3 [] false w args ∧ laidMetH Tryz.prog Rows.fnShelvesEatenRow.laid w) ∧ sizedMet enc Tryz.prog Tryz.f3 (OpenSpec.ofChange Rows.fnShelvesEatenSpec) false w args)
      (Rows.fnShelvesEatenSpec.post enc Tryz.prog Tryz.f3 false true false false) := by
  refine lift_shaped (C := Tryz.checked) (X := fun w _ => laidMetH Tryz.prog Rows.fnShelvesEatenRow.laid w) (fun _ _ _ hh h => h.of_heap hh) own started (w94_) Tryz.func3
    (ChangeSpec.witness_shaped (enc := enc) (C := Tryz.checked) (os := os) (X := fun w _ => laidMetH Tryz.prog Rows.fnShelvesEatenRow.laid w) false (World.laidAll Tryz.prog os Rows.fnShelvesEatenRow.laid) #[(.slice none 0 0), (.slice none 0 0)] 8 (World.laidAll_os _ _ _) (World.shaped_of_ZipB (w94_) (w94_)) (w94_) (w94_) (w94_) (door_met os _)) ?_
  intro W base args ds gs before hShp hval0 hW hcnd hsz0 hL _
  have hval : ∀ (j : Nat) t v, Tryz.f3.params[j]? = some t → args[j]? = some v → Value.okWide Tryz.prog W .any base t v := hval0
  have hW' := hW
  obtain ⟨p, q, hA0, hV, rfl, hfz, hnd⟩ := hW
  have hA : DataW.TrodAll enc Tryz.prog W 0 (fun _ => true) true Tryz.f3.params.toList args.toList ds p := hA0
  rw [Tryz.params3] at hA hval
  obtain ⟨v0, vs0, d0, ds0, p0, q0, hargs, rfl, rfl, h0, r0⟩ := trodAll_cons hA
  obtain ⟨v1, vs1, d1, ds1, p1, q1, rfl, rfl, rfl, h1, r1⟩ := trodAll_cons r0
  obtain ⟨rfl, rfl, rfl⟩ := trodAll_nil r1
  obtain rfl : args = #[v0, v1] := by cases args; simp_all
  obtain ⟨rfl, rfl⟩ := trodVars_none hV
  have k0_ := h0
  have lt0 : ∀ x ∈ p0, x.block < W.heap.size := by obtain ⟨m, hm⟩ := k0_; exact DataW.trod_lt m _ _ _ hm
  obtain ⟨A0, c0, l0, rfl, hr0, hc0, w0⟩ := arg_slice (opens_slice (P := Tryz.prog) (t := 22) (e := 5) (d := (Kd.int .u8)) Tryz.underlying22 (w94_) (opens_int (P := Tryz.prog) (t := 5) Tryz.underlying5)) h0 (by obtain ⟨a, m, c, e⟩ := okWide_slice Tryz.underlying22 (hval 0 22 v0 rfl rfl); exact ⟨_, _, _, e⟩)
  have k1_ := h1
  have lt1 : ∀ x ∈ p1, x.block < W.heap.size := by obtain ⟨m, hm⟩ := k1_; exact DataW.trod_lt m _ _ _ hm
  obtain ⟨A1, c1, l1, rfl, hr1, hc1, w1⟩ := arg_slice (opens_slice (P := Tryz.prog) (t := 22) (e := 5) (d := (Kd.int .u8)) Tryz.underlying22 (w94_) (opens_int (P := Tryz.prog) (t := 5) Tryz.underlying5)) h1 (by obtain ⟨a, m, c, e⟩ := okWide_slice Tryz.underlying22 (hval 1 22 v1 rfl rfl); exact ⟨_, _, _, e⟩)
  clear hA0 hval0 hsz0
  obtain ⟨k, h⟩ := Pure.FnShelvesEaten l0 l1 w0 w1
  have hTab : LibW W := libW_of hL hShp (w94_) (w94_) (w94_)
  refine (laws_FnShelvesEaten.calls k _ _ l0 _ _ l1 true W hTab hr0 hc0 hr1 hc1 h rfl).mono fun e W' ⟨he, bel0⟩ => ?_
  have bel := bel0
  subst he
  exact ⟨_, rfl, _, _, _, [], _, [], hW', trodAll_mk1 (shut_bool Tryz.underlying4 _), (trodAll_cons_mk (Below.trod laidOut (w94_) (of_decide_eq_true (w94_)) k0_ bel lt0) (trodAll_cons_mk (Below.trod laidOut (w94_) (of_decide_eq_true (w94_)) k1_ bel lt1) trodAll_mk0)), rfl, bel.frame _, fun h => by cases h⟩
theorem over : Rows.fnShelvesEatenRow.holds Tryz.pinned (OpenSpec.ofChange Rows.fnShelvesEatenSpec) :=
  OpenClaim.holds_of_wide 3 Tryz.f3 rfl rfl rfl rfl rfl rfl rfl ⟨rfl, rfl, rfl, rfl, rfl⟩ rfl rfl rfl rfl rfl (w94_) Tryz.func3 (w94_)
    (of_decide_eq_true (w94_)) (by unfold Func.isWrapper; first | (rw [if_pos (by decide +kernel)]; kernel_rfl) | (rw [if_neg (by decide +kernel)]; exact ⟨rfl, rfl⟩))
    (fun os started H enc _ => lifted os started H enc)
theorem proved : Rows.FnShelvesEatenSaid := over
theorem proved_card : Rows.FnShelvesEatenCardSaid :=
  Claim7.holds_tied_plain_at .later [] [.data, .data, .data, .data, .sentinel, .sentinel, .pinned] true (true, "a800118a0e62e936129bcd1941fa7353570ca110e6dff7536549a916fd348307") true
    over (fun _ h => by cases h) (w94_) (fun _ h => by cases h) fnShelvesEaten_row_tie rfl ⟨rfl, rfl⟩ (w94_) rfl
    (fun f fn hf hfn => by
      obtain rfl : f = 3 := Option.some.inj ((show Tryz.prog.funcNamed "loop.example/g01394/laws.FnShelvesEaten" = some 3 by kernel_rfl).symm.trans hf) |>.symm
      obtain rfl : fn = Tryz.f3 := (Option.some.inj (Tryz.func3.symm.trans hfn)).symm
      exact ⟨w94_, fun j t ht => by
        rw [Tryz.params3] at ht
        have hm : t ∈ [22, 22] := by simpa using Array.mem_of_getElem? ht
        have hall : ([22, 22].all fun u => !Tryz.prog.wantsStandIn u) = true := by kernel_rfl
        exact (show Tryz.prog.wantsStandIn t = false by simpa using List.all_eq_true.1 hall t hm)⟩)
    (w94_)
#print axioms proved_card
end Go.Proofs.YtimladcenifppaaGreatDoor.fnShelvesEaten
namespace Go.Proofs.YtimladcenifppaaGreatDoor
theorem fnShelvesEaten_holds : Rows.FnShelvesEatenCardSaid := fnShelvesEaten.proved_card
end Go.Proofs.YtimladcenifppaaGreatDoor
