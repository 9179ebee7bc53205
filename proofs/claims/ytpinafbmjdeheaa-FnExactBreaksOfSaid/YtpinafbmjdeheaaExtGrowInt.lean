/- slices.Grow of no row makes an empty row of its own with room; asked of a positive number of at most 2^44. -/
import Derived.Test.YtpinafbmjdeheaaPx0
import Derived.Test.YtpinafbmjdeheaaWZeros
namespace Go.Proofs.Ytpinafbmjdeheaa.P
open Go.RowKit Go.Proofs.YtpinafbmjdeheaaW.PrintWords Go.Proofs.YtpinafbmjdeheaaW.PrintLast Go.Proofs.YtpinafbmjdeheaaW.PrintMore
set_option linter.unusedVariables false
set_option linter.unusedSimpArgs false

def grow_Int.f (l0 : List Int) (a1 : Int) : Option (List Int) := if l0 = [] ∧ 0 < a1 ∧ a1 ≤ 17592186044416 then some [] else none
theorem info_growInt : (Try.prog.info? 3).map (fun i => (i.zero, i.size, i.bytes)) = some (some (.int .i64 0), 1, 8) := by kernel_rfl
set_option maxHeartbeats 8000000 in
set_option maxRecDepth 100000 in
theorem grow_Int.calls0 (a1 : Int) (r : List Int) (w : World) (h : grow_Int.f [] a1 = some r) :
    Calls Try.prog 62 #[.slice none 0 0, .int .i64 a1] w fun e w' => ∃ v0_ : Value, e = .returned (v0_) ∧ Kd.R (Kd.int .i64) 3 w' w.heap.size (fun _ => True) v0_ r ∧ Below w.heap.size w w' := by
  unfold grow_Int.f at h
  by_cases c2 : ([] : List Int) = [] ∧ 0 < a1 ∧ a1 ≤ 17592186044416
  · rw [if_pos c2] at h
    obtain rfl := Option.some.inj h
    have c3 := c2.2.1
    have LM := Aside0.mk c2.2
    have w1 := Aside0.mk (show wrap64 a1 = a1 by unfold wrap64; omega)
    have HB := Aside0.mk (Below.refl w.heap.size w)
    clear h c2
    have b1 : decide (a1 < 0) = false := decide_eq_false (by omega)
    have b2 : decide (a1 > 0) = true := decide_eq_true (by omega)
    have b3 : 0 < wrap64 a1 := by rw [w1.out]; exact c3
    go_enter Try.func62, Try.ntmps62
    go_wp2_with ((with_reducible refine gate_builtin (b := .append) (xs := #[.tmp 20, .tmp 21]) rfl ?_); at_builtin; refine Kd.R_append_zeros (Kd.int .i64) (w0 := w) w.heap.size rfl (.tmp 20) (.tmp 21) 22 3 3 (.int .i64 0) 8 rfl Try.underlying22 Try.underlying3 info_growInt rfl (by decide) (by decide) (.slice none 0 0) [] (0 : Int) (wrap64 a1) (fun _ => True) rfl rfl rfl (fun _ _ => trivial) (Kd.R_nil _ _ _ _ _) (by rw [w1.out]; have := LM.out; omega) HB.out (Nat.le_refl _) (by rw [w1.out]; have := LM.out; simp only [List.length_nil]; omega) ?_; intro v1 W1 ho hb _ _; obtain ⟨A1, cc, rfl⟩ := Kd.R_slice ho; have n0_ := Aside0.mk (Kd.R_take (m := 0) ho (Nat.zero_le _)); clear HB ho; have HO := n0_; have HB := Aside0.mk hb; clear hb n0_; rw [List.take_zero] at HO)
    go_ret
    exact ⟨_, rfl, by (with_reducible repeat (first | apply Kd.R_alloc | apply Kd.R_drewN | apply Kd.R_drew)); exact HO.out, by repeat (first | (with_reducible first | exact HB.out | apply below_alloc | apply pw_below_drewN | apply below_drew1) | exact HB.out)⟩
  · rw [if_neg c2] at h
    cases h
end Go.Proofs.Ytpinafbmjdeheaa.P
