/- impl.without makes the clues without one; asked that the index is one of them. -/
import Derived.Test.YtmahnaobiaffpaaDoorExtCloneClue
import Derived.Test.YtmahnaobiaffpaaDoorExtDelClue
namespace Go.Proofs.YtmahnaobiaffpaaDoor.P
open Go.RowKit Go.Proofs.YtmahnaobiaffpaaDoorW.PrintWords Go.Proofs.YtmahnaobiaffpaaDoorW.PrintLast Go.Proofs.YtmahnaobiaffpaaDoorW.PrintMore
set_option linter.unusedVariables false
set_option linter.unusedSimpArgs false

def impl_without.f (l0 : List S59) (a1 : Int) : Option (List S59) :=
  if 0 ≤ a1 ∧ a1 < l0.length ∧ l0.length < 5864062014805 then some (l0.take a1.toNat ++ l0.drop (a1.toNat + 1)) else none
set_option maxHeartbeats 2000000 in
set_option maxRecDepth 100000 in
theorem impl_without.calls (A0 : Option Addr) (c0 : Nat) (l0 : List S59) (a1 : Int) (r : List S59) (w : World) (hr0 : Kd.C k59 w A0 l0.length l0) (hc0 : l0.length ≤ c0) (h : impl_without.f l0 a1 = some r) :
    Calls Tryd.prog 30 #[.slice A0 l0.length c0, .int .i64 a1] w fun e w' => ∃ v0_ : Value, e = .returned (v0_) ∧ Kd.R k59 59 w' w.heap.size (fun _ => True) v0_ r ∧ Below w.heap.size w w' := by
  unfold impl_without.f at h
  split at h
  · rename_i hc
    obtain rfl := Option.some.inj h
    obtain ⟨k, rfl⟩ := Int.eq_ofNat_of_zero_le hc.1
    have hclone := clone_Clue.calls A0 c0 l0 l0 w hr0 hc0 (by unfold clone_Clue.f; rw [if_pos hc.2.2])
    have hk : k < l0.length := by omega
    have hsum : IntKind.i64.wrap ((k : Int) + 1) = ((k + 1 : Nat) : Int) := by rw [i64_w]; unfold wrap64; omega
    have HK := Aside0.mk hk
    have hdel : ∀ v w1, Kd.R k59 59 w1 w.heap.size (fun _ => True) v l0 → _ := fun v w1 HO => deleteR_Clue k (k + 1) v l0 w.heap.size w1 HO (by omega) (by omega)
    have HD := Aside0.mk hdel
    clear hdel hk hr0 hc h
    go_enter Tryd.func30, Tryd.ntmps30
    go_wp2_with (first
      | (go_at_call 35; refine hclone.mono ?_; rintro e w1 ⟨v, rfl, hO0, hB0⟩; have HO := Aside0.mk hO0; have HB := Aside0.mk hB0; have HV := Aside0.mk (Kd.R_base2 hO0); clear hO0 hB0)
      | (go_at_call 49; refine (HD.out _ _ HO.out).mono ?_; rintro e w2 ⟨v1, rfl, hO1, hG1⟩; have HO1 := Aside0.mk hO1; have HG1 := Aside0.mk hG1; clear hO1 hG1))
    go_ret
    refine ⟨_, rfl, ?_, HB.out.grown HG1.out HB.out.size ?_⟩
    · simpa using HO1.out
    · intro q hq
      rcases HV.out with h0 | ⟨q', h1, h2⟩
      · rw [h0] at hq; cases hq
      · rw [h1] at hq; injection hq with hq; omega
  · cases h
end Go.Proofs.YtmahnaobiaffpaaDoor.P
