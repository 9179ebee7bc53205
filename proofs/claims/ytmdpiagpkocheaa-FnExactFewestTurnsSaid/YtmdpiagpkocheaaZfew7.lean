/- The program's FewestTurns: the least number of turns out of the search; no condition. -/
import Derived.Test.YtmdpiagpkocheaaZfew6
import Derived.Test.YtmdpiagpkocheaaZfew5
/-! The program's FewestTurns: the least number of turns out of the search; no condition. -/
section
namespace Go.Proofs.Ytmdpiagpkocheaa.P
open Go.RowKit Go.Proofs.YtmdpiagpkocheaaW.PrintWords Go.Proofs.YtmdpiagpkocheaaW.PrintLast Go.Proofs.YtmdpiagpkocheaaW.PrintMore Go.Proofs.Ytmdpiagpkocheaa.Base Go.Proofs.Ytmdpiagpkocheaa.Order Go.Proofs.Ytmdpiagpkocheaa.Far
set_option linter.unusedVariables false
set_option linter.unusedSimpArgs false

def impl_FewestTurns.f (k : Nat) (l0 : List Int) : Option (Int × Bool) := (impl_isFew.f k l0).bind fun t => if t = true then (if bindS l0 = true ∧ l0.length ≤ 5 then some (((distO l0.length).lookup l0).getD 0, true) else none) else some (0, false)
theorem impl_FewestTurns.mono : ∀ a0 k, LeO (impl_FewestTurns.f k a0) (impl_FewestTurns.f (k + 1) a0) := by
  intro a0 k
  unfold impl_FewestTurns.f
  exact LeO.bind (impl_isFew.mono _ _) (fun _ => LeO.refl _)
set_option maxHeartbeats 4000000 in
set_option maxRecDepth 100000 in
theorem impl_FewestTurns.calls (k : Nat) (A0 : Option Addr) (c0 : Nat) (l0 : List Int) (r1 : Int) (r2 : Bool) (w : World) (hr0 : Kd.C (Kd.int .i64) w A0 l0.length l0) (hc0 : l0.length ≤ c0) (h : impl_FewestTurns.f k l0 = some (r1, r2)) :
    Calls Try.prog 24 #[.slice A0 l0.length c0] w fun e w' => e = .returned (.tuple #[.int .i64 r1, .bool r2]) ∧ Below w.heap.size w w' := by
  have HR0 := Aside0.mk hr0
  have HC0 := Aside0.mk hc0
  clear hr0 hc0
  obtain ⟨b, hb, h⟩ := Option.bind_eq_some_iff.1 h
  have HF := Aside0.mk hb
  clear hb
  cases b with
  | false =>
    rw [if_neg (by decide)] at h
    obtain ⟨rfl, rfl⟩ := Prod.mk.inj (Option.some.inj h)
    clear h
    go_enter Try.func24, Try.ntmps24
    go_wp2_with (go_at_call 47; (with_reducible refine (impl_isFew.calls k A0 c0 l0 false _ HR0.out HC0.out HF.out).mono ?_); rintro e w1 ⟨rfl, hb⟩; have HB := Aside0.mk hb; clear hb)
    go_ret2
    exact ⟨rfl, HB.out⟩
  | true =>
    rw [if_pos rfl] at h
    by_cases hc : bindS l0 = true ∧ l0.length ≤ 5
    · rw [if_pos hc] at h
      obtain ⟨h1, rfl⟩ := Prod.mk.inj (Option.some.inj h)
      have H1 := Aside0.mk h1
      have HB0 := Aside0.mk (And.intro ((bd_iff l0).1 hc.1) hc.2)
      clear h h1 hc
      go_enter Try.func24, Try.ntmps24
      go_wp2_with (first | (go_at_call 47; (with_reducible refine (impl_isFew.calls k A0 c0 l0 true _ HR0.out HC0.out HF.out).mono ?_); rintro e w1 ⟨rfl, hb⟩; have HB := Aside0.mk hb; clear hb) | (go_at_call 44; (refine (distances_calls l0.length HB0.out.1.2.1 HB0.out.2 _).mono ?_); rintro e w2 ⟨B, rfl, _, hF, hb⟩; have HFA := Aside0.mk hF; have HB2 := Aside0.mk (below_step HB.out hb); clear hF hb) | (go_at_call 48; (refine (keyOf_calls A0 c0 l0 _ (Kd.C_below HR0.out HB2.out) (by have := HB0.out.2; omega)).mono ?_); rintro e w3 ⟨rfl, hb⟩; have HFB := Aside0.mk (HFA.out.below hb); have HB3 := Aside0.mk (below_step HB2.out hb); clear hb) | ((with_reducible refine gate_dst (N := 12) rfl ?_); refine far_look rfl (.tmp 9) (.tmp 11) rfl (n := l0.length) (l := l0) (by rfl) (by rfl) HFB.out (by have := HB0.out.2; omega) (dist_all _).1.bd (dist_all _).1.nd HB0.out.1.1 ?_; rw [H1.out]))
      go_ret2
      exact ⟨rfl, HB3.out⟩
    · rw [if_neg hc] at h
      cases h
end Go.Proofs.Ytmdpiagpkocheaa.P
end

/-! FewestTurns: the program and the reference answer the same; the lists are at most 1048576 long. -/
section
set_option linter.unusedVariables false
namespace Go.Proofs.Ytmdpiagpkocheaa.P
open Go.RowKit Go.Proofs.YtmdpiagpkocheaaW.PrintWords Go.Proofs.YtmdpiagpkocheaaW.PrintLast Go.Proofs.YtmdpiagpkocheaaW.PrintMore Go.Proofs.Ytmdpiagpkocheaa.Base Go.Proofs.Ytmdpiagpkocheaa.Order Go.Proofs.Ytmdpiagpkocheaa.Far

theorem isFew_ev (l : List Int) (hn : l.length ≤ 1048576) : Ev (fun k => impl_isFew.f k l) (bindS l && decide (l.length ≤ 5)) := by
  simp only [impl_isFew.f]
  refine Ev_bind (isBinding_ev l hn) ?_
  cases hb : bindS l with
  | false => exact Ev_neg (by decide) (Ev.now _)
  | true =>
    rw [Bool.true_and, show decide (l.length ≤ 5) = decide ((l.length : Int) ≤ 5) from decide_eq_decide.2 (by omega)]
    exact Ev_pos rfl (Ev.now _)
theorem biFew_ev (l : List Int) (hn : l.length ≤ 1048576) : Ev (fun k => spec_biFew.f k l) (bindS l && decide (l.length ≤ 5)) := by
  simp only [spec_biFew.f]
  refine Ev_bind (biGood_ev l hn) ?_
  cases hb : bindS l with
  | false => exact Ev_neg (by decide) (Ev.now _)
  | true =>
    rw [Bool.true_and, show decide (l.length ≤ 5) = decide ((l.length : Int) ≤ 5) from decide_eq_decide.2 (by omega)]
    exact Ev_pos rfl (Ev.now _)
theorem few_open {l : List Int} (h : (bindS l && decide (l.length ≤ 5)) = true) : Bd l.length l ∧ 1 ≤ l.length ∧ l.length ≤ 5 ∧ bindS l = true := by
  rw [Bool.and_eq_true, decide_eq_true_eq] at h
  have := (bd_iff l).1 h.1
  exact ⟨this.1, this.2.1, h.2, h.1⟩
/-- How many turns: both answer it. -/
def fewR (l : List Int) : Int × Bool := if (bindS l && decide (l.length ≤ 5)) = true then (((distO l.length).lookup l).getD 0, true) else (0, false)
theorem fewImpl_ev (l : List Int) (hn : l.length ≤ 1048576) : Ev (fun k => impl_FewestTurns.f k l) (fewR l) := by
  simp only [impl_FewestTurns.f]
  refine Ev_bind (isFew_ev l hn) ?_
  unfold fewR
  cases h : (bindS l && decide (l.length ≤ 5)) with
  | false => exact Ev_neg (by decide) (Ev.now _)
  | true =>
    have := few_open h
    exact Ev_pos rfl (Ev_pos ⟨this.2.2.2, this.2.2.1⟩ (Ev.now _))
theorem fewSpec_ev (l : List Int) (hn : l.length ≤ 1048576) : Ev (fun k => spec_FewestTurns.f k l) (fewR l) := by
  simp only [spec_FewestTurns.f]
  refine Ev_bind (biFew_ev l hn) ?_
  unfold fewR
  cases h : (bindS l && decide (l.length ≤ 5)) with
  | false => exact Ev_neg (by decide) (Ev.now _)
  | true =>
    have hf := few_open h
    have hr := rank_lt hf.1
    have hD := (dist_all l.length).1
    obtain ⟨v, hv, _⟩ := hD.all l hf.1
    have ha := arr_at hf.1 (distO l.length) hD.bd hD.nd
    refine Ev_pos rfl (Ev_bind (biFar_ev (by omega) hf.2.1) (Ev_bind (biRank_ev hf.1 (by omega)) (Ev_pos (by omega) (Ev_pos (by rw [arr_len]; omega) ?_))))
    simp only [rd_nat, ha, hv, if_true]
    exact Ev.now _
end Go.Proofs.Ytmdpiagpkocheaa.P
end
