/- MergeRanges: what the program answers; asked only that what is tested answers. -/
import Derived.Test.YtmlhhlmfhkhcnaaPx5
import Derived.Test.YtmlhhlmfhkhcnaaExtFuncRange
import Derived.Test.YtmlhhlmfhkhcnaaExtPages
namespace Go.Proofs.Ytmlhhlmfhkhcnaa.P
open Go.RowKit Go.Proofs.YtmlhhlmfhkhcnaaW.PrintWords Go.Proofs.YtmlhhlmfhkhcnaaW.PrintLast Go.Proofs.YtmlhhlmfhkhcnaaW.PrintMore
set_option linter.unusedVariables false
set_option linter.unusedSimpArgs false

def isR (x : S63) : Bool := (impl_isRange.f x.f0 x.f1).getD false
def impl_MergeRanges.f (k : Nat) (l : List S63) : Option (List S63 × Bool) :=
  if 100 < l.length then some ([], false) else if l.all (fun x => (impl_isRange.f x.f0 x.f1).isSome) = true then (if l.any (fun x => !isR x) = true then some ([], false) else (impl_setOf.f k l).bind fun s => (impl_pageSet_ranges.f k s)) else none
theorem impl_MergeRanges.mono : ∀ a0 k, LeO (impl_MergeRanges.f k a0) (impl_MergeRanges.f (k + 1) a0) := by
  intro a0 k
  unfold impl_MergeRanges.f
  repeat' first
      | (with_reducible exact impl_pageSet_ranges.mono _ _)
      | (with_reducible exact impl_setOf.mono _ _)
      | (with_reducible exact LeO.refl _)
      | (with_reducible exact LeO.none _)
      | (with_reducible refine LeO.ite ?_ ?_)
      | (with_reducible refine LeO.bind ?_ (fun _ => ?_))
theorem isR_some {x : S63} (h : (impl_isRange.f x.f0 x.f1).isSome = true) : impl_isRange.f x.f0 x.f1 = some (isR x) := by
  unfold isR
  cases e : impl_isRange.f x.f0 x.f1 with
  | none => rw [e] at h; cases h
  | some b => rfl

set_option maxHeartbeats 4000000 in
set_option maxRecDepth 100000 in
theorem merge_1_calls (x : S63) (b : Bool) (w : World) (h : impl_isRange.f x.f0 x.f1 = some b) :
    Calls Try.prog 47 #[.agg #[.int .i64 x.f0, .int .i64 x.f1]] w fun e w' => e = .returned (.bool (!b)) ∧ Below w.heap.size w w' := by
  have hu := Try.underlying63
  have HB := Aside0.mk (Below.refl w.heap.size w)
  have A2 := Aside0.mk h
  clear h
  obtain ⟨a0, a1⟩ := x
  simp only at A2
  go_enter Try.func47, Try.ntmps47
  go_wp2_with (first | ((with_reducible refine gate_dst (N := 1) rfl ?_); refine box_event ?hg (N := 1) ?hd (cs := #[.int .i64 a0, .int .i64 a1]) (t := 63) ?hr ?_; (case hd => rfl); (case hg => rfl); (case hr => first | (go_simp; done) | (go_simp; rfl)); intro gb136 hg w3 hbox hb; have n0_ := Aside0.mk (below_step (by repeat (first | (with_reducible first | exact HB.out | apply below_alloc | apply pw_below_drewN | apply below_drew1) | exact HB.out)) hb); have n1_ := Aside0.mk (hbox); clear HB; have HB := n0_; have BK136 := n1_; clear n0_ n1_; clear hb hbox hg; have hcz4_0 : w3.cell? ⟨gb136, 0, none⟩ = some (.int .i64 a0) := (blk_cell BK136.out 0).trans rfl; have hcz4_1 : w3.cell? ⟨gb136, 1, none⟩ = some (.int .i64 a1) := (blk_cell BK136.out 1).trans rfl; have hfz4_0 := blk_frozen BK136.out 0; have hfz4_1 := blk_frozen BK136.out 1) | (go_at_call 48; (with_reducible refine (impl_isRange.calls a0 a1 b _ A2.out).mono ?_); rintro e w5 ⟨rfl, hb⟩; have n1_ := Aside0.mk (below_step (by repeat (first | (with_reducible first | exact HB.out | apply below_alloc | apply pw_below_drewN | apply below_drew1) | exact HB.out)) hb); clear HB; have HB := n1_; clear n1_; (try clear hb)))
  go_ret
  exact ⟨by first | rfl | (simp [*]; done), by repeat (first | (with_reducible first | exact HB.out | apply below_alloc | apply pw_below_drewN | apply below_drew1) | exact HB.out)⟩

set_option maxHeartbeats 4000000 in
set_option maxRecDepth 100000 in
theorem impl_MergeRanges.calls (k : Nat) (A0 : Option Addr) (c0 : Nat) (l0 : List S63) (r1 : List S63) (r2 : Bool) (w : World) (hr0 : Kd.C k63 w A0 l0.length l0) (hc0 : l0.length ≤ c0) (h : impl_MergeRanges.f k l0 = some (r1, r2)) :
    Calls Try.prog 22 #[.slice A0 l0.length c0] w fun e w' => ∃ v0_ : Value, e = .returned (.tuple #[v0_, .bool r2]) ∧ Kd.R k63 63 w' w.heap.size (fun _ => True) v0_ r1 ∧ Below w.heap.size w w' := by
  unfold impl_MergeRanges.f at h
  have HR := Aside0.mk hr0
  have HC := Aside0.mk hc0
  clear hr0 hc0
  by_cases c2 : 100 < l0.length
  · rw [if_pos c2] at h
    simp only [Option.some.injEq, Prod.mk.injEq] at h
    obtain ⟨rfl, rfl⟩ := h
    have c3 : decide ((100 : Int) < (l0.length : Int)) = true := decide_eq_true (by omega)
    have c4 : decide (100 < l0.length) = true := decide_eq_true c2
    clear c2
    go_enter Try.func22, Try.ntmps22
    go_wp2
    go_ret2
    exact ⟨_, rfl, Kd.R_nil _ _ _ _ _, Below.refl _ _⟩
  · rw [if_neg c2] at h
    by_cases c4 : l0.all (fun x => (impl_isRange.f x.f0 x.f1).isSome) = true
    · rw [if_pos c4] at h
      have c3 : decide ((100 : Int) < (l0.length : Int)) = false := decide_eq_false (by omega)
      have c5 : decide (100 < l0.length) = false := decide_eq_false c2
      clear c2
      have eg := enters_of Try.func47 (by kernel_rfl) rfl
      have hcall := containsFunc_range 47 #[] (fun x => !isR x) eg A0 c0 l0 w HR.out (fun W' x hx _ => merge_1_calls x (isR x) W' (isR_some (List.all_eq_true.1 c4 x hx)))
      clear c4 eg
      cases hb : l0.any (fun x => !isR x) with
      | true =>
        rw [if_pos hb] at h
        simp only [Option.some.injEq, Prod.mk.injEq] at h
        obtain ⟨rfl, rfl⟩ := h
        rw [hb] at hcall
        clear hb
        have HCALL := Aside0.mk hcall
        clear hcall
        go_enter Try.func22, Try.ntmps22
        go_wp2_with (go_at_call 46; refine HCALL.out.mono ?_; rintro e w' ⟨rfl, hb'⟩)
        go_ret2
        exact ⟨_, rfl, Kd.R_nil _ _ _ _ _, hb'⟩
      | false =>
        rw [if_neg (by rw [hb]; decide)] at h
        rw [hb] at hcall
        clear hb
        have HCALL := Aside0.mk hcall
        clear hcall
        replace h := Option.bind_eq_some_iff.mp h
        obtain ⟨s, A1, A2⟩ := h
        replace A1 := Aside0.mk A1
        replace A2 := Aside0.mk A2
        go_enter Try.func22, Try.ntmps22
        go_wp2_with (first | (go_at_call 46; refine HCALL.out.mono ?_; rintro e w1 ⟨rfl, hb1⟩; have HB1 := Aside0.mk hb1; clear hb1) | (go_at_call 49; refine (impl_setOf.calls k A0 c0 l0 s _ (Kd.C_below HR.out HB1.out) HC.out A1.out).mono ?_; rintro e w2 ⟨g, rfl, ho, hb2⟩; have HO := Aside0.mk ho; have HB2 := Aside0.mk (below_step HB1.out hb2); clear ho hb2) | (go_at_call 41; refine (impl_pageSet_ranges.calls k g s r1 r2 _ (Kd.R_reads' HO.out).2.2 (Kd.R_reads' HO.out).1.symm A2.out).mono ?_; rintro e w3 ⟨v, rfl, ho3, hb3⟩; have HO3 := Aside0.mk (Kd.R_lower ho3 (below_size HB2.out)); have HB3 := Aside0.mk (below_step HB2.out hb3); clear ho3 hb3))
        go_ret2
        exact ⟨_, rfl, HO3.out, HB3.out⟩
    · rw [if_neg c4] at h
      cases h
end Go.Proofs.Ytmlhhlmfhkhcnaa.P
