/- TakePages: what the program answers; no condition. -/
import Derived.Test.YtmlhhlmfhkhcnaaExtPages
namespace Go.Proofs.Ytmlhhlmfhkhcnaa.P
open Go.RowKit Go.Proofs.YtmlhhlmfhkhcnaaW.PrintWords Go.Proofs.YtmlhhlmfhkhcnaaW.PrintLast Go.Proofs.YtmlhhlmfhkhcnaaW.PrintMore
attribute [local go_sem] max2_int min2_int max_two min_two max_three min_three max_four min_four   -- for this text's walks alone
set_option linter.unusedVariables false
set_option linter.unusedSimpArgs false

/-! ### impl_TakePages: function 30 -/
mutual
def impl_TakePages.j0 : Nat → List (S63) → Int → Int → Bool → Option ((List (S63)) × Bool)
  | 0, _, _, _, _ => none
  | k + 1, x0, x1, x2, x23 => if x23 = true then (some (([] : List (S63)), false)) else (if 2001 ≤ 281474976710656 then ((impl_setOf.f k x0).bind fun t317 => (impl_TakePages.l0 k x1 x2 (List.replicate 2001 false) t317 0)) else (none))
def impl_TakePages.l0 : Nat → Int → Int → List Bool → List Bool → Int → Option ((List (S63)) × Bool)
  | 0, _, _, _, _, _ => none
  | k + 1, x1, x2, x8, x27, x28 => if x28 < 2001 then (if 0 ≤ x28 then (if x28 < (x27.length : Int) then (if rdOf false x27 x28 = true then (if x28 < x1 then (if x28 < (x8.length : Int) then (impl_TakePages.l0 k x1 x2 (x8.set (x28 : Int).toNat true) x27 (wrap64 (x28 + 1))) else (none)) else (if x28 ≥ (wrap64 (x1 + x2)) then (if 0 ≤ (wrap64 (x28 - x2)) then (if (wrap64 (x28 - x2)) < (x8.length : Int) then (impl_TakePages.l0 k x1 x2 (x8.set ((wrap64 (x28 - x2)) : Int).toNat true) x27 (wrap64 (x28 + 1))) else (none)) else (none)) else (impl_TakePages.l0 k x1 x2 x8 x27 (wrap64 (x28 + 1))))) else (impl_TakePages.l0 k x1 x2 x8 x27 (wrap64 (x28 + 1)))) else (none)) else (none)) else ((impl_pageSet_ranges.f k x8).bind fun bt320 => (some (bt320.1, bt320.2)))
end
def impl_TakePages.f (k : Nat) (l0 : List (S63)) (a1 : Int) (a2 : Int) : Option ((List (S63)) × Bool) := (impl_AreRanges.f k l0).bind fun t311 => (if t311 = true then ((impl_isIndexed.f a1).bind fun t312 => (if t312 = true then ((impl_within.f a2 0 2000).bind fun t313 => (impl_TakePages.j0 k l0 a1 a2 (!t313))) else (impl_TakePages.j0 k l0 a1 a2 true))) else (impl_TakePages.j0 k l0 a1 a2 true))
theorem impl_TakePages.mono_l : ∀ k, (∀ y0 y1 y2 y3, LeO (impl_TakePages.j0 k y0 y1 y2 y3) (impl_TakePages.j0 (k + 1) y0 y1 y2 y3)) ∧ (∀ y0 y1 y2 y3 y4, LeO (impl_TakePages.l0 k y0 y1 y2 y3 y4) (impl_TakePages.l0 (k + 1) y0 y1 y2 y3 y4))
  | 0 => ⟨fun _ _ _ _ r h => by simp [impl_TakePages.j0] at h, fun _ _ _ _ _ r h => by simp [impl_TakePages.l0] at h⟩
  | k + 1 => by
    obtain ⟨ih0, ih1⟩ := impl_TakePages.mono_l k
    refine ⟨?_, ?_⟩
    · intro y0 y1 y2 y3
      unfold impl_TakePages.j0
      repeat' first
      | (with_reducible exact ih0 _ _ _ _)
      | (with_reducible exact ih1 _ _ _ _ _)
      | (with_reducible exact impl_AreRanges.mono _ _)
      | (with_reducible exact impl_pageSet_ranges.mono _ _)
      | (with_reducible exact impl_setOf.mono _ _)
      | (with_reducible exact LeO.refl _)
      | (with_reducible exact LeO.none _)
      | (with_reducible refine LeO.ite ?_ ?_)
      | (with_reducible refine LeO.bind ?_ (fun _ => ?_))
      | exact ih0 _ _ _ _
      | exact ih1 _ _ _ _ _
      | exact impl_AreRanges.mono _ _
      | exact impl_pageSet_ranges.mono _ _
      | exact impl_setOf.mono _ _
      | exact LeO.none _
      | refine LeO.ite ?_ ?_
      | refine LeO.bind ?_ (fun _ => ?_)
    · intro y0 y1 y2 y3 y4
      unfold impl_TakePages.l0
      repeat' first
      | (with_reducible exact ih0 _ _ _ _)
      | (with_reducible exact ih1 _ _ _ _ _)
      | (with_reducible exact impl_AreRanges.mono _ _)
      | (with_reducible exact impl_pageSet_ranges.mono _ _)
      | (with_reducible exact impl_setOf.mono _ _)
      | (with_reducible exact LeO.refl _)
      | (with_reducible exact LeO.none _)
      | (with_reducible refine LeO.ite ?_ ?_)
      | (with_reducible refine LeO.bind ?_ (fun _ => ?_))
      | exact ih0 _ _ _ _
      | exact ih1 _ _ _ _ _
      | exact impl_AreRanges.mono _ _
      | exact impl_pageSet_ranges.mono _ _
      | exact impl_setOf.mono _ _
      | exact LeO.none _
      | refine LeO.ite ?_ ?_
      | refine LeO.bind ?_ (fun _ => ?_)
theorem impl_TakePages.mono : ∀ a0 a1 a2 k, LeO (impl_TakePages.f k a0 a1 a2) (impl_TakePages.f (k + 1) a0 a1 a2) := by
  intro a0 a1 a2 k
  obtain ⟨ih0, ih1⟩ := impl_TakePages.mono_l k
  unfold impl_TakePages.f
  repeat' first
      | (with_reducible exact ih0 _ _ _ _)
      | (with_reducible exact ih1 _ _ _ _ _)
      | (with_reducible exact impl_AreRanges.mono _ _)
      | (with_reducible exact impl_pageSet_ranges.mono _ _)
      | (with_reducible exact impl_setOf.mono _ _)
      | (with_reducible exact LeO.refl _)
      | (with_reducible exact LeO.none _)
      | (with_reducible refine LeO.ite ?_ ?_)
      | (with_reducible refine LeO.bind ?_ (fun _ => ?_))
      | exact ih0 _ _ _ _
      | exact ih1 _ _ _ _ _
      | exact impl_AreRanges.mono _ _
      | exact impl_pageSet_ranges.mono _ _
      | exact impl_setOf.mono _ _
      | exact LeO.none _
      | refine LeO.ite ?_ ?_
      | refine LeO.bind ?_ (fun _ => ?_)
set_option maxHeartbeats 8000000 in
set_option maxRecDepth 100000 in
theorem impl_TakePages.calls (k : Nat) (A0 : Option Addr) (c0 : Nat) (l0 : List (S63)) (a1 : Int) (a2 : Int) (r1 : List (S63)) (r2 : Bool) (w : World) (hr0 : Kd.C k63 w A0 l0.length l0) (hc0 : l0.length ≤ c0) (h : impl_TakePages.f k l0 a1 a2 = some (r1, r2)) :
    Calls Try.prog 30 #[.slice A0 l0.length c0, .int .i64 a1, .int .i64 a2] w fun e w' => ∃ v0_ : Value, e = .returned (.tuple #[v0_, .bool r2]) ∧ Kd.R k63 63 w' w.heap.size (fun _ => True) v0_ r1 ∧ Below w.heap.size w w' := by
  have HR0 := Aside0.mk hr0
  have HC0 := Aside0.mk hc0
  clear hr0 hc0
  have HB := Aside0.mk (Below.refl w.heap.size w)
  have H : ((impl_AreRanges.f k l0).bind fun t311 => (if t311 = true then ((impl_isIndexed.f a1).bind fun t312 => (if t312 = true then ((impl_within.f a2 0 2000).bind fun t313 => (impl_TakePages.j0 k l0 a1 a2 (!t313))) else (impl_TakePages.j0 k l0 a1 a2 true))) else (impl_TakePages.j0 k l0 a1 a2 true))) = some (r1, r2) := h
  clear h
  have HC4 := Aside0.mk H
  clear H
  have hu58 := Try.underlying58
  go_enter Try.func30, Try.ntmps30
  go_upto_region 1 with (fail)
  repeat (go_quiet (fail); go_upto_region 1 with (fail))
  go_cut [23] (fun v23 wc => ∃ (kq : Nat) (x23_3 : Bool), v23 = .bool x23_3 ∧ Aside0 (impl_TakePages.j0 kq l0 a1 a2 x23_3 = some (r1, r2)) ∧ Aside0 (kq ≤ k) ∧ Aside0 (Below w.heap.size w wc))
  case first =>
    have H := HC4.out
    clear HC4
    replace H := Option.bind_eq_some_iff.mp H
    obtain ⟨t311, A50, H⟩ := H
    replace H : (if t311 = true then ((impl_isIndexed.f a1).bind fun t312 => (if t312 = true then ((impl_within.f a2 0 2000).bind fun t313 => (impl_TakePages.j0 k l0 a1 a2 (!t313))) else (impl_TakePages.j0 k l0 a1 a2 true))) else (impl_TakePages.j0 k l0 a1 a2 true)) = some (r1, r2) := H
    have A5 := Aside0.mk A50
    clear A50
    by_cases c6 : t311 = true
    · subst c6
      have H1 : ((impl_isIndexed.f a1).bind fun t312 => (if t312 = true then ((impl_within.f a2 0 2000).bind fun t313 => (impl_TakePages.j0 k l0 a1 a2 (!t313))) else (impl_TakePages.j0 k l0 a1 a2 true))) = some (r1, r2) := by rw [if_pos rfl] at H; exact H
      clear H
      have H := H1
      clear H1
      replace H := Option.bind_eq_some_iff.mp H
      obtain ⟨t312, A70, H⟩ := H
      replace H : (if t312 = true then ((impl_within.f a2 0 2000).bind fun t313 => (impl_TakePages.j0 k l0 a1 a2 (!t313))) else (impl_TakePages.j0 k l0 a1 a2 true)) = some (r1, r2) := H
      have A7 := Aside0.mk A70
      clear A70
      by_cases c8 : t312 = true
      · subst c8
        have H1 : ((impl_within.f a2 0 2000).bind fun t313 => (impl_TakePages.j0 k l0 a1 a2 (!t313))) = some (r1, r2) := by rw [if_pos rfl] at H; exact H
        clear H
        have H := H1
        clear H1
        replace H := Option.bind_eq_some_iff.mp H
        obtain ⟨t313, A90, H⟩ := H
        replace H : (impl_TakePages.j0 k l0 a1 a2 (!t313)) = some (r1, r2) := H
        have A9 := Aside0.mk A90
        clear A90
        have H' := Aside0.mk H
        clear H
        go_wp2_with (first | (go_at_call 57; (with_reducible refine (impl_AreRanges.calls k _ _ l0 true _ ?side1 ?side2 A5.out).mono ?_); (case side1 => repeat (first | exact (Kd.C_below HR0.out HB.out) | (with_reducible refine Kd.C_alloc ?_ _) | (with_reducible refine Kd.C_drewN ?_ _) | (with_reducible refine Kd.C_drew ?_))); (case side2 => exact HC0.out); rintro e w10 ⟨rfl, hb⟩; have n0_ := Aside0.mk (below_step (by repeat (first | (with_reducible first | exact HB.out | apply below_alloc | apply pw_below_drewN | apply below_drew1) | exact HB.out)) hb); clear HB; have HB := n0_; clear n0_; (try clear hb); (try clear hb2); (try clear hk); (try clear hi)) | (go_at_call 40; (with_reducible refine (impl_isIndexed.calls a1 true _ A7.out).mono ?_); rintro e w' ⟨rfl, ⟨nd, rfl⟩⟩; (try first | exact ⟨rfl, _, World.drewN_drewN _ _ _⟩ | exact ⟨rfl, _, Eq.trans (World.drewN_drewN _ _ _) (congrArg (World.drewN _) (Nat.add_assoc _ _ _))⟩)) | (go_at_call 58; (with_reducible refine (impl_within.calls a2 0 2000 t313 _ A9.out).mono ?_); rintro e w' ⟨rfl, ⟨nd, rfl⟩⟩; (try first | exact ⟨rfl, _, World.drewN_drewN _ _ _⟩ | exact ⟨rfl, _, Eq.trans (World.drewN_drewN _ _ _) (congrArg (World.drewN _) (Nat.add_assoc _ _ _))⟩)))
        repeat (go_quiet (first | (go_at_call 57; (with_reducible refine (impl_AreRanges.calls k _ _ l0 true _ ?side1 ?side2 A5.out).mono ?_); (case side1 => repeat (first | exact (Kd.C_below HR0.out HB.out) | (with_reducible refine Kd.C_alloc ?_ _) | (with_reducible refine Kd.C_drewN ?_ _) | (with_reducible refine Kd.C_drew ?_))); (case side2 => exact HC0.out); rintro e w10 ⟨rfl, hb⟩; have n0_ := Aside0.mk (below_step (by repeat (first | (with_reducible first | exact HB.out | apply below_alloc | apply pw_below_drewN | apply below_drew1) | exact HB.out)) hb); clear HB; have HB := n0_; clear n0_; (try clear hb); (try clear hb2); (try clear hk); (try clear hi)) | (go_at_call 40; (with_reducible refine (impl_isIndexed.calls a1 true _ A7.out).mono ?_); rintro e w' ⟨rfl, ⟨nd, rfl⟩⟩; (try first | exact ⟨rfl, _, World.drewN_drewN _ _ _⟩ | exact ⟨rfl, _, Eq.trans (World.drewN_drewN _ _ _) (congrArg (World.drewN _) (Nat.add_assoc _ _ _))⟩)) | (go_at_call 58; (with_reducible refine (impl_within.calls a2 0 2000 t313 _ A9.out).mono ?_); rintro e w' ⟨rfl, ⟨nd, rfl⟩⟩; (try first | exact ⟨rfl, _, World.drewN_drewN _ _ _⟩ | exact ⟨rfl, _, Eq.trans (World.drewN_drewN _ _ _) (congrArg (World.drewN _) (Nat.add_assoc _ _ _))⟩))); try go_wp2_with (first | (go_at_call 57; (with_reducible refine (impl_AreRanges.calls k _ _ l0 true _ ?side1 ?side2 A5.out).mono ?_); (case side1 => repeat (first | exact (Kd.C_below HR0.out HB.out) | (with_reducible refine Kd.C_alloc ?_ _) | (with_reducible refine Kd.C_drewN ?_ _) | (with_reducible refine Kd.C_drew ?_))); (case side2 => exact HC0.out); rintro e w10 ⟨rfl, hb⟩; have n0_ := Aside0.mk (below_step (by repeat (first | (with_reducible first | exact HB.out | apply below_alloc | apply pw_below_drewN | apply below_drew1) | exact HB.out)) hb); clear HB; have HB := n0_; clear n0_; (try clear hb); (try clear hb2); (try clear hk); (try clear hi)) | (go_at_call 40; (with_reducible refine (impl_isIndexed.calls a1 true _ A7.out).mono ?_); rintro e w' ⟨rfl, ⟨nd, rfl⟩⟩; (try first | exact ⟨rfl, _, World.drewN_drewN _ _ _⟩ | exact ⟨rfl, _, Eq.trans (World.drewN_drewN _ _ _) (congrArg (World.drewN _) (Nat.add_assoc _ _ _))⟩)) | (go_at_call 58; (with_reducible refine (impl_within.calls a2 0 2000 t313 _ A9.out).mono ?_); rintro e w' ⟨rfl, ⟨nd, rfl⟩⟩; (try first | exact ⟨rfl, _, World.drewN_drewN _ _ _⟩ | exact ⟨rfl, _, Eq.trans (World.drewN_drewN _ _ _) (congrArg (World.drewN _) (Nat.add_assoc _ _ _))⟩))))
        go_meet
        case rel => exact ⟨_, (!t313), (by first | rfl | (simp; done) | (simp [*]; done)), H', ⟨by first | omega | exact Nat.le_refl _⟩, ⟨by repeat (first | (with_reducible first | exact HB.out | apply below_alloc | apply pw_below_drewN | apply below_drew1) | exact HB.out)⟩⟩
      · replace c8 := Bool.eq_false_iff.mpr c8
        subst c8
        have H1 : (impl_TakePages.j0 k l0 a1 a2 true) = some (r1, r2) := by rw [if_neg (show ¬ (false = true) by decide)] at H; exact H
        clear H
        have H := H1
        clear H1
        have H' := Aside0.mk H
        clear H
        go_wp2_with (first | (go_at_call 57; (with_reducible refine (impl_AreRanges.calls k _ _ l0 true _ ?side1 ?side2 A5.out).mono ?_); (case side1 => repeat (first | exact (Kd.C_below HR0.out HB.out) | (with_reducible refine Kd.C_alloc ?_ _) | (with_reducible refine Kd.C_drewN ?_ _) | (with_reducible refine Kd.C_drew ?_))); (case side2 => exact HC0.out); rintro e w11 ⟨rfl, hb⟩; have n0_ := Aside0.mk (below_step (by repeat (first | (with_reducible first | exact HB.out | apply below_alloc | apply pw_below_drewN | apply below_drew1) | exact HB.out)) hb); clear HB; have HB := n0_; clear n0_; (try clear hb); (try clear hb2); (try clear hk); (try clear hi)) | (go_at_call 40; (with_reducible refine (impl_isIndexed.calls a1 false _ A7.out).mono ?_); rintro e w' ⟨rfl, ⟨nd, rfl⟩⟩; (try first | exact ⟨rfl, _, World.drewN_drewN _ _ _⟩ | exact ⟨rfl, _, Eq.trans (World.drewN_drewN _ _ _) (congrArg (World.drewN _) (Nat.add_assoc _ _ _))⟩)))
        repeat (go_quiet (first | (go_at_call 57; (with_reducible refine (impl_AreRanges.calls k _ _ l0 true _ ?side1 ?side2 A5.out).mono ?_); (case side1 => repeat (first | exact (Kd.C_below HR0.out HB.out) | (with_reducible refine Kd.C_alloc ?_ _) | (with_reducible refine Kd.C_drewN ?_ _) | (with_reducible refine Kd.C_drew ?_))); (case side2 => exact HC0.out); rintro e w11 ⟨rfl, hb⟩; have n0_ := Aside0.mk (below_step (by repeat (first | (with_reducible first | exact HB.out | apply below_alloc | apply pw_below_drewN | apply below_drew1) | exact HB.out)) hb); clear HB; have HB := n0_; clear n0_; (try clear hb); (try clear hb2); (try clear hk); (try clear hi)) | (go_at_call 40; (with_reducible refine (impl_isIndexed.calls a1 false _ A7.out).mono ?_); rintro e w' ⟨rfl, ⟨nd, rfl⟩⟩; (try first | exact ⟨rfl, _, World.drewN_drewN _ _ _⟩ | exact ⟨rfl, _, Eq.trans (World.drewN_drewN _ _ _) (congrArg (World.drewN _) (Nat.add_assoc _ _ _))⟩))); try go_wp2_with (first | (go_at_call 57; (with_reducible refine (impl_AreRanges.calls k _ _ l0 true _ ?side1 ?side2 A5.out).mono ?_); (case side1 => repeat (first | exact (Kd.C_below HR0.out HB.out) | (with_reducible refine Kd.C_alloc ?_ _) | (with_reducible refine Kd.C_drewN ?_ _) | (with_reducible refine Kd.C_drew ?_))); (case side2 => exact HC0.out); rintro e w11 ⟨rfl, hb⟩; have n0_ := Aside0.mk (below_step (by repeat (first | (with_reducible first | exact HB.out | apply below_alloc | apply pw_below_drewN | apply below_drew1) | exact HB.out)) hb); clear HB; have HB := n0_; clear n0_; (try clear hb); (try clear hb2); (try clear hk); (try clear hi)) | (go_at_call 40; (with_reducible refine (impl_isIndexed.calls a1 false _ A7.out).mono ?_); rintro e w' ⟨rfl, ⟨nd, rfl⟩⟩; (try first | exact ⟨rfl, _, World.drewN_drewN _ _ _⟩ | exact ⟨rfl, _, Eq.trans (World.drewN_drewN _ _ _) (congrArg (World.drewN _) (Nat.add_assoc _ _ _))⟩))))
        go_meet
        case rel => exact ⟨_, (true), (by first | rfl | (simp; done) | (simp [*]; done)), H', ⟨by first | omega | exact Nat.le_refl _⟩, ⟨by repeat (first | (with_reducible first | exact HB.out | apply below_alloc | apply pw_below_drewN | apply below_drew1) | exact HB.out)⟩⟩
    · replace c6 := Bool.eq_false_iff.mpr c6
      subst c6
      have H1 : (impl_TakePages.j0 k l0 a1 a2 true) = some (r1, r2) := by rw [if_neg (show ¬ (false = true) by decide)] at H; exact H
      clear H
      have H := H1
      clear H1
      have H' := Aside0.mk H
      clear H
      go_wp2_with (first | (go_at_call 57; (with_reducible refine (impl_AreRanges.calls k _ _ l0 false _ ?side1 ?side2 A5.out).mono ?_); (case side1 => repeat (first | exact (Kd.C_below HR0.out HB.out) | (with_reducible refine Kd.C_alloc ?_ _) | (with_reducible refine Kd.C_drewN ?_ _) | (with_reducible refine Kd.C_drew ?_))); (case side2 => exact HC0.out); rintro e w12 ⟨rfl, hb⟩; have n0_ := Aside0.mk (below_step (by repeat (first | (with_reducible first | exact HB.out | apply below_alloc | apply pw_below_drewN | apply below_drew1) | exact HB.out)) hb); clear HB; have HB := n0_; clear n0_; (try clear hb); (try clear hb2); (try clear hk); (try clear hi)))
      repeat (go_quiet (first | (go_at_call 57; (with_reducible refine (impl_AreRanges.calls k _ _ l0 false _ ?side1 ?side2 A5.out).mono ?_); (case side1 => repeat (first | exact (Kd.C_below HR0.out HB.out) | (with_reducible refine Kd.C_alloc ?_ _) | (with_reducible refine Kd.C_drewN ?_ _) | (with_reducible refine Kd.C_drew ?_))); (case side2 => exact HC0.out); rintro e w12 ⟨rfl, hb⟩; have n0_ := Aside0.mk (below_step (by repeat (first | (with_reducible first | exact HB.out | apply below_alloc | apply pw_below_drewN | apply below_drew1) | exact HB.out)) hb); clear HB; have HB := n0_; clear n0_; (try clear hb); (try clear hb2); (try clear hk); (try clear hi))); try go_wp2_with (first | (go_at_call 57; (with_reducible refine (impl_AreRanges.calls k _ _ l0 false _ ?side1 ?side2 A5.out).mono ?_); (case side1 => repeat (first | exact (Kd.C_below HR0.out HB.out) | (with_reducible refine Kd.C_alloc ?_ _) | (with_reducible refine Kd.C_drewN ?_ _) | (with_reducible refine Kd.C_drew ?_))); (case side2 => exact HC0.out); rintro e w12 ⟨rfl, hb⟩; have n0_ := Aside0.mk (below_step (by repeat (first | (with_reducible first | exact HB.out | apply below_alloc | apply pw_below_drewN | apply below_drew1) | exact HB.out)) hb); clear HB; have HB := n0_; clear n0_; (try clear hb); (try clear hb2); (try clear hk); (try clear hi))))
      go_meet
      case rel => exact ⟨_, (true), (by first | rfl | (simp; done) | (simp [*]; done)), H', ⟨by first | omega | exact Nat.le_refl _⟩, ⟨by repeat (first | (with_reducible first | exact HB.out | apply below_alloc | apply pw_below_drewN | apply below_drew1) | exact HB.out)⟩⟩
  case rest =>
    clear HC4
    try clear p2
    try clear c3
    try clear c6
    try clear c8
    obtain ⟨kq, x23_3, rfl, HA, HJ3, HB⟩ := hcut
    cases kq with
    | zero => exact absurd HA.out (by simp [impl_TakePages.j0])
    | succ kj3 =>
      have H := HA.out
      clear HA
      simp only [impl_TakePages.j0] at H
      by_cases c13 : x23_3 = true
      · subst c13
        have H1 : (some (([] : List (S63)), false)) = some (r1, r2) := by rw [if_pos rfl] at H; exact H
        clear H
        have H := H1
        clear H1
        simp only [Option.some.injEq, Prod.mk.injEq] at H
        obtain ⟨rfl, rfl⟩ := H
        go_wp2
        repeat (go_quiet (fail); try go_wp2)
        go_ret2
        exact ⟨_, by first | rfl | (simp [errW_none, errW_some] <;> rfl) | (simp [*, errW_none, errW_some] <;> rfl), by first | exact Kd.R_nil _ _ _ _ _ | exact Kd.N_nil _ _ _ _ _ | exact Kd.V_nil _ _ _ _ _ | exact Kd.Q_nil _ _ _ _ _ | exact Kd.S_nil _ _ _ _ _, by repeat (first | (with_reducible first | exact HB.out | apply below_alloc | apply pw_below_drewN | apply below_drew1) | exact HB.out)⟩
      · replace c13 := Bool.eq_false_iff.mpr c13
        subst c13
        have H1 : (if 2001 ≤ 281474976710656 then ((impl_setOf.f kj3 l0).bind fun t317 => (impl_TakePages.l0 kj3 a1 a2 (List.replicate 2001 false) t317 0)) else (none)) = some (r1, r2) := by rw [if_neg (show ¬ (false = true) by decide)] at H; exact H
        clear H
        have H := H1
        clear H1
        by_cases c14 : 2001 ≤ 281474976710656
        · rw [if_pos c14] at H
          have c14b0 := eq_true c14
          have c14b1 : decide (2001 ≤ 281474976710656) = true := decide_eq_true c14
          clear c14
          obtain ⟨y314, hy314⟩ : ∃ y_ : List Bool, y_ = (List.replicate 2001 false) := ⟨_, rfl⟩
          replace H : ((impl_setOf.f kj3 l0).bind fun t317 => (impl_TakePages.l0 kj3 a1 a2 y314 t317 0)) = some (r1, r2) := by first | (rw [hy314]; with_reducible exact H) | (have H2_ := (Option.bind_some _ _).symm.trans H; rw [hy314]; with_reducible exact H2_) | (have H2_ := (Option.bind_some _ _).symm.trans H; with_reducible exact H2_) | with_reducible exact H | (rw [hy314]; exact H) | exact H
          have Ny314 := Aside0.mk hy314
          clear hy314
          replace H := Option.bind_eq_some_iff.mp H
          obtain ⟨t317, A150, H⟩ := H
          replace H : (impl_TakePages.l0 kj3 a1 a2 y314 t317 0) = some (r1, r2) := H
          have A15 := Aside0.mk A150
          clear A150
          have H' := Aside0.mk H
          clear H
          go_wp2_with (first | ((with_reducible refine gate_dst (N := 25) rfl ?_); refine box_event ?hg (N := 25) ?hd (cs := Try.zeroCells58) (t := 58) ?hr ?_; (case hd => rfl); (case hg => rfl); (case hr => first | (go_simp; done) | (go_simp; rfl)); intro v315 hg_ w16 hbox hb; have ho17 := PS_new hbox (Nat.le_of_eq hg_.symm); rw [← Ny314.out] at ho17; clear hg_ hbox; have n0_ := Aside0.mk (Kd.R_lower ho17 (below_size (by repeat (first | (with_reducible first | exact HB.out | apply below_alloc | apply pw_below_drewN | apply below_drew1) | exact HB.out)))); have n1_ := Aside0.mk (below_step (by repeat (first | (with_reducible first | exact HB.out | apply below_alloc | apply pw_below_drewN | apply below_drew1) | exact HB.out)) hb); clear HB; have HO316 := n0_; have HB := n1_; clear n0_ n1_; clear hb ho17) | (go_at_call 49; (with_reducible refine (impl_setOf.calls kj3 _ _ l0 t317 _ ?side1 ?side2 A15.out).mono ?_); (case side1 => repeat (first | exact (Kd.C_below HR0.out HB.out) | (with_reducible refine Kd.C_alloc ?_ _) | (with_reducible refine Kd.C_drewN ?_ _) | (with_reducible refine Kd.C_drew ?_))); (case side2 => exact HC0.out); rintro e w18 ⟨v318, rfl, ho0, hb⟩; have n0_ := Aside0.mk (Kd.R_elder' (by (with_reducible repeat (first | apply Kd.R_alloc | apply Kd.R_drewN | apply Kd.R_drew)); exact HO316.out) (Kd.R_base ho0) hb); have n1_ := Aside0.mk (Kd.R_lower (Kd.R_new' ho0 (Kd.R_lt (by (with_reducible repeat (first | apply Kd.R_alloc | apply Kd.R_drewN | apply Kd.R_drew)); exact HO316.out))) (below_size (by repeat (first | (with_reducible first | exact HB.out | apply below_alloc | apply pw_below_drewN | apply below_drew1) | exact HB.out)))); have n2_ := Aside0.mk (below_step (by repeat (first | (with_reducible first | exact HB.out | apply below_alloc | apply pw_below_drewN | apply below_drew1) | exact HB.out)) hb); clear HO316; clear HB; have HO316 := n0_; have HO319 := n1_; have HB := n2_; clear n0_ n1_ n2_; (try clear hb); (try clear hb2); (try clear hk); (try clear hi); (try clear ho0)))
          repeat (go_quiet (first | ((with_reducible refine gate_dst (N := 25) rfl ?_); refine box_event ?hg (N := 25) ?hd (cs := Try.zeroCells58) (t := 58) ?hr ?_; (case hd => rfl); (case hg => rfl); (case hr => first | (go_simp; done) | (go_simp; rfl)); intro v315 hg_ w16 hbox hb; have ho17 := PS_new hbox (Nat.le_of_eq hg_.symm); rw [← Ny314.out] at ho17; clear hg_ hbox; have n0_ := Aside0.mk (Kd.R_lower ho17 (below_size (by repeat (first | (with_reducible first | exact HB.out | apply below_alloc | apply pw_below_drewN | apply below_drew1) | exact HB.out)))); have n1_ := Aside0.mk (below_step (by repeat (first | (with_reducible first | exact HB.out | apply below_alloc | apply pw_below_drewN | apply below_drew1) | exact HB.out)) hb); clear HB; have HO316 := n0_; have HB := n1_; clear n0_ n1_; clear hb ho17) | (go_at_call 49; (with_reducible refine (impl_setOf.calls kj3 _ _ l0 t317 _ ?side1 ?side2 A15.out).mono ?_); (case side1 => repeat (first | exact (Kd.C_below HR0.out HB.out) | (with_reducible refine Kd.C_alloc ?_ _) | (with_reducible refine Kd.C_drewN ?_ _) | (with_reducible refine Kd.C_drew ?_))); (case side2 => exact HC0.out); rintro e w18 ⟨v318, rfl, ho0, hb⟩; have n0_ := Aside0.mk (Kd.R_elder' (by (with_reducible repeat (first | apply Kd.R_alloc | apply Kd.R_drewN | apply Kd.R_drew)); exact HO316.out) (Kd.R_base ho0) hb); have n1_ := Aside0.mk (Kd.R_lower (Kd.R_new' ho0 (Kd.R_lt (by (with_reducible repeat (first | apply Kd.R_alloc | apply Kd.R_drewN | apply Kd.R_drew)); exact HO316.out))) (below_size (by repeat (first | (with_reducible first | exact HB.out | apply below_alloc | apply pw_below_drewN | apply below_drew1) | exact HB.out)))); have n2_ := Aside0.mk (below_step (by repeat (first | (with_reducible first | exact HB.out | apply below_alloc | apply pw_below_drewN | apply below_drew1) | exact HB.out)) hb); clear HO316; clear HB; have HO316 := n0_; have HO319 := n1_; have HB := n2_; clear n0_ n1_ n2_; (try clear hb); (try clear hb2); (try clear hk); (try clear hi); (try clear ho0))); try go_wp2_with (first | ((with_reducible refine gate_dst (N := 25) rfl ?_); refine box_event ?hg (N := 25) ?hd (cs := Try.zeroCells58) (t := 58) ?hr ?_; (case hd => rfl); (case hg => rfl); (case hr => first | (go_simp; done) | (go_simp; rfl)); intro v315 hg_ w16 hbox hb; have ho17 := PS_new hbox (Nat.le_of_eq hg_.symm); rw [← Ny314.out] at ho17; clear hg_ hbox; have n0_ := Aside0.mk (Kd.R_lower ho17 (below_size (by repeat (first | (with_reducible first | exact HB.out | apply below_alloc | apply pw_below_drewN | apply below_drew1) | exact HB.out)))); have n1_ := Aside0.mk (below_step (by repeat (first | (with_reducible first | exact HB.out | apply below_alloc | apply pw_below_drewN | apply below_drew1) | exact HB.out)) hb); clear HB; have HO316 := n0_; have HB := n1_; clear n0_ n1_; clear hb ho17) | (go_at_call 49; (with_reducible refine (impl_setOf.calls kj3 _ _ l0 t317 _ ?side1 ?side2 A15.out).mono ?_); (case side1 => repeat (first | exact (Kd.C_below HR0.out HB.out) | (with_reducible refine Kd.C_alloc ?_ _) | (with_reducible refine Kd.C_drewN ?_ _) | (with_reducible refine Kd.C_drew ?_))); (case side2 => exact HC0.out); rintro e w18 ⟨v318, rfl, ho0, hb⟩; have n0_ := Aside0.mk (Kd.R_elder' (by (with_reducible repeat (first | apply Kd.R_alloc | apply Kd.R_drewN | apply Kd.R_drew)); exact HO316.out) (Kd.R_base ho0) hb); have n1_ := Aside0.mk (Kd.R_lower (Kd.R_new' ho0 (Kd.R_lt (by (with_reducible repeat (first | apply Kd.R_alloc | apply Kd.R_drewN | apply Kd.R_drew)); exact HO316.out))) (below_size (by repeat (first | (with_reducible first | exact HB.out | apply below_alloc | apply pw_below_drewN | apply below_drew1) | exact HB.out)))); have n2_ := Aside0.mk (below_step (by repeat (first | (with_reducible first | exact HB.out | apply below_alloc | apply pw_below_drewN | apply below_drew1) | exact HB.out)) hb); clear HO316; clear HB; have HO316 := n0_; have HO319 := n1_; have HB := n2_; clear n0_ n1_ n2_; (try clear hb); (try clear hb2); (try clear hk); (try clear hi); (try clear ho0))))
          go_loopg [28] kj3 (fun kq v28 w' => ∃ (x8_2 : List Bool) (x27_2 : List Bool) (x28_2 : Int), v28 = .int .i64 x28_2 ∧ Aside0 (impl_TakePages.l0 kq a1 a2 x8_2 x27_2 x28_2 = some (r1, r2)) ∧ Aside0 (kq ≤ kj3) ∧ Aside0 (Kd.R Kd.bool 58 w' w.heap.size (fun k_ => some k_ ≠ (Value.slice (some ⟨v318, 0, none⟩) 2001 2001).ownBlock) (.slice (some ⟨v315, 0, none⟩) 2001 2001) x8_2) ∧ Aside0 (Kd.R Kd.bool 58 w' w.heap.size (fun k_ => some k_ ≠ (Value.slice (some ⟨v315, 0, none⟩) 2001 2001).ownBlock) (.slice (some ⟨v318, 0, none⟩) 2001 2001) x27_2) ∧ Aside0 (Below w.heap.size w w'))
          case atStart => exact ⟨(y314), (t317), (0), (by first | rfl | (simp; done) | (simp [*]; done)), H', ⟨Nat.le_refl _⟩, ⟨by (with_reducible repeat (first | apply Kd.R_alloc | apply Kd.R_drewN | apply Kd.R_drew)); exact Kd.R_mono HO316.out (fun _ hk => hk.2)⟩, ⟨by (with_reducible repeat (first | apply Kd.R_alloc | apply Kd.R_drewN | apply Kd.R_drew)); exact Kd.R_mono HO319.out (fun _ hk => hk.2)⟩, ⟨by repeat (first | (with_reducible first | exact HB.out | apply below_alloc | apply pw_below_drewN | apply below_drew1) | exact HB.out)⟩⟩
          case round =>
            clear H'
            try clear c1
            try clear p2
            try clear c3
            try clear c6
            try clear c8
            try clear c13
            try clear c14
            try clear c14b0
            try clear c14b1
            try clear p2
            obtain ⟨x8_2, x27_2, x28_2, rfl, HA, HK2, HO_8, HO_27, HB⟩ := hrel
            cases gk with
            | zero => exact absurd HA.out (by simp [impl_TakePages.l0])
            | succ k2 =>
              have H := HA.out
              clear HA
              simp only [impl_TakePages.l0] at H
              by_cases c19 : x28_2 < 2001
              · rw [if_pos c19] at H
                have c19b0 : decide (x28_2 < 2001) = true := decide_eq_true c19
                clear c19
                by_cases c20 : 0 ≤ x28_2
                · rw [if_pos c20] at H
                  have c20b0 : decide (0 ≤ x28_2) = true := decide_eq_true c20
                  clear c20
                  by_cases c21 : x28_2 < (x27_2.length : Int)
                  · rw [if_pos c21] at H
                    have c21b0 : decide (x28_2 < (x27_2.length : Int)) = true := decide_eq_true c21
                    clear c21
                    obtain ⟨bq22, hbq22⟩ : ∃ b_ : Bool, b_ = (rdOf false x27_2 x28_2) := ⟨_, rfl⟩
                    replace H : (if bq22 = true then (if x28_2 < a1 then (if x28_2 < (x8_2.length : Int) then (impl_TakePages.l0 k2 a1 a2 (x8_2.set (x28_2 : Int).toNat true) x27_2 (wrap64 (x28_2 + 1))) else (none)) else (if x28_2 ≥ (wrap64 (a1 + a2)) then (if 0 ≤ (wrap64 (x28_2 - a2)) then (if (wrap64 (x28_2 - a2)) < (x8_2.length : Int) then (impl_TakePages.l0 k2 a1 a2 (x8_2.set ((wrap64 (x28_2 - a2)) : Int).toNat true) x27_2 (wrap64 (x28_2 + 1))) else (none)) else (none)) else (impl_TakePages.l0 k2 a1 a2 x8_2 x27_2 (wrap64 (x28_2 + 1))))) else (impl_TakePages.l0 k2 a1 a2 x8_2 x27_2 (wrap64 (x28_2 + 1)))) = some (r1, r2) := by rw [← hbq22] at H; exact H
                    have Nbq22 := Aside0.mk hbq22
                    clear hbq22
                    by_cases c23 : bq22 = true
                    · subst c23
                      have H1 : (if x28_2 < a1 then (if x28_2 < (x8_2.length : Int) then (impl_TakePages.l0 k2 a1 a2 (x8_2.set (x28_2 : Int).toNat true) x27_2 (wrap64 (x28_2 + 1))) else (none)) else (if x28_2 ≥ (wrap64 (a1 + a2)) then (if 0 ≤ (wrap64 (x28_2 - a2)) then (if (wrap64 (x28_2 - a2)) < (x8_2.length : Int) then (impl_TakePages.l0 k2 a1 a2 (x8_2.set ((wrap64 (x28_2 - a2)) : Int).toNat true) x27_2 (wrap64 (x28_2 + 1))) else (none)) else (none)) else (impl_TakePages.l0 k2 a1 a2 x8_2 x27_2 (wrap64 (x28_2 + 1))))) = some (r1, r2) := by rw [if_pos rfl] at H; exact H
                      clear H
                      have H := H1
                      clear H1
                      by_cases c24 : x28_2 < a1
                      · rw [if_pos c24] at H
                        have c24b0 : decide (x28_2 < a1) = true := decide_eq_true c24
                        clear c24
                        by_cases c25 : x28_2 < (x8_2.length : Int)
                        · rw [if_pos c25] at H
                          have c25b0 : decide (x28_2 < (x8_2.length : Int)) = true := decide_eq_true c25
                          clear c25
                          obtain ⟨y325, hy325⟩ : ∃ y_ : List Bool, y_ = (x8_2.set (x28_2 : Int).toNat true) := ⟨_, rfl⟩
                          replace H : (impl_TakePages.l0 k2 a1 a2 y325 x27_2 (wrap64 (x28_2 + 1))) = some (r1, r2) := by first | (rw [hy325]; with_reducible exact H) | (have H2_ := (Option.bind_some _ _).symm.trans H; rw [hy325]; with_reducible exact H2_) | (have H2_ := (Option.bind_some _ _).symm.trans H; with_reducible exact H2_) | with_reducible exact H | (rw [hy325]; exact H) | exact H
                          have Ny325 := Aside0.mk hy325
                          clear hy325
                          have H' := Aside0.mk H
                          clear H
                          have p324 : 0 ≤ (x28_2 : Int) := of_decide_eq_true (by first | (with_reducible assumption) | assumption)
                          have q324 : x28_2 < (x27_2.length : Int) := of_decide_eq_true (by first | (with_reducible assumption) | assumption)
                          obtain ⟨ad324, e324, hx324_0⟩ := Kd.at_bool (Kd.R_reads' HO_27.out).2.2 x28_2 p324 q324
                          (try rw [← Nbq22.out] at hx324_0)
                          cases e324
                          rw [add_at, Nat.zero_add] at hx324_0
                          have q324z : x28_2 < 2001 := by have := (Kd.R_reads' HO_27.out).1; omega
                          replace q324z := eq_true q324z
                          replace p324 := eq_true p324
                          replace q324 := eq_true q324
                          have p26 : 0 ≤ (x28_2 : Int) := of_decide_eq_true (by first | (with_reducible assumption) | assumption)
                          have q26 : (x28_2 : Int) < ((x8_2.length : Int) : Int) := of_decide_eq_true (by first | (with_reducible assumption) | assumption)
                          obtain ⟨gb26, gl26, cl26, HG26⟩ := PS_form HO_8.out
                          have GB26 := Aside0.mk gb26
                          have GG26 := Aside0.mk HG26
                          clear gb26 gl26 HG26
                          have q26z : (x28_2 : Int) < 2001 := (by have e_ := (Kd.R_reads' HO_8.out).1; have h_ := q26; rw [← e_] at h_; exact h_)
                          obtain ⟨hx26_0, hf26_0⟩ := Kd.R_celln false HO_8.out (x28_2 : Int) p26 q26z
                          replace q26z := eq_true q26z
                          replace p26 := eq_true p26
                          replace q26 := eq_true q26
                          have HP28 := Kd.R_putg HO_8.out (x28_2 : Int) true
                          go_wp2_with (first | ((with_reducible refine gate_store (t := 4) (p := 44) rfl ?_); (try (rw [drewN_self wr]; generalize hq_ : World.drewN wr _ = wr; have n0_ := Aside0.mk (Kd.R_at hq_ HO_8.out); have n1_ := Aside0.mk (Kd.R_at hq_ HO_27.out); have n2_ := Aside0.mk (below_at hq_ HB.out); clear hq_ HO_8 HO_27 HB; have HO_8 := n0_; have HO_27 := n1_; have HB := n2_; clear n0_ n1_ n2_; (try (have HP28 := Kd.R_putg HO_8.out (x28_2 : Int) true)); obtain ⟨hxn_, hfn_⟩ := Kd.R_celln false HO_8.out (x28_2 : Int) (of_eq_true p26) (of_eq_true q26z))); refine store_event (t := 4) (p := 44) (v := ?vo_w29) (w1 := (wr.setCell ⟨v315, (x28_2 : Int).toNat, none⟩ (.bool true))) ?hg ?ho ?hn ?hr ?_; (case ho => rfl); (case hg => rfl); (case hn => rfl); (case hr => first | (go_simp; done) | (go_simp; rfl)); intro w29 hw; have hg : wr.grownBy w29 (some v315) := (by rw [hw]; exact HP28.2); have hp_ : Kd.R Kd.bool 58 w29 w.heap.size (fun k_ => some k_ ≠ (Value.slice (some ⟨v318, 0, none⟩) 2001 2001).ownBlock) (.slice (some ⟨v315, 0, none⟩) 2001 2001) y325 := (by rw [hw, Ny325.out]; exact HP28.1); clear HP28; have n0_ := Aside0.mk (hp_); have n1_ := Aside0.mk (Kd.R_after (v := (.slice (some ⟨v315, 0, none⟩) 2001 2001)) (v1 := (.slice (some ⟨v315, 0, none⟩) 2001 2001)) (ok := (fun _ => True)) (by (with_reducible repeat (first | apply Kd.R_alloc | apply Kd.R_drewN | apply Kd.R_drew)); exact Kd.R_mono HO_27.out (fun _ hk => ⟨trivial, hk⟩)) hg (.inl rfl)); have n2_ := Aside0.mk ((by rw [hw]; exact below_set (HB.out) GB26.out : Below w.heap.size w w29)); clear HO_8; clear HO_27; clear HB; have HO_8 := n0_; have HO_27 := n1_; have HB := n2_; clear n0_ n1_ n2_; clear hg hw hp_))
                          repeat (go_quiet (first | ((with_reducible refine gate_store (t := 4) (p := 44) rfl ?_); (try (rw [drewN_self wr]; generalize hq_ : World.drewN wr _ = wr; have n0_ := Aside0.mk (Kd.R_at hq_ HO_8.out); have n1_ := Aside0.mk (Kd.R_at hq_ HO_27.out); have n2_ := Aside0.mk (below_at hq_ HB.out); clear hq_ HO_8 HO_27 HB; have HO_8 := n0_; have HO_27 := n1_; have HB := n2_; clear n0_ n1_ n2_; (try (have HP28 := Kd.R_putg HO_8.out (x28_2 : Int) true)); obtain ⟨hxn_, hfn_⟩ := Kd.R_celln false HO_8.out (x28_2 : Int) (of_eq_true p26) (of_eq_true q26z))); refine store_event (t := 4) (p := 44) (v := ?vo_w29) (w1 := (wr.setCell ⟨v315, (x28_2 : Int).toNat, none⟩ (.bool true))) ?hg ?ho ?hn ?hr ?_; (case ho => rfl); (case hg => rfl); (case hn => rfl); (case hr => first | (go_simp; done) | (go_simp; rfl)); intro w29 hw; have hg : wr.grownBy w29 (some v315) := (by rw [hw]; exact HP28.2); have hp_ : Kd.R Kd.bool 58 w29 w.heap.size (fun k_ => some k_ ≠ (Value.slice (some ⟨v318, 0, none⟩) 2001 2001).ownBlock) (.slice (some ⟨v315, 0, none⟩) 2001 2001) y325 := (by rw [hw, Ny325.out]; exact HP28.1); clear HP28; have n0_ := Aside0.mk (hp_); have n1_ := Aside0.mk (Kd.R_after (v := (.slice (some ⟨v315, 0, none⟩) 2001 2001)) (v1 := (.slice (some ⟨v315, 0, none⟩) 2001 2001)) (ok := (fun _ => True)) (by (with_reducible repeat (first | apply Kd.R_alloc | apply Kd.R_drewN | apply Kd.R_drew)); exact Kd.R_mono HO_27.out (fun _ hk => ⟨trivial, hk⟩)) hg (.inl rfl)); have n2_ := Aside0.mk ((by rw [hw]; exact below_set (HB.out) GB26.out : Below w.heap.size w w29)); clear HO_8; clear HO_27; clear HB; have HO_8 := n0_; have HO_27 := n1_; have HB := n2_; clear n0_ n1_ n2_; clear hg hw hp_)); try go_wp2_with (first | ((with_reducible refine gate_store (t := 4) (p := 44) rfl ?_); (try (rw [drewN_self wr]; generalize hq_ : World.drewN wr _ = wr; have n0_ := Aside0.mk (Kd.R_at hq_ HO_8.out); have n1_ := Aside0.mk (Kd.R_at hq_ HO_27.out); have n2_ := Aside0.mk (below_at hq_ HB.out); clear hq_ HO_8 HO_27 HB; have HO_8 := n0_; have HO_27 := n1_; have HB := n2_; clear n0_ n1_ n2_; (try (have HP28 := Kd.R_putg HO_8.out (x28_2 : Int) true)); obtain ⟨hxn_, hfn_⟩ := Kd.R_celln false HO_8.out (x28_2 : Int) (of_eq_true p26) (of_eq_true q26z))); refine store_event (t := 4) (p := 44) (v := ?vo_w29) (w1 := (wr.setCell ⟨v315, (x28_2 : Int).toNat, none⟩ (.bool true))) ?hg ?ho ?hn ?hr ?_; (case ho => rfl); (case hg => rfl); (case hn => rfl); (case hr => first | (go_simp; done) | (go_simp; rfl)); intro w29 hw; have hg : wr.grownBy w29 (some v315) := (by rw [hw]; exact HP28.2); have hp_ : Kd.R Kd.bool 58 w29 w.heap.size (fun k_ => some k_ ≠ (Value.slice (some ⟨v318, 0, none⟩) 2001 2001).ownBlock) (.slice (some ⟨v315, 0, none⟩) 2001 2001) y325 := (by rw [hw, Ny325.out]; exact HP28.1); clear HP28; have n0_ := Aside0.mk (hp_); have n1_ := Aside0.mk (Kd.R_after (v := (.slice (some ⟨v315, 0, none⟩) 2001 2001)) (v1 := (.slice (some ⟨v315, 0, none⟩) 2001 2001)) (ok := (fun _ => True)) (by (with_reducible repeat (first | apply Kd.R_alloc | apply Kd.R_drewN | apply Kd.R_drew)); exact Kd.R_mono HO_27.out (fun _ hk => ⟨trivial, hk⟩)) hg (.inl rfl)); have n2_ := Aside0.mk ((by rw [hw]; exact below_set (HB.out) GB26.out : Below w.heap.size w w29)); clear HO_8; clear HO_27; clear HB; have HO_8 := n0_; have HO_27 := n1_; have HB := n2_; clear n0_ n1_ n2_; clear hg hw hp_)))
                          go_roundg k2
                          case measure => have := HJ3.out; have := HK2.out; omega
                          case rel => exact ⟨(y325), (x27_2), (wrap64 (x28_2 + 1)), (by first | rfl | (simp; done) | (simp [*]; done)), H', ⟨by have := HJ3.out; have := HK2.out; omega⟩, ⟨by (with_reducible repeat (first | apply Kd.R_alloc | apply Kd.R_drewN | apply Kd.R_drew)); exact HO_8.out⟩, ⟨by (with_reducible repeat (first | apply Kd.R_alloc | apply Kd.R_drewN | apply Kd.R_drew)); exact Kd.R_mono HO_27.out (fun _ hk => hk.2)⟩, ⟨by repeat (first | (with_reducible first | exact HB.out | apply below_alloc | apply pw_below_drewN | apply below_drew1) | exact HB.out)⟩⟩
                        · rw [if_neg c25] at H
                          exact absurd H (by simp)
                      · rw [if_neg c24] at H
                        have c24b0 : decide (x28_2 < a1) = false := decide_eq_false c24
                        clear c24
                        by_cases c30 : x28_2 ≥ (wrap64 (a1 + a2))
                        · rw [if_pos c30] at H
                          have c30b0 : decide ((wrap64 (a1 + a2)) ≤ x28_2) = true := decide_eq_true c30
                          clear c30
                          obtain ⟨ji31, hji31⟩ : ∃ j_ : Int, (wrap64 (x28_2 - a2)) = j_ := ⟨_, rfl⟩
                          replace H : (if 0 ≤ (ji31) then (if (ji31) < (x8_2.length : Int) then (impl_TakePages.l0 k2 a1 a2 (x8_2.set ((ji31) : Int).toNat true) x27_2 (wrap64 (x28_2 + 1))) else (none)) else (none)) = some (r1, r2) := by first | (rw [hji31] at H; exact H) | (simp only [hji31] at H ⊢; exact H)
                          have hji31w : (IntKind.i64.wrap (x28_2 - a2)) = ji31 := (i64_w _).trans hji31
                          by_cases c32 : 0 ≤ (ji31)
                          · rw [if_pos c32] at H
                            have c32b0 : decide (0 ≤ (ji31)) = true := decide_eq_true c32
                            clear c32
                            by_cases c33 : (ji31) < (x8_2.length : Int)
                            · rw [if_pos c33] at H
                              have c33b0 : decide ((ji31) < (x8_2.length : Int)) = true := decide_eq_true c33
                              clear c33
                              obtain ⟨y326, hy326⟩ : ∃ y_ : List Bool, y_ = (x8_2.set ((ji31) : Int).toNat true) := ⟨_, rfl⟩
                              replace H : (impl_TakePages.l0 k2 a1 a2 y326 x27_2 (wrap64 (x28_2 + 1))) = some (r1, r2) := by first | (rw [hy326]; with_reducible exact H) | (have H2_ := (Option.bind_some _ _).symm.trans H; rw [hy326]; with_reducible exact H2_) | (have H2_ := (Option.bind_some _ _).symm.trans H; with_reducible exact H2_) | with_reducible exact H | (rw [hy326]; exact H) | exact H
                              have Ny326 := Aside0.mk hy326
                              clear hy326
                              have H' := Aside0.mk H
                              clear H
                              have p324 : 0 ≤ (x28_2 : Int) := of_decide_eq_true (by first | (with_reducible assumption) | assumption)
                              have q324 : x28_2 < (x27_2.length : Int) := of_decide_eq_true (by first | (with_reducible assumption) | assumption)
                              obtain ⟨ad324, e324, hx324_0⟩ := Kd.at_bool (Kd.R_reads' HO_27.out).2.2 x28_2 p324 q324
                              (try rw [← Nbq22.out] at hx324_0)
                              cases e324
                              rw [add_at, Nat.zero_add] at hx324_0
                              have q324z : x28_2 < 2001 := by have := (Kd.R_reads' HO_27.out).1; omega
                              replace q324z := eq_true q324z
                              replace p324 := eq_true p324
                              replace q324 := eq_true q324
                              have p34 : 0 ≤ ((ji31) : Int) := of_decide_eq_true (by first | (with_reducible assumption) | assumption)
                              have q34 : ((ji31) : Int) < ((x8_2.length : Int) : Int) := of_decide_eq_true (by first | (with_reducible assumption) | assumption)
                              obtain ⟨gb34, gl34, cl34, HG34⟩ := PS_form HO_8.out
                              have GB34 := Aside0.mk gb34
                              have GG34 := Aside0.mk HG34
                              clear gb34 gl34 HG34
                              have q34z : ((ji31) : Int) < 2001 := (by have e_ := (Kd.R_reads' HO_8.out).1; have h_ := q34; rw [← e_] at h_; exact h_)
                              obtain ⟨hx34_0, hf34_0⟩ := Kd.R_celln false HO_8.out ((ji31) : Int) p34 q34z
                              replace q34z := eq_true q34z
                              replace p34 := eq_true p34
                              replace q34 := eq_true q34
                              have HP36 := Kd.R_putg HO_8.out ((ji31) : Int) true
                              go_wp2_with (first | ((with_reducible refine gate_store (t := 4) (p := 56) rfl ?_); (try (rw [drewN_self wr]; generalize hq_ : World.drewN wr _ = wr; have n0_ := Aside0.mk (Kd.R_at hq_ HO_8.out); have n1_ := Aside0.mk (Kd.R_at hq_ HO_27.out); have n2_ := Aside0.mk (below_at hq_ HB.out); clear hq_ HO_8 HO_27 HB; have HO_8 := n0_; have HO_27 := n1_; have HB := n2_; clear n0_ n1_ n2_; (try (have HP36 := Kd.R_putg HO_8.out ((ji31) : Int) true)); obtain ⟨hxn_, hfn_⟩ := Kd.R_celln false HO_8.out ((ji31) : Int) (of_eq_true p34) (of_eq_true q34z))); refine store_event (t := 4) (p := 56) (v := ?vo_w37) (w1 := (wr.setCell ⟨v315, ((ji31) : Int).toNat, none⟩ (.bool true))) ?hg ?ho ?hn ?hr ?_; (case ho => rfl); (case hg => rfl); (case hn => rfl); (case hr => first | (go_simp; done) | (go_simp; rfl)); intro w37 hw; have hg : wr.grownBy w37 (some v315) := (by rw [hw]; exact HP36.2); have hp_ : Kd.R Kd.bool 58 w37 w.heap.size (fun k_ => some k_ ≠ (Value.slice (some ⟨v318, 0, none⟩) 2001 2001).ownBlock) (.slice (some ⟨v315, 0, none⟩) 2001 2001) y326 := (by rw [hw, Ny326.out]; exact HP36.1); clear HP36; have n0_ := Aside0.mk (hp_); have n1_ := Aside0.mk (Kd.R_after (v := (.slice (some ⟨v315, 0, none⟩) 2001 2001)) (v1 := (.slice (some ⟨v315, 0, none⟩) 2001 2001)) (ok := (fun _ => True)) (by (with_reducible repeat (first | apply Kd.R_alloc | apply Kd.R_drewN | apply Kd.R_drew)); exact Kd.R_mono HO_27.out (fun _ hk => ⟨trivial, hk⟩)) hg (.inl rfl)); have n2_ := Aside0.mk ((by rw [hw]; exact below_set (HB.out) GB34.out : Below w.heap.size w w37)); clear HO_8; clear HO_27; clear HB; have HO_8 := n0_; have HO_27 := n1_; have HB := n2_; clear n0_ n1_ n2_; clear hg hw hp_))
                              repeat (go_quiet (first | ((with_reducible refine gate_store (t := 4) (p := 56) rfl ?_); (try (rw [drewN_self wr]; generalize hq_ : World.drewN wr _ = wr; have n0_ := Aside0.mk (Kd.R_at hq_ HO_8.out); have n1_ := Aside0.mk (Kd.R_at hq_ HO_27.out); have n2_ := Aside0.mk (below_at hq_ HB.out); clear hq_ HO_8 HO_27 HB; have HO_8 := n0_; have HO_27 := n1_; have HB := n2_; clear n0_ n1_ n2_; (try (have HP36 := Kd.R_putg HO_8.out ((ji31) : Int) true)); obtain ⟨hxn_, hfn_⟩ := Kd.R_celln false HO_8.out ((ji31) : Int) (of_eq_true p34) (of_eq_true q34z))); refine store_event (t := 4) (p := 56) (v := ?vo_w37) (w1 := (wr.setCell ⟨v315, ((ji31) : Int).toNat, none⟩ (.bool true))) ?hg ?ho ?hn ?hr ?_; (case ho => rfl); (case hg => rfl); (case hn => rfl); (case hr => first | (go_simp; done) | (go_simp; rfl)); intro w37 hw; have hg : wr.grownBy w37 (some v315) := (by rw [hw]; exact HP36.2); have hp_ : Kd.R Kd.bool 58 w37 w.heap.size (fun k_ => some k_ ≠ (Value.slice (some ⟨v318, 0, none⟩) 2001 2001).ownBlock) (.slice (some ⟨v315, 0, none⟩) 2001 2001) y326 := (by rw [hw, Ny326.out]; exact HP36.1); clear HP36; have n0_ := Aside0.mk (hp_); have n1_ := Aside0.mk (Kd.R_after (v := (.slice (some ⟨v315, 0, none⟩) 2001 2001)) (v1 := (.slice (some ⟨v315, 0, none⟩) 2001 2001)) (ok := (fun _ => True)) (by (with_reducible repeat (first | apply Kd.R_alloc | apply Kd.R_drewN | apply Kd.R_drew)); exact Kd.R_mono HO_27.out (fun _ hk => ⟨trivial, hk⟩)) hg (.inl rfl)); have n2_ := Aside0.mk ((by rw [hw]; exact below_set (HB.out) GB34.out : Below w.heap.size w w37)); clear HO_8; clear HO_27; clear HB; have HO_8 := n0_; have HO_27 := n1_; have HB := n2_; clear n0_ n1_ n2_; clear hg hw hp_)); try go_wp2_with (first | ((with_reducible refine gate_store (t := 4) (p := 56) rfl ?_); (try (rw [drewN_self wr]; generalize hq_ : World.drewN wr _ = wr; have n0_ := Aside0.mk (Kd.R_at hq_ HO_8.out); have n1_ := Aside0.mk (Kd.R_at hq_ HO_27.out); have n2_ := Aside0.mk (below_at hq_ HB.out); clear hq_ HO_8 HO_27 HB; have HO_8 := n0_; have HO_27 := n1_; have HB := n2_; clear n0_ n1_ n2_; (try (have HP36 := Kd.R_putg HO_8.out ((ji31) : Int) true)); obtain ⟨hxn_, hfn_⟩ := Kd.R_celln false HO_8.out ((ji31) : Int) (of_eq_true p34) (of_eq_true q34z))); refine store_event (t := 4) (p := 56) (v := ?vo_w37) (w1 := (wr.setCell ⟨v315, ((ji31) : Int).toNat, none⟩ (.bool true))) ?hg ?ho ?hn ?hr ?_; (case ho => rfl); (case hg => rfl); (case hn => rfl); (case hr => first | (go_simp; done) | (go_simp; rfl)); intro w37 hw; have hg : wr.grownBy w37 (some v315) := (by rw [hw]; exact HP36.2); have hp_ : Kd.R Kd.bool 58 w37 w.heap.size (fun k_ => some k_ ≠ (Value.slice (some ⟨v318, 0, none⟩) 2001 2001).ownBlock) (.slice (some ⟨v315, 0, none⟩) 2001 2001) y326 := (by rw [hw, Ny326.out]; exact HP36.1); clear HP36; have n0_ := Aside0.mk (hp_); have n1_ := Aside0.mk (Kd.R_after (v := (.slice (some ⟨v315, 0, none⟩) 2001 2001)) (v1 := (.slice (some ⟨v315, 0, none⟩) 2001 2001)) (ok := (fun _ => True)) (by (with_reducible repeat (first | apply Kd.R_alloc | apply Kd.R_drewN | apply Kd.R_drew)); exact Kd.R_mono HO_27.out (fun _ hk => ⟨trivial, hk⟩)) hg (.inl rfl)); have n2_ := Aside0.mk ((by rw [hw]; exact below_set (HB.out) GB34.out : Below w.heap.size w w37)); clear HO_8; clear HO_27; clear HB; have HO_8 := n0_; have HO_27 := n1_; have HB := n2_; clear n0_ n1_ n2_; clear hg hw hp_)))
                              go_roundg k2
                              case measure => have := HJ3.out; have := HK2.out; omega
                              case rel => exact ⟨(y326), (x27_2), (wrap64 (x28_2 + 1)), (by first | rfl | (simp; done) | (simp [*]; done)), H', ⟨by have := HJ3.out; have := HK2.out; omega⟩, ⟨by (with_reducible repeat (first | apply Kd.R_alloc | apply Kd.R_drewN | apply Kd.R_drew)); exact HO_8.out⟩, ⟨by (with_reducible repeat (first | apply Kd.R_alloc | apply Kd.R_drewN | apply Kd.R_drew)); exact Kd.R_mono HO_27.out (fun _ hk => hk.2)⟩, ⟨by repeat (first | (with_reducible first | exact HB.out | apply below_alloc | apply pw_below_drewN | apply below_drew1) | exact HB.out)⟩⟩
                            · rw [if_neg c33] at H
                              exact absurd H (by simp)
                          · rw [if_neg c32] at H
                            exact absurd H (by simp)
                        · rw [if_neg c30] at H
                          have c30b0 : decide ((wrap64 (a1 + a2)) ≤ x28_2) = false := decide_eq_false c30
                          clear c30
                          have H' := Aside0.mk H
                          clear H
                          have p324 : 0 ≤ (x28_2 : Int) := of_decide_eq_true (by first | (with_reducible assumption) | assumption)
                          have q324 : x28_2 < (x27_2.length : Int) := of_decide_eq_true (by first | (with_reducible assumption) | assumption)
                          obtain ⟨ad324, e324, hx324_0⟩ := Kd.at_bool (Kd.R_reads' HO_27.out).2.2 x28_2 p324 q324
                          (try rw [← Nbq22.out] at hx324_0)
                          cases e324
                          rw [add_at, Nat.zero_add] at hx324_0
                          have q324z : x28_2 < 2001 := by have := (Kd.R_reads' HO_27.out).1; omega
                          replace q324z := eq_true q324z
                          replace p324 := eq_true p324
                          replace q324 := eq_true q324
                          go_wp2
                          repeat (go_quiet (fail); try go_wp2)
                          go_roundg k2
                          case measure => have := HJ3.out; have := HK2.out; omega
                          case rel => exact ⟨(x8_2), (x27_2), (wrap64 (x28_2 + 1)), (by first | rfl | (simp; done) | (simp [*]; done)), H', ⟨by have := HJ3.out; have := HK2.out; omega⟩, ⟨by (with_reducible repeat (first | apply Kd.R_alloc | apply Kd.R_drewN | apply Kd.R_drew)); exact HO_8.out⟩, ⟨by (with_reducible repeat (first | apply Kd.R_alloc | apply Kd.R_drewN | apply Kd.R_drew)); exact HO_27.out⟩, ⟨by repeat (first | (with_reducible first | exact HB.out | apply below_alloc | apply pw_below_drewN | apply below_drew1) | exact HB.out)⟩⟩
                    · replace c23 := Bool.eq_false_iff.mpr c23
                      subst c23
                      have H1 : (impl_TakePages.l0 k2 a1 a2 x8_2 x27_2 (wrap64 (x28_2 + 1))) = some (r1, r2) := by rw [if_neg (show ¬ (false = true) by decide)] at H; exact H
                      clear H
                      have H := H1
                      clear H1
                      have H' := Aside0.mk H
                      clear H
                      have p324 : 0 ≤ (x28_2 : Int) := of_decide_eq_true (by first | (with_reducible assumption) | assumption)
                      have q324 : x28_2 < (x27_2.length : Int) := of_decide_eq_true (by first | (with_reducible assumption) | assumption)
                      obtain ⟨ad324, e324, hx324_0⟩ := Kd.at_bool (Kd.R_reads' HO_27.out).2.2 x28_2 p324 q324
                      (try rw [← Nbq22.out] at hx324_0)
                      cases e324
                      rw [add_at, Nat.zero_add] at hx324_0
                      have q324z : x28_2 < 2001 := by have := (Kd.R_reads' HO_27.out).1; omega
                      replace q324z := eq_true q324z
                      replace p324 := eq_true p324
                      replace q324 := eq_true q324
                      go_wp2
                      repeat (go_quiet (fail); try go_wp2)
                      go_roundg k2
                      case measure => have := HJ3.out; have := HK2.out; omega
                      case rel => exact ⟨(x8_2), (x27_2), (wrap64 (x28_2 + 1)), (by first | rfl | (simp; done) | (simp [*]; done)), H', ⟨by have := HJ3.out; have := HK2.out; omega⟩, ⟨by (with_reducible repeat (first | apply Kd.R_alloc | apply Kd.R_drewN | apply Kd.R_drew)); exact HO_8.out⟩, ⟨by (with_reducible repeat (first | apply Kd.R_alloc | apply Kd.R_drewN | apply Kd.R_drew)); exact HO_27.out⟩, ⟨by repeat (first | (with_reducible first | exact HB.out | apply below_alloc | apply pw_below_drewN | apply below_drew1) | exact HB.out)⟩⟩
                  · rw [if_neg c21] at H
                    exact absurd H (by simp)
                · rw [if_neg c20] at H
                  exact absurd H (by simp)
              · rw [if_neg c19] at H
                have c19b0 : decide (x28_2 < 2001) = false := decide_eq_false c19
                clear c19
                replace H := Option.bind_eq_some_iff.mp H
                obtain ⟨⟨t320, t321⟩, A400, H⟩ := H
                replace H : (some (t320, t321)) = some (r1, r2) := H
                have A40 := Aside0.mk A400
                clear A400
                simp only [Option.some.injEq, Prod.mk.injEq] at H
                obtain ⟨rfl, rfl⟩ := H
                go_wp2_with (first | (go_at_call 41; (with_reducible refine (impl_pageSet_ranges.calls k2 v315 x8_2 t320 t321 _ ?side1 ?side2 A40.out).mono ?_); (case side1 => repeat (first | exact (Kd.R_reads' HO_8.out).2.2 | (with_reducible refine Kd.C_alloc ?_ _) | (with_reducible refine Kd.C_drewN ?_ _) | (with_reducible refine Kd.C_drew ?_))); (case side2 => exact (Kd.R_reads' HO_8.out).1.symm); rintro e w42 ⟨v322, rfl, ho0, hb⟩; have n0_ := Aside0.mk (Kd.R_below (by (with_reducible repeat (first | apply Kd.R_alloc | apply Kd.R_drewN | apply Kd.R_drew)); exact HO_8.out) hb); have n1_ := Aside0.mk (Kd.R_below (by (with_reducible repeat (first | apply Kd.R_alloc | apply Kd.R_drewN | apply Kd.R_drew)); exact HO_27.out) hb); have n2_ := Aside0.mk (Kd.R_lower ho0 (below_size (by repeat (first | (with_reducible first | exact HB.out | apply below_alloc | apply pw_below_drewN | apply below_drew1) | exact HB.out)))); have n3_ := Aside0.mk (below_step (by repeat (first | (with_reducible first | exact HB.out | apply below_alloc | apply pw_below_drewN | apply below_drew1) | exact HB.out)) hb); clear HO_8; clear HO_27; clear HB; have HO_8 := n0_; have HO_27 := n1_; have HO323 := n2_; have HB := n3_; clear n0_ n1_ n2_ n3_; (try clear hb); (try clear hb2); (try clear hk); (try clear hi); (try clear ho0)))
                repeat (go_quiet (first | (go_at_call 41; (with_reducible refine (impl_pageSet_ranges.calls k2 v315 x8_2 t320 t321 _ ?side1 ?side2 A40.out).mono ?_); (case side1 => repeat (first | exact (Kd.R_reads' HO_8.out).2.2 | (with_reducible refine Kd.C_alloc ?_ _) | (with_reducible refine Kd.C_drewN ?_ _) | (with_reducible refine Kd.C_drew ?_))); (case side2 => exact (Kd.R_reads' HO_8.out).1.symm); rintro e w42 ⟨v322, rfl, ho0, hb⟩; have n0_ := Aside0.mk (Kd.R_below (by (with_reducible repeat (first | apply Kd.R_alloc | apply Kd.R_drewN | apply Kd.R_drew)); exact HO_8.out) hb); have n1_ := Aside0.mk (Kd.R_below (by (with_reducible repeat (first | apply Kd.R_alloc | apply Kd.R_drewN | apply Kd.R_drew)); exact HO_27.out) hb); have n2_ := Aside0.mk (Kd.R_lower ho0 (below_size (by repeat (first | (with_reducible first | exact HB.out | apply below_alloc | apply pw_below_drewN | apply below_drew1) | exact HB.out)))); have n3_ := Aside0.mk (below_step (by repeat (first | (with_reducible first | exact HB.out | apply below_alloc | apply pw_below_drewN | apply below_drew1) | exact HB.out)) hb); clear HO_8; clear HO_27; clear HB; have HO_8 := n0_; have HO_27 := n1_; have HO323 := n2_; have HB := n3_; clear n0_ n1_ n2_ n3_; (try clear hb); (try clear hb2); (try clear hk); (try clear hi); (try clear ho0))); try go_wp2_with (first | (go_at_call 41; (with_reducible refine (impl_pageSet_ranges.calls k2 v315 x8_2 t320 t321 _ ?side1 ?side2 A40.out).mono ?_); (case side1 => repeat (first | exact (Kd.R_reads' HO_8.out).2.2 | (with_reducible refine Kd.C_alloc ?_ _) | (with_reducible refine Kd.C_drewN ?_ _) | (with_reducible refine Kd.C_drew ?_))); (case side2 => exact (Kd.R_reads' HO_8.out).1.symm); rintro e w42 ⟨v322, rfl, ho0, hb⟩; have n0_ := Aside0.mk (Kd.R_below (by (with_reducible repeat (first | apply Kd.R_alloc | apply Kd.R_drewN | apply Kd.R_drew)); exact HO_8.out) hb); have n1_ := Aside0.mk (Kd.R_below (by (with_reducible repeat (first | apply Kd.R_alloc | apply Kd.R_drewN | apply Kd.R_drew)); exact HO_27.out) hb); have n2_ := Aside0.mk (Kd.R_lower ho0 (below_size (by repeat (first | (with_reducible first | exact HB.out | apply below_alloc | apply pw_below_drewN | apply below_drew1) | exact HB.out)))); have n3_ := Aside0.mk (below_step (by repeat (first | (with_reducible first | exact HB.out | apply below_alloc | apply pw_below_drewN | apply below_drew1) | exact HB.out)) hb); clear HO_8; clear HO_27; clear HB; have HO_8 := n0_; have HO_27 := n1_; have HO323 := n2_; have HB := n3_; clear n0_ n1_ n2_ n3_; (try clear hb); (try clear hb2); (try clear hk); (try clear hi); (try clear ho0))))
                go_ret2
                exact ⟨_, by first | rfl | (simp [errW_none, errW_some] <;> rfl) | (simp [*, errW_none, errW_some] <;> rfl), by (with_reducible repeat (first | apply Kd.R_alloc | apply Kd.R_drewN | apply Kd.R_drew)); exact HO323.out, by repeat (first | (with_reducible first | exact HB.out | apply below_alloc | apply pw_below_drewN | apply below_drew1) | exact HB.out)⟩
        · rw [if_neg c14] at H
          exact absurd H (by simp)


end Go.Proofs.Ytmlhhlmfhkhcnaa.P
