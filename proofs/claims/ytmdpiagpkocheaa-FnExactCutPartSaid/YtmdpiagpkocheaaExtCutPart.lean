/- CutPart: what the program answers, at a row of the caller's own; asked that what is tested answers. -/
import Derived.Test.YtmdpiagpkocheaaPx5
import Derived.Test.YtmdpiagpkocheaaPx6
import Derived.Test.YtmdpiagpkocheaaPx5
import Derived.Test.YtmdpiagpkocheaaExtInsInt
import Derived.Test.YtmdpiagpkocheaaExtCloneInt
namespace Go.Proofs.Ytmdpiagpkocheaa.P
open Go.RowKit Go.Proofs.YtmdpiagpkocheaaW.PrintWords Go.Proofs.YtmdpiagpkocheaaW.PrintLast Go.Proofs.YtmdpiagpkocheaaW.PrintMore
set_option linter.unusedVariables false
set_option linter.unusedSimpArgs false

/-- A part put in elsewhere. -/
def cutL (b : List Int) (f t a : Nat) : List Int := (b.take f ++ b.drop (t + 1)).take a ++ (b.take (t + 1)).drop f ++ (b.take f ++ b.drop (t + 1)).drop a
def cutOk (b : List Int) (f t a : Int) : Prop := 0 ≤ f ∧ f ≤ t ∧ t < b.length ∧ 0 ≤ a ∧ a + (t + 1 - f) ≤ b.length ∧ b.length < 17592186044416
instance (b : List Int) (f t a : Int) : Decidable (cutOk b f t a) := by unfold cutOk; infer_instance
def impl_CutPart.f (k : Nat) (b : List Int) (f t a : Int) : Option (List Int × Bool) :=
  (impl_IsBinding.f k b).bind fun g => (if g = true then ((impl_isPartOf.f b f t).bind fun p => (if p = true then ((impl_within.f a 0 (wrap64 ((b.length : Int) - (wrap64 ((wrap64 (t - f)) + 1))))).bind fun q => (if q = true then (if cutOk b f t a then some (cutL b f.toNat t.toNat a.toNat, true) else none) else some ([], false))) else some ([], false))) else some ([], false))
theorem impl_CutPart.mono : ∀ a0 a1 a2 a3 k, LeO (impl_CutPart.f k a0 a1 a2 a3) (impl_CutPart.f (k + 1) a0 a1 a2 a3) := by
  intro a0 a1 a2 a3 k
  unfold impl_CutPart.f
  repeat' first
      | (with_reducible exact impl_IsBinding.mono _ _)
      | (with_reducible exact LeO.refl _)
      | (with_reducible exact LeO.none _)
      | (with_reducible refine LeO.ite ?_ ?_)
      | (with_reducible refine LeO.bind ?_ (fun _ => ?_))
theorem run_cut (W : World) (vb n c f t : Nat) (h1 : f ≤ t) (h2 : t ≤ n) (h3 : n ≤ c) (h4 : f < n) (h63 : c ≤ 9223372036854775807) : (Instr.slice 22 (.slice (some ⟨vb, 0, none⟩) n c) (some (.int .i64 (f : Int))) (some (.int .i64 (t : Int))) none).run Try.prog W = .ok (.slice (some ⟨vb, f, none⟩) (t - f) (c - f)) W := by
  obtain ⟨i0, hi0, hz0, hz1, hz2⟩ := info_parts info_delInt
  have hu := Try.underlying22
  have hel : Try.prog.elem 22 = 3 := by simp [Program.elem, hu]
  have hu' : Try.prog.underlying 22 = some (.slice (Try.prog.elem 22)) := by rw [hel]; exact hu
  have hne : ¬ c = f := by omega
  rw [run_slice_lh W 22 (some ⟨vb, 0, none⟩) n c hu' .i64 .i64 (f : Int) (t : Int) (by omega) (by omega) (by omega), hel]
  simp [sizeOf, typeInfo, hi0, hz1, sliced, Result.andThen, hne, add_at]
theorem encs_take (xs : List Int) (n : Nat) : (encs (Value.int .i64) xs).take n = encs (Value.int .i64) (xs.take n) := by simp [encs]
theorem encs_drop (xs : List Int) (n : Nat) : (encs (Value.int .i64) xs).drop n = encs (Value.int .i64) (xs.drop n) := by simp [encs]
theorem encs_app (xs ys : List Int) : encs (Value.int .i64) xs ++ encs (Value.int .i64) ys = encs (Value.int .i64) (xs ++ ys) := by simp [encs]

theorem cut_del (f t : Nat) (l0 : List Int) (hf : f ≤ t) (ht : t < l0.length) (g c : Nat) (cur : Array Value) (w : World) (hh : w.heap[g]? = some (.cells cur 3 (0, 0))) (hnc : l0.length ≤ c) (hcm : c ≤ 9223372036854775807) (hcs : cur.size = c) (hct : cur.toList.take l0.length = encs (Value.int .i64) l0) :
    Calls Try.prog 41 #[.slice (some ⟨g, 0, none⟩) l0.length c, .int .i64 f, .int .i64 ((t : Int) + 1)] w fun e w' => e = .returned (.slice (some ⟨g, 0, none⟩) (l0.length - (t + 1 - f)) c) ∧ DelPostInt g l0.length c f (t + 1) cur w w' :=
  delete_Int g l0.length c f (t + 1) cur w hh (by rw [hcs, Nat.mul_one]) hnc hcm (by omega) (by omega) (by rw [Nat.mul_one, hct]; exact encs_one _)
theorem cut_ins (f t a : Nat) (l0 : List Int) (hf : f ≤ t) (ht : t < l0.length) (ha : a + (t + 1 - f) ≤ l0.length) (vb c0 : Nat) (cvb : Array Value) (htv : cvb.toList.take l0.length = encs (Value.int .i64) l0) (g c : Nat) (cur cur2 : Array Value) (w : World) (hv : w.heap[vb]? = some (.cells cvb 3 (0, 0))) (hne : vb ≠ g)
    (hh : w.heap[g]? = some (.cells cur2 3 (0, 0))) (hnc : l0.length ≤ c) (hcm : c ≤ 9223372036854775807) (hcs : cur.size = c) (h2 : cur2.size = cur.size) (hct : cur.toList.take l0.length = encs (Value.int .i64) l0) (h3 : cur2.toList.take ((l0.length - (t + 1 - f)) * 1) = cur.toList.take (f * 1) ++ (cur.toList.take (l0.length * 1)).drop ((t + 1) * 1)) :
    Calls Try.prog 42 #[.slice (some ⟨g, 0, none⟩) (l0.length - (t + 1 - f)) c, .int .i64 a, .slice (some ⟨vb, f, none⟩) (t + 1 - f) (c0 - f)] w fun e w' => e = .returned (.slice (some ⟨g, 0, none⟩) l0.length c) ∧ InsPost g c cur2 (encs (Value.int .i64) (cutL l0 f t a)) w w' := by
  have hq3 : cur2.toList.take (l0.length - (t + 1 - f)) = encs (Value.int .i64) (l0.take f ++ l0.drop (t + 1)) := by
    rw [Nat.mul_one, Nat.mul_one, Nat.mul_one, Nat.mul_one] at h3
    have h4 : cur.toList.take f = (cur.toList.take l0.length).take f := by rw [List.take_take, Nat.min_eq_left (by omega)]
    rw [h3, h4, hct, encs_take, encs_drop, encs_app]
  have h := insert_Int g (l0.length - (t + 1 - f)) c a vb f (t + 1 - f) (c0 - f) cur2 cvb (encs (Value.int .i64) (l0.take f ++ l0.drop (t + 1))) (encs (Value.int .i64) ((l0.take (t + 1)).drop f)) w hh hv hne (by omega) (by omega) (by omega) hcm (by rw [h2, hcs])
    (by simp [encs]; omega) (by simp [encs]; omega) hq3 (fun j u hj => by
      rw [← encs_drop, ← encs_take, List.getElem?_drop] at hj
      have hjl := (List.getElem?_eq_some_iff.1 hj).1
      rw [List.length_take] at hjl
      rw [List.getElem?_take, if_pos (by omega), ← htv, List.getElem?_take, if_pos (by omega), Array.getElem?_toList] at hj
      exact hj) (encs_one _) (encs_one _)
  rw [encs_take, encs_drop, encs_app, encs_app, Nat.sub_add_cancel (by omega)] at h
  exact h
set_option maxHeartbeats 1000000 in
set_option maxRecDepth 100000 in
theorem impl_CutPart.calls (k : Nat) (A0 : Option Addr) (c0 : Nat) (l0 : List Int) (a1 a2 a3 : Int) (r1 : List Int) (r2 : Bool) (w : World) (hr0 : ∃ base ok, Kd.R (Kd.int .i64) 3 w base ok (.slice A0 l0.length c0) l0) (hc0 : l0.length ≤ c0) (h : impl_CutPart.f k l0 a1 a2 a3 = some (r1, r2)) :
    Calls Try.prog 20 #[.slice A0 l0.length c0, .int .i64 a1, .int .i64 a2, .int .i64 a3] w fun e w' => ∃ v0_ : Value, e = .returned (.tuple #[v0_, .bool r2]) ∧ Kd.R (Kd.int .i64) 3 w' w.heap.size (fun _ => True) v0_ r1 ∧ Below w.heap.size w w' := by
  obtain ⟨base0, ok0, hrow⟩ := hr0
  have HR0 := Aside0.mk (Kd.R_reads' hrow).2.2
  have HC0 := Aside0.mk hc0
  have HROW := Aside0.mk hrow
  clear hrow hc0
  have HB := Aside0.mk (Below.refl w.heap.size w)
  unfold impl_CutPart.f at h
  replace h := Option.bind_eq_some_iff.mp h
  obtain ⟨g, A5', h⟩ := h
  have A5 := Aside0.mk A5'
  clear A5'
  cases g with
  | false =>
    rw [if_neg (by decide)] at h
    simp only [Option.some.injEq, Prod.mk.injEq] at h
    obtain ⟨rfl, rfl⟩ := h
    go_enter Try.func20, Try.ntmps20
    go_wp2_with (go_at_call 35; (with_reducible refine (impl_IsBinding.calls k _ _ l0 false _ ?side1 ?side2 A5.out).mono ?_); (case side1 => exact HR0.out); (case side2 => exact HC0.out); rintro e w10 ⟨rfl, hb⟩; have n0_ := Aside0.mk (below_step HB.out hb); clear HB hb; have HB := n0_; clear n0_)
    go_ret2
    exact ⟨_, rfl, Kd.R_nil _ _ _ _ _, by repeat (first | (with_reducible first | exact HB.out | apply below_alloc | apply pw_below_drewN | apply below_drew1) | exact HB.out)⟩
  | true =>
    rw [if_pos rfl] at h
    replace h := Option.bind_eq_some_iff.mp h
    obtain ⟨p, A7', h⟩ := h
    have A7 := Aside0.mk A7'
    clear A7'
    cases p with
    | false =>
      rw [if_neg (by decide)] at h
      simp only [Option.some.injEq, Prod.mk.injEq] at h
      obtain ⟨rfl, rfl⟩ := h
      go_enter Try.func20, Try.ntmps20
      go_wp2_with (first | (go_at_call 35; (with_reducible refine (impl_IsBinding.calls k _ _ l0 true _ ?side1 ?side2 A5.out).mono ?_); (case side1 => exact HR0.out); (case side2 => exact HC0.out); rintro e w10 ⟨rfl, hb⟩; have n0_ := Aside0.mk (below_step HB.out hb); clear HB hb; have HB := n0_; clear n0_) | (go_at_call 37; (with_reducible refine (impl_isPartOf.calls _ _ l0 a1 a2 false _ ?side1 ?side2 A7.out).mono ?_); (case side1 => exact Kd.C_below HR0.out (by repeat (first | (with_reducible first | exact HB.out | apply below_alloc | apply pw_below_drewN | apply below_drew1) | exact HB.out))); (case side2 => exact HC0.out); rintro e w' ⟨rfl, ⟨nd, rfl⟩⟩))
      go_ret2
      exact ⟨_, rfl, Kd.R_nil _ _ _ _ _, by repeat (first | (with_reducible first | exact HB.out | apply below_alloc | apply pw_below_drewN | apply below_drew1) | exact HB.out)⟩
    | true =>
      rw [if_pos rfl] at h
      replace h := Option.bind_eq_some_iff.mp h
      obtain ⟨q, A9', h⟩ := h
      have A9 := Aside0.mk A9'
      clear A9'
      cases q with
      | false =>
        rw [if_neg (by decide)] at h
        simp only [Option.some.injEq, Prod.mk.injEq] at h
        obtain ⟨rfl, rfl⟩ := h
        go_enter Try.func20, Try.ntmps20
        go_wp2_with (first | (go_at_call 35; (with_reducible refine (impl_IsBinding.calls k _ _ l0 true _ ?side1 ?side2 A5.out).mono ?_); (case side1 => exact HR0.out); (case side2 => exact HC0.out); rintro e w10 ⟨rfl, hb⟩; have n0_ := Aside0.mk (below_step HB.out hb); clear HB hb; have HB := n0_; clear n0_) | (go_at_call 37; (with_reducible refine (impl_isPartOf.calls _ _ l0 a1 a2 true _ ?side1 ?side2 A7.out).mono ?_); (case side1 => exact Kd.C_below HR0.out (by repeat (first | (with_reducible first | exact HB.out | apply below_alloc | apply pw_below_drewN | apply below_drew1) | exact HB.out))); (case side2 => exact HC0.out); rintro e w' ⟨rfl, ⟨nd, rfl⟩⟩) | (go_at_call 40; (with_reducible refine (impl_within.calls a3 0 (wrap64 ((l0.length : Int) - (wrap64 ((wrap64 (a2 - a1)) + 1)))) false _ A9.out).mono ?_); rintro e w' ⟨rfl, ⟨nd2, rfl⟩⟩))
        go_ret2
        exact ⟨_, rfl, Kd.R_nil _ _ _ _ _, by repeat (first | (with_reducible first | exact HB.out | apply below_alloc | apply pw_below_drewN | apply below_drew1) | exact HB.out)⟩
      | true =>
        rw [if_pos rfl] at h
        by_cases hk : cutOk l0 a1 a2 a3
        · rw [if_pos hk] at h
          simp only [Option.some.injEq, Prod.mk.injEq] at h
          obtain ⟨rfl, rfl⟩ := h
          obtain ⟨hk1, hk2, hk3, hk4, hk5, hk6⟩ := hk
          obtain ⟨f, rfl⟩ := Int.eq_ofNat_of_zero_le hk1
          obtain ⟨t, rfl⟩ := Int.eq_ofNat_of_zero_le (show 0 ≤ a2 by omega)
          obtain ⟨a, rfl⟩ := Int.eq_ofNat_of_zero_le hk4
          simp only [Int.toNat_natCast]
          have hf : f ≤ t := by omega
          have ht : t < l0.length := by omega
          have ha : a + (t + 1 - f) ≤ l0.length := by omega
          have hsum : IntKind.i64.wrap ((t : Int) + 1) = (t : Int) + 1 := by rw [i64_w]; unfold wrap64; omega
          obtain ⟨vb, c9, cvb, e9, hb9, hh9, hn9, hm9, hs9, ht9⟩ := row_block HROW.out (by omega)
          injection e9 with e91 e92 e93
          subst e91 e93
          clear e92 HROW
          have HV := Aside0.mk hh9
          have HT9 := Aside0.mk ht9
          have HC := Aside0.mk (show clone_Int.f l0 = some l0 by unfold clone_Int.f; rw [if_pos hk6])
          have hmid : ∀ W : World, (Instr.slice 22 (.slice (some ⟨vb, 0, none⟩) l0.length c0) (some (.int .i64 (f : Int))) (some (.int .i64 ((t : Int) + 1))) none).run Try.prog W = .ok (.slice (some ⟨vb, f, none⟩) (t + 1 - f) (c0 - f)) W := fun W => run_cut W vb l0.length c0 f (t + 1) (by omega) (by omega) hn9 (by omega) hm9
          have HF := Aside0.mk hf
          have HT := Aside0.mk ht
          have HA := Aside0.mk ha
          clear hk1 hk2 hk3 hk4 hk5 hk6 hf ht ha hh9 hb9 hn9 hm9 hs9 ht9
          go_enter Try.func20, Try.ntmps20
          go_wp2_with (first | (go_at_call 35; (with_reducible refine (impl_IsBinding.calls k _ _ l0 true _ ?side1 ?side2 A5.out).mono ?_); (case side1 => exact HR0.out); (case side2 => exact HC0.out); rintro e w10 ⟨rfl, hb⟩; have n0_ := Aside0.mk (below_step HB.out hb); clear HB hb; have HB := n0_; clear n0_) | (go_at_call 37; (with_reducible refine (impl_isPartOf.calls _ _ l0 f t true _ ?side1 ?side2 A7.out).mono ?_); (case side1 => exact Kd.C_below HR0.out (by repeat (first | (with_reducible first | exact HB.out | apply below_alloc | apply pw_below_drewN | apply below_drew1) | exact HB.out))); (case side2 => exact HC0.out); rintro e w' ⟨rfl, ⟨nd, rfl⟩⟩) | (go_at_call 40; refine (impl_within.calls a 0 _ true _ A9.out).mono ?_; rintro e w' ⟨rfl, ⟨nd2, rfl⟩⟩) | (go_at_call 36; refine (clone_Int.calls _ _ l0 l0 _ (Kd.C_below HR0.out (by repeat (first | (with_reducible first | exact HB.out | apply below_alloc | apply pw_below_drewN | apply below_drew1) | exact HB.out))) HC0.out HC.out).mono ?_; rintro e w1 ⟨v, rfl, hO, hb⟩; obtain ⟨g, c, cur, rfl, hg, hh, hnc, hcm, hcs, hct⟩ := row_block hO (by have := HT.out; omega); have HG := Aside0.mk (Nat.le_trans (below_size (by repeat (first | (with_reducible first | exact HB.out | apply below_alloc | apply pw_below_drewN | apply below_drew1) | exact HB.out))) hg); have HH := Aside0.mk hh; have HNC := Aside0.mk hnc; have HCM := Aside0.mk hcm; have HCS := Aside0.mk hcs; have HCT := Aside0.mk hct; have n0_ := Aside0.mk (below_step (by repeat (first | (with_reducible first | exact HB.out | apply below_alloc | apply pw_below_drewN | apply below_drew1) | exact HB.out)) hb); clear HB hb hO hg hh hnc hcm hcs hct; have HB := n0_; clear n0_) | (go_at_call 41; (with_reducible refine (cut_del f t l0 HF.out HT.out g c cur _ HH.out HNC.out HCM.out HCS.out HCT.out).mono ?_); rintro e w2 ⟨rfl, cur2, d1, d2, d3, d4⟩; have HD1 := Aside0.mk d1; have HD2 := Aside0.mk d2; have HD3 := Aside0.mk d3; have n0_ := Aside0.mk (HB.out.grown d4 HB.out.size (fun q hq => by injection hq with hq; rw [← hq]; exact HG.out)); clear HB d1 d2 d3 d4; have HB := n0_; clear n0_) | (go_at_call 42; (with_reducible refine (cut_ins f t a l0 HF.out HT.out HA.out vb c0 cvb HT9.out g c cur cur2 _ ?q1 ?q2 HD1.out HNC.out HCM.out HCS.out HD2.out HCT.out HD3.out).mono ?_); (case q1 => exact blk_below HV.out HB.out); (case q2 => have := blk_lt HV.out; have := HG.out; omega); rintro e w3 ⟨rfl, cur3, d1, d2, d3, d4⟩; have HE1 := Aside0.mk d1; have HE2 := Aside0.mk d2; have HE3 := Aside0.mk d3; have n0_ := Aside0.mk (HB.out.grown d4 HB.out.size (fun q hq => by injection hq with hq; rw [← hq]; exact HG.out)); clear HB d1 d2 d3 d4; have HB := n0_; clear n0_))
          go_ret2
          have hf := HF.out
          have ht := HT.out
          have ha := HA.out
          have hnc := HNC.out
          have hlen : (cutL l0 f t a).length = l0.length := by
            unfold cutL
            simp only [List.length_append, List.length_take, List.length_drop]
            omega
          refine ⟨_, rfl, block_row HG.out HE1.out hlen.symm (by rw [hlen]; exact hnc) HCM.out (by rw [HE2.out, HD2.out, HCS.out]) ?_, HB.out⟩
          have h3 := HE3.out
          have hl : (encs (Value.int .i64) (cutL l0 f t a)).length = (cutL l0 f t a).length := by simp [encs]
          rw [← hl]
          exact h3
        · rw [if_neg hk] at h
          cases h
end Go.Proofs.Ytmdpiagpkocheaa.P
