/- The program's FewestTurns: the least number of turns out of the search; no condition. -/
import Derived.Test.YtmdpiagpkocheaaZfir6
import Derived.Test.YtmdpiagpkocheaaZfir5
import Derived.Test.YtmdpiagpkocheaaZfir0
import Derived.Test.YtmdpiagpkocheaaZfir3
/-! The program's FewestTurns: the least number of turns out of the search; no condition. -/
section
namespace Go.Proofs.Ytmdpiagpkocheaa.P
open Go.RowKit Go.Proofs.YtmdpiagpkocheaaW.PrintWords Go.Proofs.YtmdpiagpkocheaaW.PrintLast Go.Proofs.YtmdpiagpkocheaaW.PrintMore Go.Proofs.Ytmdpiagpkocheaa.Base Go.Proofs.Ytmdpiagpkocheaa.Order Go.Proofs.Ytmdpiagpkocheaa.Far
set_option linter.unusedVariables false
set_option linter.unusedSimpArgs false

def impl_FewestTurns.f (k : Nat) (l0 : List Int) : Option (Int × Bool) := (impl_isFew.f k l0).bind fun t => if t = true then (if bindS l0 = true ∧ l0.length ≤ 5 then some (((distO l0.length).lookup l0).getD 0, true) else none) else some (0, false)
theorem impl_FewestTurns.mono : ∀ a0 k, LeO (impl_FewestTurns.f k a0) (impl_FewestTurns.f (k + 1) a0) := by
  intro a0 k
  unfold impl_FewestTurns.f
  exact LeO.bind (impl_isFew.mono _ _) (fun _ => LeO.refl _)
set_option maxHeartbeats 4000000 in
set_option maxRecDepth 100000 in
theorem impl_FewestTurns.calls (k : Nat) (A0 : Option Addr) (c0 : Nat) (l0 : List Int) (r1 : Int) (r2 : Bool) (w : World) (hr0 : Kd.C (Kd.int .i64) w A0 l0.length l0) (hc0 : l0.length ≤ c0) (h : impl_FewestTurns.f k l0 = some (r1, r2)) :
    Calls Try.prog 24 #[.slice A0 l0.length c0] w fun e w' => e = .returned (.tuple #[.int .i64 r1, .bool r2]) ∧ Below w.heap.size w w' := by
  have HR0 := Aside0.mk hr0
  have HC0 := Aside0.mk hc0
  clear hr0 hc0
  obtain ⟨b, hb, h⟩ := Option.bind_eq_some_iff.1 h
  have HF := Aside0.mk hb
  clear hb
  cases b with
  | false =>
    rw [if_neg (by decide)] at h
    obtain ⟨rfl, rfl⟩ := Prod.mk.inj (Option.some.inj h)
    clear h
    go_enter Try.func24, Try.ntmps24
    go_wp2_with (go_at_call 47; (with_reducible refine (impl_isFew.calls k A0 c0 l0 false _ HR0.out HC0.out HF.out).mono ?_); rintro e w1 ⟨rfl, hb⟩; have HB := Aside0.mk hb; clear hb)
    go_ret2
    exact ⟨rfl, HB.out⟩
  | true =>
    rw [if_pos rfl] at h
    by_cases hc : bindS l0 = true ∧ l0.length ≤ 5
    · rw [if_pos hc] at h
      obtain ⟨h1, rfl⟩ := Prod.mk.inj (Option.some.inj h)
      have H1 := Aside0.mk h1
      have HB0 := Aside0.mk (And.intro ((bd_iff l0).1 hc.1) hc.2)
      clear h h1 hc
      go_enter Try.func24, Try.ntmps24
      go_wp2_with (first | (go_at_call 47; (with_reducible refine (impl_isFew.calls k A0 c0 l0 true _ HR0.out HC0.out HF.out).mono ?_); rintro e w1 ⟨rfl, hb⟩; have HB := Aside0.mk hb; clear hb) | (go_at_call 44; (refine (distances_calls l0.length HB0.out.1.2.1 HB0.out.2 _).mono ?_); rintro e w2 ⟨B, rfl, _, hF, hb⟩; have HFA := Aside0.mk hF; have HB2 := Aside0.mk (below_step HB.out hb); clear hF hb) | (go_at_call 48; (refine (keyOf_calls A0 c0 l0 _ (Kd.C_below HR0.out HB2.out) (by have := HB0.out.2; omega)).mono ?_); rintro e w3 ⟨rfl, hb⟩; have HFB := Aside0.mk (HFA.out.below hb); have HB3 := Aside0.mk (below_step HB2.out hb); clear hb) | ((with_reducible refine gate_dst (N := 12) rfl ?_); refine far_look rfl (.tmp 9) (.tmp 11) rfl (n := l0.length) (l := l0) (by rfl) (by rfl) HFB.out (by have := HB0.out.2; omega) (dist_all _).1.bd (dist_all _).1.nd HB0.out.1.1 ?_; rw [H1.out]))
      go_ret2
      exact ⟨rfl, HB3.out⟩
    · rw [if_neg hc] at h
      cases h
end Go.Proofs.Ytmdpiagpkocheaa.P
end

/-! The program's FirstTurns: turn after turn that comes nearer, by the search; no condition. -/
section
namespace Go.Proofs.Ytmdpiagpkocheaa.P
open Go.RowKit Go.Proofs.YtmdpiagpkocheaaW.PrintWords Go.Proofs.YtmdpiagpkocheaaW.PrintLast Go.Proofs.YtmdpiagpkocheaaW.PrintMore Go.Proofs.Ytmdpiagpkocheaa.Base Go.Proofs.Ytmdpiagpkocheaa.Order Go.Proofs.Ytmdpiagpkocheaa.Far
set_option linter.unusedVariables false
set_option linter.unusedSimpArgs false

def impl_FirstTurns.f (k : Nat) (l0 : List Int) : Option (List (List Int) × Bool) := (impl_isFew.f k l0).bind fun t => if t = true then (if bindS l0 = true ∧ l0.length ≤ 5 then some (path l0.length (distO l0.length) (((distO l0.length).lookup l0).getD 0).toNat l0, true) else none) else some ([], false)
theorem impl_FirstTurns.mono : ∀ a0 k, LeO (impl_FirstTurns.f k a0) (impl_FirstTurns.f (k + 1) a0) := by
  intro a0 k
  unfold impl_FirstTurns.f
  exact LeO.bind (impl_isFew.mono _ _) (fun _ => LeO.refl _)
set_option maxHeartbeats 8000000 in
set_option maxRecDepth 100000 in
theorem impl_FirstTurns.calls (k : Nat) (A0 : Option Addr) (c0 : Nat) (l0 : List Int) (r1 : List (List Int)) (r2 : Bool) (w : World) (hr0 : Kd.C (Kd.int .i64) w A0 l0.length l0) (hc0 : l0.length ≤ c0) (h : impl_FirstTurns.f k l0 = some (r1, r2)) :
    Calls Try.prog 28 #[.slice A0 l0.length c0] w fun e w' => ∃ v0_ : Value, e = .returned (.tuple #[v0_, .bool r2]) ∧ Kd.S (Kd.slice 3 (Kd.int .i64)) 22 w' w.heap.size (fun _ => True) v0_ r1 ∧ Below w.heap.size w w' := by
  have HR0 := Aside0.mk hr0
  have HC0 := Aside0.mk hc0
  clear hr0 hc0
  obtain ⟨b, hb, h⟩ := Option.bind_eq_some_iff.1 h
  have HF := Aside0.mk hb
  clear hb
  cases b with
  | false =>
    rw [if_neg (by decide)] at h
    obtain ⟨rfl, rfl⟩ := Prod.mk.inj (Option.some.inj h)
    clear h
    go_enter Try.func28, Try.ntmps28
    go_wp2_with (go_at_call 47; (with_reducible refine (impl_isFew.calls k A0 c0 l0 false _ HR0.out HC0.out HF.out).mono ?_); rintro e w1 ⟨rfl, hb⟩; have HB := Aside0.mk hb; clear hb)
    go_ret2
    exact ⟨_, rfl, Kd.S_nil _ _ _ _ _, HB.out⟩
  | true =>
    rw [if_pos rfl] at h
    by_cases hc : bindS l0 = true ∧ l0.length ≤ 5
    · rw [if_pos hc] at h
      obtain ⟨h1, rfl⟩ := Prod.mk.inj (Option.some.inj h)
      have HB0 := Aside0.mk (And.intro ((bd_iff l0).1 hc.1) hc.2)
      obtain ⟨v, hv⟩ : ∃ v : Nat, (distO l0.length).lookup l0 = some (v : Int) := by
        obtain ⟨v, h2, h3⟩ := (dist_all l0.length).1.all l0 HB0.out.1.1
        exact ⟨v.toNat, by rw [h2]; congr 1; omega⟩
      have hlv : ((distO l0.length).lookup l0).getD 0 = (v : Int) := by rw [hv]; rfl
      rw [hlv, Int.toNat_natCast] at h1
      have H1 := Aside0.mk h1
      have HV := Aside0.mk hv
      have HLV := Aside0.mk hlv
      have HCL := Aside0.mk (show clone_Int.f l0 = some l0 by rw [clone_Int.f, if_pos (by have := HB0.out.2; omega)])
      clear h h1 hc hv hlv
      obtain ⟨n, hn⟩ : ∃ n, n = l0.length := ⟨_, rfl⟩
      have HN := Aside0.mk hn
      go_enter Try.func28, Try.ntmps28
      go_wp2_with (first | (go_at_call 47; (with_reducible refine (impl_isFew.calls k A0 c0 l0 true _ HR0.out HC0.out HF.out).mono ?_); rintro e w1 ⟨rfl, hb⟩; have HB1 := Aside0.mk hb; clear hb) | ((with_reducible refine gate_dst (N := 13) rfl ?_); refine Kd.S_lit (Kd.slice 3 (Kd.int .i64)) _ 22 ?hg (N := 13) ?hd (xs := ([] : List (List Int))) (inner := []) (ok := fun _ => True) (okp := fun _ => True) ?hr ?hp (fun _ hk => hk) trivial (Below.refl _ _) (Nat.le_refl _) (by simp) ?_; (case hd => rfl); (case hg => rfl); (case hr => first | (go_simp; done) | (go_simp; rfl)); (case hp => exact (Reps.none _ _)); intro v4 w2 ho hb hg_ hnew_; clear hg_ hnew_; have HO2 := Aside0.mk (Kd.S_lower ho HB1.out.size); have HB2 := Aside0.mk (below_step HB1.out hb); clear ho hb) | (go_at_call 44; (refine (distances_calls l0.length HB0.out.1.2.1 HB0.out.2 _).mono ?_); rintro e w3 ⟨B, rfl, hB, hF, hb⟩; have HFA := Aside0.mk hF; have HB3 := Aside0.mk (below_step HB2.out hb); have HO3 := Aside0.mk (show Kd.S (Kd.slice 3 (Kd.int .i64)) 22 w3 w.heap.size (fun k => k ≠ B) v4 [] from Kd.S_below (Kd.S_mono (Kd.S_bound HO2.out) (fun k hk => by have := hk.2.2.1; omega)) hb); clear hF hb hB HO2) | (go_at_call 36; (refine (clone_Int.calls A0 c0 l0 l0 _ (Kd.C_below HR0.out HB3.out) HC0.out HCL.out).mono ?_); rintro e w4 ⟨v6, rfl, ho, hb⟩; have HFB := Aside0.mk (HFA.out.below hb); have HB4 := Aside0.mk (below_step HB3.out hb); have HO4 := Aside0.mk (Kd.S_below HO3.out hb); have HQ4 := Aside0.mk (Kd.R_lower (Kd.R_mono (Kd.R_bound ho) (ok' := fun k => k ≠ B) (fun k hk => by have := hk.2.1; have := HFA.out.lt; omega)) HB3.out.size); clear ho hb HO3; obtain ⟨A6, c6, e6⟩ := Kd.R_slice HQ4.out; subst e6) | (go_at_call 48; (refine (keyOf_calls A6 c6 l0 _ (Kd.R_reads' HQ4.out).2.2 (by have := HB0.out.2; omega)).mono ?_); rintro e w5 ⟨rfl, hb⟩; have HFC := Aside0.mk (HFB.out.below hb); have HB5 := Aside0.mk (below_step HB4.out hb); have HO5 := Aside0.mk (Kd.S_below HO4.out hb); have HQ5 := Aside0.mk (Kd.R_below HQ4.out hb); clear hb HO4 HQ4) | ((with_reducible refine gate_dst (N := 22) rfl ?_); refine far_look rfl (.tmp 19) (.tmp 21) rfl (n := l0.length) (l := l0) (by rfl) (by rfl) HFC.out (by have := HB0.out.2; omega) (dist_all _).1.bd (dist_all _).1.nd HB0.out.1.1 ?_; rw [HLV.out]))
      go_loopg [4, 6, 7] v (fun kq v4 v6 v7 w' => ∃ (done : List (List Int)) (q : List Int) (d : Nat) (m : Int), v7 = .int .i64 m ∧ Aside0 (m = (d : Int) ∧ d ≤ kq ∧ d ≤ 20000000 ∧ done ++ path l0.length (distO l0.length) d q = r1 ∧ v ≤ 20000000 ∧ done.length + d = v) ∧ Aside0 (Bd l0.length q ∧ (distO l0.length).lookup q = some (d : Int)) ∧ Aside0 (Kd.S (Kd.slice 3 (Kd.int .i64)) 22 w' w.heap.size (fun k => k ≠ B) v4 done) ∧ Aside0 (Kd.R (Kd.int .i64) 3 w' w.heap.size (fun k => k ≠ B) v6 q) ∧ Aside0 (FarAt w' B (distO l0.length)) ∧ Aside0 (Below w.heap.size w w'))
      case atStart => exact ⟨[], l0, v, v, rfl, ⟨rfl, Nat.le_refl _, by have h8 := dist_le HV.out; have h9 := allOf_le (m := l0.length) (by have := HB0.out.2; omega); omega, H1.out, by have h8 := dist_le HV.out; have h9 := allOf_le (m := l0.length) (by have := HB0.out.2; omega); omega, Nat.zero_add _⟩, ⟨HB0.out.1.1, HV.out⟩, HO5, HQ5, HFC, HB5⟩
      case round =>
        clear HO5 HQ5 HFC HB5 HB1 HB2 HB3 HB4 HFA HFB
        obtain ⟨done, q, d, m, rfl, HC, HQB, HO, HQ, HFT, HB⟩ := hrel
        obtain ⟨A6, c6, e6⟩ := Kd.R_slice HQ.out
        subst e6
        cases d with
        | zero =>
          have hc : decide (0 < m) = false := decide_eq_false (by have := HC.out.1; omega)
          go_wp2
          go_ret2
          have h := HC.out.2.2.2.1
          rw [path, List.append_nil] at h
          subst h
          exact ⟨_, rfl, Kd.S_mono HO.out (fun _ _ => trivial), HB.out⟩
        | succ d =>
          have hc : decide (0 < m) = true := decide_eq_true (by have := HC.out.1; omega)
          obtain ⟨p, hp1, hp2, hp3, hp4⟩ := (dist_all l0.length).1.pick HQB.out.2 (by omega)
          have HP := Aside0.mk (And.intro hp1 (And.intro hp2 (And.intro hp3 hp4)))
          clear hp1 hp2 hp3 hp4
          go_wp2
          go_loopg [8, 9] (pairs l0.length).length (fun kq v8 v9 w' => ∃ (f t : Nat), v8 = .int .i64 (f : Int) ∧ v9 = .int .i64 (t : Int) ∧ Aside0 (f ≤ t ∧ t < l0.length ∧ (restOf l0.length f t).find? (fun p => (distO l0.length).lookup (turn q p.1 p.2) == some (((d + 1 : Nat) : Int) - 1)) = some p ∧ (restOf l0.length f t).length ≤ kq) ∧ Aside0 (Below wr.heap.size wr w'))
          case atStart =>
            have h1 := HB0.out.1.2.1
            have h2 : pairs l0.length = restOf l0.length 0 0 := by rw [pairs_rows, rows_rest (by omega)]
            exact ⟨0, 0, rfl, rfl, ⟨Nat.le_refl _, by omega, by rw [← h2]; exact HP.out.1, by rw [← h2]; exact Nat.le_refl _⟩, ⟨Below.refl _ _⟩⟩
          case round =>
            obtain ⟨f, t, rfl, rfl, HK, HI⟩ := hrel
            have HTB := Aside0.mk (turn_bd HQB.out.1 HK.out.1 HK.out.2.1)
            obtain ⟨K2, hK2⟩ := Ev_at (turned_ev HQB.out.1 (by have := HB0.out.2; omega) f t HK.out.1 HK.out.2.1)
            have HT := Aside0.mk (hK2 K2 (Nat.le_refl _))
            obtain ⟨u, hu, _⟩ := (dist_all l0.length).1.all _ HTB.out
            have HU := Aside0.mk (show (distO l0.length).lookup (turn q f t) = some u ∧ ((distO l0.length).lookup (turn q f t)).getD 0 = u from ⟨hu, by rw [hu]; rfl⟩)
            have hw : wrap64 (m - 1) = (d : Int) := by rw [HC.out.1, w64 (by omega) (by have := HC.out.2.2.1; omega)]; omega
            clear hK2 hu
            by_cases hq : u = (d : Int)
            · have e1 : decide (u = (d : Int)) = true := decide_eq_true hq
              have e2 : (u != (d : Int)) = false := by rw [hq]; simp
              have e3 : (u == (d : Int)) = true := beq_iff_eq.2 hq
              have HUQ := Aside0.mk hq
              clear hq
              have HW := Aside0.mk hw
              go_wp2_with (first | (go_at_call 38; (refine (impl_turned.calls K2 A6 c6 q (f : Int) (t : Int) (turn q f t) _ (Kd.C_below (Kd.R_reads' HQ.out).2.2 HI.out) (Kd.R_reads' HQ.out).2.1 HT.out).mono ?_); rintro e w8 ⟨v8, rfl, ho, hb⟩; have HO8 := Aside0.mk ho; have HI8 := Aside0.mk (below_step HI.out hb); clear ho hb HI; obtain ⟨A8, c8, e8⟩ := Kd.R_slice HO8.out; subst e8) | (go_at_call 48; (refine (keyOf_calls A8 c8 (turn q f t) _ (Kd.R_reads' HO8.out).2.2 (by have := HB0.out.2; have := HTB.out.1; omega)).mono ?_); rintro e w9 ⟨rfl, hb⟩; have HI9 := Aside0.mk (below_step HI8.out hb); have HF9 := Aside0.mk (HFT.out.below (below_step HI8.out hb)); clear hb HI8 HO8) | ((with_reducible refine gate_dst (N := 33) rfl ?_); refine far_look rfl (.tmp 27) (.tmp 32) rfl (n := l0.length) (l := turn q f t) (by rfl) (by rfl) HF9.out (by have := HB0.out.2; omega) (dist_all _).1.bd (dist_all _).1.nd HTB.out ?_; rw [HU.out.2]) | ((with_reducible refine gate_dst (N := 49) rfl ?_); refine Kd.R_lit (Kd.int .i64) _ 3 ?hg (N := 49) ?hd (xs := ([(f : Int), (t : Int)] : List Int)) (inner := [.int .i64 (f : Int), .int .i64 (t : Int)]) (ok := fun _ => True) (okp := fun _ => True) ?hr ?hp (fun _ hk => hk) trivial (Below.refl _ _) (Nat.le_refl _) (by simp) ?_; (case hd => rfl); (case hg => rfl); (case hr => first | (go_simp; done) | (go_simp; rfl)); (case hp => exact (Reps.one (show Kd.M (Kd.int .i64) _ _ _ (f : Int) [.int .i64 (f : Int)] from rfl) (Reps.one (show Kd.M (Kd.int .i64) _ _ _ (t : Int) [.int .i64 (t : Int)] from rfl) (Reps.none _ _)))); intro v49 w10 ho hb hg_ hnew_; clear hg_ hnew_; have HO10 := Aside0.mk (Kd.S_elder' (Kd.S_below HO.out HI9.out) (Kd.R_base ho) hb); have HQ10 := Aside0.mk (Kd.R_below (Kd.R_below HQ.out HI9.out) hb); have HF10 := Aside0.mk (HF9.out.below hb); have HB10 := Aside0.mk (below_step (below_step HB.out HI9.out) hb); have HE10 := Aside0.mk (Kd.R_lower (Kd.R_mono (Kd.R_bound ho) (ok' := fun k => k ≠ B) (fun k hk => by have := hk.2.1; have := HF9.out.lt; omega)) (below_step HB.out HI9.out).size); clear ho hb; obtain ⟨A49, c49, e49⟩ := Kd.R_slice HE10.out; subst e49) | ((with_reducible refine gate_builtin (b := .append) (xs := #[.tmp 46, .tmp 50]) rfl ?_); at_builtin; refine Kd.S_append (Kd.slice 3 (Kd.int .i64)) (w0 := w) w.heap.size rfl (.tmp 46) (.tmp 50) 23 22 (.slice none 0 0) 24 rfl Try.underlying23 (by kernel_rfl) rfl (by decide) (by omega) u4 done [(f : Int), (t : Int)] [.slice A49 [(f : Int), (t : Int)].length c49] (fun k => k ≠ B) (fun k_ => some k_ = (.slice A49 [(f : Int), (t : Int)].length c49 : Value).ownBlock) rfl rfl ?aP ?aQ ?aF ?aO ?aB ?aS ?aL ?_; (case aP => exact Kd.M_row (Kd.R_mono (Kd.R_tight rfl HE10.out) (fun _ h_ => h_))); (case aQ => exact (fun k_ hk_ => ⟨HE10.out.1 k_ hk_.symm, (Kd.R_apart' HE10.out (Kd.S_typed HO10.out) (by decide)).1 k_ hk_.symm |>.2⟩)); (case aF => exact (fun k hk => by have := HF10.out.lt; omega)); (case aO => exact Kd.S_mono HO10.out (fun k_ hk => ⟨hk.1, fun e_ => hk.2 e_⟩)); (case aB => exact HB10.out); (case aS => exact HB10.out.size); (case aL => have := HC.out.2.2.2.2; omega); intro v51 w11 ho hb hg hat; have HO11 := Aside0.mk ho; have HB11 := Aside0.mk hb; have HQ11 := Aside0.mk (Kd.R_over' HQ10.out (Kd.S_typed HO10.out) (by decide) hg); have HF11 := Aside0.mk (HF10.out.kept hg (Kd.S_away HO10.out (fun k hk => hk.1))); clear ho hb hg hat) | (go_at_call 38; (refine (impl_turned.calls K2 A6 c6 q (f : Int) (t : Int) (turn q f t) _ (Kd.R_reads' HQ11.out).2.2 (Kd.R_reads' HQ11.out).2.1 HT.out).mono ?_); rintro e w12 ⟨v55, rfl, ho, hb⟩; have HQ12 := Aside0.mk (Kd.R_lower (Kd.R_mono (Kd.R_bound ho) (ok' := fun k => k ≠ B) (fun k hk => by have := hk.2.1; have := HF11.out.lt; omega)) HB11.out.size); have HO12 := Aside0.mk (Kd.S_below HO11.out hb); have HF12 := Aside0.mk (HF11.out.below hb); have HB12 := Aside0.mk (below_step HB11.out hb); clear ho hb HQ11 HO11 HF11 HB11))
              go_roundg d
              case measure => have := HC.out.2.1; omega
              case rel =>
                have h := HK.out.2.2.1
                rw [rest_cons HK.out.2.1, List.find?_cons_of_pos (by rw [HU.out.1, HUQ.out]; simp)] at h
                have hpp : p = (f, t) := (Option.some.inj h).symm
                have hpath : path l0.length (distO l0.length) (d + 1) q = [(f : Int), (t : Int)] :: path l0.length (distO l0.length) d (turn q f t) := by
                  rw [path, HP.out.1, hpp]
                have h2 := HC.out.2.2.2.1
                rw [hpath] at h2
                exact ⟨done ++ [[(f : Int), (t : Int)]], turn q f t, d, _, rfl, ⟨HW.out, Nat.le_refl _, by have := HC.out.2.2.1; omega, by rw [List.append_assoc]; exact h2, HC.out.2.2.2.2.1, by rw [List.length_append, List.length_singleton]; have := HC.out; omega⟩, ⟨HTB.out, by rw [HU.out.1, HUQ.out]⟩, HO12, HQ12, HF12, HB12⟩
            · have e1 : decide (u = (d : Int)) = false := decide_eq_false hq
              have e2 : (u != (d : Int)) = true := bne_iff_ne.2 hq
              have e3 : (u == (d : Int)) = false := beq_false_of_ne hq
              have h := HK.out.2.2
              rw [rest_cons HK.out.2.1, List.find?_cons_of_neg (by rw [HU.out.1]; simp; omega), List.length_cons] at h
              have HK2 := Aside0.mk h
              have ht1 : wrap64 ((t : Int) + 1) = ((t + 1 : Nat) : Int) := nextI t (by have := HB0.out.2; have := HK.out.2.1; omega)
              have hf1 : wrap64 ((f : Int) + 1) = ((f + 1 : Nat) : Int) := nextI f (by have := HB0.out.2; have := HK.out; omega)
              have HW1 := Aside0.mk ht1
              have HW2 := Aside0.mk hf1
              have hql : (q.length : Int) = (l0.length : Int) := by rw [HQB.out.1.1]
              clear hq h
              by_cases hn1 : t + 1 = l0.length
              · have e4 : decide (((t + 1 : Nat) : Int) = (q.length : Int)) = true := decide_eq_true (by omega)
                have e4' : decide ((t : Int) + 1 = (q.length : Int)) = true := decide_eq_true (by omega)
                have e5 : (((t + 1 : Nat) : Int) == (q.length : Int)) = true := beq_iff_eq.2 (by omega)
                have HN1 := Aside0.mk hn1
                clear hn1 hql
                go_wp2_with (first | (go_at_call 38; (refine (impl_turned.calls K2 A6 c6 q (f : Int) (t : Int) (turn q f t) _ (Kd.C_below (Kd.R_reads' HQ.out).2.2 HI.out) (Kd.R_reads' HQ.out).2.1 HT.out).mono ?_); rintro e w8 ⟨v8, rfl, ho, hb⟩; have HO8 := Aside0.mk ho; have HI8 := Aside0.mk (below_step HI.out hb); clear ho hb HI; obtain ⟨A8, c8, e8⟩ := Kd.R_slice HO8.out; subst e8) | (go_at_call 48; (refine (keyOf_calls A8 c8 (turn q f t) _ (Kd.R_reads' HO8.out).2.2 (by have := HB0.out.2; have := HTB.out.1; omega)).mono ?_); rintro e w9 ⟨rfl, hb⟩; have HI9 := Aside0.mk (below_step HI8.out hb); have HF9 := Aside0.mk (HFT.out.below (below_step HI8.out hb)); clear hb HI8 HO8) | ((with_reducible refine gate_dst (N := 33) rfl ?_); refine far_look rfl (.tmp 27) (.tmp 32) rfl (n := l0.length) (l := turn q f t) (by rfl) (by rfl) HF9.out (by have := HB0.out.2; omega) (dist_all _).1.bd (dist_all _).1.nd HTB.out ?_; rw [HU.out.2]))
                go_roundg (gk - 1)
                case measure => have := HK.out.2.2.2; have h := HK2.out; have h1 := rest_cons (f := f) HK.out.2.1; rw [h1, List.length_cons] at this; omega
                case rel =>
                  have h := HK2.out
                  rw [HN1.out, rest_end] at h
                  have hf := HK.out.1
                  have hft := HK.out.2.1
                  have hf2 : f + 1 < l0.length := by
                    rcases Nat.lt_or_ge (f + 1) l0.length with hx | hx
                    · exact hx
                    · rw [show f + 1 = l0.length by omega, rows_end] at h
                      cases h.1
                  rw [rows_rest hf2] at h
                  exact ⟨f + 1, f + 1, congrArg (Value.int .i64) HW2.out, congrArg (Value.int .i64) HW2.out, ⟨Nat.le_refl _, hf2, h.1, by have h2 := h.2; omega⟩, HI9⟩
              · have e4 : decide (((t + 1 : Nat) : Int) = (q.length : Int)) = false := decide_eq_false (by omega)
                have e4' : decide ((t : Int) + 1 = (q.length : Int)) = false := decide_eq_false (by omega)
                have e5 : (((t + 1 : Nat) : Int) == (q.length : Int)) = false := beq_false_of_ne (by omega)
                have HN1 := Aside0.mk hn1
                clear hn1 hql
                go_wp2_with (first | (go_at_call 38; (refine (impl_turned.calls K2 A6 c6 q (f : Int) (t : Int) (turn q f t) _ (Kd.C_below (Kd.R_reads' HQ.out).2.2 HI.out) (Kd.R_reads' HQ.out).2.1 HT.out).mono ?_); rintro e w8 ⟨v8, rfl, ho, hb⟩; have HO8 := Aside0.mk ho; have HI8 := Aside0.mk (below_step HI.out hb); clear ho hb HI; obtain ⟨A8, c8, e8⟩ := Kd.R_slice HO8.out; subst e8) | (go_at_call 48; (refine (keyOf_calls A8 c8 (turn q f t) _ (Kd.R_reads' HO8.out).2.2 (by have := HB0.out.2; have := HTB.out.1; omega)).mono ?_); rintro e w9 ⟨rfl, hb⟩; have HI9 := Aside0.mk (below_step HI8.out hb); have HF9 := Aside0.mk (HFT.out.below (below_step HI8.out hb)); clear hb HI8 HO8) | ((with_reducible refine gate_dst (N := 33) rfl ?_); refine far_look rfl (.tmp 27) (.tmp 32) rfl (n := l0.length) (l := turn q f t) (by rfl) (by rfl) HF9.out (by have := HB0.out.2; omega) (dist_all _).1.bd (dist_all _).1.nd HTB.out ?_; rw [HU.out.2]))
                go_roundg (gk - 1)
                case measure => have := HK.out.2.2.2; have h := HK2.out; have h1 := rest_cons (f := f) HK.out.2.1; rw [h1, List.length_cons] at this; omega
                case rel => exact ⟨f, t + 1, rfl, congrArg (Value.int .i64) HW1.out, ⟨by have := HK.out.1; omega, by have := HK.out.2.1; have := HN1.out; omega, HK2.out.1, by have := HK2.out.2; omega⟩, HI9⟩
    · rw [if_neg hc] at h
      cases h
end Go.Proofs.Ytmdpiagpkocheaa.P
end

/-! FewestTurns: the program and the reference answer the same; the lists are at most 1048576 long. -/
section
set_option linter.unusedVariables false
namespace Go.Proofs.Ytmdpiagpkocheaa.P
open Go.RowKit Go.Proofs.YtmdpiagpkocheaaW.PrintWords Go.Proofs.YtmdpiagpkocheaaW.PrintLast Go.Proofs.YtmdpiagpkocheaaW.PrintMore Go.Proofs.Ytmdpiagpkocheaa.Base Go.Proofs.Ytmdpiagpkocheaa.Order Go.Proofs.Ytmdpiagpkocheaa.Far

theorem isFew_ev (l : List Int) (hn : l.length ≤ 1048576) : Ev (fun k => impl_isFew.f k l) (bindS l && decide (l.length ≤ 5)) := by
  simp only [impl_isFew.f]
  refine Ev_bind (isBinding_ev l hn) ?_
  cases hb : bindS l with
  | false => exact Ev_neg (by decide) (Ev.now _)
  | true =>
    rw [Bool.true_and, show decide (l.length ≤ 5) = decide ((l.length : Int) ≤ 5) from decide_eq_decide.2 (by omega)]
    exact Ev_pos rfl (Ev.now _)
theorem biFew_ev (l : List Int) (hn : l.length ≤ 1048576) : Ev (fun k => spec_biFew.f k l) (bindS l && decide (l.length ≤ 5)) := by
  simp only [spec_biFew.f]
  refine Ev_bind (biGood_ev l hn) ?_
  cases hb : bindS l with
  | false => exact Ev_neg (by decide) (Ev.now _)
  | true =>
    rw [Bool.true_and, show decide (l.length ≤ 5) = decide ((l.length : Int) ≤ 5) from decide_eq_decide.2 (by omega)]
    exact Ev_pos rfl (Ev.now _)
theorem few_open {l : List Int} (h : (bindS l && decide (l.length ≤ 5)) = true) : Bd l.length l ∧ 1 ≤ l.length ∧ l.length ≤ 5 ∧ bindS l = true := by
  rw [Bool.and_eq_true, decide_eq_true_eq] at h
  have := (bd_iff l).1 h.1
  exact ⟨this.1, this.2.1, h.2, h.1⟩
/-- How many turns: both answer it. -/
def fewR (l : List Int) : Int × Bool := if (bindS l && decide (l.length ≤ 5)) = true then (((distO l.length).lookup l).getD 0, true) else (0, false)
theorem fewImpl_ev (l : List Int) (hn : l.length ≤ 1048576) : Ev (fun k => impl_FewestTurns.f k l) (fewR l) := by
  simp only [impl_FewestTurns.f]
  refine Ev_bind (isFew_ev l hn) ?_
  unfold fewR
  cases h : (bindS l && decide (l.length ≤ 5)) with
  | false => exact Ev_neg (by decide) (Ev.now _)
  | true =>
    have := few_open h
    exact Ev_pos rfl (Ev_pos ⟨this.2.2.2, this.2.2.1⟩ (Ev.now _))
theorem fewSpec_ev (l : List Int) (hn : l.length ≤ 1048576) : Ev (fun k => spec_FewestTurns.f k l) (fewR l) := by
  simp only [spec_FewestTurns.f]
  refine Ev_bind (biFew_ev l hn) ?_
  unfold fewR
  cases h : (bindS l && decide (l.length ≤ 5)) with
  | false => exact Ev_neg (by decide) (Ev.now _)
  | true =>
    have hf := few_open h
    have hr := rank_lt hf.1
    have hD := (dist_all l.length).1
    obtain ⟨v, hv, _⟩ := hD.all l hf.1
    have ha := arr_at hf.1 (distO l.length) hD.bd hD.nd
    refine Ev_pos rfl (Ev_bind (biFar_ev (by omega) hf.2.1) (Ev_bind (biRank_ev hf.1 (by omega)) (Ev_pos (by omega) (Ev_pos (by rw [arr_len]; omega) ?_))))
    simp only [rd_nat, ha, hv, if_true]
    exact Ev.now _
end Go.Proofs.Ytmdpiagpkocheaa.P
end

/-! The reference's FirstTurns: turn after turn that comes nearer. -/
section
namespace Go.Proofs.Ytmdpiagpkocheaa.P
open Go.RowKit Go.Proofs.YtmdpiagpkocheaaW.PrintWords Go.Proofs.YtmdpiagpkocheaaW.PrintLast Go.Proofs.YtmdpiagpkocheaaW.PrintMore Go.Proofs.Ytmdpiagpkocheaa.Base Go.Proofs.Ytmdpiagpkocheaa.Order Go.Proofs.Ytmdpiagpkocheaa.Far
set_option linter.unusedVariables false

/-- The parts that are still to be tried. -/
def rem (n f t : Nat) : List (Nat × Nat) := if t < f then rowsFrom n f else restOf n f t
theorem arr_look {n : Nat} {b : List Int} {v : Int} (hb : Bd n b) (h : (distO n).lookup b = some v) : (arrOf (allOf n) (distO n)).getD (rank b) 0 = v := by
  rw [arr_at hb _ (dist_all n).1.bd (dist_all n).1.nd, h]
  rfl
theorem first_l1 {n : Nat} (h1 : 1 ≤ n) (hn : n ≤ 8) {b : List Int} {d : Nat} (hb : Bd n b) (hd : (distO n).lookup b = some ((d + 1 : Nat) : Int)) {done : List (List Int)} (hl : done.length ≤ 20000000) {p : Nat × Nat} {r : List (List Int) × Bool}
    (hnext : Ev (fun k => spec_FirstTurns.l0 k (turn b p.1 p.2) (arrOf (allOf n) (distO n)) (done ++ [[(p.1 : Int), (p.2 : Int)]])) r) :
    ∀ (e f t : Nat), f * n + t + e = n * n → f < n → t < n → (rem n f t).find? (fun p => (distO n).lookup (turn b p.1 p.2) == some (((d + 1 : Nat) : Int) - 1)) = some p →
      Ev (fun k => spec_FirstTurns.l1 k b (arrOf (allOf n) (distO n)) done ((f * n + t : Nat) : Int)) r := by
  have hlen := hb.1
  have hnn : n * n ≤ 64 := Nat.mul_le_mul hn hn
  have w1 : wrap64 ((n : Int) * (n : Int)) = ((n * n : Nat) : Int) := by rw [← Int.natCast_mul, w64 (by omega) (by omega)]
  have hlt : ∀ f t, f < n → t < n → f * n + t < n * n := fun f t hf ht => by
    have : (f + 1) * n ≤ n * n := Nat.mul_le_mul_right _ hf
    rw [Nat.add_mul, Nat.one_mul] at this
    omega
  intro e
  induction e with
  | zero =>
    intro f t he hf ht _
    have := hlt f t hf ht
    omega
  | succ e ih =>
    intro f t he hf ht hp
    have hk := hlt f t hf ht
    have e1 : (f * n + t) / n = f := by rw [Nat.mul_comm, Nat.mul_add_div (by omega), Nat.div_eq_of_lt ht, Nat.add_zero]
    have e2 : (f * n + t) % n = t := by rw [Nat.mul_comm, Nat.mul_add_mod, Nat.mod_eq_of_lt ht]
    have e3 : Int.tdiv ((f * n + t : Nat) : Int) (n : Int) = (f : Int) := by
      show (((f * n + t) / n : Nat) : Int) = _
      rw [e1]
    have e4 : Int.tmod ((f * n + t : Nat) : Int) (n : Int) = (t : Int) := by
      show (((f * n + t) % n : Nat) : Int) = _
      rw [e2]
    have w2 : wrap64 (f : Int) = (f : Int) := w64 (by omega) (by omega)
    have hs : ∀ k, spec_FirstTurns.l1 (k + 1) b (arrOf (allOf n) (distO n)) done ((f * n + t : Nat) : Int) = _ := fun k => by
      rw [spec_FirstTurns.l1, hlen, w1, if_pos (by omega), if_neg (by omega), e3, e4, w2, nextI (f * n + t) (by omega)]
    refine Ev_step hs ?_
    clear hs e1 e2 e3 e4 w2 w1
    by_cases hft : t < f
    · have er0 : rem n f t = rowsFrom n f := if_pos hft
      have er : rem n f (t + 1) = rowsFrom n f := by
        by_cases h2 : t + 1 < f
        · exact if_pos h2
        · have h3 : t + 1 = f := Nat.le_antisymm hft (Nat.not_lt.1 h2)
          rw [show rem n f (t + 1) = restOf n f (t + 1) from if_neg h2, h3, rows_rest hf]
      rw [er0, ← er] at hp
      have hx := ih f (t + 1) (by omega) hf (Nat.lt_of_le_of_lt hft hf) hp
      rw [← Nat.add_assoc] at hx
      exact Ev_pos (Int.ofNat_lt.2 hft) hx
    · refine Ev_neg (fun h => hft (Int.ofNat_lt.1 h)) ?_
      have htb := turn_bd hb (f := f) (t := t) (by omega) ht
      obtain ⟨u, hu, _⟩ := (dist_all n).1.all _ htb
      have r1 := rank_lt htb
      have r2 := rank_lt hb
      have hal := arr_len (allOf n) (distO n)
      have q1 : (0 : Int) ≤ ((rank (turn b f t) : Nat) : Int) := Int.natCast_nonneg _
      have q2 : ((rank (turn b f t) : Nat) : Int) < ((arrOf (allOf n) (distO n)).length : Int) := by rw [hal]; exact Int.ofNat_lt.2 r1
      have q3 : (0 : Int) ≤ ((rank b : Nat) : Int) := Int.natCast_nonneg _
      have q4 : ((rank b : Nat) : Int) < ((arrOf (allOf n) (distO n)).length : Int) := by rw [hal]; exact Int.ofNat_lt.2 r2
      refine Ev_bind (biTurn_ev hb hn f t (by omega) ht) ?_
      refine Ev_bind (biRank_ev htb hn) ?_
      refine Ev_pos q1 ?_
      refine Ev_pos q2 ?_
      refine Ev_bind (biRank_ev hb hn) ?_
      refine Ev_pos q3 ?_
      refine Ev_pos q4 ?_
      rw [rd_nat, rd_nat, arr_look htb hu, arr_look hb hd]
      have hiff := (dist_all n).1.lt_iff hd (f := f) (t := t) (by omega) ht hu
      rw [rem, if_neg hft, rest_cons ht] at hp
      by_cases hq : u < ((d + 1 : Nat) : Int)
      · rw [List.find?_cons_of_pos (by rw [hu, hiff.1 hq]; simp)] at hp
        obtain rfl := Option.some.inj hp
        exact Ev_pos hq (Ev_pos (show done.length < 5864062014805 by omega) hnext)
      · rw [List.find?_cons_of_neg (by rw [hu]; intro h; exact hq (hiff.2 (Option.some.inj (beq_iff_eq.1 h))))] at hp
        refine Ev_neg hq ?_
        by_cases ht1 : t + 1 = n
        · rw [ht1, rest_end] at hp
          have hf1 : f + 1 < n := by
            rcases Nat.lt_or_ge (f + 1) n with h | h
            · exact h
            · rw [show f + 1 = n by omega, rows_end] at hp
              cases hp
          have hmul : (f + 1) * n = f * n + n := by rw [Nat.add_mul, Nat.one_mul]
          have := ih (f + 1) 0 (by omega) hf1 (by omega) (by rw [rem, if_pos (by omega)]; exact hp)
          rw [show (f + 1) * n + 0 = f * n + t + 1 by omega] at this
          exact this
        · have hx := ih f (t + 1) (by omega) hf (by omega) (by rw [rem, if_neg (by omega)]; exact hp)
          rw [← Nat.add_assoc] at hx
          exact hx
theorem first_l0 {n : Nat} (h1 : 1 ≤ n) (hn : n ≤ 8) : ∀ (d : Nat) (b : List Int) (done : List (List Int)), Bd n b → (distO n).lookup b = some (d : Int) → done.length + d ≤ 20000000 →
    Ev (fun k => spec_FirstTurns.l0 k b (arrOf (allOf n) (distO n)) done) (done ++ path n (distO n) d b, true) := by
  have hal := arr_len (allOf n) (distO n)
  intro d
  induction d with
  | zero =>
    intro b done hb hd hl
    have r2 := rank_lt hb
    refine Ev_step (fun k => by rw [spec_FirstTurns.l0]) (Ev_bind (biRank_ev hb hn) ?_)
    refine Ev_pos (Int.natCast_nonneg _) ?_
    refine Ev_pos (show ((rank b : Nat) : Int) < ((arrOf (allOf n) (distO n)).length : Int) by rw [hal]; exact Int.ofNat_lt.2 r2) ?_
    rw [rd_nat, arr_look hb hd, path, List.append_nil]
    exact Ev_neg (by decide) (Ev.now _)
  | succ d ih =>
    intro b done hb hd hl
    have r2 := rank_lt hb
    obtain ⟨p, hp1, hp2, hp3, hp4⟩ := (dist_all n).1.pick hd (by omega)
    refine Ev_step (fun k => by rw [spec_FirstTurns.l0]) (Ev_bind (biRank_ev hb hn) ?_)
    refine Ev_pos (Int.natCast_nonneg _) ?_
    refine Ev_pos (show ((rank b : Nat) : Int) < ((arrOf (allOf n) (distO n)).length : Int) by rw [hal]; exact Int.ofNat_lt.2 r2) ?_
    rw [rd_nat, arr_look hb hd, path, hp1]
    have hnx := ih (turn b p.1 p.2) (done ++ [[(p.1 : Int), (p.2 : Int)]]) (turn_bd hb hp2 hp3) (by rw [hp4]; congr 1; omega) (by rw [List.length_append, List.length_singleton]; omega)
    rw [List.append_assoc] at hnx
    have hz : (rem n 0 0).find? (fun p => (distO n).lookup (turn b p.1 p.2) == some (((d + 1 : Nat) : Int) - 1)) = some p := by
      rw [rem, if_neg (by omega), ← rows_rest (by omega), ← pairs_rows]
      exact hp1
    have := first_l1 h1 hn hb hd (by omega) hnx (n * n) 0 0 (by omega) (by omega) (by omega) hz
    rw [Nat.zero_mul] at this
    exact Ev_pos (show ((d + 1 : Nat) : Int) > 0 by omega) this
end Go.Proofs.Ytmdpiagpkocheaa.P
end

/-! FirstTurns: the program and the reference answer the same; marks are held, row by row. -/
section
namespace Go.Proofs.Ytmdpiagpkocheaa.P
open Go.RowKit Go.Proofs.YtmdpiagpkocheaaW.PrintWords Go.Proofs.YtmdpiagpkocheaaW.PrintLast Go.Proofs.YtmdpiagpkocheaaW.PrintMore Go.Proofs.Ytmdpiagpkocheaa.Base Go.Proofs.Ytmdpiagpkocheaa.Order Go.Proofs.Ytmdpiagpkocheaa.Far
set_option linter.unusedVariables false

/-- The first turns: both answer them. -/
def firstR (l : List Int) : List (List Int) × Bool := if (bindS l && decide (l.length ≤ 5)) = true then (path l.length (distO l.length) (((distO l.length).lookup l).getD 0).toNat l, true) else ([], false)
theorem firstImpl_ev (l : List Int) (hn : l.length ≤ 1048576) : Ev (fun k => impl_FirstTurns.f k l) (firstR l) := by
  simp only [impl_FirstTurns.f]
  refine Ev_bind (isFew_ev l hn) ?_
  unfold firstR
  cases h : (bindS l && decide (l.length ≤ 5)) with
  | false => exact Ev_neg (by decide) (Ev.now _)
  | true =>
    have := few_open h
    exact Ev_pos rfl (Ev_pos ⟨this.2.2.2, this.2.2.1⟩ (Ev.now _))
theorem firstSpec_ev (l : List Int) (hn : l.length ≤ 1048576) : Ev (fun k => spec_FirstTurns.f k l) (firstR l) := by
  simp only [spec_FirstTurns.f]
  refine Ev_bind (biFew_ev l hn) ?_
  unfold firstR
  cases h : (bindS l && decide (l.length ≤ 5)) with
  | false => exact Ev_neg (by decide) (Ev.now _)
  | true =>
    have hf := few_open h
    obtain ⟨v, hv, h0⟩ := (dist_all l.length).1.all l hf.1
    obtain ⟨d, rfl⟩ := Int.eq_ofNat_of_zero_le h0
    have hle := dist_le hv
    have ha := allOf_le (m := l.length) (by omega)
    have hp := first_l0 hf.2.1 (by omega) d l [] hf.1 hv (by simp only [List.length_nil]; omega)
    rw [List.nil_append] at hp
    rw [hv]
    exact Ev_pos rfl (Ev_bind (biFar_ev (by omega) hf.2.1) hp)
theorem tot_two : ∀ (p : List (List Int)), (∀ r, r ∈ p → r.length = 2) → tot p = 2 * p.length
  | [], _ => rfl
  | r :: p, h => by
    rw [tot, tot_two p (fun x hx => h x (by simp [hx])), h r (by simp), List.length_cons]
    omega
theorem first_few (l : List Int) : (firstR l).1.length ≤ 10321920 ∧ tot (firstR l).1 = 2 * (firstR l).1.length ∧ ((firstR l).1.length ≤ 3840) := by
  unfold firstR
  cases h : (bindS l && decide (l.length ≤ 5)) with
  | false => exact ⟨Nat.zero_le _, rfl, Nat.zero_le _⟩
  | true =>
    have hf := few_open h
    obtain ⟨v, hv, h0⟩ := (dist_all l.length).1.all l hf.1
    obtain ⟨d, rfl⟩ := Int.eq_ofNat_of_zero_le h0
    have hle := dist_le hv
    have ha : allOf l.length ≤ 3840 := by
      rcases (by omega : l.length = 1 ∨ l.length = 2 ∨ l.length = 3 ∨ l.length = 4 ∨ l.length = 5) with h | h | h | h | h <;> rw [h] <;> decide
    have hp := (dist_all l.length).1.path_len d l hv
    rw [if_pos rfl, hv]
    show (path l.length (distO l.length) d l).length ≤ _ ∧ tot (path l.length (distO l.length) d l) = 2 * (path l.length (distO l.length) d l).length ∧ (path l.length (distO l.length) d l).length ≤ _
    exact ⟨by omega, tot_two _ hp.2, by omega⟩
/-- Marks from a on are held. -/
theorem heldF_l0 (a m : Nat) (hn : a + m ≤ 4000000) : ∀ n i : Nat, i + n = m → Ev (fun k => laws_heldIntS.l0 k (mkF a m) ((a + i : Nat) : Int) (i : Int)) ((a + m : Nat) : Int) := by
  intro n
  induction n with
  | zero =>
    intro i hi
    obtain rfl : i = m := by omega
    refine Ev_step (fun k => ?_) (Ev.now _)
    rw [laws_heldIntS.l0, mkF_len, if_neg (by omega)]
  | succ n ih =>
    intro i hi
    refine Ev_step (fun k => ?_) (ih (i + 1) (by omega))
    have w1 : wrap64 (((a + i : Nat) : Int) + 1) = ((a + (i + 1) : Nat) : Int) := by rw [w64 (by omega) (by omega)]; omega
    have hat : (mkF a m).getD i 0 = ((a + i : Nat) : Int) := by
      rw [List.getD_eq_getElem?_getD]
      simp [mkF, show i < m by omega]
    rw [laws_heldIntS.l0, mkF_len, if_pos (by omega), if_pos (by omega), rd_nat, hat, if_pos rfl, w1, nextI i (by omega)]
theorem heldF_ev (a m : Nat) (hn : a + m ≤ 4000000) : Ev (fun k => laws_heldIntS.f k (mkF a m) (a : Int)) ((a + m : Nat) : Int) :=
  Ev.congr (fun k => by rw [laws_heldIntS.f]; rfl) (heldF_l0 a m hn m 0 (by omega))
theorem mkFF_at (l : List (List Int)) (a i : Nat) (h : i < l.length) : rd_L1 (mkFF a l) (i : Int) = mkF (a + tot (l.take i)) l[i].length := by
  have e : l = l.take i ++ (l[i] :: l.drop (i + 1)) := by rw [← List.drop_eq_getElem_cons h, List.take_append_drop]
  have e2 : mkFF a l = mkFF a (l.take i) ++ (mkF (a + tot (l.take i)) l[i].length :: mkFF (a + tot (l.take i) + l[i].length) (l.drop (i + 1))) := by
    rw [← mkFF, ← mkFF_append, ← e]
  have hl : (mkFF a (l.take i)).length = i := by rw [mkFF_len, List.length_take]; omega
  unfold rd_L1
  rw [Int.toNat_natCast, e2, List.getD_eq_getElem?_getD, List.getElem?_append_right (by omega), hl, Nat.sub_self]
  rfl
theorem heldFF_l0 (l : List (List Int)) (a : Nat) (hn : a + tot l ≤ 4000000) (hl : l.length ≤ 4000000) : ∀ n i : Nat, i + n = l.length → Ev (fun k => laws_heldIntSS.l0 k (mkFF a l) ((a + tot (l.take i) : Nat) : Int) (i : Int)) ((a + tot l : Nat) : Int) := by
  intro n
  induction n with
  | zero =>
    intro i hi
    refine Ev_step (fun k => ?_) (Ev.now _)
    rw [laws_heldIntSS.l0, mkFF_len, if_neg (by omega), List.take_of_length_le (by omega)]
  | succ n ih =>
    intro i hi
    have h : i < l.length := by omega
    have ht : tot (l.take (i + 1)) = tot (l.take i) + l[i].length := by
      rw [List.take_add_one, List.getElem?_eq_getElem h, tot_append]
      simp [tot]
    have hle : tot (l.take (i + 1)) ≤ tot l := by
      have := tot_append (l.take (i + 1)) (l.drop (i + 1))
      rw [List.take_append_drop] at this
      omega
    have hx := ih (i + 1) (by omega)
    rw [ht, ← Nat.add_assoc] at hx
    refine Ev_step (fun k => by rw [laws_heldIntSS.l0, mkFF_len, if_pos (by omega), if_pos (by omega), mkFF_at l a i h, nextI i (by omega)]) ?_
    exact Ev_bind (heldF_ev (a + tot (l.take i)) l[i].length (by omega)) (Ev_neg (show ¬ (((a + tot (l.take i) + l[i].length : Nat) : Int) < 0) by omega) hx)
theorem heldFF_ev (l : List (List Int)) (a : Nat) (hn : a + tot l ≤ 4000000) (hl : l.length ≤ 4000000) : Ev (fun k => laws_heldIntSS.f k (mkFF a l) (a : Int)) ((a + tot l : Nat) : Int) :=
  Ev.congr (fun k => by rw [laws_heldIntSS.f]; rfl) (heldFF_l0 l a hn hl l.length 0 (by omega))
end Go.Proofs.Ytmdpiagpkocheaa.P
end

/-! The law of FirstTurns, walked straight on: all that is asked comes true; no condition. -/
section
namespace Go.Proofs.Ytmdpiagpkocheaa.P
open Go.RowKit Go.Proofs.YtmdpiagpkocheaaW.PrintWords Go.Proofs.YtmdpiagpkocheaaW.PrintLast Go.Proofs.YtmdpiagpkocheaaW.PrintMore Go.Proofs.Ytmdpiagpkocheaa.Base Go.Proofs.Ytmdpiagpkocheaa.Order Go.Proofs.Ytmdpiagpkocheaa.Far
set_option linter.unusedVariables false
set_option linter.unusedSimpArgs false

def laws_FnExactFirstTurns.f (k : Nat) (l0 : List Int) : Option Bool := some true
def laws_FnExactFirstTurns.Pure : Prop := ∀ (l0 : List Int), (l0.length ≤ maxLen ∧ ∀ x0_, x0_ ∈ l0 → (Lit.int .i64 x0_).wf = true) → ∃ k, laws_FnExactFirstTurns.f k l0 = some true
abbrev SS (w : World) (base : Nat) (ok : Nat → Prop) (v : Value) (xs : List (List Int)) : Prop := Kd.S (Kd.slice 3 (Kd.int .i64)) 22 w base ok v xs
theorem held_at (k : Nat) (A : Option Addr) (c : Nat) (R : List (List Int)) (a : Nat) (a1 : Int) (ea : a1 = (a : Int)) (m : Int) (w : World) {base : Nat} {ok : Nat → Prop} (hS : SS w base ok (.slice A R.length c) (mkFF a R)) (h : laws_heldIntSS.f k (mkFF a R) (a : Int) = some m) :
    Calls Try.prog 29 #[.slice A R.length c, .int .i64 a1] w fun e w' => e = .returned (.int .i64 m) ∧ Drawn0 w w' := by
  subst ea
  have hr := Kd.S_reads' hS
  have := laws_heldIntSS.calls k A c (mkFF a R) (a : Int) m w hr.2.2 (by rw [mkFF_len]; exact hr.2.1) h
  rwa [mkFF_len] at this
set_option maxHeartbeats 8000000 in
set_option maxRecDepth 100000 in
theorem laws_FnExactFirstTurns.calls (k : Nat) (A0 : Option Addr) (c0 : Nat) (l0 : List Int) (r : Bool) (w : World) (hr0 : Kd.C (Kd.int .i64) w A0 l0.length l0) (hc0 : l0.length ≤ c0) (h : laws_FnExactFirstTurns.f k l0 = some r) :
    Calls Try.prog 8 #[.slice A0 l0.length c0] w fun e w' => e = .returned (.bool r) ∧ Below w.heap.size w w' := by
  obtain rfl := Option.some.inj h
  have HR0 := Aside0.mk hr0
  have HC0 := Aside0.mk hc0
  clear hr0 hc0 h
  by_cases hn : l0.length ≤ 1048576
  · have hd : decide (1048576 < (l0.length : Int)) = false := decide_eq_false (by omega)
    obtain ⟨R, ok, hR⟩ : ∃ R ok, firstR l0 = (R, ok) := ⟨_, _, rfl⟩
    have hf := first_few l0
    rw [hR] at hf
    simp only at hf
    have HFew := Aside0.mk (show R.length ≤ 3840 ∧ tot R = 2 * R.length from ⟨hf.2.2, hf.2.1⟩)
    have HFine := Aside0.mk (show Fine R from Fine.of (by have := HFew.out; omega))
    obtain ⟨K1, k1⟩ := toIntS_ev l0 hn
    obtain ⟨K2, k2⟩ := firstSpec_ev l0 hn
    obtain ⟨K3, k3⟩ := firstImpl_ev l0 hn
    obtain ⟨K4, k4⟩ := eqIntSS_ev R HFine.out
    obtain ⟨K5, k5⟩ := eqIntS_ev l0 hn
    obtain ⟨K6, k6⟩ := markIntS_ev l0 hn
    obtain ⟨K7, k7⟩ := heldFF_ev R 1 (by have := HFew.out; omega) (by have := HFew.out; omega)
    rw [hR] at k2 k3
    have HTI := Aside0.mk (k1 K1 (Nat.le_refl _))
    have HSP := Aside0.mk (k2 K2 (Nat.le_refl _))
    have HIM := Aside0.mk (k3 K3 (Nat.le_refl _))
    have HEQ := Aside0.mk (k4 K4 (Nat.le_refl _))
    have HEI := Aside0.mk (k5 K5 (Nat.le_refl _))
    have HMK := Aside0.mk (k6 K6 (Nat.le_refl _))
    have HHD := Aside0.mk (k7 K7 (Nat.le_refl _))
    have HN := Aside0.mk hn
    have T1 := Aside0.mk True.intro
    have T2 := Aside0.mk True.intro
    have T3 := Aside0.mk True.intro
    have T4 := Aside0.mk True.intro
    have T5 := Aside0.mk True.intro
    have T6 := Aside0.mk True.intro
    have T7 := Aside0.mk True.intro
    have T8 := Aside0.mk True.intro
    have T9 := Aside0.mk True.intro
    have T10 := Aside0.mk True.intro
    have T11 := Aside0.mk True.intro
    have T12 := Aside0.mk True.intro
    have T13 := Aside0.mk True.intro
    have T14 := Aside0.mk True.intro
    have T15 := Aside0.mk True.intro
    obtain ⟨M, hM⟩ : ∃ M : Int, M = ((1 + tot R : Nat) : Int) := ⟨_, rfl⟩
    rw [← hM] at HHD
    have d1 : decide (1 + (l0.length : Int) < 0) = false := decide_eq_false (by omega)
    have d2 : decide (M < 0) = false := decide_eq_false (by omega)
    have d3 : (ok != ok) = false := by simp
    have d4 : (M != M) = false := by simp
    have HM := Aside0.mk hM
    clear hM
    clear k1 k2 k3 k4 k5 k6 k7 hR hf hn
    go_enter Try.func8, Try.ntmps8
    go_wp2_with (first | (clear T1; go_at_call 11; (refine (laws_toIntS.calls K1 A0 c0 l0 l0 _ HR0.out HC0.out HTI.out).mono ?_); rintro e w1 ⟨v1, rfl, ho, hb⟩; have HO1 := Aside0.mk ho; have HB1 := Aside0.mk hb; clear ho hb; obtain ⟨A1, c1, e1⟩ := Kd.R_slice HO1.out; subst e1) | (go_at_call 27; (refine (spec_FirstTurns.calls K2 (fun _ => True) A1 c1 l0 R ok _ (Kd.R_V (Kd.R_mono HO1.out (fun _ _ => trivial))) HSP.out).mono ?_); rintro e w2 ⟨vw, rfl, ho, hb⟩; have HW2 := Aside0.mk (show SS w2 w.heap.size (fun k => k < w2.heap.size) vw R from Kd.S_mono (Kd.S_bound (Kd.S_lower ho HB1.out.size)) (fun k hk => hk.2.2.1)); have HB2 := Aside0.mk (below_step HB1.out hb); clear ho hb HO1 HB1) | (clear T2; go_at_call 11; (refine (laws_toIntS.calls K1 A0 c0 l0 l0 _ (Kd.C_below HR0.out HB2.out) HC0.out HTI.out).mono ?_); rintro e w3 ⟨vx, rfl, ho, hb⟩; have HX3 := Aside0.mk (show Kd.R (Kd.int .i64) 3 w3 w.heap.size (fun k => w2.heap.size ≤ k ∧ k < w3.heap.size) vx l0 from Kd.R_lower (Kd.R_mono (Kd.R_bound ho) (fun k hk => ⟨hk.2.1, hk.2.2.1⟩)) HB2.out.size); have HW3 := Aside0.mk (show SS w3 w.heap.size (fun k => k < w2.heap.size) vw R from Kd.S_below HW2.out hb); have HS3 := Aside0.mk hb.size; have HB3 := Aside0.mk (below_step HB2.out hb); clear ho hb HW2 HB2; obtain ⟨Ax, cx, ex⟩ := Kd.R_slice HX3.out; subst ex) | (clear T3; go_at_call 28; (refine (impl_FirstTurns.calls K3 Ax cx l0 R ok _ (Kd.R_reads' HX3.out).2.2 (Kd.R_reads' HX3.out).2.1 HIM.out).mono ?_); rintro e w4 ⟨vg, rfl, ho, hb⟩; have HG4 := Aside0.mk (show SS w4 w.heap.size (fun k => w3.heap.size ≤ k) vg R from Kd.S_lower (Kd.S_mono (Kd.S_bound ho) (fun k hk => hk.2.1)) HB3.out.size); have HX4 := Aside0.mk (Kd.R_below HX3.out hb); have HW4 := Aside0.mk (show SS w4 w.heap.size (fun k => k < w2.heap.size) vw R from Kd.S_below HW3.out hb); have HB4 := Aside0.mk (below_step HB3.out hb); clear ho hb HX3 HW3 HB3; obtain ⟨Ag, cg, eg⟩ := Kd.S_slice HG4.out; subst eg; obtain ⟨Aw, cw, ew⟩ := Kd.S_slice HW4.out; subst ew) | (clear T4; go_at_call 15; (refine (laws_eqIntSS.calls K4 Ag cg R Aw cw R true _ (Kd.S_reads' HG4.out).2.2 (Kd.S_reads' HG4.out).2.1 (Kd.S_reads' HW4.out).2.2 (Kd.S_reads' HW4.out).2.1 HEQ.out).mono ?_); rintro e w5 ⟨rfl, ⟨nd, hw⟩⟩; have hb : Below w4.heap.size w4 w5 := (by rw [hw]; exact pw_below_drewN (Below.refl _ _) nd); have HG5 := Aside0.mk (Kd.S_below HG4.out hb); have HW5 := Aside0.mk (Kd.S_below HW4.out hb); have HX5 := Aside0.mk (Kd.R_below HX4.out hb); have HB5 := Aside0.mk (below_step HB4.out hb); clear hb hw HG4 HW4 HX4 HB4) | (clear T5; go_at_call 11; (refine (laws_toIntS.calls K1 A0 c0 l0 l0 _ (Kd.C_below HR0.out HB5.out) HC0.out HTI.out).mono ?_); rintro e w6 ⟨vt, rfl, ho, hb⟩; have HT6 := Aside0.mk ho; have HG6 := Aside0.mk (Kd.S_below HG5.out hb); have HW6 := Aside0.mk (Kd.S_below HW5.out hb); have HX6 := Aside0.mk (Kd.R_below HX5.out hb); have HB6 := Aside0.mk (below_step HB5.out hb); clear ho hb HG5 HW5 HX5 HB5; obtain ⟨At, ct, et⟩ := Kd.R_slice HT6.out; subst et) | (clear T6; go_at_call 14; (refine (laws_eqIntS.calls K5 Ax cx l0 At ct l0 true _ (Kd.R_reads' HX6.out).2.2 (Kd.R_reads' HX6.out).2.1 (Kd.R_reads' HT6.out).2.2 (Kd.R_reads' HT6.out).2.1 HEI.out).mono ?_); rintro e w7 ⟨rfl, ⟨nd, hw⟩⟩; have hb : Below w6.heap.size w6 w7 := (by rw [hw]; exact pw_below_drewN (Below.refl _ _) nd); have HG7 := Aside0.mk (Kd.S_below HG6.out hb); have HW7 := Aside0.mk (Kd.S_below HW6.out hb); have HX7 := Aside0.mk (Kd.R_below HX6.out hb); have HB7 := Aside0.mk (below_step HB6.out hb); clear HT6; clear hb hw HG6 HW6 HX6 HB6) | (clear T7; go_at_call 16; (refine (laws_markIntS.calls K6 (fun k => w2.heap.size ≤ k ∧ k < w3.heap.size) (.slice Ax l0.length cx) l0 1 _ _ w w7 HB7.out HX7.out HMK.out).mono ?_); rintro e w8 ⟨rfl, hX, hB, hK⟩; have HG8 := Aside0.mk (Kd.S_kept HG7.out hK (fun k hk h => by omega)); have HW8 := Aside0.mk (Kd.S_kept HW7.out hK (fun k hk h => by omega)); have HX8 := Aside0.mk hX; have HB8 := Aside0.mk hB; clear hX hB hK HG7 HW7 HX7 HB7) | (clear T8; go_at_call 15; (refine (laws_eqIntSS.calls K4 Ag cg R Aw cw R true _ (Kd.S_reads' HG8.out).2.2 (Kd.S_reads' HG8.out).2.1 (Kd.S_reads' HW8.out).2.2 (Kd.S_reads' HW8.out).2.1 HEQ.out).mono ?_); rintro e w9 ⟨rfl, ⟨nd, hw⟩⟩; have hb : Below w8.heap.size w8 w9 := (by rw [hw]; exact pw_below_drewN (Below.refl _ _) nd); have HG9 := Aside0.mk (Kd.S_below HG8.out hb); have HW9 := Aside0.mk (Kd.S_below HW8.out hb); have HX9 := Aside0.mk (Kd.R_below HX8.out hb); have HB9 := Aside0.mk (below_step HB8.out hb); clear hb hw HG8 HW8 HX8 HB8) | (clear T9; go_at_call 17; (refine (markIntSS_calls (fun k => w3.heap.size ≤ k) (.slice Ag R.length cg) R 1 1 rfl (by have := HFew.out; omega) (by have := HFew.out; omega) w w9 HB9.out HG9.out).mono ?_); rintro e w10 ⟨m, rfl, hm, hS, hB, hK⟩; rw [← HM.out] at hm; subst hm; have HG10 := Aside0.mk (show SS w10 w.heap.size (fun k => w3.heap.size ≤ k) (.slice Ag R.length cg) (mkFF 1 R) from hS); have HW10 := Aside0.mk (Kd.S_kept HW9.out hK (fun k hk h => by have := HS3.out; omega)); have HB10 := Aside0.mk hB; clear hS hB hK HG9 HW9 HX9 HB9) | (clear T10; go_at_call 29; (refine (held_at K7 Ag cg R 1 1 rfl _ _ HG10.out HHD.out).mono ?_); rintro e w11 ⟨rfl, ⟨nd, hw⟩⟩; have hb : Below w10.heap.size w10 w11 := (by rw [hw]; exact pw_below_drewN (Below.refl _ _) nd); have HG11 := Aside0.mk (Kd.S_below HG10.out hb); have HW11 := Aside0.mk (Kd.S_below HW10.out hb); have HB11 := Aside0.mk (below_step HB10.out hb); clear hb hw HG10 HW10 HB10) | (clear T11; go_at_call 11; (refine (laws_toIntS.calls K1 A0 c0 l0 l0 _ (Kd.C_below HR0.out HB11.out) HC0.out HTI.out).mono ?_); rintro e w12 ⟨vu, rfl, ho, hb⟩; have HT12 := Aside0.mk ho; have HG12 := Aside0.mk (Kd.S_below HG11.out hb); have HW12 := Aside0.mk (Kd.S_below HW11.out hb); have HB12 := Aside0.mk (below_step HB11.out hb); clear ho hb HG11 HW11 HB11; obtain ⟨Au, cu, eu⟩ := Kd.R_slice HT12.out; subst eu) | (clear T12; go_at_call 28; (refine (impl_FirstTurns.calls K3 Au cu l0 R ok _ (Kd.R_reads' HT12.out).2.2 (Kd.R_reads' HT12.out).2.1 HIM.out).mono ?_); rintro e w13 ⟨vh, rfl, ho, hb⟩; have HH13 := Aside0.mk ho; have HG13 := Aside0.mk (Kd.S_below HG12.out hb); have HW13 := Aside0.mk (Kd.S_below HW12.out hb); have HB13 := Aside0.mk (below_step HB12.out hb); clear ho hb HG12 HW12 HB12 HT12; obtain ⟨Ah, ch, eh⟩ := Kd.S_slice HH13.out; subst eh) | (clear T13; go_at_call 15; (refine (laws_eqIntSS.calls K4 Ah ch R Aw cw R true _ (Kd.S_reads' HH13.out).2.2 (Kd.S_reads' HH13.out).2.1 (Kd.S_reads' HW13.out).2.2 (Kd.S_reads' HW13.out).2.1 HEQ.out).mono ?_); rintro e w14 ⟨rfl, ⟨nd, hw⟩⟩; have hb : Below w13.heap.size w13 w14 := (by rw [hw]; exact pw_below_drewN (Below.refl _ _) nd); have HG14 := Aside0.mk (Kd.S_below HG13.out hb); have HW14 := Aside0.mk (Kd.S_below HW13.out hb); have HB14 := Aside0.mk (below_step HB13.out hb); clear hb hw HG13 HW13 HB13) | (clear T14; go_at_call 29; (refine (held_at K7 Ag cg R 1 1 rfl _ _ HG14.out HHD.out).mono ?_); rintro e w15 ⟨rfl, ⟨nd, hw⟩⟩; have hb : Below w14.heap.size w14 w15 := (by rw [hw]; exact pw_below_drewN (Below.refl _ _) nd); have HG15 := Aside0.mk (Kd.S_below HG14.out hb); have HW15 := Aside0.mk (Kd.S_below HW14.out hb); have HB15 := Aside0.mk (below_step HB14.out hb); clear hb hw HG14 HW14 HB14))
    go_ret
    exact ⟨rfl, HB15.out⟩
  · have hd : decide (1048576 < (l0.length : Int)) = true := decide_eq_true (by omega)
    go_enter Try.func8, Try.ntmps8
    go_wp2
    go_ret
    exact ⟨rfl, Below.refl _ _⟩
end Go.Proofs.Ytmdpiagpkocheaa.P
end

/-! The law of FirstTurns answers true at all rows; no condition. -/
section
namespace Go.Proofs.Ytmdpiagpkocheaa.Pure
open Go.RowKit Go.Proofs.YtmdpiagpkocheaaW.PrintWords Go.Proofs.Ytmdpiagpkocheaa.P

theorem FnExactFirstTurns : laws_FnExactFirstTurns.Pure := fun _ _ => ⟨0, rfl⟩
end Go.Proofs.Ytmdpiagpkocheaa.Pure
end
