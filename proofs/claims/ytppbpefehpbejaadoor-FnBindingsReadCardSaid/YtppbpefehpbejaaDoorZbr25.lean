/- Lean functions with the answers of the program's Go functions, and for each the proof that the Go code comes to these answers; no condition. -/
import Derived.Test.YtppbpefehpbejaaDoorZbr24
import Derived.Test.YtppbpefehpbejaaDoorZbr21
import Derived.Test.YtppbpefehpbejaaDoorZbr22
import Derived.Test.YtppbpefehpbejaaDoorZbr23
import Derived.Laws.BitsLemmas
import Derived.OpenShut
section
namespace Go.Proofs.YtppbpefehpbejaaDoor.P
open Go.RowKit Go.Proofs.YtppbpefehpbejaaDoorW.PrintWords Go.Proofs.YtppbpefehpbejaaDoorW.PrintLast Go.Proofs.YtppbpefehpbejaaDoorW.PrintMore
attribute [local go_sem] max2_int min2_int max_two min_two max_three min_three max_four min_four   -- for this text's walks alone
set_option linter.unusedVariables false
set_option linter.unusedSimpArgs false

set_option maxHeartbeats 8000000 in
set_option maxRecDepth 100000 in
theorem laws_FnBindingsRead.calls (k : Nat) (A0 : Option Addr) (c0 : Nat) (l0 : List Int) (A1 : Option Addr) (c1 : Nat) (l1 : List Int) (r : Bool) (w : World) (hT : TabW w) (hr0 : Kd.C (Kd.int .u8) w A0 l0.length l0) (hc0 : l0.length ≤ c0) (hr1 : Kd.C (Kd.int .u8) w A1 l1.length l1) (hc1 : l1.length ≤ c1) (h : laws_FnBindingsRead.f k l0 l1 = some r) (hrT : r = true) :
  Calls Tryd.prog 4 #[.slice A0 l0.length c0, .slice A1 l1.length c1] w fun e w' => e = .returned (.bool r) ∧ Below w.heap.size w w' := by
 have HTAB := Az_ hT
 clear hT
 have HR0 := Az_ hr0
 have HC0 := Az_ hc0
 clear hr0 hc0
 have HR1 := Az_ hr1
 have HC1 := Az_ hc1
 clear hr1 hc1
 have HB := Az_ (Below.refl w.heap.size w)
 have H : ((laws_big.f l0 l1).bind fun t516 => (if t516 = true then (some true) else ((spec_DrawPagesRead.f k l0).bind fun t517 => ((impl_PagesRead.f k t517).bind fun bt520 => ((spec_PagesRead.f k t517).bind fun bt524 => ((impl_BindingText.f k t517).bind fun bt528 => ((spec_BindingText.f k t517).bind fun bt530 => ((impl_CountTurned.f k t517).bind fun bt532 => ((spec_CountTurned.f k t517).bind fun bt534 => (if (bt520.2 != bt524.2) = true then (j0 k l1 t517 bt520.1 bt520.2 bt528.1 bt532.1 true) else ((laws_fSame.f k bt520.1 bt524.1).bind fun t536 => (if t536 = true then (if (bt528.2 != bt530.2) = true then (j0 k l1 t517 bt520.1 bt520.2 bt528.1 bt532.1 true) else (if bt528.1.toList = bt530.1.toList then (if (bt532.2 != bt534.2) = true then (j0 k l1 t517 bt520.1 bt520.2 bt528.1 bt532.1 true) else (if bt532.1 = bt534.1 then (if (bt528.2 != bt520.2) = true then (j0 k l1 t517 bt520.1 bt520.2 bt528.1 bt532.1 true) else (j0 k l1 t517 bt520.1 bt520.2 bt528.1 bt532.1 (bt532.2 != bt520.2))) else (j0 k l1 t517 bt520.1 bt520.2 bt528.1 bt532.1 true))) else (j0 k l1 t517 bt520.1 bt520.2 bt528.1 bt532.1 true))) else (j0 k l1 t517 bt520.1 bt520.2 bt528.1 bt532.1 true))))))))))))) = some r := h
 clear h
 replace H := bqz_ H; obtain ⟨t516, A3, H⟩ := H
 replace H : (if t516 = true then (some true) else ((spec_DrawPagesRead.f k l0).bind fun t517 => ((impl_PagesRead.f k t517).bind fun bt520 => ((spec_PagesRead.f k t517).bind fun bt524 => ((impl_BindingText.f k t517).bind fun bt528 => ((spec_BindingText.f k t517).bind fun bt530 => ((impl_CountTurned.f k t517).bind fun bt532 => ((spec_CountTurned.f k t517).bind fun bt534 => (if (bt520.2 != bt524.2) = true then (j0 k l1 t517 bt520.1 bt520.2 bt528.1 bt532.1 true) else ((laws_fSame.f k bt520.1 bt524.1).bind fun t536 => (if t536 = true then (if (bt528.2 != bt530.2) = true then (j0 k l1 t517 bt520.1 bt520.2 bt528.1 bt532.1 true) else (if bt528.1.toList = bt530.1.toList then (if (bt532.2 != bt534.2) = true then (j0 k l1 t517 bt520.1 bt520.2 bt528.1 bt532.1 true) else (if bt532.1 = bt534.1 then (if (bt528.2 != bt520.2) = true then (j0 k l1 t517 bt520.1 bt520.2 bt528.1 bt532.1 true) else (j0 k l1 t517 bt520.1 bt520.2 bt528.1 bt532.1 (bt532.2 != bt520.2))) else (j0 k l1 t517 bt520.1 bt520.2 bt528.1 bt532.1 true))) else (j0 k l1 t517 bt520.1 bt520.2 bt528.1 bt532.1 true))) else (j0 k l1 t517 bt520.1 bt520.2 bt528.1 bt532.1 true)))))))))))) = some r := H
 by_cases c4 : t516 = true
 ·subst c4
  rw [if_pos rfl] at H
  obtain rfl := Option.some.inj H; clear hrT
  go_enter Tryd.func4, Tryd.ntmps4
  (try simp only [List.append_eq, List.append, List.cons_append, List.nil_append])
  go_wp2_with (first | (go_at_call 6; (with_reducible refine (laws_big.calls _ _ l0 _ _ l1 true _ ?side1 ?side2 ?side3 ?side4 A3.out).mono ?_); (case side1 => exact ucz_ (HR0.out)); (case side2 => exact HC0.out); (case side3 => exact ucz_ (HR1.out)); (case side4 => exact HC1.out); rintro e w' ⟨rfl, ⟨nd, rfl⟩⟩; (try first | exact ⟨rfl, _, World.drewN_drewN _ _ _⟩ | exact ⟨rfl, _, Eq.trans (World.drewN_drewN _ _ _) (congrArg (World.drewN _) (Nat.add_assoc _ _ _))⟩)))
  go_ret
  exact ⟨by first | rfl | (simp [errW_none, errW_some] <;> rfl) | (simp [*, errW_none, errW_some] <;> rfl), by exact ubz_ HB.out⟩
 ·replace c4 := Bool.eq_false_iff.mpr c4
  subst c4
  rw [if_neg nfz_] at H
  replace H := bqz_ H; obtain ⟨t517, A5, H⟩ := H
  replace H := bqz_ H; obtain ⟨⟨t520, t521⟩, A6, H⟩ := H
  replace H := bqz_ H; obtain ⟨⟨t524, t525⟩, A7, H⟩ := H
  replace H := bqz_ H; obtain ⟨⟨t528, t529⟩, A8, H⟩ := H
  replace H := bqz_ H; obtain ⟨⟨t530, t531⟩, A9, H⟩ := H
  replace H := bqz_ H; obtain ⟨⟨t532, t533⟩, A10, H⟩ := H
  replace H := bqz_ H; obtain ⟨⟨t534, t535⟩, A11, H⟩ := H
  replace H : (if (t521 != t525) = true then (j0 k l1 t517 t520 t521 t528 t532 true) else ((laws_fSame.f k t520 t524).bind fun t536 => (if t536 = true then (if (t529 != t531) = true then (j0 k l1 t517 t520 t521 t528 t532 true) else (if t528.toList = t530.toList then (if (t533 != t535) = true then (j0 k l1 t517 t520 t521 t528 t532 true) else (if t532 = t534 then (if (t529 != t521) = true then (j0 k l1 t517 t520 t521 t528 t532 true) else (j0 k l1 t517 t520 t521 t528 t532 (t533 != t521))) else (j0 k l1 t517 t520 t521 t528 t532 true))) else (j0 k l1 t517 t520 t521 t528 t532 true))) else (j0 k l1 t517 t520 t521 t528 t532 true)))) = some r := H
  have HC12 := Az_ H
  clear H
  go_enter Tryd.func4, Tryd.ntmps4
  (try simp only [List.append_eq, List.append, List.cons_append, List.nil_append])
  go_upto_region 10 with (first | (go_at_call 6; (with_reducible refine (laws_big.calls _ _ l0 _ _ l1 false _ ?side1 ?side2 ?side3 ?side4 A3.out).mono ?_); (case side1 => exact ucz_ (HR0.out)); (case side2 => exact HC0.out); (case side3 => exact ucz_ (HR1.out)); (case side4 => exact HC1.out); rintro e w' ⟨rfl, ⟨nd, rfl⟩⟩; (try first | exact ⟨rfl, _, World.drewN_drewN _ _ _⟩ | exact ⟨rfl, _, Eq.trans (World.drewN_drewN _ _ _) (congrArg (World.drewN _) (Nat.add_assoc _ _ _))⟩)) | (go_at_call 37; (with_reducible refine (spec_DrawPagesRead.calls k _ _ l0 t517 _ ?side1 ?side2 A5.out).mono ?_); (case side1 => exact ucz_ (HR0.out)); (case side2 => exact HC0.out); rintro e w13 ⟨v518, rfl, ho0, hb⟩; have HO519 := Az_ (Kd.V_lower (Kd.V_mono (ok' := fun k_ => True) ho0 (fun k_ hk_ => trivial)) (below_size (ubz_ HB.out))); replace HB := Az_ (btz_ (ubz_ HB.out) hb); (try clear hb); (try clear ho0); obtain ⟨Ao14, co14, eo14⟩ := Kd.V_slice HO519.out; subst eo14) | (go_at_call 38; (with_reducible refine (impl_PagesRead.calls k _ _ t517 t520 t521 _ ?side1 ?side2 A6.out).mono ?_); (case side1 => exact ucz_ ((Kd.V_reads' HO519.out).2.2)); (case side2 => exact (Kd.V_reads' HO519.out).2.1); rintro e w15 ⟨v522, rfl, ho0, hb⟩; replace HO519 := Az_ (Kd.V_elder' (by (with_reducible repeat (first | apply Kd.V_alloc | apply Kd.V_drewN | apply Kd.V_drew)); exact HO519.out) (Kd.R_base ho0) hb); have HO523 := Az_ (Kd.R_lower ho0 (below_size (ubz_ HB.out))); replace HB := Az_ (btz_ (ubz_ HB.out) hb); (try clear hb); (try clear ho0)) | (go_at_call 39; (with_reducible refine (spec_PagesRead.calls k _ _ t517 t524 t525 _ ?side1 ?side2 A7.out).mono ?_); (case side1 => exact ucz_ ((Kd.V_reads' HO519.out).2.2)); (case side2 => exact (Kd.V_reads' HO519.out).2.1); rintro e w16 ⟨v526, rfl, ho0, hb⟩; replace HO519 := Az_ (Kd.V_elder' (by (with_reducible repeat (first | apply Kd.V_alloc | apply Kd.V_drewN | apply Kd.V_drew)); exact HO519.out) (Kd.R_base ho0) hb); have HO527 := Az_ (Kd.R_lower (Kd.R_new' ho0 (Kd.R_lt (by exact urz_ HO523.out))) (below_size (ubz_ HB.out))); replace HO523 := Az_ (rez_ (by exact urz_ HO523.out) (Kd.R_base ho0) hb); replace HB := Az_ (btz_ (ubz_ HB.out) hb); (try clear hb); (try clear ho0)) | (go_at_call 40; (with_reducible refine (impl_BindingText.calls k _ _ t517 t528 t529 _ (tabW_below HTAB.out (ubz_ HB.out)) ?side1 ?side2 A8.out).mono ?_); (case side1 => exact ucz_ ((Kd.V_reads' HO519.out).2.2)); (case side2 => exact (Kd.V_reads' HO519.out).2.1); rintro e w17 ⟨rfl, hb⟩; replace HO519 := Az_ (Kd.V_below (by (with_reducible repeat (first | apply Kd.V_alloc | apply Kd.V_drewN | apply Kd.V_drew)); exact HO519.out) hb); replace HO523 := Az_ (Kd.R_below (by exact urz_ HO523.out) hb); replace HO527 := Az_ (Kd.R_below (by exact urz_ HO527.out) hb); replace HB := Az_ (btz_ (ubz_ HB.out) hb); (try clear hb)) | (go_at_call 41; (with_reducible refine (spec_BindingText.calls k _ _ t517 t530 t531 _ ?side1 ?side2 A9.out).mono ?_); (case side1 => exact ucz_ ((Kd.V_reads' HO519.out).2.2)); (case side2 => exact (Kd.V_reads' HO519.out).2.1); rintro e w18 ⟨rfl, hb⟩; replace HO519 := Az_ (Kd.V_below (by (with_reducible repeat (first | apply Kd.V_alloc | apply Kd.V_drewN | apply Kd.V_drew)); exact HO519.out) hb); replace HO523 := Az_ (Kd.R_below (by exact urz_ HO523.out) hb); replace HO527 := Az_ (Kd.R_below (by exact urz_ HO527.out) hb); replace HB := Az_ (btz_ (ubz_ HB.out) hb); (try clear hb)) | (go_at_call 42; (with_reducible refine (impl_CountTurned.calls k _ _ t517 t532 t533 _ ?side1 ?side2 A10.out).mono ?_); (case side1 => exact ucz_ ((Kd.V_reads' HO519.out).2.2)); (case side2 => exact (Kd.V_reads' HO519.out).2.1); rintro e w19 ⟨rfl, hb⟩; replace HO519 := Az_ (Kd.V_below (by (with_reducible repeat (first | apply Kd.V_alloc | apply Kd.V_drewN | apply Kd.V_drew)); exact HO519.out) hb); replace HO523 := Az_ (Kd.R_below (by exact urz_ HO523.out) hb); replace HO527 := Az_ (Kd.R_below (by exact urz_ HO527.out) hb); replace HB := Az_ (btz_ (ubz_ HB.out) hb); (try clear hb)) | (go_at_call 43; (with_reducible refine (spec_CountTurned.calls k _ _ t517 t534 t535 _ ?side1 ?side2 A11.out).mono ?_); (case side1 => exact ucz_ ((Kd.V_reads' HO519.out).2.2)); (case side2 => exact (Kd.V_reads' HO519.out).2.1); rintro e w' ⟨rfl, ⟨nd, rfl⟩⟩; (try first | exact ⟨rfl, _, World.drewN_drewN _ _ _⟩ | exact ⟨rfl, _, Eq.trans (World.drewN_drewN _ _ _) (congrArg (World.drewN _) (Nat.add_assoc _ _ _))⟩)))
  (try simp only [Act.put, List.setIfInBounds_toArray, List.set_cons_zero, List.set_cons_succ])
  go_cut [162] from 1 to 0 (fun v162 wc => ∃ (kq : Nat) (x162_11 : Bool), v162 = .bool x162_11 ∧ Aside0 (j0 kq l1 t517 t520 t521 t528 t532 x162_11 = some r) ∧ Aside0 (kq ≤ k) ∧ Aside0 (Kd.V (Kd.int .i64) 3 wc w.heap.size (fun k_ => some k_ ≠ (v522 : Value).ownBlock) (.slice Ao14 t517.length co14) t517) ∧ Aside0 (Kd.R (Kd.int .i64) 3 wc w.heap.size (fun _ => True) v522 t520) ∧ Aside0 (Below w.heap.size w wc))
  case first => as_aux_lemma =>
   have H := HC12.out
   clear HC12
   by_cases c20 : (t521 != t525) = true
   ·rw [if_pos c20] at H
    exact (laws_FnBindingsRead.j0_no _ _ _ _ _ _ _ _ hrT H).elim
   ·rw [if_neg c20] at H
    obtain rfl : t521 = t525 := by simpa using c20
    clear c20
    replace H := bqz_ H; obtain ⟨t536, A21, H⟩ := H
    replace H : (if t536 = true then (if (t529 != t531) = true then (j0 k l1 t517 t520 t521 t528 t532 true) else (if t528.toList = t530.toList then (if (t533 != t535) = true then (j0 k l1 t517 t520 t521 t528 t532 true) else (if t532 = t534 then (if (t529 != t521) = true then (j0 k l1 t517 t520 t521 t528 t532 true) else (j0 k l1 t517 t520 t521 t528 t532 (t533 != t521))) else (j0 k l1 t517 t520 t521 t528 t532 true))) else (j0 k l1 t517 t520 t521 t528 t532 true))) else (j0 k l1 t517 t520 t521 t528 t532 true)) = some r := H
    by_cases c22 : t536 = true
    ·subst c22
     rw [if_pos rfl] at H
     by_cases c23 : (t529 != t531) = true
     ·rw [if_pos c23] at H
      exact (laws_FnBindingsRead.j0_no _ _ _ _ _ _ _ _ hrT H).elim
     ·rw [if_neg c23] at H
      obtain rfl : t529 = t531 := by simpa using c23
      clear c23
      by_cases c26 : t528.toList = t530.toList
      ·rw [if_pos c26] at H
       have c26b0 : (t528.toList == t530.toList) = true := beq_iff_eq.mpr c26
       have c26b1 : (t528.toList != t530.toList) = false := bne_eq_false_iff_eq.mpr c26
       clear c26
       by_cases c27 : (t533 != t535) = true
       ·rw [if_pos c27] at H
        exact (laws_FnBindingsRead.j0_no _ _ _ _ _ _ _ _ hrT H).elim
       ·rw [if_neg c27] at H
        obtain rfl : t533 = t535 := by simpa using c27
        clear c27
        by_cases c30 : t532 = t534
        ·rw [if_pos c30] at H
         subst c30
         by_cases c31 : (t529 != t521) = true
         ·rw [if_pos c31] at H
          exact (laws_FnBindingsRead.j0_no _ _ _ _ _ _ _ _ hrT H).elim
         ·rw [if_neg c31] at H
          obtain rfl : t529 = t521 := by simpa using c31
          clear c31
          have H' := Az_ H
          clear H
          obtain ⟨Ao34, co34, eo34⟩ := Kd.R_slice HO523.out
          subst eo34
          obtain ⟨Ao35, co35, eo35⟩ := Kd.R_slice HO527.out
          subst eo35
          go_wp2_with (first | (go_at_call 44; (with_reducible refine (laws_fSame.calls k _ _ t520 _ _ t524 true _ ?side1 ?side2 ?side3 ?side4 A21.out).mono ?_); (case side1 => exact ucz_ ((Kd.R_reads' HO523.out).2.2)); (case side2 => exact (Kd.R_reads' HO523.out).2.1); (case side3 => exact ucz_ ((Kd.R_reads' HO527.out).2.2)); (case side4 => exact (Kd.R_reads' HO527.out).2.1); rintro e w' ⟨rfl, ⟨nd, rfl⟩⟩; (try first | exact ⟨rfl, _, World.drewN_drewN _ _ _⟩ | exact ⟨rfl, _, Eq.trans (World.drewN_drewN _ _ _) (congrArg (World.drewN _) (Nat.add_assoc _ _ _))⟩)))
          go_meet
          case rel => exact ⟨_, ((t533 != t529)), qaz_, H', ⟨by first | omega | exact Nat.le_refl _⟩, ⟨by (with_reducible repeat (first | apply Kd.V_alloc | apply Kd.V_drewN | apply Kd.V_drew)); exact Kd.V_mono HO519.out (fun _ hk => hk.1.2)⟩, ⟨by (with_reducible repeat (first | apply raz_ | apply rnz_ | apply rdz_)); exact Kd.R_mono HO523.out (fun _ hk => trivial)⟩, ⟨by exact ubz_ HB.out⟩⟩
        ·rw [if_neg c30] at H
         exact (laws_FnBindingsRead.j0_no _ _ _ _ _ _ _ _ hrT H).elim
      ·rw [if_neg c26] at H
       exact (laws_FnBindingsRead.j0_no _ _ _ _ _ _ _ _ hrT H).elim
    ·replace c22 := Bool.eq_false_iff.mpr c22
     subst c22
     have H1 : (j0 k l1 t517 t520 t521 t528 t532 true) = some r := by rw [if_neg (show ¬ (false = true) by decide)] at H; exact H
     clear H
     have H := H1
     exact (laws_FnBindingsRead.j0_no _ _ _ _ _ _ _ _ hrT H).elim
  case rest => as_aux_lemma =>
   clear HC12
   obtain ⟨kq, x162_11, rfl, HA, HJ11, HO_5, HO_6, HB⟩ := hcut
   cases kq with
   | zero => exact absurd HA.out (by simp [j0])
   | succ kj11 =>
    have H := HA.out
    clear HA
    simp only [j0] at H
    by_cases c42 : x162_11 = true
    ·subst c42
     rw [if_pos rfl] at H
     exact absurd ((Option.some.inj H).trans hrT) (by decide)
    ·replace c42 := Bool.eq_false_iff.mpr c42
     subst c42
     rw [if_neg nfz_] at H
     have HC43 := Az_ H
     clear H
     go_upto_if 163 with (fail)
     go_cut [] from 1 to 0 (fun wc => ∃ (kq : Nat), Aside0 (j6 kq l1 = some r) ∧ Aside0 (kq ≤ kj11) ∧ Aside0 (Below w.heap.size w wc))
     case first => as_aux_lemma =>
      have H := HC43.out
      clear HC43
      by_cases c44 : t521 = true
      ·subst c44
       rw [if_pos rfl] at H
       replace H := bqz_ H; obtain ⟨⟨t537, t538⟩, A45, H⟩ := H
       replace H : (if (t520.length : Int) = (wrap64 (2 * (t517.length : Int))) then (if t538 = true then ((laws_fSame.f kj11 t537 t517).bind fun t541 => (j1 kj11 l1 t517 t520 t532 0 (!t541))) else (j1 kj11 l1 t517 t520 t532 0 true)) else (j1 kj11 l1 t517 t520 t532 0 true)) = some r := H
       have HC46 := Az_ H
       clear H
       go_upto_region 15 with (first | (go_at_call 45; (with_reducible refine (impl_ParseBinding.calls kj11 t528 t537 t538 _ (tabW_below HTAB.out (ubz_ HB.out)) A45.out).mono ?_); rintro e w47 ⟨v539, rfl, ho0, hb⟩; replace HO_5 := Az_ (Kd.V_elder' (by (with_reducible repeat (first | apply Kd.V_alloc | apply Kd.V_drewN | apply Kd.V_drew)); exact HO_5.out) (Kd.R_base ho0) hb); have HO540 := Az_ (Kd.R_lower (Kd.R_new' ho0 (Kd.R_lt (by exact urz_ HO_6.out))) (below_size (ubz_ HB.out))); replace HO_6 := Az_ (rez_ (by exact urz_ HO_6.out) (Kd.R_base ho0) hb); replace HB := Az_ (btz_ (ubz_ HB.out) hb); (try clear hb); (try clear ho0)))
       (try simp only [Act.put, List.setIfInBounds_toArray, List.set_cons_zero, List.set_cons_succ])
       go_cut [184] from 1 to 0 (fun v184 wc => ∃ (kq : Nat) (x184_45 : Bool), v184 = .bool x184_45 ∧ Aside0 (j1 kq l1 t517 t520 t532 0 x184_45 = some r) ∧ Aside0 (kq ≤ kj11) ∧ Aside0 (Kd.V (Kd.int .i64) 3 wc w.heap.size (fun k_ => some k_ ≠ (v522 : Value).ownBlock) (.slice Ao14 t517.length co14) t517) ∧ Aside0 (Kd.R (Kd.int .i64) 3 wc w.heap.size (fun _ => True) v522 t520) ∧ Aside0 (Below w.heap.size w wc))
       case first => as_aux_lemma =>
        have H := HC46.out
        clear HC46
        by_cases c48 : (t520.length : Int) = (wrap64 (2 * (t517.length : Int)))
        ·rw [if_pos c48] at H
         have c48b0 : ((t520.length : Int) == (wrap64 (2 * (t517.length : Int)))) = true := beq_iff_eq.mpr c48
         have c48b1 : ((t520.length : Int) != (wrap64 (2 * (t517.length : Int)))) = false := bne_eq_false_iff_eq.mpr c48
         clear c48
         (first | rw [c48b0] | (simp only [i64_w, i32_w]; rw [c48b0]) | skip)
         by_cases c49 : t538 = true
         ·subst c49
          rw [if_pos rfl] at H
          replace H := bqz_ H; obtain ⟨t541, A50, H⟩ := H
          replace H : (j1 kj11 l1 t517 t520 t532 0 (!t541)) = some r := H
          have H' := Az_ H
          clear H
          obtain ⟨Ao51, co51, eo51⟩ := Kd.R_slice HO_6.out
          subst eo51
          obtain ⟨Ao52, co52, eo52⟩ := Kd.R_slice HO540.out
          subst eo52
          go_wp2_with (first | (go_at_call 44; (with_reducible refine (laws_fSame.calls kj11 _ _ t537 _ _ t517 t541 _ ?side1 ?side2 ?side3 ?side4 A50.out).mono ?_); (case side1 => exact ucz_ ((Kd.R_reads' HO540.out).2.2)); (case side2 => exact (Kd.R_reads' HO540.out).2.1); (case side3 => exact ucz_ ((Kd.V_reads' HO_5.out).2.2)); (case side4 => exact (Kd.V_reads' HO_5.out).2.1); rintro e w' ⟨rfl, ⟨nd, rfl⟩⟩; (try first | exact ⟨rfl, _, World.drewN_drewN _ _ _⟩ | exact ⟨rfl, _, Eq.trans (World.drewN_drewN _ _ _) (congrArg (World.drewN _) (Nat.add_assoc _ _ _))⟩)))
          go_meet
          case rel => exact ⟨_, (!t541), qaz_, H', ⟨by have := HJ11.out; first | omega | exact Nat.le_refl _⟩, ⟨by (with_reducible repeat (first | apply Kd.V_alloc | apply Kd.V_drewN | apply Kd.V_drew)); exact Kd.V_mono HO_5.out (fun _ hk => hk.1)⟩, ⟨by (with_reducible repeat (first | apply raz_ | apply rnz_ | apply rdz_)); exact Kd.R_mono HO_6.out (fun _ hk => trivial)⟩, ⟨by exact ubz_ HB.out⟩⟩
         ·replace c49 := Bool.eq_false_iff.mpr c49
          subst c49
          have H1 : (j1 kj11 l1 t517 t520 t532 0 true) = some r := by rw [if_neg (show ¬ (false = true) by decide)] at H; exact H
          clear H
          have H := H1
          exact (laws_FnBindingsRead.j1_no _ _ _ _ _ _ _ hrT H).elim
        ·rw [if_neg c48] at H
         exact (laws_FnBindingsRead.j1_no _ _ _ _ _ _ _ hrT H).elim
       case rest => as_aux_lemma =>
        clear HC46
        obtain ⟨kq, x184_45, rfl, HA, HJ45, HO_5, HO_6, HB⟩ := hcut
        cases kq with
        | zero => exact absurd HA.out (by simp [j1])
        | succ kj45 =>
         have H := HA.out
         clear HA
         simp only [j1] at H
         by_cases c55 : x184_45 = true
         ·subst c55
          rw [if_pos rfl] at H
          exact absurd ((Option.some.inj H).trans hrT) (by decide)
         ·replace c55 := Bool.eq_false_iff.mpr c55
          subst c55
          rw [if_neg nfz_] at H
          have H' := Az_ H
          clear H
          go_wp2
          go_loopg [20, 187] kj45 (fun kq v20 v187 w' => ∃ (x20_3 : Int) (x187_3 : Int), v20 = .int .i64 x20_3 ∧ v187 = .int .i64 x187_3 ∧ Aside0 (laws_FnBindingsRead.l0 kq l1 t517 t520 t532 x20_3 t517 (t517.length : Int) x187_3 = some r) ∧ Aside0 (kq ≤ kj45) ∧ Aside0 (Kd.V (Kd.int .i64) 3 w' w.heap.size (fun k_ => some k_ ≠ (v522 : Value).ownBlock) (.slice Ao14 t517.length co14) t517) ∧ Aside0 (Kd.R (Kd.int .i64) 3 w' w.heap.size (fun _ => True) v522 t520) ∧ Aside0 (Kd.V (Kd.int .i64) 3 w' w.heap.size (fun k_ => some k_ ≠ (v522 : Value).ownBlock) (.slice Ao14 t517.length co14) t517) ∧ Aside0 (Below w.heap.size w w'))
          case atStart => exact ⟨(0), (0), qaz_, qaz_, H', ⟨Nat.le_refl _⟩, ⟨by (with_reducible repeat (first | apply Kd.V_alloc | apply Kd.V_drewN | apply Kd.V_drew)); exact HO_5.out⟩, ⟨by (with_reducible repeat (first | apply raz_ | apply rnz_ | apply rdz_)); exact HO_6.out⟩, ⟨by (with_reducible repeat (first | apply Kd.V_alloc | apply Kd.V_drewN | apply Kd.V_drew)); exact HO_5.out⟩, ⟨by exact ubz_ HB.out⟩⟩
          case round =>
           clear H'
           obtain ⟨x20_3, x187_3, rfl, rfl, HA, HK3, HO_5, HO_6, HO_185, HB⟩ := hrel
           cases gk with
           | zero => exact absurd HA.out (by simp [laws_FnBindingsRead.l0])
           | succ k3 =>
            have H := HA.out
            clear HA
            simp only [laws_FnBindingsRead.l0] at H
            by_cases c56 : x187_3 < (t517.length : Int)
            ·rw [if_pos c56] at H
             have c56b0 := decide_eq_true c56
             clear c56
             by_cases c57 : 0 ≤ x187_3
             ·rw [if_pos c57] at H
              have c57b0 := decide_eq_true c57
              clear c57
              by_cases c58 : x187_3 < (t517.length : Int)
              ·rw [if_pos c58] at H
               have c58b0 := decide_eq_true c58
               clear c58
               obtain ⟨ji59, hji59⟩ : ∃ j_ : Int, (wrap64 (2 * x187_3)) = j_ := ⟨_, rfl⟩
               replace H : (if 0 ≤ (ji59) then (if (ji59) < (t520.length : Int) then (if 0 ≤ (wrap64 ((ji59) + 1)) then (if (wrap64 ((ji59) + 1)) < (t520.length : Int) then (if (rd t517 x187_3) > 0 then (if (rd t520 (ji59)) = (wrap64 ((wrap64 (2 * (rd t517 x187_3))) - 1)) then (if (rd t520 (wrap64 ((ji59) + 1))) = (wrap64 (2 * (rd t517 x187_3))) then (if (rd t517 x187_3) < 0 then (if (rd t520 (ji59)) = (wrap64 ((-2) * (rd t517 x187_3))) then (j3 k3 l1 t517 t520 t532 x20_3 x187_3 (rd t517 x187_3) (rd t520 (wrap64 ((ji59) + 1))) t517 (t517.length : Int) x187_3 ((rd t520 (wrap64 ((ji59) + 1))) != (wrap64 ((wrap64 ((-2) * (rd t517 x187_3))) - 1)))) else (j3 k3 l1 t517 t520 t532 x20_3 x187_3 (rd t517 x187_3) (rd t520 (wrap64 ((ji59) + 1))) t517 (t517.length : Int) x187_3 true)) else (j3 k3 l1 t517 t520 t532 x20_3 x187_3 (rd t517 x187_3) (rd t520 (wrap64 ((ji59) + 1))) t517 (t517.length : Int) x187_3 false)) else (j3 k3 l1 t517 t520 t532 x20_3 x187_3 (rd t517 x187_3) (rd t520 (wrap64 ((ji59) + 1))) t517 (t517.length : Int) x187_3 true)) else (j3 k3 l1 t517 t520 t532 x20_3 x187_3 (rd t517 x187_3) (rd t520 (wrap64 ((ji59) + 1))) t517 (t517.length : Int) x187_3 true)) else (if (rd t517 x187_3) < 0 then (if (rd t520 (ji59)) = (wrap64 ((-2) * (rd t517 x187_3))) then (j3 k3 l1 t517 t520 t532 x20_3 x187_3 (rd t517 x187_3) (rd t520 (wrap64 ((ji59) + 1))) t517 (t517.length : Int) x187_3 ((rd t520 (wrap64 ((ji59) + 1))) != (wrap64 ((wrap64 ((-2) * (rd t517 x187_3))) - 1)))) else (j3 k3 l1 t517 t520 t532 x20_3 x187_3 (rd t517 x187_3) (rd t520 (wrap64 ((ji59) + 1))) t517 (t517.length : Int) x187_3 true)) else (j3 k3 l1 t517 t520 t532 x20_3 x187_3 (rd t517 x187_3) (rd t520 (wrap64 ((ji59) + 1))) t517 (t517.length : Int) x187_3 false))) else (none)) else (none)) else (none)) else (none)) = some r := by first | (rw [hji59] at H; exact H) | (simp only [hji59] at H ⊢; exact H)
               have hji59w : (IntKind.i64.wrap (2 * x187_3)) = ji59 := (i64_w _).trans hji59
               by_cases c60 : 0 ≤ (ji59)
               ·rw [if_pos c60] at H
                have c60b0 := decide_eq_true c60
                clear c60
                by_cases c61 : (ji59) < (t520.length : Int)
                ·rw [if_pos c61] at H
                 have c61b0 := decide_eq_true c61
                 clear c61
                 obtain ⟨ji62, hji62⟩ : ∃ j_ : Int, (wrap64 ((ji59) + 1)) = j_ := ⟨_, rfl⟩
                 replace H : (if 0 ≤ (ji62) then (if (ji62) < (t520.length : Int) then (if (rd t517 x187_3) > 0 then (if (rd t520 (ji59)) = (wrap64 ((wrap64 (2 * (rd t517 x187_3))) - 1)) then (if (rd t520 (ji62)) = (wrap64 (2 * (rd t517 x187_3))) then (if (rd t517 x187_3) < 0 then (if (rd t520 (ji59)) = (wrap64 ((-2) * (rd t517 x187_3))) then (j3 k3 l1 t517 t520 t532 x20_3 x187_3 (rd t517 x187_3) (rd t520 (ji62)) t517 (t517.length : Int) x187_3 ((rd t520 (ji62)) != (wrap64 ((wrap64 ((-2) * (rd t517 x187_3))) - 1)))) else (j3 k3 l1 t517 t520 t532 x20_3 x187_3 (rd t517 x187_3) (rd t520 (ji62)) t517 (t517.length : Int) x187_3 true)) else (j3 k3 l1 t517 t520 t532 x20_3 x187_3 (rd t517 x187_3) (rd t520 (ji62)) t517 (t517.length : Int) x187_3 false)) else (j3 k3 l1 t517 t520 t532 x20_3 x187_3 (rd t517 x187_3) (rd t520 (ji62)) t517 (t517.length : Int) x187_3 true)) else (j3 k3 l1 t517 t520 t532 x20_3 x187_3 (rd t517 x187_3) (rd t520 (ji62)) t517 (t517.length : Int) x187_3 true)) else (if (rd t517 x187_3) < 0 then (if (rd t520 (ji59)) = (wrap64 ((-2) * (rd t517 x187_3))) then (j3 k3 l1 t517 t520 t532 x20_3 x187_3 (rd t517 x187_3) (rd t520 (ji62)) t517 (t517.length : Int) x187_3 ((rd t520 (ji62)) != (wrap64 ((wrap64 ((-2) * (rd t517 x187_3))) - 1)))) else (j3 k3 l1 t517 t520 t532 x20_3 x187_3 (rd t517 x187_3) (rd t520 (ji62)) t517 (t517.length : Int) x187_3 true)) else (j3 k3 l1 t517 t520 t532 x20_3 x187_3 (rd t517 x187_3) (rd t520 (ji62)) t517 (t517.length : Int) x187_3 false))) else (none)) else (none)) = some r := by first | (rw [hji62] at H; exact H) | (simp only [hji62] at H ⊢; exact H)
                 have hji62w : (IntKind.i64.wrap ((ji59) + 1)) = ji62 := (i64_w _).trans hji62
                 by_cases c63 : 0 ≤ (ji62)
                 ·rw [if_pos c63] at H
                  have c63b0 := decide_eq_true c63
                  clear c63
                  by_cases c64 : (ji62) < (t520.length : Int)
                  ·rw [if_pos c64] at H
                   have c64b0 := decide_eq_true c64
                   clear c64
                   have HC65 := Az_ H
                   clear H
                   have p542 : 0 ≤ (x187_3 : Int) := of_decide_eq_true asz_
                   have q542 : x187_3 < (t517.length : Int) := of_decide_eq_true asz_
                   obtain ⟨ad542, e542, hx542_0⟩ := Kd.at_int (Kd.V_reads' HO_185.out).2.2 x187_3 p542 q542
                   cases e542
                   replace p542 := eq_true p542
                   replace q542 := eq_true q542
                   obtain ⟨Ao66, co66, eo66⟩ := Kd.R_slice HO_6.out
                   subst eo66
                   have p543 : 0 ≤ ((ji59) : Int) := of_decide_eq_true asz_
                   have q543 : (ji59) < (t520.length : Int) := of_decide_eq_true asz_
                   obtain ⟨ad543, e543, hx543_0⟩ := Kd.at_int (Kd.R_reads' HO_6.out).2.2 (ji59) p543 q543
                   cases e543
                   replace p543 := eq_true p543
                   replace q543 := eq_true q543
                   have p544 : 0 ≤ ((ji62) : Int) := of_decide_eq_true asz_
                   have q544 : (ji62) < (t520.length : Int) := of_decide_eq_true asz_
                   obtain ⟨ad544, e544, hx544_0⟩ := Kd.at_int (Kd.R_reads' HO_6.out).2.2 (ji62) p544 q544
                   obtain rfl : ad543 = ad544 := (by injection e544)
                   replace p544 := eq_true p544
                   replace q544 := eq_true q544
                   go_upto_region 21 with (fail)
                   repeat (go_quiet (fail); go_upto_region 21 with (fail))
                   go_cut [234] (fun v234 wc => ∃ (kq : Nat) (x234_64 : Bool), v234 = .bool x234_64 ∧ Aside0 (j3 kq l1 t517 t520 t532 x20_3 x187_3 (rd t517 x187_3) (rd t520 (ji62)) t517 (t517.length : Int) x187_3 x234_64 = some r) ∧ Aside0 (kq ≤ k3) ∧ Aside0 (Kd.V (Kd.int .i64) 3 wc w.heap.size (fun k_ => some k_ ≠ ((.slice (some ad543) t520.length co66) : Value).ownBlock) (.slice (some ad542) t517.length co14) t517) ∧ Aside0 (Kd.R (Kd.int .i64) 3 wc w.heap.size (fun _ => True) (.slice (some ad543) t520.length co66) t520) ∧ Aside0 (Kd.V (Kd.int .i64) 3 wc w.heap.size (fun k_ => some k_ ≠ ((.slice (some ad543) t520.length co66) : Value).ownBlock) (.slice (some ad542) t517.length co14) t517) ∧ Aside0 (Below w.heap.size w wc))
                   case first =>
                    have H := HC65.out
                    clear HC65
                    by_cases c67 : (rd t517 x187_3) > 0
                    ·rw [if_pos c67] at H
                     have c67b0 := decide_eq_true c67
                     clear c67
                     (first | rw [c67b0] | (simp only [i64_w, i32_w]; rw [c67b0]) | skip)
                     by_cases c68 : (rd t520 (ji59)) = (wrap64 ((wrap64 (2 * (rd t517 x187_3))) - 1))
                     ·rw [if_pos c68] at H
                      have c68b0 : ((rd t520 (ji59)) == (wrap64 ((wrap64 (2 * (rd t517 x187_3))) - 1))) = true := beq_iff_eq.mpr c68
                      have c68b1 : ((rd t520 (ji59)) != (wrap64 ((wrap64 (2 * (rd t517 x187_3))) - 1))) = false := bne_eq_false_iff_eq.mpr c68
                      clear c68
                      by_cases c69 : (rd t520 (ji62)) = (wrap64 (2 * (rd t517 x187_3)))
                      ·rw [if_pos c69] at H
                       have c69b0 : ((rd t520 (ji62)) == (wrap64 (2 * (rd t517 x187_3)))) = true := beq_iff_eq.mpr c69
                       have c69b1 : ((rd t520 (ji62)) != (wrap64 (2 * (rd t517 x187_3)))) = false := bne_eq_false_iff_eq.mpr c69
                       clear c69
                       by_cases c70 : (rd t517 x187_3) < 0
                       ·rw [if_pos c70] at H
                        have c70b0 := decide_eq_true c70
                        clear c70
                        by_cases c71 : (rd t520 (ji59)) = (wrap64 ((-2) * (rd t517 x187_3)))
                        ·rw [if_pos c71] at H
                         have c71b0 : ((rd t520 (ji59)) == (wrap64 ((-2) * (rd t517 x187_3)))) = true := beq_iff_eq.mpr c71
                         have c71b1 : ((rd t520 (ji59)) != (wrap64 ((-2) * (rd t517 x187_3)))) = false := bne_eq_false_iff_eq.mpr c71
                         clear c71
                         have H' := Az_ H
                         clear H
                         go_wp2
                         go_meet
                         case rel => exact ⟨_, (((rd t520 (ji62)) != (wrap64 ((wrap64 ((-2) * (rd t517 x187_3))) - 1)))), (by first | rfl | (simp; done) | (simp only [← hji62] <;> (first | rfl | simp)) | (simp [*]; done)), H', ⟨by have := HJ11.out; have := HJ45.out; have := HK3.out; first | omega | exact Nat.le_refl _⟩, ⟨by (with_reducible repeat (first | apply Kd.V_alloc | apply Kd.V_drewN | apply Kd.V_drew)); exact HO_5.out⟩, ⟨by (with_reducible repeat (first | apply raz_ | apply rnz_ | apply rdz_)); exact HO_6.out⟩, ⟨by (with_reducible repeat (first | apply Kd.V_alloc | apply Kd.V_drewN | apply Kd.V_drew)); exact HO_185.out⟩, ⟨by exact ubz_ HB.out⟩⟩
                        ·rw [if_neg c71] at H
                         exact (laws_FnBindingsRead.j3_no _ _ _ _ _ _ _ _ _ _ _ _ _ hrT H).elim
                       ·rw [if_neg c70] at H
                        have c70b0 := decide_eq_false c70
                        clear c70
                        have H' := Az_ H
                        clear H
                        go_wp2
                        go_meet
                        case rel => exact ⟨_, (false), qaz_, H', ⟨by have := HJ11.out; have := HJ45.out; have := HK3.out; first | omega | exact Nat.le_refl _⟩, ⟨by (with_reducible repeat (first | apply Kd.V_alloc | apply Kd.V_drewN | apply Kd.V_drew)); exact HO_5.out⟩, ⟨by (with_reducible repeat (first | apply raz_ | apply rnz_ | apply rdz_)); exact HO_6.out⟩, ⟨by (with_reducible repeat (first | apply Kd.V_alloc | apply Kd.V_drewN | apply Kd.V_drew)); exact HO_185.out⟩, ⟨by exact ubz_ HB.out⟩⟩
                      ·rw [if_neg c69] at H
                       exact (laws_FnBindingsRead.j3_no _ _ _ _ _ _ _ _ _ _ _ _ _ hrT H).elim
                     ·rw [if_neg c68] at H
                      exact (laws_FnBindingsRead.j3_no _ _ _ _ _ _ _ _ _ _ _ _ _ hrT H).elim
                    ·rw [if_neg c67] at H
                     have c67b0 := decide_eq_false c67
                     clear c67
                     (first | rw [c67b0] | (simp only [i64_w, i32_w]; rw [c67b0]) | skip)
                     by_cases c72 : (rd t517 x187_3) < 0
                     ·rw [if_pos c72] at H
                      have c72b0 := decide_eq_true c72
                      clear c72
                      by_cases c73 : (rd t520 (ji59)) = (wrap64 ((-2) * (rd t517 x187_3)))
                      ·rw [if_pos c73] at H
                       have c73b0 : ((rd t520 (ji59)) == (wrap64 ((-2) * (rd t517 x187_3)))) = true := beq_iff_eq.mpr c73
                       have c73b1 : ((rd t520 (ji59)) != (wrap64 ((-2) * (rd t517 x187_3)))) = false := bne_eq_false_iff_eq.mpr c73
                       clear c73
                       have H' := Az_ H
                       clear H
                       go_wp2
                       go_meet
                       case rel => exact ⟨_, (((rd t520 (ji62)) != (wrap64 ((wrap64 ((-2) * (rd t517 x187_3))) - 1)))), (by first | rfl | (simp; done) | (simp only [← hji62] <;> (first | rfl | simp)) | (simp [*]; done)), H', ⟨by have := HJ11.out; have := HJ45.out; have := HK3.out; first | omega | exact Nat.le_refl _⟩, ⟨by (with_reducible repeat (first | apply Kd.V_alloc | apply Kd.V_drewN | apply Kd.V_drew)); exact HO_5.out⟩, ⟨by (with_reducible repeat (first | apply raz_ | apply rnz_ | apply rdz_)); exact HO_6.out⟩, ⟨by (with_reducible repeat (first | apply Kd.V_alloc | apply Kd.V_drewN | apply Kd.V_drew)); exact HO_185.out⟩, ⟨by exact ubz_ HB.out⟩⟩
                      ·rw [if_neg c73] at H
                       exact (laws_FnBindingsRead.j3_no _ _ _ _ _ _ _ _ _ _ _ _ _ hrT H).elim
                     ·rw [if_neg c72] at H
                      have c72b0 := decide_eq_false c72
                      clear c72
                      have H' := Az_ H
                      clear H
                      go_wp2
                      go_meet
                      case rel => exact ⟨_, (false), qaz_, H', ⟨by have := HJ11.out; have := HJ45.out; have := HK3.out; first | omega | exact Nat.le_refl _⟩, ⟨by (with_reducible repeat (first | apply Kd.V_alloc | apply Kd.V_drewN | apply Kd.V_drew)); exact HO_5.out⟩, ⟨by (with_reducible repeat (first | apply raz_ | apply rnz_ | apply rdz_)); exact HO_6.out⟩, ⟨by (with_reducible repeat (first | apply Kd.V_alloc | apply Kd.V_drewN | apply Kd.V_drew)); exact HO_185.out⟩, ⟨by exact ubz_ HB.out⟩⟩
                   case rest =>
                    clear HC65
                    clear c56b0 c57b0 c58b0 c60b0 c61b0 c63b0 c64b0 hx542_0 hx543_0 hx544_0 p542 p543 p544 q542 q543 q544
                    obtain ⟨kq, x234_64, rfl, HA, HJ64, HO_5, HO_6, HO_185, HB⟩ := hcut
                    cases kq with
                    | zero => exact absurd HA.out (by simp [j3])
                    | succ kj64 =>
                     have H := HA.out
                     clear HA
                     simp only [j3] at H
                     by_cases c74 : x234_64 = true
                     ·subst c74
                      rw [if_pos rfl] at H
                      exact absurd ((Option.some.inj H).trans hrT) (by decide)
                     ·replace c74 := Bool.eq_false_iff.mpr c74
                      subst c74
                      rw [if_neg nfz_] at H
                      have HC75 := Az_ H
                      clear H
                      go_upto_if 236 with (fail)
                      go_cut [20] (fun v20 wc => ∃ (kq : Nat) (x20_74 : Int), v20 = .int .i64 x20_74 ∧ Aside0 (j4 kq l1 t517 t520 t532 x20_74 x187_3 (rd t517 x187_3) (rd t520 (ji62)) t517 (t517.length : Int) x187_3 = some r) ∧ Aside0 (kq ≤ kj64) ∧ Aside0 (Kd.V (Kd.int .i64) 3 wc w.heap.size (fun k_ => some k_ ≠ ((.slice (some ad543) t520.length co66) : Value).ownBlock) (.slice (some ad542) t517.length co14) t517) ∧ Aside0 (Kd.R (Kd.int .i64) 3 wc w.heap.size (fun _ => True) (.slice (some ad543) t520.length co66) t520) ∧ Aside0 (Kd.V (Kd.int .i64) 3 wc w.heap.size (fun k_ => some k_ ≠ ((.slice (some ad543) t520.length co66) : Value).ownBlock) (.slice (some ad542) t517.length co14) t517) ∧ Aside0 (Below w.heap.size w wc))
                      case first =>
                       have H := HC75.out
                       clear HC75
                       by_cases c76 : (rd t517 x187_3) < 0
                       ·rw [if_pos c76] at H
                        have c76b0 := decide_eq_true c76
                        clear c76
                        (first | rw [c76b0] | (simp only [i64_w, i32_w]; rw [c76b0]) | skip)
                        have H' := Az_ H
                        clear H
                        go_wp2
                        go_meet
                        case rel => exact ⟨_, (wrap64 (x20_3 + 1)), qaz_, H', ⟨by have := HJ11.out; have := HJ45.out; have := HK3.out; have := HJ64.out; first | omega | exact Nat.le_refl _⟩, ⟨by (with_reducible repeat (first | apply Kd.V_alloc | apply Kd.V_drewN | apply Kd.V_drew)); exact HO_5.out⟩, ⟨by (with_reducible repeat (first | apply raz_ | apply rnz_ | apply rdz_)); exact HO_6.out⟩, ⟨by (with_reducible repeat (first | apply Kd.V_alloc | apply Kd.V_drewN | apply Kd.V_drew)); exact HO_185.out⟩, ⟨by exact ubz_ HB.out⟩⟩
                       ·rw [if_neg c76] at H
                        have c76b0 := decide_eq_false c76
                        clear c76
                        (first | rw [c76b0] | (simp only [i64_w, i32_w]; rw [c76b0]) | skip)
                        have H' := Az_ H
                        clear H
                        go_wp2
                        go_meet
                        case rel => exact ⟨_, (x20_3), qaz_, H', ⟨by have := HJ11.out; have := HJ45.out; have := HK3.out; have := HJ64.out; first | omega | exact Nat.le_refl _⟩, ⟨by (with_reducible repeat (first | apply Kd.V_alloc | apply Kd.V_drewN | apply Kd.V_drew)); exact HO_5.out⟩, ⟨by (with_reducible repeat (first | apply raz_ | apply rnz_ | apply rdz_)); exact HO_6.out⟩, ⟨by (with_reducible repeat (first | apply Kd.V_alloc | apply Kd.V_drewN | apply Kd.V_drew)); exact HO_185.out⟩, ⟨by exact ubz_ HB.out⟩⟩
                      case rest =>
                       clear HC75
                       obtain ⟨kq, x20_74, rfl, HA, HJ74, HO_5, HO_6, HO_185, HB⟩ := hcut
                       cases kq with
                       | zero => exact absurd HA.out (by simp [j4])
                       | succ kj74 =>
                        have H := HA.out
                        clear HA
                        simp only [j4] at H
                        replace H := bqz_ H; obtain ⟨⟨t545, t546, t547⟩, A77, H⟩ := H
                        replace H : (if (wrap64 (x187_3 + 1)) < (t517.length : Int) then (if 0 ≤ (wrap64 ((wrap64 (2 * x187_3)) + 2)) then (if (wrap64 ((wrap64 (2 * x187_3)) + 2)) < (t520.length : Int) then (j5 kj74 l1 t517 t520 t532 x20_74 x187_3 (rd t517 x187_3) (rd t520 (ji62)) t545 t546 t547 (rd t520 (wrap64 ((wrap64 (2 * x187_3)) + 2))) t517 (t517.length : Int) x187_3) else (none)) else (none)) else (j5 kj74 l1 t517 t520 t532 x20_74 x187_3 (rd t517 x187_3) (rd t520 (ji62)) t545 t546 t547 0 t517 (t517.length : Int) x187_3)) = some r := H
                        have HC78 := Az_ H
                        clear H
                        go_upto_if 250 with (first | (go_at_call 46; (with_reducible refine (impl_OpenAt.calls kj74 _ _ t517 x187_3 t545 t546 t547 _ ?side1 ?side2 A77.out).mono ?_); (case side1 => exact ucz_ ((Kd.V_reads' HO_5.out).2.2)); (case side2 => exact (Kd.V_reads' HO_5.out).2.1); rintro e w79 ⟨rfl, hb⟩; replace HO_5 := Az_ (Kd.V_below (by (with_reducible repeat (first | apply Kd.V_alloc | apply Kd.V_drewN | apply Kd.V_drew)); exact HO_5.out) hb); replace HO_6 := Az_ (Kd.R_below (by exact urz_ HO_6.out) hb); replace HO_185 := Az_ (Kd.V_below (by (with_reducible repeat (first | apply Kd.V_alloc | apply Kd.V_drewN | apply Kd.V_drew)); exact HO_185.out) hb); replace HB := Az_ (btz_ (ubz_ HB.out) hb); (try clear hb)))
                        (try simp only [Act.put, List.setIfInBounds_toArray, List.set_cons_zero, List.set_cons_succ])
                        go_cut [28] (fun v28 wc => ∃ (kq : Nat) (x28_77 : Int), v28 = .int .i64 x28_77 ∧ Aside0 (j5 kq l1 t517 t520 t532 x20_74 x187_3 (rd t517 x187_3) (rd t520 (ji62)) t545 t546 t547 x28_77 t517 (t517.length : Int) x187_3 = some r) ∧ Aside0 (kq ≤ kj74) ∧ Aside0 (Kd.V (Kd.int .i64) 3 wc w.heap.size (fun k_ => some k_ ≠ ((.slice (some ad543) t520.length co66) : Value).ownBlock) (.slice (some ad542) t517.length co14) t517) ∧ Aside0 (Kd.R (Kd.int .i64) 3 wc w.heap.size (fun _ => True) (.slice (some ad543) t520.length co66) t520) ∧ Aside0 (Kd.V (Kd.int .i64) 3 wc w.heap.size (fun k_ => some k_ ≠ ((.slice (some ad543) t520.length co66) : Value).ownBlock) (.slice (some ad542) t517.length co14) t517) ∧ Aside0 (Below w.heap.size w wc))
                        case first =>
                         have H := HC78.out
                         clear HC78
                         by_cases c80 : (wrap64 (x187_3 + 1)) < (t517.length : Int)
                         ·rw [if_pos c80] at H
                          have c80b0 := decide_eq_true c80
                          clear c80
                          (first | rw [c80b0] | (simp only [i64_w, i32_w]; rw [c80b0]) | skip)
                          obtain ⟨ji81, hji81⟩ : ∃ j_ : Int, (wrap64 ((wrap64 (2 * x187_3)) + 2)) = j_ := ⟨_, rfl⟩
                          replace H : (if 0 ≤ (ji81) then (if (ji81) < (t520.length : Int) then (j5 kj74 l1 t517 t520 t532 x20_74 x187_3 (rd t517 x187_3) (rd t520 (ji62)) t545 t546 t547 (rd t520 (ji81)) t517 (t517.length : Int) x187_3) else (none)) else (none)) = some r := by first | (rw [hji81] at H; exact H) | (simp only [hji81] at H ⊢; exact H)
                          have hji81w : (IntKind.i64.wrap ((wrap64 (2 * x187_3)) + 2)) = ji81 := (i64_w _).trans hji81
                          try have hji81u : (IntKind.i64.wrap (ji59 + 2)) = ji81 := by rw [← hji59]; exact hji81w
                          by_cases c82 : 0 ≤ (ji81)
                          ·rw [if_pos c82] at H
                           have c82b0 := decide_eq_true c82
                           clear c82
                           by_cases c83 : (ji81) < (t520.length : Int)
                           ·rw [if_pos c83] at H
                            have c83b0 := decide_eq_true c83
                            clear c83
                            have H' := Az_ H
                            clear H
                            have p548 : 0 ≤ ((ji81) : Int) := of_decide_eq_true asz_
                            have q548 : (ji81) < (t520.length : Int) := of_decide_eq_true asz_
                            obtain ⟨ad548, e548, hx548_0⟩ := Kd.at_int (Kd.R_reads' HO_6.out).2.2 (ji81) p548 q548
                            obtain rfl : ad543 = ad548 := (by injection e548)
                            replace p548 := eq_true p548
                            replace q548 := eq_true q548
                            go_wp2
                            go_meet
                            case rel => exact ⟨_, (rd t520 (ji81)), (by first | rfl | (simp; done) | (simp only [← hji81] <;> (first | rfl | simp)) | (simp [*]; done)), H', ⟨by have := HJ11.out; have := HJ45.out; have := HK3.out; have := HJ64.out; have := HJ74.out; first | omega | exact Nat.le_refl _⟩, ⟨by (with_reducible repeat (first | apply Kd.V_alloc | apply Kd.V_drewN | apply Kd.V_drew)); exact HO_5.out⟩, ⟨by (with_reducible repeat (first | apply raz_ | apply rnz_ | apply rdz_)); exact HO_6.out⟩, ⟨by (with_reducible repeat (first | apply Kd.V_alloc | apply Kd.V_drewN | apply Kd.V_drew)); exact HO_185.out⟩, ⟨by exact ubz_ HB.out⟩⟩
                           ·rw [if_neg c83] at H
                            exact absurd H (by simp)
                          ·rw [if_neg c82] at H
                           exact absurd H (by simp)
                         ·rw [if_neg c80] at H
                          have c80b0 := decide_eq_false c80
                          clear c80
                          (first | rw [c80b0] | (simp only [i64_w, i32_w]; rw [c80b0]) | skip)
                          have H' := Az_ H
                          clear H
                          go_wp2
                          go_meet
                          case rel => exact ⟨_, (0), qaz_, H', ⟨by have := HJ11.out; have := HJ45.out; have := HK3.out; have := HJ64.out; have := HJ74.out; first | omega | exact Nat.le_refl _⟩, ⟨by (with_reducible repeat (first | apply Kd.V_alloc | apply Kd.V_drewN | apply Kd.V_drew)); exact HO_5.out⟩, ⟨by (with_reducible repeat (first | apply raz_ | apply rnz_ | apply rdz_)); exact HO_6.out⟩, ⟨by (with_reducible repeat (first | apply Kd.V_alloc | apply Kd.V_drewN | apply Kd.V_drew)); exact HO_185.out⟩, ⟨by exact ubz_ HB.out⟩⟩
                        case rest =>
                         clear HC78
                         obtain ⟨kq, x28_77, rfl, HA, HJ77, HO_5, HO_6, HO_185, HB⟩ := hcut
                         cases kq with
                         | zero => exact absurd HA.out (by simp [j5])
                         | succ kj77 =>
                          have H := HA.out
                          clear HA
                          simp only [j5] at H
                          by_cases c84 : (rd t517 x187_3) < 0
                          ·rw [if_pos c84] at H
                           have c84b0 := decide_eq_true c84
                           clear c84
                           replace H := bqz_ H; obtain ⟨⟨t549, t550, t551⟩, A85, H⟩ := H
                           replace H : (if t547 = true then (if t545 = (rd t520 (ji62)) then (if t546 = x28_77 then (if t551 = true then (if t549 = x187_3 then (if (t550 != (decide ((rd t517 x187_3) < 0))) = true then (some false) else (laws_FnBindingsRead.l0 kj77 l1 t517 t520 t532 x20_74 t517 (t517.length : Int) (wrap64 (x187_3 + 1)))) else (some false)) else (some false)) else (some false)) else (some false)) else (some false)) = some r := H
                           by_cases c86 : t547 = true
                           ·subst c86
                            rw [if_pos rfl] at H
                            by_cases c87 : t545 = (rd t520 (ji62))
                            ·rw [if_pos c87] at H
                             have c87b0 : (t545 == (rd t520 (ji62))) = true := beq_iff_eq.mpr c87
                             have c87b1 : (t545 != (rd t520 (ji62))) = false := bne_eq_false_iff_eq.mpr c87
                             clear c87
                             by_cases c88 : t546 = x28_77
                             ·rw [if_pos c88] at H
                              have c88b0 : (t546 == x28_77) = true := beq_iff_eq.mpr c88
                              have c88b1 : (t546 != x28_77) = false := bne_eq_false_iff_eq.mpr c88
                              clear c88
                              by_cases c89 : t551 = true
                              ·subst c89
                               rw [if_pos rfl] at H
                               by_cases c90 : t549 = x187_3
                               ·rw [if_pos c90] at H
                                have c90b0 : (t549 == x187_3) = true := beq_iff_eq.mpr c90
                                have c90b1 : (t549 != x187_3) = false := bne_eq_false_iff_eq.mpr c90
                                clear c90
                                by_cases c91 : (t550 != (decide ((rd t517 x187_3) < 0))) = true
                                ·rw [if_pos c91] at H
                                 have c91b0 : (t550 != (decide ((rd t517 x187_3) < 0))) = true := c91
                                 (try (have c91b1 : decide (t550 = (decide ((rd t517 x187_3) < 0))) = false := by simpa using c91))
                                 (try (have c91b2 : (t550 == (decide ((rd t517 x187_3) < 0))) = false := by simpa using c91))
                                 (try (have c91b3 : ¬ (t550 = (decide ((rd t517 x187_3) < 0))) := by simpa using c91))
                                 clear c91
                                 exact absurd ((Option.some.inj H).trans hrT) (by decide)
                                ·rw [if_neg c91] at H
                                 have c91b0 : (t550 != (decide ((rd t517 x187_3) < 0))) = false := by simpa using c91
                                 have c91v : t550 = true := by have h_ := c91b0; rw [c84b0] at h_; simpa using h_
                                 (try (have c91b1 : decide (t550 = (decide ((rd t517 x187_3) < 0))) = true := by simpa using c91))
                                 (try (have c91b2 : (t550 == (decide ((rd t517 x187_3) < 0))) = true := by simpa using c91))
                                 clear c91
                                 have H' := Az_ H
                                 clear H
                                 go_wp2_with (first | (go_at_call 47; (with_reducible refine (impl_PlaceOfLeaf.calls kj77 _ _ t517 (wrap64 (-(rd t517 x187_3))) t549 t550 true _ ?side1 ?side2 A85.out).mono ?_); (case side1 => exact ucz_ ((Kd.V_reads' HO_5.out).2.2)); (case side2 => exact (Kd.V_reads' HO_5.out).2.1); rintro e w93 ⟨rfl, hb⟩; replace HO_5 := Az_ (Kd.V_below (by (with_reducible repeat (first | apply Kd.V_alloc | apply Kd.V_drewN | apply Kd.V_drew)); exact HO_5.out) hb); replace HO_6 := Az_ (Kd.R_below (by exact urz_ HO_6.out) hb); replace HO_185 := Az_ (Kd.V_below (by (with_reducible repeat (first | apply Kd.V_alloc | apply Kd.V_drewN | apply Kd.V_drew)); exact HO_185.out) hb); replace HB := Az_ (btz_ (ubz_ HB.out) hb); (try clear hb)))
                                 go_roundg kj77
                                 case measure => have := HJ11.out; have := HJ45.out; have := HK3.out; have := HJ64.out; have := HJ74.out; have := HJ77.out; omega
                                 case rel => exact ⟨(x20_74), (wrap64 (x187_3 + 1)), qaz_, qaz_, H', ⟨by have := HJ11.out; have := HJ45.out; have := HK3.out; have := HJ64.out; have := HJ74.out; have := HJ77.out; omega⟩, ⟨by (with_reducible repeat (first | apply Kd.V_alloc | apply Kd.V_drewN | apply Kd.V_drew)); exact HO_5.out⟩, ⟨by (with_reducible repeat (first | apply raz_ | apply rnz_ | apply rdz_)); exact HO_6.out⟩, ⟨by (with_reducible repeat (first | apply Kd.V_alloc | apply Kd.V_drewN | apply Kd.V_drew)); exact HO_185.out⟩, ⟨by exact ubz_ HB.out⟩⟩
                               ·rw [if_neg c90] at H
                                have c90b0 : (t549 == x187_3) = false := beq_eq_false_iff_ne.mpr c90
                                have c90b1 : (t549 != x187_3) = true := bne_iff_ne.mpr c90
                                exact absurd ((Option.some.inj H).trans hrT) (by decide)
                              ·replace c89 := Bool.eq_false_iff.mpr c89
                               subst c89
                               rw [if_neg nfz_] at H
                               exact absurd ((Option.some.inj H).trans hrT) (by decide)
                             ·rw [if_neg c88] at H
                              have c88b0 : (t546 == x28_77) = false := beq_eq_false_iff_ne.mpr c88
                              have c88b1 : (t546 != x28_77) = true := bne_iff_ne.mpr c88
                              exact absurd ((Option.some.inj H).trans hrT) (by decide)
                            ·rw [if_neg c87] at H
                             have c87b0 : (t545 == (rd t520 (ji62))) = false := beq_eq_false_iff_ne.mpr c87
                             have c87b1 : (t545 != (rd t520 (ji62))) = true := bne_iff_ne.mpr c87
                             exact absurd ((Option.some.inj H).trans hrT) (by decide)
                           ·replace c86 := Bool.eq_false_iff.mpr c86
                            subst c86
                            rw [if_neg nfz_] at H
                            exact absurd ((Option.some.inj H).trans hrT) (by decide)
                          ·rw [if_neg c84] at H
                           have c84b0 := decide_eq_false c84
                           clear c84
                           replace H := bqz_ H; obtain ⟨⟨t552, t553, t554⟩, A99, H⟩ := H
                           replace H : (if t547 = true then (if t545 = (rd t520 (ji62)) then (if t546 = x28_77 then (if t554 = true then (if t552 = x187_3 then (if (t553 != (decide ((rd t517 x187_3) < 0))) = true then (some false) else (laws_FnBindingsRead.l0 kj77 l1 t517 t520 t532 x20_74 t517 (t517.length : Int) (wrap64 (x187_3 + 1)))) else (some false)) else (some false)) else (some false)) else (some false)) else (some false)) = some r := H
                           by_cases c100 : t547 = true
                           ·subst c100
                            rw [if_pos rfl] at H
                            by_cases c101 : t545 = (rd t520 (ji62))
                            ·rw [if_pos c101] at H
                             have c101b0 : (t545 == (rd t520 (ji62))) = true := beq_iff_eq.mpr c101
                             have c101b1 : (t545 != (rd t520 (ji62))) = false := bne_eq_false_iff_eq.mpr c101
                             clear c101
                             by_cases c102 : t546 = x28_77
                             ·rw [if_pos c102] at H
                              have c102b0 : (t546 == x28_77) = true := beq_iff_eq.mpr c102
                              have c102b1 : (t546 != x28_77) = false := bne_eq_false_iff_eq.mpr c102
                              clear c102
                              by_cases c103 : t554 = true
                              ·subst c103
                               rw [if_pos rfl] at H
                               by_cases c104 : t552 = x187_3
                               ·rw [if_pos c104] at H
                                have c104b0 : (t552 == x187_3) = true := beq_iff_eq.mpr c104
                                have c104b1 : (t552 != x187_3) = false := bne_eq_false_iff_eq.mpr c104
                                clear c104
                                by_cases c105 : (t553 != (decide ((rd t517 x187_3) < 0))) = true
                                ·rw [if_pos c105] at H
                                 have c105b0 : (t553 != (decide ((rd t517 x187_3) < 0))) = true := c105
                                 (try (have c105b1 : decide (t553 = (decide ((rd t517 x187_3) < 0))) = false := by simpa using c105))
                                 (try (have c105b2 : (t553 == (decide ((rd t517 x187_3) < 0))) = false := by simpa using c105))
                                 (try (have c105b3 : ¬ (t553 = (decide ((rd t517 x187_3) < 0))) := by simpa using c105))
                                 clear c105
                                 exact absurd ((Option.some.inj H).trans hrT) (by decide)
                                ·rw [if_neg c105] at H
                                 have c105b0 : (t553 != (decide ((rd t517 x187_3) < 0))) = false := by simpa using c105
                                 have c105v : t553 = false := by have h_ := c105b0; rw [c84b0] at h_; simpa using h_
                                 (try (have c105b1 : decide (t553 = (decide ((rd t517 x187_3) < 0))) = true := by simpa using c105))
                                 (try (have c105b2 : (t553 == (decide ((rd t517 x187_3) < 0))) = true := by simpa using c105))
                                 clear c105
                                 have H' := Az_ H
                                 clear H
                                 go_wp2_with (first | (go_at_call 47; (with_reducible refine (impl_PlaceOfLeaf.calls kj77 _ _ t517 (rd t517 x187_3) t552 t553 true _ ?side1 ?side2 A99.out).mono ?_); (case side1 => exact ucz_ ((Kd.V_reads' HO_5.out).2.2)); (case side2 => exact (Kd.V_reads' HO_5.out).2.1); rintro e w107 ⟨rfl, hb⟩; replace HO_5 := Az_ (Kd.V_below (by (with_reducible repeat (first | apply Kd.V_alloc | apply Kd.V_drewN | apply Kd.V_drew)); exact HO_5.out) hb); replace HO_6 := Az_ (Kd.R_below (by exact urz_ HO_6.out) hb); replace HO_185 := Az_ (Kd.V_below (by (with_reducible repeat (first | apply Kd.V_alloc | apply Kd.V_drewN | apply Kd.V_drew)); exact HO_185.out) hb); replace HB := Az_ (btz_ (ubz_ HB.out) hb); (try clear hb)))
                                 go_roundg kj77
                                 case measure => have := HJ11.out; have := HJ45.out; have := HK3.out; have := HJ64.out; have := HJ74.out; have := HJ77.out; omega
                                 case rel => exact ⟨(x20_74), (wrap64 (x187_3 + 1)), qaz_, qaz_, H', ⟨by have := HJ11.out; have := HJ45.out; have := HK3.out; have := HJ64.out; have := HJ74.out; have := HJ77.out; omega⟩, ⟨by (with_reducible repeat (first | apply Kd.V_alloc | apply Kd.V_drewN | apply Kd.V_drew)); exact HO_5.out⟩, ⟨by (with_reducible repeat (first | apply raz_ | apply rnz_ | apply rdz_)); exact HO_6.out⟩, ⟨by (with_reducible repeat (first | apply Kd.V_alloc | apply Kd.V_drewN | apply Kd.V_drew)); exact HO_185.out⟩, ⟨by exact ubz_ HB.out⟩⟩
                               ·rw [if_neg c104] at H
                                have c104b0 : (t552 == x187_3) = false := beq_eq_false_iff_ne.mpr c104
                                have c104b1 : (t552 != x187_3) = true := bne_iff_ne.mpr c104
                                exact absurd ((Option.some.inj H).trans hrT) (by decide)
                              ·replace c103 := Bool.eq_false_iff.mpr c103
                               subst c103
                               rw [if_neg nfz_] at H
                               exact absurd ((Option.some.inj H).trans hrT) (by decide)
                             ·rw [if_neg c102] at H
                              have c102b0 : (t546 == x28_77) = false := beq_eq_false_iff_ne.mpr c102
                              have c102b1 : (t546 != x28_77) = true := bne_iff_ne.mpr c102
                              exact absurd ((Option.some.inj H).trans hrT) (by decide)
                            ·rw [if_neg c101] at H
                             have c101b0 : (t545 == (rd t520 (ji62))) = false := beq_eq_false_iff_ne.mpr c101
                             have c101b1 : (t545 != (rd t520 (ji62))) = true := bne_iff_ne.mpr c101
                             exact absurd ((Option.some.inj H).trans hrT) (by decide)
                           ·replace c100 := Bool.eq_false_iff.mpr c100
                            subst c100
                            rw [if_neg nfz_] at H
                            exact absurd ((Option.some.inj H).trans hrT) (by decide)
                  ·rw [if_neg c64] at H
                   exact absurd H (by simp)
                 ·rw [if_neg c63] at H
                  exact absurd H (by simp)
                ·rw [if_neg c61] at H
                 exact absurd H (by simp)
               ·rw [if_neg c60] at H
                exact absurd H (by simp)
              ·rw [if_neg c58] at H
               exact absurd H (by simp)
             ·rw [if_neg c57] at H
              exact absurd H (by simp)
            ·rw [if_neg c56] at H
             have c56b0 := decide_eq_false c56
             clear c56
             by_cases c113 : x20_3 = t532
             ·rw [if_pos c113] at H
              have c113b0 : (x20_3 == t532) = true := beq_iff_eq.mpr c113
              have c113b1 : (x20_3 != t532) = false := bne_eq_false_iff_eq.mpr c113
              clear c113
              have H' := Az_ H
              clear H
              go_wp2
              go_meet
              case rel => exact ⟨_, H', ⟨by have := HJ11.out; have := HJ45.out; have := HK3.out; first | omega | exact Nat.le_refl _⟩, ⟨by exact ubz_ HB.out⟩⟩
             ·rw [if_neg c113] at H
              have c113b0 : (x20_3 == t532) = false := beq_eq_false_iff_ne.mpr c113
              have c113b1 : (x20_3 != t532) = true := bne_iff_ne.mpr c113
              obtain rfl := Option.some.inj H; clear hrT
              go_wp2
              go_ret
              exact ⟨by first | rfl | (simp [errW_none, errW_some] <;> rfl) | (simp [*, errW_none, errW_some] <;> rfl), by exact ubz_ HB.out⟩
      ·replace c44 := Bool.eq_false_iff.mpr c44
       subst c44
       rw [if_neg nfz_] at H
       have H' := Az_ H
       clear H
       go_wp2
       go_meet
       case rel => exact ⟨_, H', ⟨by have := HJ11.out; first | omega | exact Nat.le_refl _⟩, ⟨by exact ubz_ HB.out⟩⟩
     case rest => as_aux_lemma =>
      clear HC43
      obtain ⟨kq, HA, HJ42, HB⟩ := hcut
      cases kq with
      | zero => exact absurd HA.out (by simp [j6])
      | succ kj42 =>
       have H := HA.out
       clear HA
       simp only [j6] at H
       replace H := bqz_ H; obtain ⟨⟨t555, t558, t559, t560⟩, A114, H⟩ := H
       replace H := bqz_ H; obtain ⟨⟨t561, t562⟩, A115, H⟩ := H
       replace H := bqz_ H; obtain ⟨⟨t565, t566⟩, A116, H⟩ := H
       replace H := bqz_ H; obtain ⟨⟨t569, t570⟩, A117, H⟩ := H
       replace H := bqz_ H; obtain ⟨⟨t571, t572⟩, A118, H⟩ := H
       replace H := bqz_ H; obtain ⟨⟨t575, t576⟩, A119, H⟩ := H
       replace H := bqz_ H; obtain ⟨⟨t579, t580⟩, A120, H⟩ := H
       replace H := bqz_ H; obtain ⟨⟨t581, t582⟩, A121, H⟩ := H
       replace H := bqz_ H; obtain ⟨⟨t583, t584⟩, A122, H⟩ := H
       replace H := bqz_ H; obtain ⟨⟨t585, t586⟩, A123, H⟩ := H
       replace H := bqz_ H; obtain ⟨⟨t587, t588⟩, A124, H⟩ := H
       replace H := bqz_ H; obtain ⟨t589, A125, H⟩ := H
       replace H := bqz_ H; obtain ⟨⟨t590, t591, t592⟩, A126, H⟩ := H
       replace H := bqz_ H; obtain ⟨⟨t595, t596, t597⟩, A127, H⟩ := H
       replace H := bqz_ H; obtain ⟨t600, A128, H⟩ := H
       replace H := bqz_ H; obtain ⟨⟨t601, t602⟩, A129, H⟩ := H
       replace H := bqz_ H; obtain ⟨⟨t605, t606⟩, A130, H⟩ := H
       replace H : (if (t562 != t566) = true then (j7 kj42 t555 t558 t559 t560 t561 t562 t570 t571 t572 t583 t586 t589 t590 t591 t592 t600 t601 t602 true) else ((laws_fSame.f kj42 t561 t565).bind fun t609 => (if t609 = true then (if (t572 != t576) = true then (j7 kj42 t555 t558 t559 t560 t561 t562 t570 t571 t572 t583 t586 t589 t590 t591 t592 t600 t601 t602 true) else ((laws_fSame.f kj42 t571 t575).bind fun t610 => (if t610 = true then (if (t580 != t582) = true then (j7 kj42 t555 t558 t559 t560 t561 t562 t570 t571 t572 t583 t586 t589 t590 t591 t592 t600 t601 t602 true) else (if t579 = t581 then (if (t586 != t588) = true then (j7 kj42 t555 t558 t559 t560 t561 t562 t570 t571 t572 t583 t586 t589 t590 t591 t592 t600 t601 t602 true) else (if t585 = t587 then (if (t592 != t597) = true then (j7 kj42 t555 t558 t559 t560 t561 t562 t570 t571 t572 t583 t586 t589 t590 t591 t592 t600 t601 t602 true) else ((laws_fSame.f kj42 t590 t595).bind fun t611 => (if t611 = true then (if t591 = t596 then (if (t602 != t606) = true then (j7 kj42 t555 t558 t559 t560 t561 t562 t570 t571 t572 t583 t586 t589 t590 t591 t592 t600 t601 t602 true) else ((laws_fSame.f kj42 t601 t605).bind fun t612 => (if t612 = true then (if t580 = true then (if t570 ≥ 0 then (j7 kj42 t555 t558 t559 t560 t561 t562 t570 t571 t572 t583 t586 t589 t590 t591 t592 t600 t601 t602 (t572 != (decide (t570 < t579)))) else (j7 kj42 t555 t558 t559 t560 t561 t562 t570 t571 t572 t583 t586 t589 t590 t591 t592 t600 t601 t602 (t572 != false))) else (j7 kj42 t555 t558 t559 t560 t561 t562 t570 t571 t572 t583 t586 t589 t590 t591 t592 t600 t601 t602 (t572 != false))) else (j7 kj42 t555 t558 t559 t560 t561 t562 t570 t571 t572 t583 t586 t589 t590 t591 t592 t600 t601 t602 true)))) else (j7 kj42 t555 t558 t559 t560 t561 t562 t570 t571 t572 t583 t586 t589 t590 t591 t592 t600 t601 t602 true)) else (j7 kj42 t555 t558 t559 t560 t561 t562 t570 t571 t572 t583 t586 t589 t590 t591 t592 t600 t601 t602 true)))) else (j7 kj42 t555 t558 t559 t560 t561 t562 t570 t571 t572 t583 t586 t589 t590 t591 t592 t600 t601 t602 true))) else (j7 kj42 t555 t558 t559 t560 t561 t562 t570 t571 t572 t583 t586 t589 t590 t591 t592 t600 t601 t602 true))) else (j7 kj42 t555 t558 t559 t560 t561 t562 t570 t571 t572 t583 t586 t589 t590 t591 t592 t600 t601 t602 true)))) else (j7 kj42 t555 t558 t559 t560 t561 t562 t570 t571 t572 t583 t586 t589 t590 t591 t592 t600 t601 t602 true)))) = some r := H
       have HC131 := Az_ H
       clear H
       go_upto_region 55 with (first | (go_at_call 48; (with_reducible refine (spec_DrawCutPart.callsR kj42 _ _ l1 t555 t558 t559 t560 _ ?side1 ?side2 A114.out).mono ?_); (case side1 => exact ucz_ ((Kd.C_below HR1.out HB.out))); (case side2 => exact HC1.out); rintro e w132 ⟨v556, rfl, ho0, hb⟩; have HRC := Az_ ho0; have HO557 := Az_ (Kd.V_mono (ok' := fun k_ => True) (Kd.R_V (base' := w.heap.size) ho0) (fun k_ hk_ => trivial)); replace HB := Az_ (btz_ (ubz_ HB.out) hb); (try clear hb); (try clear ho0); obtain ⟨Ao133, co133, eo133⟩ := Kd.V_slice HO557.out; subst eo133) | (go_at_call 49; (with_reducible refine (impl_CutPart.calls kj42 _ _ t555 t558 t559 t560 t561 t562 _ ?side1 ?side2 A115.out).mono ?_); (case side1 => exact ⟨_, _, HRC.out⟩); (case side2 => exact (Kd.V_reads' HO557.out).2.1); rintro e w134 ⟨v563, rfl, ho0, hb⟩; replace HO557 := Az_ (Kd.V_elder' (by (with_reducible repeat (first | apply Kd.V_alloc | apply Kd.V_drewN | apply Kd.V_drew)); exact HO557.out) (Kd.R_base ho0) hb); have HO564 := Az_ (Kd.R_lower ho0 (below_size (ubz_ HB.out))); replace HB := Az_ (btz_ (ubz_ HB.out) hb); (try clear hb); (try clear ho0)) | (go_at_call 50; (with_reducible refine (spec_CutPart.calls kj42 _ _ t555 t558 t559 t560 t565 t566 _ ?side1 ?side2 A116.out).mono ?_); (case side1 => exact ucz_ ((Kd.V_reads' HO557.out).2.2)); (case side2 => exact (Kd.V_reads' HO557.out).2.1); rintro e w135 ⟨v567, rfl, ho0, hb⟩; replace HO557 := Az_ (Kd.V_elder' (by (with_reducible repeat (first | apply Kd.V_alloc | apply Kd.V_drewN | apply Kd.V_drew)); exact HO557.out) (Kd.R_base ho0) hb); have HO568 := Az_ (Kd.R_lower (Kd.R_new' ho0 (Kd.R_lt (by exact urz_ HO564.out))) (below_size (ubz_ HB.out))); replace HO564 := Az_ (rez_ (by exact urz_ HO564.out) (Kd.R_base ho0) hb); replace HB := Az_ (btz_ (ubz_ HB.out) hb); (try clear hb); (try clear ho0)) | (go_at_call 51; (with_reducible refine (spec_DrawBindingOfRank.calls _ _ l1 t569 t570 _ ?side1 ?side2 A117.out).mono ?_); (case side1 => exact ucz_ ((Kd.C_below HR1.out HB.out))); (case side2 => exact HC1.out); rintro e w136 ⟨rfl, hb⟩; replace HO557 := Az_ (Kd.V_below (by (with_reducible repeat (first | apply Kd.V_alloc | apply Kd.V_drewN | apply Kd.V_drew)); exact HO557.out) hb); replace HO564 := Az_ (Kd.R_below (by exact urz_ HO564.out) hb); replace HO568 := Az_ (Kd.R_below (by exact urz_ HO568.out) hb); replace HB := Az_ (btz_ (ubz_ HB.out) hb); (try clear hb)) | (go_at_call 52; (with_reducible refine (impl_BindingOfRank.calls kj42 t569 t570 t571 t572 _ A118.out).mono ?_); rintro e w137 ⟨v573, rfl, ho0, hb⟩; replace HO557 := Az_ (Kd.V_elder' (by (with_reducible repeat (first | apply Kd.V_alloc | apply Kd.V_drewN | apply Kd.V_drew)); exact HO557.out) (Kd.R_base ho0) hb); have HO574 := Az_ (Kd.R_lower (Kd.R_new' (Kd.R_new' ho0 (Kd.R_lt (by exact urz_ HO564.out))) (Kd.R_lt (by exact urz_ HO568.out))) (below_size (ubz_ HB.out))); replace HO564 := Az_ (rez_ (by exact urz_ HO564.out) (Kd.R_base ho0) hb); replace HO568 := Az_ (rez_ (by exact urz_ HO568.out) (Kd.R_base ho0) hb); replace HB := Az_ (btz_ (ubz_ HB.out) hb); (try clear hb); (try clear ho0)) | (go_at_call 53; (with_reducible refine (spec_BindingOfRank.calls kj42 t569 t570 t575 t576 _ A119.out).mono ?_); rintro e w138 ⟨v577, rfl, ho0, hb⟩; replace HO557 := Az_ (Kd.V_elder' (by (with_reducible repeat (first | apply Kd.V_alloc | apply Kd.V_drewN | apply Kd.V_drew)); exact HO557.out) (Kd.R_base ho0) hb); have HO578 := Az_ (Kd.R_lower (Kd.R_new' (Kd.R_new' (Kd.R_new' ho0 (Kd.R_lt (by exact urz_ HO564.out))) (Kd.R_lt (by exact urz_ HO568.out))) (Kd.R_lt (by exact urz_ HO574.out))) (below_size (ubz_ HB.out))); replace HO564 := Az_ (rez_ (by exact urz_ HO564.out) (Kd.R_base ho0) hb); replace HO568 := Az_ (rez_ (by exact urz_ HO568.out) (Kd.R_base ho0) hb); replace HO574 := Az_ (rez_ (by exact urz_ HO574.out) (Kd.R_base ho0) hb); replace HB := Az_ (btz_ (ubz_ HB.out) hb); (try clear hb); (try clear ho0)) | (go_at_call 54; (with_reducible refine (impl_CountBindings.calls kj42 t569 t579 t580 _ A120.out).mono ?_); rintro e w' ⟨rfl, ⟨nd, rfl⟩⟩; (try first | exact ⟨rfl, _, World.drewN_drewN _ _ _⟩ | exact ⟨rfl, _, Eq.trans (World.drewN_drewN _ _ _) (congrArg (World.drewN _) (Nat.add_assoc _ _ _))⟩)) | (go_at_call 55; (with_reducible refine (spec_CountBindings.calls kj42 t569 t581 t582 _ A121.out).mono ?_); rintro e w' ⟨rfl, ⟨nd, rfl⟩⟩; (try first | exact ⟨rfl, _, World.drewN_drewN _ _ _⟩ | exact ⟨rfl, _, Eq.trans (World.drewN_drewN _ _ _) (congrArg (World.drewN _) (Nat.add_assoc _ _ _))⟩)) | (go_at_call 56; (with_reducible refine (spec_DrawCountByTurns.calls _ _ l1 t583 t584 _ ?side1 ?side2 A122.out).mono ?_); (case side1 => repeat (first | exact (Kd.C_below HR1.out (ubz_ HB.out)) | (with_reducible refine Kd.C_alloc ?_ _) | (with_reducible refine Kd.C_drewN ?_ _) | (with_reducible refine Kd.C_drew ?_))); (case side2 => exact HC1.out); rintro e w139 ⟨rfl, hb⟩; replace HO557 := Az_ (Kd.V_below (by (with_reducible repeat (first | apply Kd.V_alloc | apply Kd.V_drewN | apply Kd.V_drew)); exact HO557.out) hb); replace HO564 := Az_ (Kd.R_below (by exact urz_ HO564.out) hb); replace HO568 := Az_ (Kd.R_below (by exact urz_ HO568.out) hb); replace HO574 := Az_ (Kd.R_below (by exact urz_ HO574.out) hb); replace HO578 := Az_ (Kd.R_below (by exact urz_ HO578.out) hb); replace HB := Az_ (btz_ (ubz_ HB.out) hb); (try clear hb)) | (go_at_call 57; (with_reducible refine (impl_CountByTurns.calls kj42 t583 t584 t585 t586 _ A123.out).mono ?_); rintro e w140 ⟨rfl, hb⟩; replace HO557 := Az_ (Kd.V_below (by (with_reducible repeat (first | apply Kd.V_alloc | apply Kd.V_drewN | apply Kd.V_drew)); exact HO557.out) hb); replace HO564 := Az_ (Kd.R_below (by exact urz_ HO564.out) hb); replace HO568 := Az_ (Kd.R_below (by exact urz_ HO568.out) hb); replace HO574 := Az_ (Kd.R_below (by exact urz_ HO574.out) hb); replace HO578 := Az_ (Kd.R_below (by exact urz_ HO578.out) hb); replace HB := Az_ (btz_ (ubz_ HB.out) hb); (try clear hb)) | (go_at_call 58; (with_reducible refine (spec_CountByTurns.calls kj42 t583 t584 t587 t588 _ A124.out).mono ?_); rintro e w141 ⟨rfl, hb⟩; replace HO557 := Az_ (Kd.V_below (by (with_reducible repeat (first | apply Kd.V_alloc | apply Kd.V_drewN | apply Kd.V_drew)); exact HO557.out) hb); replace HO564 := Az_ (Kd.R_below (by exact urz_ HO564.out) hb); replace HO568 := Az_ (Kd.R_below (by exact urz_ HO568.out) hb); replace HO574 := Az_ (Kd.R_below (by exact urz_ HO574.out) hb); replace HO578 := Az_ (Kd.R_below (by exact urz_ HO578.out) hb); replace HB := Az_ (btz_ (ubz_ HB.out) hb); (try clear hb)) | (go_at_call 59; (with_reducible refine (spec_DrawFarthestBinding.calls _ _ l1 t589 _ ?side1 ?side2 A125.out).mono ?_); (case side1 => exact ucz_ ((Kd.C_below HR1.out HB.out))); (case side2 => exact HC1.out); rintro e w142 ⟨rfl, hb⟩; replace HO557 := Az_ (Kd.V_below (by (with_reducible repeat (first | apply Kd.V_alloc | apply Kd.V_drewN | apply Kd.V_drew)); exact HO557.out) hb); replace HO564 := Az_ (Kd.R_below (by exact urz_ HO564.out) hb); replace HO568 := Az_ (Kd.R_below (by exact urz_ HO568.out) hb); replace HO574 := Az_ (Kd.R_below (by exact urz_ HO574.out) hb); replace HO578 := Az_ (Kd.R_below (by exact urz_ HO578.out) hb); replace HB := Az_ (btz_ (ubz_ HB.out) hb); (try clear hb)) | (go_at_call 60; (with_reducible refine (impl_FarthestBinding.calls kj42 t589 t590 t591 t592 _ A126.out).mono ?_); rintro e w143 ⟨v593, rfl, ho0, hb⟩; replace HO557 := Az_ (Kd.V_elder' (by (with_reducible repeat (first | apply Kd.V_alloc | apply Kd.V_drewN | apply Kd.V_drew)); exact HO557.out) (Kd.R_base ho0) hb); have HO594 := Az_ (Kd.R_lower (Kd.R_new' (Kd.R_new' (Kd.R_new' (Kd.R_new' ho0 (Kd.R_lt (by exact urz_ HO564.out))) (Kd.R_lt (by exact urz_ HO568.out))) (Kd.R_lt (by exact urz_ HO574.out))) (Kd.R_lt (by exact urz_ HO578.out))) (below_size (ubz_ HB.out))); replace HO564 := Az_ (rez_ (by exact urz_ HO564.out) (Kd.R_base ho0) hb); replace HO568 := Az_ (rez_ (by exact urz_ HO568.out) (Kd.R_base ho0) hb); replace HO574 := Az_ (rez_ (by exact urz_ HO574.out) (Kd.R_base ho0) hb); replace HO578 := Az_ (rez_ (by exact urz_ HO578.out) (Kd.R_base ho0) hb); replace HB := Az_ (btz_ (ubz_ HB.out) hb); (try clear hb); (try clear ho0)) | (go_at_call 61; (with_reducible refine (spec_FarthestBinding.calls kj42 t589 t595 t596 t597 _ A127.out).mono ?_); rintro e w144 ⟨v598, rfl, ho0, hb⟩; replace HO557 := Az_ (Kd.V_elder' (by (with_reducible repeat (first | apply Kd.V_alloc | apply Kd.V_drewN | apply Kd.V_drew)); exact HO557.out) (Kd.R_base ho0) hb); have HO599 := Az_ (Kd.R_lower (Kd.R_new' (Kd.R_new' (Kd.R_new' (Kd.R_new' (Kd.R_new' ho0 (Kd.R_lt (by exact urz_ HO564.out))) (Kd.R_lt (by exact urz_ HO568.out))) (Kd.R_lt (by exact urz_ HO574.out))) (Kd.R_lt (by exact urz_ HO578.out))) (Kd.R_lt (by exact urz_ HO594.out))) (below_size (ubz_ HB.out))); replace HO564 := Az_ (rez_ (by exact urz_ HO564.out) (Kd.R_base ho0) hb); replace HO568 := Az_ (rez_ (by exact urz_ HO568.out) (Kd.R_base ho0) hb); replace HO574 := Az_ (rez_ (by exact urz_ HO574.out) (Kd.R_base ho0) hb); replace HO578 := Az_ (rez_ (by exact urz_ HO578.out) (Kd.R_base ho0) hb); replace HO594 := Az_ (rez_ (by exact urz_ HO594.out) (Kd.R_base ho0) hb); replace HB := Az_ (btz_ (ubz_ HB.out) hb); (try clear hb); (try clear ho0)) | (go_at_call 62; (with_reducible refine (spec_DrawParseBinding.calls kj42 _ _ l1 t600 _ ?side1 ?side2 A128.out).mono ?_); (case side1 => exact ucz_ ((Kd.C_below HR1.out HB.out))); (case side2 => exact HC1.out); rintro e w145 ⟨rfl, hb⟩; replace HO557 := Az_ (Kd.V_below (by (with_reducible repeat (first | apply Kd.V_alloc | apply Kd.V_drewN | apply Kd.V_drew)); exact HO557.out) hb); replace HO564 := Az_ (Kd.R_below (by exact urz_ HO564.out) hb); replace HO568 := Az_ (Kd.R_below (by exact urz_ HO568.out) hb); replace HO574 := Az_ (Kd.R_below (by exact urz_ HO574.out) hb); replace HO578 := Az_ (Kd.R_below (by exact urz_ HO578.out) hb); replace HO594 := Az_ (Kd.R_below (by exact urz_ HO594.out) hb); replace HO599 := Az_ (Kd.R_below (by exact urz_ HO599.out) hb); replace HB := Az_ (btz_ (ubz_ HB.out) hb); (try clear hb)) | (go_at_call 45; (with_reducible refine (impl_ParseBinding.calls kj42 t600 t601 t602 _ (tabW_below HTAB.out (ubz_ HB.out)) A129.out).mono ?_); rintro e w146 ⟨v603, rfl, ho0, hb⟩; replace HO557 := Az_ (Kd.V_elder' (by (with_reducible repeat (first | apply Kd.V_alloc | apply Kd.V_drewN | apply Kd.V_drew)); exact HO557.out) (Kd.R_base ho0) hb); have HO604 := Az_ (Kd.R_lower (Kd.R_new' (Kd.R_new' (Kd.R_new' (Kd.R_new' (Kd.R_new' (Kd.R_new' ho0 (Kd.R_lt (by exact urz_ HO564.out))) (Kd.R_lt (by exact urz_ HO568.out))) (Kd.R_lt (by exact urz_ HO574.out))) (Kd.R_lt (by exact urz_ HO578.out))) (Kd.R_lt (by exact urz_ HO594.out))) (Kd.R_lt (by exact urz_ HO599.out))) (below_size (ubz_ HB.out))); replace HO564 := Az_ (rez_ (by exact urz_ HO564.out) (Kd.R_base ho0) hb); replace HO568 := Az_ (rez_ (by exact urz_ HO568.out) (Kd.R_base ho0) hb); replace HO574 := Az_ (rez_ (by exact urz_ HO574.out) (Kd.R_base ho0) hb); replace HO578 := Az_ (rez_ (by exact urz_ HO578.out) (Kd.R_base ho0) hb); replace HO594 := Az_ (rez_ (by exact urz_ HO594.out) (Kd.R_base ho0) hb); replace HO599 := Az_ (rez_ (by exact urz_ HO599.out) (Kd.R_base ho0) hb); replace HB := Az_ (btz_ (ubz_ HB.out) hb); (try clear hb); (try clear ho0)) | (go_at_call 63; (with_reducible refine (spec_ParseBinding.calls kj42 t600 t605 t606 _ A130.out).mono ?_); rintro e w147 ⟨v607, rfl, ho0, hb⟩; replace HO557 := Az_ (Kd.V_elder' (by (with_reducible repeat (first | apply Kd.V_alloc | apply Kd.V_drewN | apply Kd.V_drew)); exact HO557.out) (Kd.R_base ho0) hb); have HO608 := Az_ (Kd.R_lower (Kd.R_new' (Kd.R_new' (Kd.R_new' (Kd.R_new' (Kd.R_new' (Kd.R_new' (Kd.R_new' ho0 (Kd.R_lt (by exact urz_ HO564.out))) (Kd.R_lt (by exact urz_ HO568.out))) (Kd.R_lt (by exact urz_ HO574.out))) (Kd.R_lt (by exact urz_ HO578.out))) (Kd.R_lt (by exact urz_ HO594.out))) (Kd.R_lt (by exact urz_ HO599.out))) (Kd.R_lt (by exact urz_ HO604.out))) (below_size (ubz_ HB.out))); replace HO564 := Az_ (rez_ (by exact urz_ HO564.out) (Kd.R_base ho0) hb); replace HO568 := Az_ (rez_ (by exact urz_ HO568.out) (Kd.R_base ho0) hb); replace HO574 := Az_ (rez_ (by exact urz_ HO574.out) (Kd.R_base ho0) hb); replace HO578 := Az_ (rez_ (by exact urz_ HO578.out) (Kd.R_base ho0) hb); replace HO594 := Az_ (rez_ (by exact urz_ HO594.out) (Kd.R_base ho0) hb); replace HO599 := Az_ (rez_ (by exact urz_ HO599.out) (Kd.R_base ho0) hb); replace HO604 := Az_ (rez_ (by exact urz_ HO604.out) (Kd.R_base ho0) hb); replace HB := Az_ (btz_ (ubz_ HB.out) hb); (try clear hb); (try clear ho0)))
       (try simp only [Act.put, List.setIfInBounds_toArray, List.set_cons_zero, List.set_cons_succ])
       go_cut [473] from 1 to 0 (fun v473 wc => ∃ (kq : Nat) (x473_130 : Bool), v473 = .bool x473_130 ∧ Aside0 (j7 kq t555 t558 t559 t560 t561 t562 t570 t571 t572 t583 t586 t589 t590 t591 t592 t600 t601 t602 x473_130 = some r) ∧ Aside0 (kq ≤ kj42) ∧ Aside0 (Kd.V (Kd.int .i64) 3 wc w.heap.size (fun k_ => some k_ ≠ (v563 : Value).ownBlock ∧ some k_ ≠ (v573 : Value).ownBlock ∧ some k_ ≠ (v593 : Value).ownBlock ∧ some k_ ≠ (v603 : Value).ownBlock) (.slice Ao133 t555.length co133) t555) ∧ Aside0 (Kd.R (Kd.int .i64) 3 wc w.heap.size (fun k_ => some k_ ≠ (v573 : Value).ownBlock ∧ some k_ ≠ (v593 : Value).ownBlock ∧ some k_ ≠ (v603 : Value).ownBlock) v563 t561) ∧ Aside0 (Kd.R (Kd.int .i64) 3 wc w.heap.size (fun k_ => some k_ ≠ (v563 : Value).ownBlock ∧ some k_ ≠ (v593 : Value).ownBlock ∧ some k_ ≠ (v603 : Value).ownBlock) v573 t571) ∧ Aside0 (Kd.R (Kd.int .i64) 3 wc w.heap.size (fun k_ => some k_ ≠ (v563 : Value).ownBlock ∧ some k_ ≠ (v573 : Value).ownBlock ∧ some k_ ≠ (v603 : Value).ownBlock) v593 t590) ∧ Aside0 (Kd.R (Kd.int .i64) 3 wc w.heap.size (fun k_ => some k_ ≠ (v563 : Value).ownBlock ∧ some k_ ≠ (v573 : Value).ownBlock ∧ some k_ ≠ (v593 : Value).ownBlock) v603 t601) ∧ Aside0 (Below w.heap.size w wc))
       case first => as_aux_lemma =>
        have H := HC131.out
        clear HC131
        by_cases c148 : (t562 != t566) = true
        ·rw [if_pos c148] at H
         exact (laws_FnBindingsRead.j7_no _ _ _ _ _ _ _ _ _ _ _ _ _ _ _ _ _ _ _ _ hrT H).elim
        ·rw [if_neg c148] at H
         obtain rfl : t562 = t566 := by simpa using c148
         clear c148
         replace H := bqz_ H; obtain ⟨t609, A149, H⟩ := H
         replace H : (if t609 = true then (if (t572 != t576) = true then (j7 kj42 t555 t558 t559 t560 t561 t562 t570 t571 t572 t583 t586 t589 t590 t591 t592 t600 t601 t602 true) else ((laws_fSame.f kj42 t571 t575).bind fun t610 => (if t610 = true then (if (t580 != t582) = true then (j7 kj42 t555 t558 t559 t560 t561 t562 t570 t571 t572 t583 t586 t589 t590 t591 t592 t600 t601 t602 true) else (if t579 = t581 then (if (t586 != t588) = true then (j7 kj42 t555 t558 t559 t560 t561 t562 t570 t571 t572 t583 t586 t589 t590 t591 t592 t600 t601 t602 true) else (if t585 = t587 then (if (t592 != t597) = true then (j7 kj42 t555 t558 t559 t560 t561 t562 t570 t571 t572 t583 t586 t589 t590 t591 t592 t600 t601 t602 true) else ((laws_fSame.f kj42 t590 t595).bind fun t611 => (if t611 = true then (if t591 = t596 then (if (t602 != t606) = true then (j7 kj42 t555 t558 t559 t560 t561 t562 t570 t571 t572 t583 t586 t589 t590 t591 t592 t600 t601 t602 true) else ((laws_fSame.f kj42 t601 t605).bind fun t612 => (if t612 = true then (if t580 = true then (if t570 ≥ 0 then (j7 kj42 t555 t558 t559 t560 t561 t562 t570 t571 t572 t583 t586 t589 t590 t591 t592 t600 t601 t602 (t572 != (decide (t570 < t579)))) else (j7 kj42 t555 t558 t559 t560 t561 t562 t570 t571 t572 t583 t586 t589 t590 t591 t592 t600 t601 t602 (t572 != false))) else (j7 kj42 t555 t558 t559 t560 t561 t562 t570 t571 t572 t583 t586 t589 t590 t591 t592 t600 t601 t602 (t572 != false))) else (j7 kj42 t555 t558 t559 t560 t561 t562 t570 t571 t572 t583 t586 t589 t590 t591 t592 t600 t601 t602 true)))) else (j7 kj42 t555 t558 t559 t560 t561 t562 t570 t571 t572 t583 t586 t589 t590 t591 t592 t600 t601 t602 true)) else (j7 kj42 t555 t558 t559 t560 t561 t562 t570 t571 t572 t583 t586 t589 t590 t591 t592 t600 t601 t602 true)))) else (j7 kj42 t555 t558 t559 t560 t561 t562 t570 t571 t572 t583 t586 t589 t590 t591 t592 t600 t601 t602 true))) else (j7 kj42 t555 t558 t559 t560 t561 t562 t570 t571 t572 t583 t586 t589 t590 t591 t592 t600 t601 t602 true))) else (j7 kj42 t555 t558 t559 t560 t561 t562 t570 t571 t572 t583 t586 t589 t590 t591 t592 t600 t601 t602 true)))) else (j7 kj42 t555 t558 t559 t560 t561 t562 t570 t571 t572 t583 t586 t589 t590 t591 t592 t600 t601 t602 true)) = some r := H
         by_cases c150 : t609 = true
         ·subst c150
          rw [if_pos rfl] at H
          by_cases c151 : (t572 != t576) = true
          ·rw [if_pos c151] at H
           exact (laws_FnBindingsRead.j7_no _ _ _ _ _ _ _ _ _ _ _ _ _ _ _ _ _ _ _ _ hrT H).elim
          ·rw [if_neg c151] at H
           obtain rfl : t572 = t576 := by simpa using c151
           clear c151
           replace H := bqz_ H; obtain ⟨t610, A154, H⟩ := H
           replace H : (if t610 = true then (if (t580 != t582) = true then (j7 kj42 t555 t558 t559 t560 t561 t562 t570 t571 t572 t583 t586 t589 t590 t591 t592 t600 t601 t602 true) else (if t579 = t581 then (if (t586 != t588) = true then (j7 kj42 t555 t558 t559 t560 t561 t562 t570 t571 t572 t583 t586 t589 t590 t591 t592 t600 t601 t602 true) else (if t585 = t587 then (if (t592 != t597) = true then (j7 kj42 t555 t558 t559 t560 t561 t562 t570 t571 t572 t583 t586 t589 t590 t591 t592 t600 t601 t602 true) else ((laws_fSame.f kj42 t590 t595).bind fun t611 => (if t611 = true then (if t591 = t596 then (if (t602 != t606) = true then (j7 kj42 t555 t558 t559 t560 t561 t562 t570 t571 t572 t583 t586 t589 t590 t591 t592 t600 t601 t602 true) else ((laws_fSame.f kj42 t601 t605).bind fun t612 => (if t612 = true then (if t580 = true then (if t570 ≥ 0 then (j7 kj42 t555 t558 t559 t560 t561 t562 t570 t571 t572 t583 t586 t589 t590 t591 t592 t600 t601 t602 (t572 != (decide (t570 < t579)))) else (j7 kj42 t555 t558 t559 t560 t561 t562 t570 t571 t572 t583 t586 t589 t590 t591 t592 t600 t601 t602 (t572 != false))) else (j7 kj42 t555 t558 t559 t560 t561 t562 t570 t571 t572 t583 t586 t589 t590 t591 t592 t600 t601 t602 (t572 != false))) else (j7 kj42 t555 t558 t559 t560 t561 t562 t570 t571 t572 t583 t586 t589 t590 t591 t592 t600 t601 t602 true)))) else (j7 kj42 t555 t558 t559 t560 t561 t562 t570 t571 t572 t583 t586 t589 t590 t591 t592 t600 t601 t602 true)) else (j7 kj42 t555 t558 t559 t560 t561 t562 t570 t571 t572 t583 t586 t589 t590 t591 t592 t600 t601 t602 true)))) else (j7 kj42 t555 t558 t559 t560 t561 t562 t570 t571 t572 t583 t586 t589 t590 t591 t592 t600 t601 t602 true))) else (j7 kj42 t555 t558 t559 t560 t561 t562 t570 t571 t572 t583 t586 t589 t590 t591 t592 t600 t601 t602 true))) else (j7 kj42 t555 t558 t559 t560 t561 t562 t570 t571 t572 t583 t586 t589 t590 t591 t592 t600 t601 t602 true)) = some r := H
           by_cases c155 : t610 = true
           ·subst c155
            rw [if_pos rfl] at H
            by_cases c156 : (t580 != t582) = true
            ·rw [if_pos c156] at H
             exact (laws_FnBindingsRead.j7_no _ _ _ _ _ _ _ _ _ _ _ _ _ _ _ _ _ _ _ _ hrT H).elim
            ·rw [if_neg c156] at H
             obtain rfl : t580 = t582 := by simpa using c156
             clear c156
             by_cases c161 : t579 = t581
             ·rw [if_pos c161] at H
              subst c161
              by_cases c162 : (t586 != t588) = true
              ·rw [if_pos c162] at H
               exact (laws_FnBindingsRead.j7_no _ _ _ _ _ _ _ _ _ _ _ _ _ _ _ _ _ _ _ _ hrT H).elim
              ·rw [if_neg c162] at H
               obtain rfl : t586 = t588 := by simpa using c162
               clear c162
               by_cases c167 : t585 = t587
               ·rw [if_pos c167] at H
                subst c167
                by_cases c168 : (t592 != t597) = true
                ·rw [if_pos c168] at H
                 exact (laws_FnBindingsRead.j7_no _ _ _ _ _ _ _ _ _ _ _ _ _ _ _ _ _ _ _ _ hrT H).elim
                ·rw [if_neg c168] at H
                 obtain rfl : t592 = t597 := by simpa using c168
                 clear c168
                 replace H := bqz_ H; obtain ⟨t611, A173, H⟩ := H
                 replace H : (if t611 = true then (if t591 = t596 then (if (t602 != t606) = true then (j7 kj42 t555 t558 t559 t560 t561 t562 t570 t571 t572 t583 t586 t589 t590 t591 t592 t600 t601 t602 true) else ((laws_fSame.f kj42 t601 t605).bind fun t612 => (if t612 = true then (if t580 = true then (if t570 ≥ 0 then (j7 kj42 t555 t558 t559 t560 t561 t562 t570 t571 t572 t583 t586 t589 t590 t591 t592 t600 t601 t602 (t572 != (decide (t570 < t579)))) else (j7 kj42 t555 t558 t559 t560 t561 t562 t570 t571 t572 t583 t586 t589 t590 t591 t592 t600 t601 t602 (t572 != false))) else (j7 kj42 t555 t558 t559 t560 t561 t562 t570 t571 t572 t583 t586 t589 t590 t591 t592 t600 t601 t602 (t572 != false))) else (j7 kj42 t555 t558 t559 t560 t561 t562 t570 t571 t572 t583 t586 t589 t590 t591 t592 t600 t601 t602 true)))) else (j7 kj42 t555 t558 t559 t560 t561 t562 t570 t571 t572 t583 t586 t589 t590 t591 t592 t600 t601 t602 true)) else (j7 kj42 t555 t558 t559 t560 t561 t562 t570 t571 t572 t583 t586 t589 t590 t591 t592 t600 t601 t602 true)) = some r := H
                 by_cases c174 : t611 = true
                 ·subst c174
                  rw [if_pos rfl] at H
                  by_cases c175 : t591 = t596
                  ·rw [if_pos c175] at H
                   subst c175
                   by_cases c176 : (t602 != t606) = true
                   ·rw [if_pos c176] at H
                    exact (laws_FnBindingsRead.j7_no _ _ _ _ _ _ _ _ _ _ _ _ _ _ _ _ _ _ _ _ hrT H).elim
                   ·rw [if_neg c176] at H
                    obtain rfl : t602 = t606 := by simpa using c176
                    clear c176
                    replace H := bqz_ H; obtain ⟨t612, A183, H⟩ := H
                    replace H : (if t612 = true then (if t580 = true then (if t570 ≥ 0 then (j7 kj42 t555 t558 t559 t560 t561 t562 t570 t571 t572 t583 t586 t589 t590 t591 t592 t600 t601 t602 (t572 != (decide (t570 < t579)))) else (j7 kj42 t555 t558 t559 t560 t561 t562 t570 t571 t572 t583 t586 t589 t590 t591 t592 t600 t601 t602 (t572 != false))) else (j7 kj42 t555 t558 t559 t560 t561 t562 t570 t571 t572 t583 t586 t589 t590 t591 t592 t600 t601 t602 (t572 != false))) else (j7 kj42 t555 t558 t559 t560 t561 t562 t570 t571 t572 t583 t586 t589 t590 t591 t592 t600 t601 t602 true)) = some r := H
                    by_cases c184 : t612 = true
                    ·subst c184
                     rw [if_pos rfl] at H
                     by_cases c185 : t580 = true
                     ·subst c185
                      rw [if_pos rfl] at H
                      by_cases c186 : t570 ≥ 0
                      ·rw [if_pos c186] at H
                       have c186b0 := decide_eq_true c186
                       clear c186
                       have H' := Az_ H
                       clear H
                       obtain ⟨Ao187, co187, eo187⟩ := Kd.R_slice HO564.out
                       subst eo187
                       obtain ⟨Ao188, co188, eo188⟩ := Kd.R_slice HO568.out
                       subst eo188
                       go_wp2_with (first | (go_at_call 44; (with_reducible refine (laws_fSame.calls kj42 _ _ t561 _ _ t565 true _ ?side1 ?side2 ?side3 ?side4 A149.out).mono ?_); (case side1 => exact ucz_ ((Kd.R_reads' HO564.out).2.2)); (case side2 => exact (Kd.R_reads' HO564.out).2.1); (case side3 => exact ucz_ ((Kd.R_reads' HO568.out).2.2)); (case side4 => exact (Kd.R_reads' HO568.out).2.1); rintro e w' ⟨rfl, ⟨nd, rfl⟩⟩; (try first | exact ⟨rfl, _, World.drewN_drewN _ _ _⟩ | exact ⟨rfl, _, Eq.trans (World.drewN_drewN _ _ _) (congrArg (World.drewN _) (Nat.add_assoc _ _ _))⟩); obtain ⟨Ao189, co189, eo189⟩ := Kd.R_slice HO574.out; subst eo189; obtain ⟨Ao190, co190, eo190⟩ := Kd.R_slice HO578.out; subst eo190; clear A149) | (go_at_call 44; (with_reducible refine (laws_fSame.calls kj42 _ _ t571 _ _ t575 true _ ?side1 ?side2 ?side3 ?side4 A154.out).mono ?_); (case side1 => exact ucz_ ((Kd.R_reads' HO574.out).2.2)); (case side2 => exact (Kd.R_reads' HO574.out).2.1); (case side3 => exact ucz_ ((Kd.R_reads' HO578.out).2.2)); (case side4 => exact (Kd.R_reads' HO578.out).2.1); rintro e w' ⟨rfl, ⟨nd, rfl⟩⟩; (try first | exact ⟨rfl, _, World.drewN_drewN _ _ _⟩ | exact ⟨rfl, _, Eq.trans (World.drewN_drewN _ _ _) (congrArg (World.drewN _) (Nat.add_assoc _ _ _))⟩); obtain ⟨Ao191, co191, eo191⟩ := Kd.R_slice HO594.out; subst eo191; obtain ⟨Ao192, co192, eo192⟩ := Kd.R_slice HO599.out; subst eo192; clear A154) | (go_at_call 44; (with_reducible refine (laws_fSame.calls kj42 _ _ t590 _ _ t595 true _ ?side1 ?side2 ?side3 ?side4 A173.out).mono ?_); (case side1 => exact ucz_ ((Kd.R_reads' HO594.out).2.2)); (case side2 => exact (Kd.R_reads' HO594.out).2.1); (case side3 => exact ucz_ ((Kd.R_reads' HO599.out).2.2)); (case side4 => exact (Kd.R_reads' HO599.out).2.1); rintro e w' ⟨rfl, ⟨nd, rfl⟩⟩; (try first | exact ⟨rfl, _, World.drewN_drewN _ _ _⟩ | exact ⟨rfl, _, Eq.trans (World.drewN_drewN _ _ _) (congrArg (World.drewN _) (Nat.add_assoc _ _ _))⟩); obtain ⟨Ao193, co193, eo193⟩ := Kd.R_slice HO604.out; subst eo193; obtain ⟨Ao194, co194, eo194⟩ := Kd.R_slice HO608.out; subst eo194; clear A173) | (go_at_call 44; (with_reducible refine (laws_fSame.calls kj42 _ _ t601 _ _ t605 true _ ?side1 ?side2 ?side3 ?side4 A183.out).mono ?_); (case side1 => exact ucz_ ((Kd.R_reads' HO604.out).2.2)); (case side2 => exact (Kd.R_reads' HO604.out).2.1); (case side3 => exact ucz_ ((Kd.R_reads' HO608.out).2.2)); (case side4 => exact (Kd.R_reads' HO608.out).2.1); rintro e w' ⟨rfl, ⟨nd, rfl⟩⟩; (try first | exact ⟨rfl, _, World.drewN_drewN _ _ _⟩ | exact ⟨rfl, _, Eq.trans (World.drewN_drewN _ _ _) (congrArg (World.drewN _) (Nat.add_assoc _ _ _))⟩)))
                       go_meet
                       case rel => exact ⟨_, ((t572 != (decide (t570 < t579)))), qaz_, H', ⟨by have := HJ11.out; have := HJ42.out; first | omega | exact Nat.le_refl _⟩, ⟨by (with_reducible repeat (first | apply Kd.V_alloc | apply Kd.V_drewN | apply Kd.V_drew)); exact Kd.V_mono HO557.out (fun _ hk => ⟨hk.1.1.1.1.1.1.1.2, ⟨hk.1.1.1.1.1.2, ⟨hk.1.1.1.2, hk.1.2⟩⟩⟩)⟩, ⟨by (with_reducible repeat (first | apply raz_ | apply rnz_ | apply rdz_)); exact Kd.R_mono HO564.out (fun _ hk => ⟨hk.1.1.1.1.1.2, ⟨hk.1.1.1.2, hk.1.2⟩⟩)⟩, ⟨by (with_reducible repeat (first | apply raz_ | apply rnz_ | apply rdz_)); exact Kd.R_mono HO574.out (fun _ hk => ⟨hk.1.1.1.1.1.1.2, ⟨hk.1.1.1.2, hk.1.2⟩⟩)⟩, ⟨by (with_reducible repeat (first | apply raz_ | apply rnz_ | apply rdz_)); exact Kd.R_mono HO594.out (fun _ hk => ⟨hk.1.1.1.1.1.1.2, ⟨hk.1.1.1.1.2, hk.1.2⟩⟩)⟩, ⟨by (with_reducible repeat (first | apply raz_ | apply rnz_ | apply rdz_)); exact Kd.R_mono HO604.out (fun _ hk => ⟨hk.1.1.1.1.1.1.2, ⟨hk.1.1.1.1.2, hk.1.1.2⟩⟩)⟩, ⟨by exact ubz_ HB.out⟩⟩
                      ·rw [if_neg c186] at H
                       have c186b0 := decide_eq_false c186
                       clear c186
                       have H' := Az_ H
                       clear H
                       obtain ⟨Ao195, co195, eo195⟩ := Kd.R_slice HO564.out
                       subst eo195
                       obtain ⟨Ao196, co196, eo196⟩ := Kd.R_slice HO568.out
                       subst eo196
                       go_wp2_with (first | (go_at_call 44; (with_reducible refine (laws_fSame.calls kj42 _ _ t561 _ _ t565 true _ ?side1 ?side2 ?side3 ?side4 A149.out).mono ?_); (case side1 => exact ucz_ ((Kd.R_reads' HO564.out).2.2)); (case side2 => exact (Kd.R_reads' HO564.out).2.1); (case side3 => exact ucz_ ((Kd.R_reads' HO568.out).2.2)); (case side4 => exact (Kd.R_reads' HO568.out).2.1); rintro e w' ⟨rfl, ⟨nd, rfl⟩⟩; (try first | exact ⟨rfl, _, World.drewN_drewN _ _ _⟩ | exact ⟨rfl, _, Eq.trans (World.drewN_drewN _ _ _) (congrArg (World.drewN _) (Nat.add_assoc _ _ _))⟩); obtain ⟨Ao197, co197, eo197⟩ := Kd.R_slice HO574.out; subst eo197; obtain ⟨Ao198, co198, eo198⟩ := Kd.R_slice HO578.out; subst eo198; clear A149) | (go_at_call 44; (with_reducible refine (laws_fSame.calls kj42 _ _ t571 _ _ t575 true _ ?side1 ?side2 ?side3 ?side4 A154.out).mono ?_); (case side1 => exact ucz_ ((Kd.R_reads' HO574.out).2.2)); (case side2 => exact (Kd.R_reads' HO574.out).2.1); (case side3 => exact ucz_ ((Kd.R_reads' HO578.out).2.2)); (case side4 => exact (Kd.R_reads' HO578.out).2.1); rintro e w' ⟨rfl, ⟨nd, rfl⟩⟩; (try first | exact ⟨rfl, _, World.drewN_drewN _ _ _⟩ | exact ⟨rfl, _, Eq.trans (World.drewN_drewN _ _ _) (congrArg (World.drewN _) (Nat.add_assoc _ _ _))⟩); obtain ⟨Ao199, co199, eo199⟩ := Kd.R_slice HO594.out; subst eo199; obtain ⟨Ao200, co200, eo200⟩ := Kd.R_slice HO599.out; subst eo200; clear A154) | (go_at_call 44; (with_reducible refine (laws_fSame.calls kj42 _ _ t590 _ _ t595 true _ ?side1 ?side2 ?side3 ?side4 A173.out).mono ?_); (case side1 => exact ucz_ ((Kd.R_reads' HO594.out).2.2)); (case side2 => exact (Kd.R_reads' HO594.out).2.1); (case side3 => exact ucz_ ((Kd.R_reads' HO599.out).2.2)); (case side4 => exact (Kd.R_reads' HO599.out).2.1); rintro e w' ⟨rfl, ⟨nd, rfl⟩⟩; (try first | exact ⟨rfl, _, World.drewN_drewN _ _ _⟩ | exact ⟨rfl, _, Eq.trans (World.drewN_drewN _ _ _) (congrArg (World.drewN _) (Nat.add_assoc _ _ _))⟩); obtain ⟨Ao201, co201, eo201⟩ := Kd.R_slice HO604.out; subst eo201; obtain ⟨Ao202, co202, eo202⟩ := Kd.R_slice HO608.out; subst eo202; clear A173) | (go_at_call 44; (with_reducible refine (laws_fSame.calls kj42 _ _ t601 _ _ t605 true _ ?side1 ?side2 ?side3 ?side4 A183.out).mono ?_); (case side1 => exact ucz_ ((Kd.R_reads' HO604.out).2.2)); (case side2 => exact (Kd.R_reads' HO604.out).2.1); (case side3 => exact ucz_ ((Kd.R_reads' HO608.out).2.2)); (case side4 => exact (Kd.R_reads' HO608.out).2.1); rintro e w' ⟨rfl, ⟨nd, rfl⟩⟩; (try first | exact ⟨rfl, _, World.drewN_drewN _ _ _⟩ | exact ⟨rfl, _, Eq.trans (World.drewN_drewN _ _ _) (congrArg (World.drewN _) (Nat.add_assoc _ _ _))⟩)))
                       go_meet
                       case rel => exact ⟨_, ((t572 != false)), qaz_, H', ⟨by have := HJ11.out; have := HJ42.out; first | omega | exact Nat.le_refl _⟩, ⟨by (with_reducible repeat (first | apply Kd.V_alloc | apply Kd.V_drewN | apply Kd.V_drew)); exact Kd.V_mono HO557.out (fun _ hk => ⟨hk.1.1.1.1.1.1.1.2, ⟨hk.1.1.1.1.1.2, ⟨hk.1.1.1.2, hk.1.2⟩⟩⟩)⟩, ⟨by (with_reducible repeat (first | apply raz_ | apply rnz_ | apply rdz_)); exact Kd.R_mono HO564.out (fun _ hk => ⟨hk.1.1.1.1.1.2, ⟨hk.1.1.1.2, hk.1.2⟩⟩)⟩, ⟨by (with_reducible repeat (first | apply raz_ | apply rnz_ | apply rdz_)); exact Kd.R_mono HO574.out (fun _ hk => ⟨hk.1.1.1.1.1.1.2, ⟨hk.1.1.1.2, hk.1.2⟩⟩)⟩, ⟨by (with_reducible repeat (first | apply raz_ | apply rnz_ | apply rdz_)); exact Kd.R_mono HO594.out (fun _ hk => ⟨hk.1.1.1.1.1.1.2, ⟨hk.1.1.1.1.2, hk.1.2⟩⟩)⟩, ⟨by (with_reducible repeat (first | apply raz_ | apply rnz_ | apply rdz_)); exact Kd.R_mono HO604.out (fun _ hk => ⟨hk.1.1.1.1.1.1.2, ⟨hk.1.1.1.1.2, hk.1.1.2⟩⟩)⟩, ⟨by exact ubz_ HB.out⟩⟩
                     ·replace c185 := Bool.eq_false_iff.mpr c185
                      subst c185
                      rw [if_neg nfz_] at H
                      have H' := Az_ H
                      clear H
                      obtain ⟨Ao203, co203, eo203⟩ := Kd.R_slice HO564.out
                      subst eo203
                      obtain ⟨Ao204, co204, eo204⟩ := Kd.R_slice HO568.out
                      subst eo204
                      go_wp2_with (first | (go_at_call 44; (with_reducible refine (laws_fSame.calls kj42 _ _ t561 _ _ t565 true _ ?side1 ?side2 ?side3 ?side4 A149.out).mono ?_); (case side1 => exact ucz_ ((Kd.R_reads' HO564.out).2.2)); (case side2 => exact (Kd.R_reads' HO564.out).2.1); (case side3 => exact ucz_ ((Kd.R_reads' HO568.out).2.2)); (case side4 => exact (Kd.R_reads' HO568.out).2.1); rintro e w' ⟨rfl, ⟨nd, rfl⟩⟩; (try first | exact ⟨rfl, _, World.drewN_drewN _ _ _⟩ | exact ⟨rfl, _, Eq.trans (World.drewN_drewN _ _ _) (congrArg (World.drewN _) (Nat.add_assoc _ _ _))⟩); obtain ⟨Ao205, co205, eo205⟩ := Kd.R_slice HO574.out; subst eo205; obtain ⟨Ao206, co206, eo206⟩ := Kd.R_slice HO578.out; subst eo206; clear A149) | (go_at_call 44; (with_reducible refine (laws_fSame.calls kj42 _ _ t571 _ _ t575 true _ ?side1 ?side2 ?side3 ?side4 A154.out).mono ?_); (case side1 => exact ucz_ ((Kd.R_reads' HO574.out).2.2)); (case side2 => exact (Kd.R_reads' HO574.out).2.1); (case side3 => exact ucz_ ((Kd.R_reads' HO578.out).2.2)); (case side4 => exact (Kd.R_reads' HO578.out).2.1); rintro e w' ⟨rfl, ⟨nd, rfl⟩⟩; (try first | exact ⟨rfl, _, World.drewN_drewN _ _ _⟩ | exact ⟨rfl, _, Eq.trans (World.drewN_drewN _ _ _) (congrArg (World.drewN _) (Nat.add_assoc _ _ _))⟩); obtain ⟨Ao207, co207, eo207⟩ := Kd.R_slice HO594.out; subst eo207; obtain ⟨Ao208, co208, eo208⟩ := Kd.R_slice HO599.out; subst eo208; clear A154) | (go_at_call 44; (with_reducible refine (laws_fSame.calls kj42 _ _ t590 _ _ t595 true _ ?side1 ?side2 ?side3 ?side4 A173.out).mono ?_); (case side1 => exact ucz_ ((Kd.R_reads' HO594.out).2.2)); (case side2 => exact (Kd.R_reads' HO594.out).2.1); (case side3 => exact ucz_ ((Kd.R_reads' HO599.out).2.2)); (case side4 => exact (Kd.R_reads' HO599.out).2.1); rintro e w' ⟨rfl, ⟨nd, rfl⟩⟩; (try first | exact ⟨rfl, _, World.drewN_drewN _ _ _⟩ | exact ⟨rfl, _, Eq.trans (World.drewN_drewN _ _ _) (congrArg (World.drewN _) (Nat.add_assoc _ _ _))⟩); obtain ⟨Ao209, co209, eo209⟩ := Kd.R_slice HO604.out; subst eo209; obtain ⟨Ao210, co210, eo210⟩ := Kd.R_slice HO608.out; subst eo210; clear A173) | (go_at_call 44; (with_reducible refine (laws_fSame.calls kj42 _ _ t601 _ _ t605 true _ ?side1 ?side2 ?side3 ?side4 A183.out).mono ?_); (case side1 => exact ucz_ ((Kd.R_reads' HO604.out).2.2)); (case side2 => exact (Kd.R_reads' HO604.out).2.1); (case side3 => exact ucz_ ((Kd.R_reads' HO608.out).2.2)); (case side4 => exact (Kd.R_reads' HO608.out).2.1); rintro e w' ⟨rfl, ⟨nd, rfl⟩⟩; (try first | exact ⟨rfl, _, World.drewN_drewN _ _ _⟩ | exact ⟨rfl, _, Eq.trans (World.drewN_drewN _ _ _) (congrArg (World.drewN _) (Nat.add_assoc _ _ _))⟩)))
                      go_meet
                      case rel => exact ⟨_, ((t572 != false)), qaz_, H', ⟨by have := HJ11.out; have := HJ42.out; first | omega | exact Nat.le_refl _⟩, ⟨by (with_reducible repeat (first | apply Kd.V_alloc | apply Kd.V_drewN | apply Kd.V_drew)); exact Kd.V_mono HO557.out (fun _ hk => ⟨hk.1.1.1.1.1.1.1.2, ⟨hk.1.1.1.1.1.2, ⟨hk.1.1.1.2, hk.1.2⟩⟩⟩)⟩, ⟨by (with_reducible repeat (first | apply raz_ | apply rnz_ | apply rdz_)); exact Kd.R_mono HO564.out (fun _ hk => ⟨hk.1.1.1.1.1.2, ⟨hk.1.1.1.2, hk.1.2⟩⟩)⟩, ⟨by (with_reducible repeat (first | apply raz_ | apply rnz_ | apply rdz_)); exact Kd.R_mono HO574.out (fun _ hk => ⟨hk.1.1.1.1.1.1.2, ⟨hk.1.1.1.2, hk.1.2⟩⟩)⟩, ⟨by (with_reducible repeat (first | apply raz_ | apply rnz_ | apply rdz_)); exact Kd.R_mono HO594.out (fun _ hk => ⟨hk.1.1.1.1.1.1.2, ⟨hk.1.1.1.1.2, hk.1.2⟩⟩)⟩, ⟨by (with_reducible repeat (first | apply raz_ | apply rnz_ | apply rdz_)); exact Kd.R_mono HO604.out (fun _ hk => ⟨hk.1.1.1.1.1.1.2, ⟨hk.1.1.1.1.2, hk.1.1.2⟩⟩)⟩, ⟨by exact ubz_ HB.out⟩⟩
                    ·replace c184 := Bool.eq_false_iff.mpr c184
                     subst c184
                     have H1 : (j7 kj42 t555 t558 t559 t560 t561 t562 t570 t571 t572 t583 t586 t589 t590 t591 t592 t600 t601 t602 true) = some r := by rw [if_neg (show ¬ (false = true) by decide)] at H; exact H
                     clear H
                     have H := H1
                     exact (laws_FnBindingsRead.j7_no _ _ _ _ _ _ _ _ _ _ _ _ _ _ _ _ _ _ _ _ hrT H).elim
                  ·rw [if_neg c175] at H
                   exact (laws_FnBindingsRead.j7_no _ _ _ _ _ _ _ _ _ _ _ _ _ _ _ _ _ _ _ _ hrT H).elim
                 ·replace c174 := Bool.eq_false_iff.mpr c174
                  subst c174
                  have H1 : (j7 kj42 t555 t558 t559 t560 t561 t562 t570 t571 t572 t583 t586 t589 t590 t591 t592 t600 t601 t602 true) = some r := by rw [if_neg (show ¬ (false = true) by decide)] at H; exact H
                  clear H
                  have H := H1
                  exact (laws_FnBindingsRead.j7_no _ _ _ _ _ _ _ _ _ _ _ _ _ _ _ _ _ _ _ _ hrT H).elim
               ·rw [if_neg c167] at H
                exact (laws_FnBindingsRead.j7_no _ _ _ _ _ _ _ _ _ _ _ _ _ _ _ _ _ _ _ _ hrT H).elim
             ·rw [if_neg c161] at H
              exact (laws_FnBindingsRead.j7_no _ _ _ _ _ _ _ _ _ _ _ _ _ _ _ _ _ _ _ _ hrT H).elim
           ·replace c155 := Bool.eq_false_iff.mpr c155
            subst c155
            have H1 : (j7 kj42 t555 t558 t559 t560 t561 t562 t570 t571 t572 t583 t586 t589 t590 t591 t592 t600 t601 t602 true) = some r := by rw [if_neg (show ¬ (false = true) by decide)] at H; exact H
            clear H
            have H := H1
            exact (laws_FnBindingsRead.j7_no _ _ _ _ _ _ _ _ _ _ _ _ _ _ _ _ _ _ _ _ hrT H).elim
         ·replace c150 := Bool.eq_false_iff.mpr c150
          subst c150
          have H1 : (j7 kj42 t555 t558 t559 t560 t561 t562 t570 t571 t572 t583 t586 t589 t590 t591 t592 t600 t601 t602 true) = some r := by rw [if_neg (show ¬ (false = true) by decide)] at H; exact H
          clear H
          have H := H1
          exact (laws_FnBindingsRead.j7_no _ _ _ _ _ _ _ _ _ _ _ _ _ _ _ _ _ _ _ _ hrT H).elim
       case rest => as_aux_lemma =>
        clear HC131
        obtain ⟨kq, x473_130, rfl, HA, HJ130, HO_33, HO_37, HO_43, HO_58, HO_65, HB⟩ := hcut
        cases kq with
        | zero => exact absurd HA.out (by simp [j7])
        | succ kj130 =>
         have H := HA.out
         clear HA
         simp only [j7] at H
         by_cases c245 : x473_130 = true
         ·subst c245
          rw [if_pos rfl] at H
          exact absurd ((Option.some.inj H).trans hrT) (by decide)
         ·replace c245 := Bool.eq_false_iff.mpr c245
          subst c245
          rw [if_neg nfz_] at H
          have HC246 := Az_ H
          clear H
          go_upto_if 474 with (fail)
          go_cut [] from 1 to 0 (fun wc => ∃ (kq : Nat), Aside0 (j10 kq t570 t571 t572 t583 t586 t589 t590 t591 t592 t600 t601 t602 = some r) ∧ Aside0 (kq ≤ kj130) ∧ Aside0 (Kd.R (Kd.int .i64) 3 wc w.heap.size (fun k_ => some k_ ≠ (v593 : Value).ownBlock ∧ some k_ ≠ (v603 : Value).ownBlock) v573 t571) ∧ Aside0 (Kd.R (Kd.int .i64) 3 wc w.heap.size (fun k_ => some k_ ≠ (v573 : Value).ownBlock ∧ some k_ ≠ (v603 : Value).ownBlock) v593 t590) ∧ Aside0 (Kd.R (Kd.int .i64) 3 wc w.heap.size (fun k_ => some k_ ≠ (v573 : Value).ownBlock ∧ some k_ ≠ (v593 : Value).ownBlock) v603 t601) ∧ Aside0 (Below w.heap.size w wc))
          case first => as_aux_lemma =>
           have H := HC246.out
           clear HC246
           by_cases c247 : t562 = true
           ·subst c247
            rw [if_pos rfl] at H
            replace H := bqz_ H; obtain ⟨⟨t613, t614⟩, A248, H⟩ := H
            replace H : ((impl_IsBinding.f kj130 t561).bind fun t617 => (if t617 = true then (if t614 = true then ((laws_fSame.f kj130 t613 t555).bind fun t618 => (j8 kj130 t555 t558 t560 t561 t570 t571 t572 t583 t586 t589 t590 t591 t592 t600 t601 t602 (wrap64 (t559 - t558)) (!t618))) else (j8 kj130 t555 t558 t560 t561 t570 t571 t572 t583 t586 t589 t590 t591 t592 t600 t601 t602 (wrap64 (t559 - t558)) true)) else (j8 kj130 t555 t558 t560 t561 t570 t571 t572 t583 t586 t589 t590 t591 t592 t600 t601 t602 (wrap64 (t559 - t558)) true))) = some r := H
            have HC249 := Az_ H
            clear H
            obtain ⟨Ao250, co250, eo250⟩ := Kd.R_slice HO_37.out
            subst eo250
            go_upto_region 60 with (first | (go_at_call 49; (with_reducible refine (impl_CutPart.calls kj130 _ _ t561 t560 (wrap64 (t560 + (wrap64 (t559 - t558)))) t558 t613 t614 _ ?side1 ?side2 A248.out).mono ?_); (case side1 => exact ⟨_, _, (by exact urz_ HO_37.out)⟩); (case side2 => exact (Kd.R_reads' HO_37.out).2.1); rintro e w251 ⟨v615, rfl, ho0, hb⟩; replace HO_33 := Az_ (Kd.V_elder' (by (with_reducible repeat (first | apply Kd.V_alloc | apply Kd.V_drewN | apply Kd.V_drew)); exact HO_33.out) (Kd.R_base ho0) hb); have HO616 := Az_ (Kd.R_lower (Kd.R_new' (Kd.R_new' (Kd.R_new' (Kd.R_new' ho0 (Kd.R_lt (by exact urz_ HO_37.out))) (Kd.R_lt (by exact urz_ HO_43.out))) (Kd.R_lt (by exact urz_ HO_58.out))) (Kd.R_lt (by exact urz_ HO_65.out))) (below_size (ubz_ HB.out))); replace HO_37 := Az_ (rez_ (by exact urz_ HO_37.out) (Kd.R_base ho0) hb); replace HO_43 := Az_ (rez_ (by exact urz_ HO_43.out) (Kd.R_base ho0) hb); replace HO_58 := Az_ (rez_ (by exact urz_ HO_58.out) (Kd.R_base ho0) hb); replace HO_65 := Az_ (rez_ (by exact urz_ HO_65.out) (Kd.R_base ho0) hb); replace HB := Az_ (btz_ (ubz_ HB.out) hb); (try clear hb); (try clear ho0)))
            (try simp only [Act.put, List.setIfInBounds_toArray, List.set_cons_zero, List.set_cons_succ])
            go_cut [500] from 1 to 0 (fun v500 wc => ∃ (kq : Nat) (x500_248 : Bool), v500 = .bool x500_248 ∧ Aside0 (j8 kq t555 t558 t560 t561 t570 t571 t572 t583 t586 t589 t590 t591 t592 t600 t601 t602 (wrap64 (t559 - t558)) x500_248 = some r) ∧ Aside0 (kq ≤ kj130) ∧ Aside0 (Kd.V (Kd.int .i64) 3 wc w.heap.size (fun k_ => some k_ ≠ ((.slice Ao250 t561.length co250) : Value).ownBlock ∧ some k_ ≠ (v573 : Value).ownBlock ∧ some k_ ≠ (v593 : Value).ownBlock ∧ some k_ ≠ (v603 : Value).ownBlock) (.slice Ao133 t555.length co133) t555) ∧ Aside0 (Kd.R (Kd.int .i64) 3 wc w.heap.size (fun k_ => some k_ ≠ (v573 : Value).ownBlock ∧ some k_ ≠ (v593 : Value).ownBlock ∧ some k_ ≠ (v603 : Value).ownBlock) (.slice Ao250 t561.length co250) t561) ∧ Aside0 (Kd.R (Kd.int .i64) 3 wc w.heap.size (fun k_ => some k_ ≠ ((.slice Ao250 t561.length co250) : Value).ownBlock ∧ some k_ ≠ (v593 : Value).ownBlock ∧ some k_ ≠ (v603 : Value).ownBlock) v573 t571) ∧ Aside0 (Kd.R (Kd.int .i64) 3 wc w.heap.size (fun k_ => some k_ ≠ ((.slice Ao250 t561.length co250) : Value).ownBlock ∧ some k_ ≠ (v573 : Value).ownBlock ∧ some k_ ≠ (v603 : Value).ownBlock) v593 t590) ∧ Aside0 (Kd.R (Kd.int .i64) 3 wc w.heap.size (fun k_ => some k_ ≠ ((.slice Ao250 t561.length co250) : Value).ownBlock ∧ some k_ ≠ (v573 : Value).ownBlock ∧ some k_ ≠ (v593 : Value).ownBlock) v603 t601) ∧ Aside0 (Below w.heap.size w wc))
            case first => as_aux_lemma =>
             have H := HC249.out
             clear HC249
             replace H := bqz_ H; obtain ⟨t617, A252, H⟩ := H
             replace H : (if t617 = true then (if t614 = true then ((laws_fSame.f kj130 t613 t555).bind fun t618 => (j8 kj130 t555 t558 t560 t561 t570 t571 t572 t583 t586 t589 t590 t591 t592 t600 t601 t602 (wrap64 (t559 - t558)) (!t618))) else (j8 kj130 t555 t558 t560 t561 t570 t571 t572 t583 t586 t589 t590 t591 t592 t600 t601 t602 (wrap64 (t559 - t558)) true)) else (j8 kj130 t555 t558 t560 t561 t570 t571 t572 t583 t586 t589 t590 t591 t592 t600 t601 t602 (wrap64 (t559 - t558)) true)) = some r := H
             by_cases c253 : t617 = true
             ·subst c253
              rw [if_pos rfl] at H
              by_cases c254 : t614 = true
              ·subst c254
               rw [if_pos rfl] at H
               replace H := bqz_ H; obtain ⟨t618, A255, H⟩ := H
               replace H : (j8 kj130 t555 t558 t560 t561 t570 t571 t572 t583 t586 t589 t590 t591 t592 t600 t601 t602 (wrap64 (t559 - t558)) (!t618)) = some r := H
               have H' := Az_ H
               clear H
               go_wp2_with (first | (go_at_call 64; (with_reducible refine (impl_IsBinding.calls kj130 _ _ t561 true _ ?side1 ?side2 A252.out).mono ?_); (case side1 => exact ucz_ ((Kd.R_reads' HO_37.out).2.2)); (case side2 => exact (Kd.R_reads' HO_37.out).2.1); rintro e w256 ⟨rfl, hb⟩; replace HO_33 := Az_ (Kd.V_below (by (with_reducible repeat (first | apply Kd.V_alloc | apply Kd.V_drewN | apply Kd.V_drew)); exact HO_33.out) hb); replace HO_37 := Az_ (Kd.R_below (by exact urz_ HO_37.out) hb); replace HO_43 := Az_ (Kd.R_below (by exact urz_ HO_43.out) hb); replace HO_58 := Az_ (Kd.R_below (by exact urz_ HO_58.out) hb); replace HO_65 := Az_ (Kd.R_below (by exact urz_ HO_65.out) hb); replace HO616 := Az_ (Kd.R_below (by exact urz_ HO616.out) hb); replace HB := Az_ (btz_ (ubz_ HB.out) hb); (try clear hb); obtain ⟨Ao257, co257, eo257⟩ := Kd.R_slice HO616.out; subst eo257) | (go_at_call 44; (with_reducible refine (laws_fSame.calls kj130 _ _ t613 _ _ t555 t618 _ ?side1 ?side2 ?side3 ?side4 A255.out).mono ?_); (case side1 => exact ucz_ ((Kd.R_reads' HO616.out).2.2)); (case side2 => exact (Kd.R_reads' HO616.out).2.1); (case side3 => exact ucz_ ((Kd.V_reads' HO_33.out).2.2)); (case side4 => exact (Kd.V_reads' HO_33.out).2.1); rintro e w' ⟨rfl, ⟨nd, rfl⟩⟩; (try first | exact ⟨rfl, _, World.drewN_drewN _ _ _⟩ | exact ⟨rfl, _, Eq.trans (World.drewN_drewN _ _ _) (congrArg (World.drewN _) (Nat.add_assoc _ _ _))⟩)))
               go_meet
               case rel => exact ⟨_, (!t618), qaz_, H', ⟨by have := HJ11.out; have := HJ42.out; have := HJ130.out; first | omega | exact Nat.le_refl _⟩, ⟨by (with_reducible repeat (first | apply Kd.V_alloc | apply Kd.V_drewN | apply Kd.V_drew)); exact Kd.V_mono HO_33.out (fun _ hk => ⟨hk.1.1, ⟨hk.1.2.1, ⟨hk.1.2.2.1, hk.1.2.2.2⟩⟩⟩)⟩, ⟨by (with_reducible repeat (first | apply raz_ | apply rnz_ | apply rdz_)); exact Kd.R_mono HO_37.out (fun _ hk => ⟨hk.1.1, ⟨hk.1.2.1, hk.1.2.2⟩⟩)⟩, ⟨by (with_reducible repeat (first | apply raz_ | apply rnz_ | apply rdz_)); exact Kd.R_mono HO_43.out (fun _ hk => ⟨hk.1.1, ⟨hk.1.2.1, hk.1.2.2⟩⟩)⟩, ⟨by (with_reducible repeat (first | apply raz_ | apply rnz_ | apply rdz_)); exact Kd.R_mono HO_58.out (fun _ hk => ⟨hk.1.1, ⟨hk.1.2.1, hk.1.2.2⟩⟩)⟩, ⟨by (with_reducible repeat (first | apply raz_ | apply rnz_ | apply rdz_)); exact Kd.R_mono HO_65.out (fun _ hk => ⟨hk.1.1, ⟨hk.1.2.1, hk.1.2.2⟩⟩)⟩, ⟨by exact ubz_ HB.out⟩⟩
              ·replace c254 := Bool.eq_false_iff.mpr c254
               subst c254
               have H1 : (j8 kj130 t555 t558 t560 t561 t570 t571 t572 t583 t586 t589 t590 t591 t592 t600 t601 t602 (wrap64 (t559 - t558)) true) = some r := by rw [if_neg (show ¬ (false = true) by decide)] at H; exact H
               clear H
               have H := H1
               exact (laws_FnBindingsRead.j8_no _ _ _ _ _ _ _ _ _ _ _ _ _ _ _ _ _ _ _ hrT H).elim
             ·replace c253 := Bool.eq_false_iff.mpr c253
              subst c253
              have H1 : (j8 kj130 t555 t558 t560 t561 t570 t571 t572 t583 t586 t589 t590 t591 t592 t600 t601 t602 (wrap64 (t559 - t558)) true) = some r := by rw [if_neg (show ¬ (false = true) by decide)] at H; exact H
              clear H
              have H := H1
              exact (laws_FnBindingsRead.j8_no _ _ _ _ _ _ _ _ _ _ _ _ _ _ _ _ _ _ _ hrT H).elim
            case rest => as_aux_lemma =>
             clear HC249
             obtain ⟨kq, x500_248, rfl, HA, HJ248, HO_33, HO_37, HO_43, HO_58, HO_65, HB⟩ := hcut
             cases kq with
             | zero => exact absurd HA.out (by simp [j8])
             | succ kj248 =>
              have H := HA.out
              clear HA
              simp only [j8] at H
              by_cases c260 : x500_248 = true
              ·subst c260
               rw [if_pos rfl] at H
               exact absurd ((Option.some.inj H).trans hrT) (by decide)
              ·replace c260 := Bool.eq_false_iff.mpr c260
               subst c260
               rw [if_neg nfz_] at H
               have H' := Az_ H
               clear H
               go_wp2
               go_loopg [72] kj248 (fun kq v72 w' => ∃ (x72_5 : Int), v72 = .int .i64 x72_5 ∧ Aside0 (laws_FnBindingsRead.l1 kq t555 t558 t560 t561 t570 t571 t572 t583 t586 t589 t590 t591 t592 t600 t601 t602 (wrap64 (t559 - t558)) x72_5 = some r) ∧ Aside0 (kq ≤ kj248) ∧ Aside0 (Kd.V (Kd.int .i64) 3 w' w.heap.size (fun k_ => some k_ ≠ ((.slice Ao250 t561.length co250) : Value).ownBlock ∧ some k_ ≠ (v573 : Value).ownBlock ∧ some k_ ≠ (v593 : Value).ownBlock ∧ some k_ ≠ (v603 : Value).ownBlock) (.slice Ao133 t555.length co133) t555) ∧ Aside0 (Kd.R (Kd.int .i64) 3 w' w.heap.size (fun k_ => some k_ ≠ (v573 : Value).ownBlock ∧ some k_ ≠ (v593 : Value).ownBlock ∧ some k_ ≠ (v603 : Value).ownBlock) (.slice Ao250 t561.length co250) t561) ∧ Aside0 (Kd.R (Kd.int .i64) 3 w' w.heap.size (fun k_ => some k_ ≠ ((.slice Ao250 t561.length co250) : Value).ownBlock ∧ some k_ ≠ (v593 : Value).ownBlock ∧ some k_ ≠ (v603 : Value).ownBlock) v573 t571) ∧ Aside0 (Kd.R (Kd.int .i64) 3 w' w.heap.size (fun k_ => some k_ ≠ ((.slice Ao250 t561.length co250) : Value).ownBlock ∧ some k_ ≠ (v573 : Value).ownBlock ∧ some k_ ≠ (v603 : Value).ownBlock) v593 t590) ∧ Aside0 (Kd.R (Kd.int .i64) 3 w' w.heap.size (fun k_ => some k_ ≠ ((.slice Ao250 t561.length co250) : Value).ownBlock ∧ some k_ ≠ (v573 : Value).ownBlock ∧ some k_ ≠ (v593 : Value).ownBlock) v603 t601) ∧ Aside0 (Below w.heap.size w w'))
               case atStart => exact ⟨(0), qaz_, H', ⟨Nat.le_refl _⟩, ⟨by (with_reducible repeat (first | apply Kd.V_alloc | apply Kd.V_drewN | apply Kd.V_drew)); exact HO_33.out⟩, ⟨by (with_reducible repeat (first | apply raz_ | apply rnz_ | apply rdz_)); exact HO_37.out⟩, ⟨by (with_reducible repeat (first | apply raz_ | apply rnz_ | apply rdz_)); exact HO_43.out⟩, ⟨by (with_reducible repeat (first | apply raz_ | apply rnz_ | apply rdz_)); exact HO_58.out⟩, ⟨by (with_reducible repeat (first | apply raz_ | apply rnz_ | apply rdz_)); exact HO_65.out⟩, ⟨by exact ubz_ HB.out⟩⟩
               case round =>
                clear H'
                obtain ⟨x72_5, rfl, HA, HK5, HO_33, HO_37, HO_43, HO_58, HO_65, HB⟩ := hrel
                cases gk with
                | zero => exact absurd HA.out (by simp [laws_FnBindingsRead.l1])
                | succ k5 =>
                 have H := HA.out
                 clear HA
                 simp only [laws_FnBindingsRead.l1] at H
                 by_cases c261 : x72_5 ≤ (wrap64 (t559 - t558))
                 ·rw [if_pos c261] at H
                  have c261b0 := decide_eq_true c261
                  clear c261
                  obtain ⟨ji262, hji262⟩ : ∃ j_ : Int, (wrap64 (t560 + x72_5)) = j_ := ⟨_, rfl⟩
                  replace H : (if 0 ≤ (ji262) then (if (ji262) < (t561.length : Int) then (if 0 ≤ (wrap64 (t558 + x72_5)) then (if (wrap64 (t558 + x72_5)) < (t555.length : Int) then (if (rd t561 (ji262)) = (rd t555 (wrap64 (t558 + x72_5))) then (laws_FnBindingsRead.l1 k5 t555 t558 t560 t561 t570 t571 t572 t583 t586 t589 t590 t591 t592 t600 t601 t602 (wrap64 (t559 - t558)) (wrap64 (x72_5 + 1))) else (some false)) else (none)) else (none)) else (none)) else (none)) = some r := by first | (rw [hji262] at H; exact H) | (simp only [hji262] at H ⊢; exact H)
                  have hji262w : (IntKind.i64.wrap (t560 + x72_5)) = ji262 := (i64_w _).trans hji262
                  by_cases c263 : 0 ≤ (ji262)
                  ·rw [if_pos c263] at H
                   have c263b0 := decide_eq_true c263
                   clear c263
                   by_cases c264 : (ji262) < (t561.length : Int)
                   ·rw [if_pos c264] at H
                    have c264b0 := decide_eq_true c264
                    clear c264
                    obtain ⟨ji265, hji265⟩ : ∃ j_ : Int, (wrap64 (t558 + x72_5)) = j_ := ⟨_, rfl⟩
                    replace H : (if 0 ≤ (ji265) then (if (ji265) < (t555.length : Int) then (if (rd t561 (ji262)) = (rd t555 (ji265)) then (laws_FnBindingsRead.l1 k5 t555 t558 t560 t561 t570 t571 t572 t583 t586 t589 t590 t591 t592 t600 t601 t602 (wrap64 (t559 - t558)) (wrap64 (x72_5 + 1))) else (some false)) else (none)) else (none)) = some r := by first | (rw [hji265] at H; exact H) | (simp only [hji265] at H ⊢; exact H)
                    have hji265w : (IntKind.i64.wrap (t558 + x72_5)) = ji265 := (i64_w _).trans hji265
                    by_cases c266 : 0 ≤ (ji265)
                    ·rw [if_pos c266] at H
                     have c266b0 := decide_eq_true c266
                     clear c266
                     by_cases c267 : (ji265) < (t555.length : Int)
                     ·rw [if_pos c267] at H
                      have c267b0 := decide_eq_true c267
                      clear c267
                      by_cases c268 : (rd t561 (ji262)) = (rd t555 (ji265))
                      ·rw [if_pos c268] at H
                       have c268b0 : ((rd t561 (ji262)) == (rd t555 (ji265))) = true := beq_iff_eq.mpr c268
                       have c268b1 : ((rd t561 (ji262)) != (rd t555 (ji265))) = false := bne_eq_false_iff_eq.mpr c268
                       clear c268
                       have H' := Az_ H
                       clear H
                       have p619 : 0 ≤ ((ji262) : Int) := of_decide_eq_true asz_
                       have q619 : (ji262) < (t561.length : Int) := of_decide_eq_true asz_
                       obtain ⟨ad619, e619, hx619_0⟩ := Kd.at_int (Kd.R_reads' HO_37.out).2.2 (ji262) p619 q619
                       cases e619
                       replace p619 := eq_true p619
                       replace q619 := eq_true q619
                       have p620 : 0 ≤ ((ji265) : Int) := of_decide_eq_true asz_
                       have q620 : (ji265) < (t555.length : Int) := of_decide_eq_true asz_
                       obtain ⟨ad620, e620, hx620_0⟩ := Kd.at_int (Kd.V_reads' HO_33.out).2.2 (ji265) p620 q620
                       cases e620
                       replace p620 := eq_true p620
                       replace q620 := eq_true q620
                       go_wp2
                       repeat (go_quiet (fail); try go_wp2)
                       go_roundg k5
                       case measure => have := HJ11.out; have := HJ42.out; have := HJ130.out; have := HJ248.out; have := HK5.out; omega
                       case rel => exact ⟨(wrap64 (x72_5 + 1)), qaz_, H', ⟨by have := HJ11.out; have := HJ42.out; have := HJ130.out; have := HJ248.out; have := HK5.out; omega⟩, ⟨by (with_reducible repeat (first | apply Kd.V_alloc | apply Kd.V_drewN | apply Kd.V_drew)); exact HO_33.out⟩, ⟨by (with_reducible repeat (first | apply raz_ | apply rnz_ | apply rdz_)); exact HO_37.out⟩, ⟨by (with_reducible repeat (first | apply raz_ | apply rnz_ | apply rdz_)); exact HO_43.out⟩, ⟨by (with_reducible repeat (first | apply raz_ | apply rnz_ | apply rdz_)); exact HO_58.out⟩, ⟨by (with_reducible repeat (first | apply raz_ | apply rnz_ | apply rdz_)); exact HO_65.out⟩, ⟨by exact ubz_ HB.out⟩⟩
                      ·rw [if_neg c268] at H
                       have c268b0 : ((rd t561 (ji262)) == (rd t555 (ji265))) = false := beq_eq_false_iff_ne.mpr c268
                       have c268b1 : ((rd t561 (ji262)) != (rd t555 (ji265))) = true := bne_iff_ne.mpr c268
                       exact absurd ((Option.some.inj H).trans hrT) (by decide)
                     ·rw [if_neg c267] at H
                      exact absurd H (by simp)
                    ·rw [if_neg c266] at H
                     exact absurd H (by simp)
                   ·rw [if_neg c264] at H
                    exact absurd H (by simp)
                  ·rw [if_neg c263] at H
                   exact absurd H (by simp)
                 ·rw [if_neg c261] at H
                  have c261b0 := decide_eq_false c261
                  clear c261
                  have H' := Az_ H
                  clear H
                  go_wp2
                  go_meet
                  case rel => exact ⟨_, H', ⟨by have := HJ11.out; have := HJ42.out; have := HJ130.out; have := HJ248.out; have := HK5.out; first | omega | exact Nat.le_refl _⟩, ⟨by (with_reducible repeat (first | apply raz_ | apply rnz_ | apply rdz_)); exact Kd.R_mono HO_43.out (fun _ hk => ⟨hk.2.1, hk.2.2⟩)⟩, ⟨by (with_reducible repeat (first | apply raz_ | apply rnz_ | apply rdz_)); exact Kd.R_mono HO_58.out (fun _ hk => ⟨hk.2.1, hk.2.2⟩)⟩, ⟨by (with_reducible repeat (first | apply raz_ | apply rnz_ | apply rdz_)); exact Kd.R_mono HO_65.out (fun _ hk => ⟨hk.2.1, hk.2.2⟩)⟩, ⟨by exact ubz_ HB.out⟩⟩
           ·replace c247 := Bool.eq_false_iff.mpr c247
            subst c247
            rw [if_neg nfz_] at H
            have H' := Az_ H
            clear H
            go_wp2
            go_meet
            case rel => exact ⟨_, H', ⟨by have := HJ11.out; have := HJ42.out; have := HJ130.out; first | omega | exact Nat.le_refl _⟩, ⟨by (with_reducible repeat (first | apply raz_ | apply rnz_ | apply rdz_)); exact Kd.R_mono HO_43.out (fun _ hk => ⟨hk.2.1, hk.2.2⟩)⟩, ⟨by (with_reducible repeat (first | apply raz_ | apply rnz_ | apply rdz_)); exact Kd.R_mono HO_58.out (fun _ hk => ⟨hk.2.1, hk.2.2⟩)⟩, ⟨by (with_reducible repeat (first | apply raz_ | apply rnz_ | apply rdz_)); exact Kd.R_mono HO_65.out (fun _ hk => ⟨hk.2.1, hk.2.2⟩)⟩, ⟨by exact ubz_ HB.out⟩⟩
          case rest => as_aux_lemma =>
           clear HC246
           obtain ⟨kq, HA, HJ245, HO_43, HO_58, HO_65, HB⟩ := hcut
           cases kq with
           | zero => exact absurd HA.out (by simp [j10])
           | succ kj245 =>
            have H := HA.out
            clear HA
            simp only [j10] at H
            have HC269 := Az_ H
            clear H
            go_upto_if 519 with (fail)
            go_cut [] from 1 to 0 (fun wc => ∃ (kq : Nat), Aside0 (j11 kq t583 t586 t589 t590 t591 t592 t600 t601 t602 = some r) ∧ Aside0 (kq ≤ kj245) ∧ Aside0 (Kd.R (Kd.int .i64) 3 wc w.heap.size (fun k_ => some k_ ≠ (v603 : Value).ownBlock) v593 t590) ∧ Aside0 (Kd.R (Kd.int .i64) 3 wc w.heap.size (fun k_ => some k_ ≠ (v593 : Value).ownBlock) v603 t601) ∧ Aside0 (Below w.heap.size w wc))
            case first => as_aux_lemma =>
             have H := HC269.out
             clear HC269
             by_cases c270 : t572 = true
             ·subst c270
              rw [if_pos rfl] at H
              replace H := bqz_ H; obtain ⟨⟨t621, t622⟩, A271, H⟩ := H
              replace H : (if t622 = true then (if t621 = t570 then (j11 kj245 t583 t586 t589 t590 t591 t592 t600 t601 t602) else (some false)) else (some false)) = some r := H
              by_cases c272 : t622 = true
              ·subst c272
               rw [if_pos rfl] at H
               by_cases c273 : t621 = t570
               ·rw [if_pos c273] at H
                subst c273
                have H' := Az_ H
                clear H
                obtain ⟨Ao274, co274, eo274⟩ := Kd.R_slice HO_43.out
                subst eo274
                go_wp2_with (first | (go_at_call 65; (with_reducible refine (impl_RankOfBinding.calls kj245 _ _ t571 t621 true _ ?side1 ?side2 A271.out).mono ?_); (case side1 => exact ucz_ ((Kd.R_reads' HO_43.out).2.2)); (case side2 => exact (Kd.R_reads' HO_43.out).2.1); rintro e w275 ⟨rfl, hb⟩; replace HO_43 := Az_ (Kd.R_below (by exact urz_ HO_43.out) hb); replace HO_58 := Az_ (Kd.R_below (by exact urz_ HO_58.out) hb); replace HO_65 := Az_ (Kd.R_below (by exact urz_ HO_65.out) hb); replace HB := Az_ (btz_ (ubz_ HB.out) hb); (try clear hb)))
                go_meet
                case rel => exact ⟨_, H', ⟨by have := HJ11.out; have := HJ42.out; have := HJ130.out; have := HJ245.out; first | omega | exact Nat.le_refl _⟩, ⟨by (with_reducible repeat (first | apply raz_ | apply rnz_ | apply rdz_)); exact Kd.R_mono HO_58.out (fun _ hk => hk.2)⟩, ⟨by (with_reducible repeat (first | apply raz_ | apply rnz_ | apply rdz_)); exact Kd.R_mono HO_65.out (fun _ hk => hk.2)⟩, ⟨by exact ubz_ HB.out⟩⟩
               ·rw [if_neg c273] at H
                have c273b0 : (t621 == t570) = false := beq_eq_false_iff_ne.mpr c273
                have c273b1 : (t621 != t570) = true := bne_iff_ne.mpr c273
                (first | rw [c273b0] | (simp only [i64_w, i32_w]; rw [c273b0]) | skip)
                exact absurd ((Option.some.inj H).trans hrT) (by decide)
              ·replace c272 := Bool.eq_false_iff.mpr c272
               subst c272
               rw [if_neg nfz_] at H
               exact absurd ((Option.some.inj H).trans hrT) (by decide)
             ·replace c270 := Bool.eq_false_iff.mpr c270
              subst c270
              rw [if_neg nfz_] at H
              have H' := Az_ H
              clear H
              go_wp2
              go_meet
              case rel => exact ⟨_, H', ⟨by have := HJ11.out; have := HJ42.out; have := HJ130.out; have := HJ245.out; first | omega | exact Nat.le_refl _⟩, ⟨by (with_reducible repeat (first | apply raz_ | apply rnz_ | apply rdz_)); exact Kd.R_mono HO_58.out (fun _ hk => hk.2)⟩, ⟨by (with_reducible repeat (first | apply raz_ | apply rnz_ | apply rdz_)); exact Kd.R_mono HO_65.out (fun _ hk => hk.2)⟩, ⟨by exact ubz_ HB.out⟩⟩
            case rest => as_aux_lemma =>
             clear HC269
             obtain ⟨kq, HA, HJ268, HO_58, HO_65, HB⟩ := hcut
             cases kq with
             | zero => exact absurd HA.out (by simp [j11])
             | succ kj268 =>
              have H := HA.out
              clear HA
              simp only [j11] at H
              have HC280 := Az_ H
              clear H
              go_upto_region 71 with (fail)
              go_cut [536] from 1 to 0 (fun v536 wc => ∃ (kq : Nat) (x536_279 : Bool), v536 = .bool x536_279 ∧ Aside0 (j12 kq t583 t589 t590 t591 t592 t600 t601 t602 x536_279 = some r) ∧ Aside0 (kq ≤ kj268) ∧ Aside0 (Kd.R (Kd.int .i64) 3 wc w.heap.size (fun k_ => some k_ ≠ (v603 : Value).ownBlock) v593 t590) ∧ Aside0 (Kd.R (Kd.int .i64) 3 wc w.heap.size (fun k_ => some k_ ≠ (v593 : Value).ownBlock) v603 t601) ∧ Aside0 (Below w.heap.size w wc))
              case first => as_aux_lemma =>
               have H := HC280.out
               clear HC280
               by_cases c281 : t586 = true
               ·subst c281
                rw [if_pos rfl] at H
                have H' := Az_ H
                clear H
                go_wp2
                go_meet
                case rel => exact ⟨_, (decide (t583 ≤ 3)), qaz_, H', ⟨by have := HJ11.out; have := HJ42.out; have := HJ130.out; have := HJ245.out; have := HJ268.out; first | omega | exact Nat.le_refl _⟩, ⟨by (with_reducible repeat (first | apply raz_ | apply rnz_ | apply rdz_)); exact HO_58.out⟩, ⟨by (with_reducible repeat (first | apply raz_ | apply rnz_ | apply rdz_)); exact HO_65.out⟩, ⟨by exact ubz_ HB.out⟩⟩
               ·replace c281 := Bool.eq_false_iff.mpr c281
                subst c281
                rw [if_neg nfz_] at H
                have H' := Az_ H
                clear H
                go_wp2
                go_meet
                case rel => exact ⟨_, (false), qaz_, H', ⟨by have := HJ11.out; have := HJ42.out; have := HJ130.out; have := HJ245.out; have := HJ268.out; first | omega | exact Nat.le_refl _⟩, ⟨by (with_reducible repeat (first | apply raz_ | apply rnz_ | apply rdz_)); exact HO_58.out⟩, ⟨by (with_reducible repeat (first | apply raz_ | apply rnz_ | apply rdz_)); exact HO_65.out⟩, ⟨by exact ubz_ HB.out⟩⟩
              case rest => as_aux_lemma =>
               clear HC280
               obtain ⟨kq, x536_279, rfl, HA, HJ279, HO_58, HO_65, HB⟩ := hcut
               cases kq with
               | zero => exact absurd HA.out (by simp [j12])
               | succ kj279 =>
                have H := HA.out
                clear HA
                simp only [j12] at H
                have HC282 := Az_ H
                clear H
                go_upto_if 536 with (fail)
                go_cut [] from 1 to 0 (fun wc => ∃ (kq : Nat), Aside0 (j14 kq t589 t590 t591 t592 t600 t601 t602 = some r) ∧ Aside0 (kq ≤ kj279) ∧ Aside0 (Kd.R (Kd.int .i64) 3 wc w.heap.size (fun k_ => some k_ ≠ (v603 : Value).ownBlock) v593 t590) ∧ Aside0 (Kd.R (Kd.int .i64) 3 wc w.heap.size (fun k_ => some k_ ≠ (v593 : Value).ownBlock) v603 t601) ∧ Aside0 (Below w.heap.size w wc))
                case first => as_aux_lemma =>
                 have H := HC282.out
                 clear HC282
                 by_cases c283 : x536_279 = true
                 ·subst c283
                  rw [if_pos rfl] at H
                  replace H := bqz_ H; obtain ⟨⟨t623, t624⟩, A284, H⟩ := H
                  replace H : (laws_FnBindingsRead.l2 kj279 t583 t589 t590 t591 t592 t600 t601 t602 0 t623 t624 0) = some r := H
                  have H' := Az_ H
                  clear H
                  go_wp2_with (first | (go_at_call 54; (with_reducible refine (impl_CountBindings.calls kj279 t583 t623 t624 _ A284.out).mono ?_); rintro e w' ⟨rfl, ⟨nd, rfl⟩⟩; (try first | exact ⟨rfl, _, World.drewN_drewN _ _ _⟩ | exact ⟨rfl, _, Eq.trans (World.drewN_drewN _ _ _) (congrArg (World.drewN _) (Nat.add_assoc _ _ _))⟩)))
                  go_loopg [75, 78] kj279 (fun kq v75 v78 w' => ∃ (x75_7 : Int) (x78_7 : Int), v75 = .int .i64 x75_7 ∧ v78 = .int .i64 x78_7 ∧ Aside0 (laws_FnBindingsRead.l2 kq t583 t589 t590 t591 t592 t600 t601 t602 x75_7 t623 t624 x78_7 = some r) ∧ Aside0 (kq ≤ kj279) ∧ Aside0 (Kd.R (Kd.int .i64) 3 w' w.heap.size (fun k_ => some k_ ≠ (v603 : Value).ownBlock) v593 t590) ∧ Aside0 (Kd.R (Kd.int .i64) 3 w' w.heap.size (fun k_ => some k_ ≠ (v593 : Value).ownBlock) v603 t601) ∧ Aside0 (Below w.heap.size w w'))
                  case atStart => exact ⟨(0), (0), qaz_, qaz_, H', ⟨Nat.le_refl _⟩, ⟨by (with_reducible repeat (first | apply raz_ | apply rnz_ | apply rdz_)); exact HO_58.out⟩, ⟨by (with_reducible repeat (first | apply raz_ | apply rnz_ | apply rdz_)); exact HO_65.out⟩, ⟨by exact ubz_ HB.out⟩⟩
                  case round =>
                   clear H'
                   obtain ⟨x75_7, x78_7, rfl, rfl, HA, HK7, HO_58, HO_65, HB⟩ := hrel
                   cases gk with
                   | zero => exact absurd HA.out (by simp [laws_FnBindingsRead.l2])
                   | succ k7 =>
                    have H := HA.out
                    clear HA
                    simp only [laws_FnBindingsRead.l2] at H
                    by_cases c285 : x78_7 ≤ (wrap64 (t583 + 1))
                    ·rw [if_pos c285] at H
                     have c285b0 := decide_eq_true c285
                     clear c285
                     (first | rw [c285b0] | (simp only [i64_w, i32_w]; rw [c285b0]) | skip)
                     replace H := bqz_ H; obtain ⟨⟨t625, t626⟩, A286, H⟩ := H
                     replace H : (if t626 = true then (if t625 < 0 then (some false) else (if x78_7 = 0 then (if t625 = 1 then (laws_FnBindingsRead.l2 k7 t583 t589 t590 t591 t592 t600 t601 t602 (wrap64 (x75_7 + t625)) t623 t624 (wrap64 (x78_7 + 1))) else (some false)) else (laws_FnBindingsRead.l2 k7 t583 t589 t590 t591 t592 t600 t601 t602 (wrap64 (x75_7 + t625)) t623 t624 (wrap64 (x78_7 + 1))))) else (some false)) = some r := H
                     by_cases c287 : t626 = true
                     ·subst c287
                      rw [if_pos rfl] at H
                      by_cases c288 : t625 < 0
                      ·rw [if_pos c288] at H
                       have c288b0 := decide_eq_true c288
                       clear c288
                       exact absurd ((Option.some.inj H).trans hrT) (by decide)
                      ·rw [if_neg c288] at H
                       have c288b0 := decide_eq_false c288
                       clear c288
                       by_cases c290 : x78_7 = 0
                       ·rw [if_pos c290] at H
                        have c290b0 : (x78_7 == 0) = true := beq_iff_eq.mpr c290
                        have c290b1 : (x78_7 != 0) = false := bne_eq_false_iff_eq.mpr c290
                        clear c290
                        by_cases c291 : t625 = 1
                        ·rw [if_pos c291] at H
                         have c291b0 : (t625 == 1) = true := beq_iff_eq.mpr c291
                         have c291b1 : (t625 != 1) = false := bne_eq_false_iff_eq.mpr c291
                         clear c291
                         have H' := Az_ H
                         clear H
                         go_wp2_with (first | (go_at_call 57; (with_reducible refine (impl_CountByTurns.calls k7 t583 x78_7 t625 true _ A286.out).mono ?_); rintro e w292 ⟨rfl, hb⟩; replace HO_58 := Az_ (Kd.R_below (by exact urz_ HO_58.out) hb); replace HO_65 := Az_ (Kd.R_below (by exact urz_ HO_65.out) hb); replace HB := Az_ (btz_ (ubz_ HB.out) hb); (try clear hb)))
                         go_roundg k7
                         case measure => have := HJ11.out; have := HJ42.out; have := HJ130.out; have := HJ245.out; have := HJ268.out; have := HJ279.out; have := HK7.out; omega
                         case rel => exact ⟨(wrap64 (x75_7 + t625)), (wrap64 (x78_7 + 1)), qaz_, qaz_, H', ⟨by have := HJ11.out; have := HJ42.out; have := HJ130.out; have := HJ245.out; have := HJ268.out; have := HJ279.out; have := HK7.out; omega⟩, ⟨by (with_reducible repeat (first | apply raz_ | apply rnz_ | apply rdz_)); exact HO_58.out⟩, ⟨by (with_reducible repeat (first | apply raz_ | apply rnz_ | apply rdz_)); exact HO_65.out⟩, ⟨by exact ubz_ HB.out⟩⟩
                        ·rw [if_neg c291] at H
                         have c291b0 : (t625 == 1) = false := beq_eq_false_iff_ne.mpr c291
                         have c291b1 : (t625 != 1) = true := bne_iff_ne.mpr c291
                         exact absurd ((Option.some.inj H).trans hrT) (by decide)
                       ·rw [if_neg c290] at H
                        have c290b0 : (x78_7 == 0) = false := beq_eq_false_iff_ne.mpr c290
                        have c290b1 : (x78_7 != 0) = true := bne_iff_ne.mpr c290
                        have H' := Az_ H
                        clear H
                        go_wp2_with (first | (go_at_call 57; (with_reducible refine (impl_CountByTurns.calls k7 t583 x78_7 t625 true _ A286.out).mono ?_); rintro e w294 ⟨rfl, hb⟩; replace HO_58 := Az_ (Kd.R_below (by exact urz_ HO_58.out) hb); replace HO_65 := Az_ (Kd.R_below (by exact urz_ HO_65.out) hb); replace HB := Az_ (btz_ (ubz_ HB.out) hb); (try clear hb)))
                        go_roundg k7
                        case measure => have := HJ11.out; have := HJ42.out; have := HJ130.out; have := HJ245.out; have := HJ268.out; have := HJ279.out; have := HK7.out; omega
                        case rel => exact ⟨(wrap64 (x75_7 + t625)), (wrap64 (x78_7 + 1)), qaz_, qaz_, H', ⟨by have := HJ11.out; have := HJ42.out; have := HJ130.out; have := HJ245.out; have := HJ268.out; have := HJ279.out; have := HK7.out; omega⟩, ⟨by (with_reducible repeat (first | apply raz_ | apply rnz_ | apply rdz_)); exact HO_58.out⟩, ⟨by (with_reducible repeat (first | apply raz_ | apply rnz_ | apply rdz_)); exact HO_65.out⟩, ⟨by exact ubz_ HB.out⟩⟩
                     ·replace c287 := Bool.eq_false_iff.mpr c287
                      subst c287
                      rw [if_neg nfz_] at H
                      exact absurd ((Option.some.inj H).trans hrT) (by decide)
                    ·rw [if_neg c285] at H
                     have c285b0 := decide_eq_false c285
                     clear c285
                     (first | rw [c285b0] | (simp only [i64_w, i32_w]; rw [c285b0]) | skip)
                     by_cases c296 : t624 = true
                     ·subst c296
                      rw [if_pos rfl] at H
                      by_cases c297 : x75_7 = t623
                      ·rw [if_pos c297] at H
                       have c297b0 : (x75_7 == t623) = true := beq_iff_eq.mpr c297
                       have c297b1 : (x75_7 != t623) = false := bne_eq_false_iff_eq.mpr c297
                       clear c297
                       have H' := Az_ H
                       clear H
                       go_wp2
                       go_meet
                       case rel => exact ⟨_, H', ⟨by have := HJ11.out; have := HJ42.out; have := HJ130.out; have := HJ245.out; have := HJ268.out; have := HJ279.out; have := HK7.out; first | omega | exact Nat.le_refl _⟩, ⟨by (with_reducible repeat (first | apply raz_ | apply rnz_ | apply rdz_)); exact HO_58.out⟩, ⟨by (with_reducible repeat (first | apply raz_ | apply rnz_ | apply rdz_)); exact HO_65.out⟩, ⟨by exact ubz_ HB.out⟩⟩
                      ·rw [if_neg c297] at H
                       have c297b0 : (x75_7 == t623) = false := beq_eq_false_iff_ne.mpr c297
                       have c297b1 : (x75_7 != t623) = true := bne_iff_ne.mpr c297
                       exact absurd ((Option.some.inj H).trans hrT) (by decide)
                     ·replace c296 := Bool.eq_false_iff.mpr c296
                      subst c296
                      rw [if_neg nfz_] at H
                      exact absurd ((Option.some.inj H).trans hrT) (by decide)
                 ·replace c283 := Bool.eq_false_iff.mpr c283
                  subst c283
                  rw [if_neg nfz_] at H
                  have H' := Az_ H
                  clear H
                  go_wp2
                  go_meet
                  case rel => exact ⟨_, H', ⟨by have := HJ11.out; have := HJ42.out; have := HJ130.out; have := HJ245.out; have := HJ268.out; have := HJ279.out; first | omega | exact Nat.le_refl _⟩, ⟨by (with_reducible repeat (first | apply raz_ | apply rnz_ | apply rdz_)); exact HO_58.out⟩, ⟨by (with_reducible repeat (first | apply raz_ | apply rnz_ | apply rdz_)); exact HO_65.out⟩, ⟨by exact ubz_ HB.out⟩⟩
                case rest => as_aux_lemma =>
                 clear HC282
                 obtain ⟨kq, HA, HJ281, HO_58, HO_65, HB⟩ := hcut
                 cases kq with
                 | zero => exact absurd HA.out (by simp [j14])
                 | succ kj281 =>
                  have H := HA.out
                  clear HA
                  simp only [j14] at H
                  by_cases c298 : t592 = true
                  ·subst c298
                   rw [if_pos rfl] at H
                   replace H := bqz_ H; obtain ⟨⟨t627, t628⟩, A299, H⟩ := H
                   replace H := bqz_ H; obtain ⟨⟨t629, t630⟩, A300, H⟩ := H
                   replace H := bqz_ H; obtain ⟨⟨t631, t632⟩, A301, H⟩ := H
                   replace H : (if (t590.length : Int) = t589 then (if t628 = true then (if t627 = t591 then (if t630 = true then (if t629 < 1 then (j15 kj281 t600 t601 t602 true) else (if t632 = true then (j15 kj281 t600 t601 t602 (t631 != 0)) else (j15 kj281 t600 t601 t602 true))) else (j15 kj281 t600 t601 t602 true)) else (j15 kj281 t600 t601 t602 true)) else (j15 kj281 t600 t601 t602 true)) else (j15 kj281 t600 t601 t602 true)) = some r := H
                   have HC302 := Az_ H
                   clear H
                   obtain ⟨Ao303, co303, eo303⟩ := Kd.R_slice HO_58.out
                   subst eo303
                   go_upto_region 87 with (first | (go_at_call 66; (with_reducible refine (impl_FewestTurns.calls kj281 _ _ t590 t627 t628 _ ?side1 ?side2 A299.out).mono ?_); (case side1 => exact ucz_ ((Kd.R_reads' HO_58.out).2.2)); (case side2 => exact (Kd.R_reads' HO_58.out).2.1); rintro e w304 ⟨rfl, hb⟩; replace HO_58 := Az_ (Kd.R_below (by exact urz_ HO_58.out) hb); replace HO_65 := Az_ (Kd.R_below (by exact urz_ HO_65.out) hb); replace HB := Az_ (btz_ (ubz_ HB.out) hb); (try clear hb)) | (go_at_call 57; (with_reducible refine (impl_CountByTurns.calls kj281 t589 t591 t629 t630 _ A300.out).mono ?_); rintro e w305 ⟨rfl, hb⟩; replace HO_58 := Az_ (Kd.R_below (by exact urz_ HO_58.out) hb); replace HO_65 := Az_ (Kd.R_below (by exact urz_ HO_65.out) hb); replace HB := Az_ (btz_ (ubz_ HB.out) hb); (try clear hb); clear A300) | (go_at_call 57; (with_reducible refine (impl_CountByTurns.calls kj281 t589 (wrap64 (t591 + 1)) t631 t632 _ A301.out).mono ?_); rintro e w306 ⟨rfl, hb⟩; replace HO_58 := Az_ (Kd.R_below (by exact urz_ HO_58.out) hb); replace HO_65 := Az_ (Kd.R_below (by exact urz_ HO_65.out) hb); replace HB := Az_ (btz_ (ubz_ HB.out) hb); (try clear hb)))
                   (try simp only [Act.put, List.setIfInBounds_toArray, List.set_cons_zero, List.set_cons_succ])
                   go_cut [625] from 1 to 0 (fun v625 wc => ∃ (kq : Nat) (x625_301 : Bool), v625 = .bool x625_301 ∧ Aside0 (j15 kq t600 t601 t602 x625_301 = some r) ∧ Aside0 (kq ≤ kj281) ∧ Aside0 (Kd.R (Kd.int .i64) 3 wc w.heap.size (fun _ => True) v603 t601) ∧ Aside0 (Below w.heap.size w wc))
                   case first => as_aux_lemma =>
                    have H := HC302.out
                    clear HC302
                    by_cases c307 : (t590.length : Int) = t589
                    ·rw [if_pos c307] at H
                     have c307b0 : ((t590.length : Int) == t589) = true := beq_iff_eq.mpr c307
                     have c307b1 : ((t590.length : Int) != t589) = false := bne_eq_false_iff_eq.mpr c307
                     clear c307
                     (first | rw [c307b0] | (simp only [i64_w, i32_w]; rw [c307b0]) | skip)
                     by_cases c308 : t628 = true
                     ·subst c308
                      rw [if_pos rfl] at H
                      by_cases c309 : t627 = t591
                      ·rw [if_pos c309] at H
                       subst c309
                       by_cases c310 : t630 = true
                       ·subst c310
                        rw [if_pos rfl] at H
                        by_cases c311 : t629 < 1
                        ·rw [if_pos c311] at H
                         exact (laws_FnBindingsRead.j15_no _ _ _ _ _ hrT H).elim
                        ·rw [if_neg c311] at H
                         have c311b0 := decide_eq_false c311
                         clear c311
                         by_cases c312 : t632 = true
                         ·subst c312
                          rw [if_pos rfl] at H
                          have H' := Az_ H
                          clear H
                          go_wp2
                          go_meet
                          case rel => exact ⟨_, ((t631 != 0)), qaz_, H', ⟨by have := HJ11.out; have := HJ42.out; have := HJ130.out; have := HJ245.out; have := HJ268.out; have := HJ279.out; have := HJ281.out; first | omega | exact Nat.le_refl _⟩, ⟨by (with_reducible repeat (first | apply raz_ | apply rnz_ | apply rdz_)); exact Kd.R_mono HO_65.out (fun _ hk => trivial)⟩, ⟨by exact ubz_ HB.out⟩⟩
                         ·replace c312 := Bool.eq_false_iff.mpr c312
                          subst c312
                          have H1 : (j15 kj281 t600 t601 t602 true) = some r := by rw [if_neg (show ¬ (false = true) by decide)] at H; exact H
                          clear H
                          have H := H1
                          exact (laws_FnBindingsRead.j15_no _ _ _ _ _ hrT H).elim
                       ·replace c310 := Bool.eq_false_iff.mpr c310
                        subst c310
                        have H1 : (j15 kj281 t600 t601 t602 true) = some r := by rw [if_neg (show ¬ (false = true) by decide)] at H; exact H
                        clear H
                        have H := H1
                        exact (laws_FnBindingsRead.j15_no _ _ _ _ _ hrT H).elim
                      ·rw [if_neg c309] at H
                       exact (laws_FnBindingsRead.j15_no _ _ _ _ _ hrT H).elim
                     ·replace c308 := Bool.eq_false_iff.mpr c308
                      subst c308
                      have H1 : (j15 kj281 t600 t601 t602 true) = some r := by rw [if_neg (show ¬ (false = true) by decide)] at H; exact H
                      clear H
                      have H := H1
                      exact (laws_FnBindingsRead.j15_no _ _ _ _ _ hrT H).elim
                    ·rw [if_neg c307] at H
                     exact (laws_FnBindingsRead.j15_no _ _ _ _ _ hrT H).elim
                   case rest => as_aux_lemma =>
                    clear HC302
                    obtain ⟨kq, x625_301, rfl, HA, HJ301, HO_65, HB⟩ := hcut
                    cases kq with
                    | zero => exact absurd HA.out (by simp [j15])
                    | succ kj301 =>
                     have H := HA.out
                     clear HA
                     simp only [j15] at H
                     by_cases c313 : x625_301 = true
                     ·subst c313
                      rw [if_pos rfl] at H
                      exact absurd ((Option.some.inj H).trans hrT) (by decide)
                     ·replace c313 := Bool.eq_false_iff.mpr c313
                      subst c313
                      rw [if_neg nfz_] at H
                      by_cases c314 : t602 = true
                      ·subst c314
                       rw [if_pos rfl] at H
                       replace H := bqz_ H; obtain ⟨⟨t633, t634⟩, A315, H⟩ := H
                       replace H : (if t634 = true then (some (t633.toList == t600.toList)) else (some false)) = some r := H
                       by_cases c316 : t634 = true
                       ·subst c316
                        rw [if_pos rfl] at H
                        obtain rfl := Option.some.inj H; clear hrT
                        obtain ⟨Ao317, co317, eo317⟩ := Kd.R_slice HO_65.out
                        subst eo317
                        go_wp2_with (first | (go_at_call 40; (with_reducible refine (impl_BindingText.calls kj301 _ _ t601 t633 true _ (tabW_below HTAB.out (ubz_ HB.out)) ?side1 ?side2 A315.out).mono ?_); (case side1 => exact ucz_ ((Kd.R_reads' HO_65.out).2.2)); (case side2 => exact (Kd.R_reads' HO_65.out).2.1); rintro e w318 ⟨rfl, hb⟩; replace HO_65 := Az_ (Kd.R_below (by exact urz_ HO_65.out) hb); replace HB := Az_ (btz_ (ubz_ HB.out) hb); (try clear hb)))
                        go_ret
                        exact ⟨by first | rfl | (simp [errW_none, errW_some] <;> rfl) | (simp [*, errW_none, errW_some] <;> rfl), by exact ubz_ HB.out⟩
                       ·replace c316 := Bool.eq_false_iff.mpr c316
                        subst c316
                        rw [if_neg nfz_] at H
                        exact absurd ((Option.some.inj H).trans hrT) (by decide)
                      ·replace c314 := Bool.eq_false_iff.mpr c314
                       subst c314
                       rw [if_neg nfz_] at H
                       obtain rfl := Option.some.inj H; clear hrT
                       go_wp2
                       go_ret
                       exact ⟨by first | rfl | (simp [errW_none, errW_some] <;> rfl) | (simp [*, errW_none, errW_some] <;> rfl), by exact ubz_ HB.out⟩
                  ·replace c298 := Bool.eq_false_iff.mpr c298
                   subst c298
                   rw [if_neg nfz_] at H
                   by_cases c321 : t602 = true
                   ·subst c321
                    rw [if_pos rfl] at H
                    replace H := bqz_ H; obtain ⟨⟨t635, t636⟩, A322, H⟩ := H
                    replace H : (if t636 = true then (some (t635.toList == t600.toList)) else (some false)) = some r := H
                    by_cases c323 : t636 = true
                    ·subst c323
                     rw [if_pos rfl] at H
                     obtain rfl := Option.some.inj H; clear hrT
                     obtain ⟨Ao324, co324, eo324⟩ := Kd.R_slice HO_65.out
                     subst eo324
                     go_wp2_with (first | (go_at_call 40; (with_reducible refine (impl_BindingText.calls kj281 _ _ t601 t635 true _ (tabW_below HTAB.out (ubz_ HB.out)) ?side1 ?side2 A322.out).mono ?_); (case side1 => exact ucz_ ((Kd.R_reads' HO_65.out).2.2)); (case side2 => exact (Kd.R_reads' HO_65.out).2.1); rintro e w325 ⟨rfl, hb⟩; replace HO_58 := Az_ (Kd.R_below (by exact urz_ HO_58.out) hb); replace HO_65 := Az_ (Kd.R_below (by exact urz_ HO_65.out) hb); replace HB := Az_ (btz_ (ubz_ HB.out) hb); (try clear hb)))
                     go_ret
                     exact ⟨by first | rfl | (simp [errW_none, errW_some] <;> rfl) | (simp [*, errW_none, errW_some] <;> rfl), by exact ubz_ HB.out⟩
                    ·replace c323 := Bool.eq_false_iff.mpr c323
                     subst c323
                     rw [if_neg nfz_] at H
                     exact absurd ((Option.some.inj H).trans hrT) (by decide)
                   ·replace c321 := Bool.eq_false_iff.mpr c321
                    subst c321
                    rw [if_neg nfz_] at H
                    obtain rfl := Option.some.inj H; clear hrT
                    go_wp2
                    go_ret
                    exact ⟨by first | rfl | (simp [errW_none, errW_some] <;> rfl) | (simp [*, errW_none, errW_some] <;> rfl), by exact ubz_ HB.out⟩
end Go.Proofs.YtppbpefehpbejaaDoor.P
end

section
namespace Go.Proofs.YtppbpefehpbejaaDoor.P
open Go.RowKit Go.Proofs.YtppbpefehpbejaaDoorW.PrintWords Go.Proofs.YtppbpefehpbejaaDoorW.PrintLast Go.Proofs.YtppbpefehpbejaaDoorW.PrintMore Go.Proofs.YtppbpefehpbejaaDoor.Base
set_option linter.unusedVariables false

/-- A row of bytes. -/
def Bytes (c : List Int) : Prop := ∀ x ∈ c, 0 ≤ x ∧ x ≤ 255
theorem Bytes.of {c : List Int} (h : ∀ x ∈ c, (Lit.int .u8 x).wf = true) : Bytes c := fun x hx => bounds_u8 (h x hx)
theorem Bytes.at {c : List Int} (h : Bytes c) (i : Int) : 0 ≤ rd c i ∧ rd c i ≤ 255 := by
  unfold rd
  rw [List.getD_eq_getElem?_getD]
  cases e : c[i.toNat]? with
  | none => exact ⟨by decide, by decide⟩
  | some x => exact h x (List.mem_of_getElem? e)
theorem wrap_u64 (n : Int) : IntKind.u64.wrap n = n % 18446744073709551616 := by simp [IntKind.wrap, IntKind.bits, IntKind.signed]
theorem low8 (n : Int) : 0 ≤ wrap64 (Go.bits .and .u64 (IntKind.u64.wrap n / 1099511627776) 255) ∧ wrap64 (Go.bits .and .u64 (IntKind.u64.wrap n / 1099511627776) 255) ≤ 255 := by
  have hn := wrap_u64 n
  have e : Go.bits .and .u64 (IntKind.u64.wrap n / 1099511627776) 255 = (IntKind.u64.wrap n / 1099511627776) % 256 :=
    Go.bits_mask .u64 24 (by decide) (fun m h0 h1 => by rw [wrap_u64]; omega) 8 (by decide) _ (by omega) (by rw [hn]; omega)
  rw [e, w64 (by omega) (by omega)]
  omega
theorem next_ok {c : List Int} (hc : Bytes c) {a : Int} (s : Int) (h0 : 0 ≤ a) (h1 : a ≤ 1000000) :
    ∃ x s', spec_l1Cur_next.f c a s = some (x, a + 1, s') ∧ 0 ≤ x ∧ x ≤ 255 := by
  have hr := hc.at a
  have w1 : wrap64 (a + 1) = a + 1 := w64 (by omega) (by omega)
  have w2 : wrap64 (rd c a) = rd c a := w64 (by omega) (by omega)
  rw [spec_l1Cur_next.f, w1, w2]
  by_cases h : a < (c.length : Int)
  · rw [if_pos h, if_pos h0]
    by_cases h2 : a + 1 ≤ (c.length : Int)
    · rw [if_pos h2]
      exact ⟨_, _, rfl, hr.1, hr.2⟩
    · rw [if_neg h2]
      exact ⟨_, _, rfl, (low8 _).1, (low8 _).2⟩
  · rw [if_neg h]
    by_cases h2 : a + 1 ≤ (c.length : Int)
    · rw [if_pos h2]
      exact ⟨_, _, rfl, by decide, by decide⟩
    · rw [if_neg h2]
      exact ⟨_, _, rfl, (low8 _).1, (low8 _).2⟩
/-- A number below n (0, if n is at most 1). -/
theorem pick_ok {c : List Int} (hc : Bytes c) {a : Int} (s n : Int) (h0 : 0 ≤ a) (h1 : a ≤ 999990) (hn : n ≤ 1000000) :
    ∃ x a' s', spec_l1Cur_pick.f c a s n = some (x, a', s') ∧ 0 ≤ x ∧ (x < n ∨ x = 0) ∧ a ≤ a' ∧ a' ≤ a + 2 := by
  rw [spec_l1Cur_pick.f]
  by_cases hs : n ≤ 1
  · rw [if_pos hs]
    exact ⟨0, a, s, rfl, by decide, .inr rfl, by omega, by omega⟩
  · rw [if_neg hs]
    obtain ⟨x, s1, e1, hx0, hx1⟩ := next_ok hc s h0 (by omega)
    simp only [e1, Option.bind_some]
    by_cases hb : n > 200
    · rw [if_pos hb]
      obtain ⟨y, s2, e2, hy0, hy1⟩ := next_ok hc (a := a + 1) s1 (by omega) (by omega)
      simp only [e2, Option.bind_some]
      rw [if_neg (by omega), w64 (x := x * 256) (by omega) (by omega), w64 (x := x * 256 + y) (by omega) (by omega), Int.tmod_eq_emod_of_nonneg (by omega)]
      exact ⟨_, _, _, rfl, Int.emod_nonneg _ (by omega), .inl (Int.emod_lt_of_pos _ (by omega)), by omega, by omega⟩
    · rw [if_neg hb, if_neg (by omega), Int.tmod_eq_emod_of_nonneg (by omega)]
      exact ⟨_, _, _, rfl, Int.emod_nonneg _ (by omega), .inl (Int.emod_lt_of_pos _ (by omega)), by omega, by omega⟩
theorem one_ok {c : List Int} (hc : Bytes c) {a : Int} (s n : Int) (h0 : 0 ≤ a) (h1 : a ≤ 999990) (hn : n ≤ 1000000) :
    ∃ b a' s', spec_l1Cur_one.f c a s n = some (b, a', s') ∧ a ≤ a' ∧ a' ≤ a + 2 := by
  obtain ⟨x, a', s', e, _, _, h2, h3⟩ := pick_ok hc s n h0 h1 hn
  refine ⟨x == 0, a', s', ?_, h2, h3⟩
  rw [spec_l1Cur_one.f, e]
  rfl
end Go.Proofs.YtppbpefehpbejaaDoor.P
end

section
set_option linter.unusedVariables false
namespace Go.Proofs.YtppbpefehpbejaaDoor.Far
open Go.Proofs.YtppbpefehpbejaaDoor.Order

/-- All rows of so many of some numbers. -/
def rowsOf (vals : List Int) : Nat → List (List Int)
  | 0 => [[]]
  | n + 1 => vals.flatMap fun x => (rowsOf vals n).map (x :: ·)
theorem mem_rowsOf {vals : List Int} : ∀ (b : List Int), (∀ x ∈ b, x ∈ vals) → b ∈ rowsOf vals b.length
  | [], _ => List.mem_singleton.2 rfl
  | x :: b, h => List.mem_flatMap.2 ⟨x, h x (by simp), List.mem_map_of_mem (mem_rowsOf b fun y hy => h y (by simp [hy]))⟩
def vals : Nat → List Int
  | 1 => [-1, 1]
  | 2 => [-2, -1, 1, 2]
  | 3 => [-3, -2, -1, 1, 2, 3]
  | 4 => [-4, -3, -2, -1, 1, 2, 3, 4]
  | _ => []
theorem mem_vals {n : Nat} (h1 : 1 ≤ n) (h4 : n ≤ 4) {x : Int} (h0 : x ≠ 0) (hl : -(n : Int) ≤ x) (hh : x ≤ n) : x ∈ vals n := by
  rcases (by omega : n = 1 ∨ n = 2 ∨ n = 3 ∨ n = 4) with rfl | rfl | rfl | rfl <;> simp only [vals, List.mem_cons, List.not_mem_nil, or_false] <;> omega
def bds (n : Nat) : List (List Int) := (rowsOf (vals n) n).filter bindS
theorem mem_bds {n : Nat} {b : List Int} (h : Bd n b) (h1 : 1 ≤ n) (h4 : n ≤ 4) : b ∈ bds n := by
  refine List.mem_filter.2 ⟨?_, bind_of_bd h h1 (by omega)⟩
  have := mem_rowsOf (vals := vals n) b (fun x hx => mem_vals h1 h4 (h.2.1 x hx).1 (h.2.1 x hx).2.1 (h.2.1 x hx).2.2)
  rwa [h.1] at this
def eight : List Int := [8, 7, 6, 5, 4, 3, 2, -1]
def smallB : List (List Int) := bds 1 ++ (bds 2 ++ (bds 3 ++ bds 4))
def allB : List (List Int) := eight :: smallB
theorem mem_small {n : Nat} {b : List Int} (h : Bd n b) (h1 : 1 ≤ n) (h4 : n ≤ 4) : b ∈ smallB := by
  have := mem_bds h h1 h4
  unfold smallB
  simp only [List.mem_append]
  rcases (by omega : n = 1 ∨ n = 2 ∨ n = 3 ∨ n = 4) with rfl | rfl | rfl | rfl
  · exact .inl this
  · exact .inr (.inl this)
  · exact .inr (.inr (.inl this))
  · exact .inr (.inr (.inr this))
theorem mem_all {n : Nat} {b : List Int} (h : Bd n b) (h1 : 1 ≤ n) (h4 : n ≤ 4) : b ∈ allB := List.mem_cons_of_mem _ (mem_small h h1 h4)

/-- Where a binding stands in the table. -/
def code (n : Nat) (b : List Int) : Nat := b.foldl (fun (c : Nat) (x : Int) => c * (2 * n) + (if x < 0 then (x + (n : Int)).toNat else (x + (n : Int) - 1).toNat)) 0
def levT : Nat → Nat
  | 1 => 1
  | 2 => 14293670043784
  | 3 => 29370604716896671799853310229675754987611713879311519356287964433158373780401510493170533345663632114863510393416287307892938035343489019096208155050955925693896296721930563168423628505088
  | 4 => 865746240591973810399683657986418207690799920664914055383308631824656173894090695454246999900753062144282414997439117131307675824796827081515267396929583220763091334102995434130859031094753213349273992153433402410110560419875103867035976390339673085633680573578303655482732471245202078280763307792805932510914845100318135246839685231727121835165919806431381816738795346162132186173640255752888048809936720851212636778609152415719240279513576137352229289492449575815794642962606820022660752562293823556869642474791631303927364074071180014215547624526325690180497362284137263050765223977794375770025033177209680460646772874714603235575735317350112771150988656816807808225074682120667191986567196385766436915802297418312134023800418555466160729488595853806640631712648554644580853844826615770602107881317794024743155846793937184323135711097748445066038222043626089365905162052927833462214854152423701964783757860842714407287961432140438153044869685023713274579397365873774550658876753764715877443901924610474900324222209567381686741234149212590120712257806284805385377057237868833728894725040275282477140981096414613102222930071972905336090128233587682641133204365746705796441031141182948650443370932886494487005327430787806093412614379670589530156684721221541762094831766679144630897751631015896404390427730634933671494630350980111108558079534356600880527432422122786807341128146005088075089741450920365813003644836889163506696476703351926238303986118095517457708108183284969819540148280827977916967737269444698498838001756551013889578395459934657322683926140651790246284695673797850090350653457146580063969941716486723069290688502224943897533121523670338067567157938528554224439183163056495639524086504918674669870977723059341682211514795008674152353597616898535696970552098957951365661339287028247859415195479697429469853801937865770241104331374925004330317985176641135079079045534935534604219356161062799875538123963829640321684570639272346398891504711068352802296025061953077085926426264461599359777420883188637802135091011870059275463704953870771562282653346474599038596619503567659631321082068897197630414682071851351063878675966805529850738274697521184928476090677563299595565894558759626055663924595790576538333572467495739505029612490926960802186620634060353057491093882923298631418772310203899959456032679727381661654029334888896904938988035476574073603996775344774900499327549345808215800433306207556379896519615271663350780738016878619136204469773458546125135632214693669868392918236437703248786797459329458916703632608035494042374588583978206956891707805553266654541366222950939688850589010399022532637244965533998589227206342634912302985971211639362803546598913923294598897230127653224046116978336918658649417166862735564217258447359544138945087830129011526412799914643897424901631860790490082069105357284500575872122660467851287034191975720166336559252478484870546498658072588160847779371601887029497705102537809831437906049744383591930220769999419862287571165699036625339922935840175354825989100309738377078491483657694116998842013367091354145677684733344771662172550331868342646513363462280141836479596537577333775546973573217688901193700288216362869140971186225799418250879530910953043942616734051593577146215263204053119753883071261941782132632271278360842642178468298434132671875070777874696531719562425831457938047006809905471315179554773052616387923971009387557173849916887184481278237761828603427867227471597987477304522652210675444710100158626452405121253607953007884524904825048877098347513975492016453294309419341018153705403965632172064377217005638690915938336349574185577602944320236208298062249984
  | _ => 0
def lev (n : Nat) (b : List Int) : Nat := (levT n >>> (3 * code n b)) % 8
def levOk (n : Nat) (b : List Int) : Bool := decide (lev n b ≤ n + 1) && (if lev n b = 0 then b == right n else (pairs n).any fun p => decide (lev n (turn b p.1 p.2) < lev n b))
set_option maxRecDepth 100000 in
theorem lev_all1 : (bds 1).all (levOk 1) = true := by decide +kernel
set_option maxRecDepth 100000 in
theorem lev_all2 : (bds 2).all (levOk 2) = true := by decide +kernel
set_option maxRecDepth 100000 in
theorem lev_all3 : (bds 3).all (levOk 3) = true := by decide +kernel
set_option maxRecDepth 100000 in
theorem lev_all4 : (bds 4).all (levOk 4) = true := by decide +kernel
theorem lev_ok {n : Nat} {b : List Int} (h : Bd n b) (h1 : 1 ≤ n) (h4 : n ≤ 4) : levOk n b = true := by
  have hm := mem_bds h h1 h4
  rcases (by omega : n = 1 ∨ n = 2 ∨ n = 3 ∨ n = 4) with rfl | rfl | rfl | rfl
  · exact List.all_eq_true.1 lev_all1 b hm
  · exact List.all_eq_true.1 lev_all2 b hm
  · exact List.all_eq_true.1 lev_all3 b hm
  · exact List.all_eq_true.1 lev_all4 b hm
theorem dist_lev {n : Nat} (h1 : 1 ≤ n) (h4 : n ≤ 4) : ∀ (L : Nat) (b : List Int) (v : Int), Bd n b → lev n b ≤ L → (distO n).lookup b = some v → v ≤ (lev n b : Int) := by
  have hD := (dist_all n).1
  intro L
  induction L with
  | zero =>
    intro b v hb hl hv
    have hk := lev_ok hb h1 h4
    rw [levOk, Bool.and_eq_true, if_pos (by omega), beq_iff_eq] at hk
    rw [hk.2, hD.zero] at hv
    have := Option.some.inj hv
    omega
  | succ L ih =>
    intro b v hb hl hv
    have hk := lev_ok hb h1 h4
    rw [levOk, Bool.and_eq_true] at hk
    by_cases h0 : lev n b = 0
    · exact ih b v hb (by omega) hv
    · rw [if_neg h0, List.any_eq_true] at hk
      obtain ⟨_, p, hp, hlt⟩ := hk
      have hp := mem_pairs.1 hp
      have hlt := of_decide_eq_true hlt
      have hb2 := turn_bd hb hp.1 hp.2
      obtain ⟨u, hu, _⟩ := hD.all _ hb2
      have i1 := ih _ u hb2 (by omega) hu
      have i2 := hD.near _ u p.1 p.2 v hu hp.1 hp.2 (by rw [turn_turn hp.1 (by rw [hb.1]; exact hp.2)]; exact hv)
      omega
/-- No binding of at most four leaves needs more turns than leaves and one. -/
theorem dist_few {n : Nat} (h1 : 1 ≤ n) (h4 : n ≤ 4) {b : List Int} {v : Int} (hb : Bd n b) (hv : (distO n).lookup b = some v) : v ≤ (n : Int) + 1 := by
  have a := dist_lev h1 h4 _ b v hb (Nat.le_refl _) hv
  have hk := lev_ok hb h1 h4
  rw [levOk, Bool.and_eq_true] at hk
  have := of_decide_eq_true hk.1
  omega
end Go.Proofs.YtppbpefehpbejaaDoor.Far
end

section
namespace Go.Proofs.YtppbpefehpbejaaDoor.P
open Go.RowKit Go.Proofs.YtppbpefehpbejaaDoorW.PrintWords Go.Proofs.YtppbpefehpbejaaDoorW.PrintLast Go.Proofs.YtppbpefehpbejaaDoorW.PrintMore Go.Proofs.YtppbpefehpbejaaDoor.Base Go.Proofs.YtppbpefehpbejaaDoor.Order Go.Proofs.YtppbpefehpbejaaDoor.Far
set_option linter.unusedVariables false

/-- The binding of a rank is one. -/
def ofOk (n : Nat) : Bool := (List.range (allOf n)).all fun r => match spec_biOf.f 120 (n : Int) (r : Int) with
  | some b => bindS b && decide (b.length = n)
  | none => false
set_option maxRecDepth 100000 in
theorem of_all : ([1, 2, 3, 4].all ofOk) = true := by decide +kernel
theorem biOf_small {n r : Nat} (h1 : 1 ≤ n) (h4 : n ≤ 4) (hr : r < allOf n) : ∃ b, Ev (fun k => spec_biOf.f k (n : Int) (r : Int)) b ∧ Bd n b := by
  have h := of_all
  have hn : ofOk n = true := List.all_eq_true.1 h n (by
    rcases (by omega : n = 1 ∨ n = 2 ∨ n = 3 ∨ n = 4) with rfl | rfl | rfl | rfl <;> decide)
  have hx := List.all_eq_true.1 hn r (List.mem_range.2 hr)
  cases e : spec_biOf.f 120 (n : Int) (r : Int) with
  | none => rw [e] at hx; cases hx
  | some b =>
    rw [e] at hx
    simp only [Bool.and_eq_true, decide_eq_true_eq] at hx
    refine ⟨b, Ev.of (fun k => spec_biOf.mono _ _ k) e, ?_⟩
    have := ((bd_iff b).1 hx.1).1
    rwa [hx.2] at this
/-- A list that may be drawn as a binding. -/
def Drawn (b : List Int) : Prop := b.length ≤ 9 ∧ (bindS b = true → b ∈ allB)
theorem sure_ok {c : List Int} (hc : Bytes c) {a : Int} (s : Int) (h0 : 0 ≤ a) (h1 : a ≤ 999980) :
    ∃ b a' s', Ev (fun k => spec_l1Cur_sureBinding.f k c a s 4) (b, a', s') ∧ (∃ n : Nat, Bd n b ∧ 1 ≤ n ∧ n ≤ 4) ∧ a ≤ a' ∧ a' ≤ a + 6 := by
  obtain ⟨x, a1, s1, e1, hx0, hx1, g1, g2⟩ := pick_ok hc s 4 h0 (by omega) (by decide)
  obtain ⟨y, a2, s2, e2, hy0, hy1, g3, g4⟩ := pick_ok hc (a := a1) s1 251 (by omega) (by omega) (by decide)
  obtain ⟨z, a3, s3, e3, hz0, hz1, g5, g6⟩ := pick_ok hc (a := a2) s2 251 (by omega) (by omega) (by decide)
  obtain ⟨m, rfl⟩ := Int.eq_ofNat_of_zero_le hx0
  obtain ⟨y, rfl⟩ := Int.eq_ofNat_of_zero_le hy0
  obtain ⟨z, rfl⟩ := Int.eq_ofNat_of_zero_le hz0
  have w1 : wrap64 (1 + (m : Int)) = ((m + 1 : Nat) : Int) := by rw [w64 (by omega) (by omega)]; omega
  have hyz : y * z ≤ 250 * 250 := Nat.mul_le_mul (by omega) (by omega)
  have w2 : wrap64 ((y : Int) * (z : Int)) = ((y * z : Nat) : Int) := by rw [← Int.natCast_mul, w64 (by omega) (by omega)]
  have hp := allOf_pos (m + 1)
  have ht : Int.tmod ((y * z : Nat) : Int) ((allOf (m + 1) : Nat) : Int) = ((y * z % allOf (m + 1) : Nat) : Int) := rfl
  obtain ⟨b, hb, hbd⟩ := biOf_small (n := m + 1) (r := y * z % allOf (m + 1)) (by omega) (by omega) (Nat.mod_lt _ hp)
  refine ⟨b, a3, s3, ?_, ⟨m + 1, hbd, by omega, by omega⟩, by omega, by omega⟩
  simp only [spec_l1Cur_sureBinding.f, e1, e2, e3, Option.bind_some, w1, w2]
  refine Ev_bind (biAll_ev (m + 1) (by omega)) (Ev_neg (by omega) ?_)
  rw [ht]
  exact Ev_bind hb (Ev.now _)
theorem binding_ok {c : List Int} (hc : Bytes c) {a : Int} (s : Int) (h0 : 0 ≤ a) (h1 : a ≤ 999970) :
    ∃ b a' s', Ev (fun k => spec_l1Cur_binding.f k c a s) (b, a', s') ∧ Drawn b ∧ a ≤ a' ∧ a' ≤ a + 10 := by
  obtain ⟨o, a1, s1, e1, g1, g2⟩ := one_ok hc s 12 h0 (by omega) (by decide)
  cases o with
  | true =>
    obtain ⟨x, a2, s2, e2, hx0, hx1, g3, g4⟩ := pick_ok hc (a := a1) s1 8 (by omega) (by omega) (by decide)
    obtain ⟨x, rfl⟩ := Int.eq_ofNat_of_zero_le hx0
    have hd : ∀ l ∈ [([] : List Int), [0], [2], [1, 1], [1, -1], [-9223372036854775808], [1, 2, 3, 4, 5, 6, 7, 8, 9], [8, 7, 6, 5, 4, 3, 2, -1]], Drawn l := by
      intro l hl
      simp only [List.mem_cons, List.not_mem_nil, or_false] at hl
      rcases hl with rfl | rfl | rfl | rfl | rfl | rfl | rfl | rfl
      · exact ⟨by decide, fun h => absurd h (by decide)⟩
      · exact ⟨by decide, fun h => absurd h (by decide)⟩
      · exact ⟨by decide, fun h => absurd h (by decide)⟩
      · exact ⟨by decide, fun h => absurd h (by decide)⟩
      · exact ⟨by decide, fun h => absurd h (by decide)⟩
      · exact ⟨by decide, fun h => absurd h (by decide)⟩
      · exact ⟨by decide, fun h => absurd h (by decide)⟩
      · exact ⟨by decide, fun _ => List.mem_cons_self⟩
    refine ⟨_, a2, s2, ?_, hd (rd_L2 [([] : List Int), [0], [2], [1, 1], [1, -1], [-9223372036854775808], [1, 2, 3, 4, 5, 6, 7, 8, 9], [8, 7, 6, 5, 4, 3, 2, -1]] (x : Int)) ?_, by omega, by omega⟩
    · simp only [spec_l1Cur_binding.f, e1, e2, Option.bind_some]
      refine Ev_pos trivial (Ev_pos (by omega) (Ev_pos ?_ (Ev.now _)))
      show (x : Int) < 8
      omega
    · unfold rd_L2
      rw [Int.toNat_natCast, List.getD_eq_getElem?_getD, List.getElem?_eq_getElem (show x < 8 by omega)]
      exact List.getElem_mem _
  | false =>
    obtain ⟨b, a2, s2, hb, ⟨n, hbd, h1n, h4n⟩, g3, g4⟩ := sure_ok hc (a := a1) s1 (by omega) (by omega)
    refine ⟨b, a2, s2, ?_, ⟨by rw [hbd.1]; omega, fun _ => mem_all hbd h1n h4n⟩, by omega, by omega⟩
    simp only [spec_l1Cur_binding.f, e1, Option.bind_some]
    exact Ev_neg (by decide) (Ev_bind hb (Ev.now _))
end Go.Proofs.YtppbpefehpbejaaDoor.P
end

section
namespace Go.Proofs.YtppbpefehpbejaaDoor.P
open Go.RowKit Go.Proofs.YtppbpefehpbejaaDoorW.PrintWords Go.Proofs.YtppbpefehpbejaaDoorW.PrintLast Go.Proofs.YtppbpefehpbejaaDoorW.PrintMore Go.Proofs.YtppbpefehpbejaaDoor.Base Go.Proofs.YtppbpefehpbejaaDoor.Order Go.Proofs.YtppbpefehpbejaaDoor.Far
set_option linter.unusedVariables false

def leafOk (b P : List Int) (i : Nat) : Bool :=
  decide ((0 < b.getD i 0 → P.getD (2 * i) 0 = 2 * b.getD i 0 - 1 ∧ P.getD (2 * i + 1) 0 = 2 * b.getD i 0) ∧ (b.getD i 0 < 0 → P.getD (2 * i) 0 = -2 * b.getD i 0 ∧ P.getD (2 * i + 1) 0 = -2 * b.getD i 0 - 1) ∧ b.getD i 0 ≠ 0 ∧ -8 ≤ b.getD i 0 ∧ b.getD i 0 ≤ 8) &&
  ((impl_OpenAt.f 200 b (i : Int) == some (P.getD (2 * i + 1) 0, if i + 1 < b.length then P.getD (2 * i + 2) 0 else 0, true)) && (impl_PlaceOfLeaf.f 200 b (if b.getD i 0 < 0 then -(b.getD i 0) else b.getD i 0) == some ((i : Int), decide (b.getD i 0 < 0), true)))
def finP (b : List Int) : Bool := match impl_PagesRead.f 200 b, spec_PagesRead.f 200 b, impl_CountTurned.f 200 b, spec_CountTurned.f 200 b with
  | some (P, true), some (P', true), some (t, true), some (t', true) => decide (P' = P ∧ t' = t ∧ t = ((b.countP (fun x => decide (x < 0)) : Nat) : Int) ∧ P.length = 2 * b.length) && (List.range b.length).all (leafOk b P)
  | _, _, _, _ => false
set_option maxRecDepth 100000 in
theorem finP_all : allB.all finP = true := by decide +kernel
structure FinP (b P : List Int) (t : Int) : Prop where
  ip : impl_PagesRead.f 200 b = some (P, true)
  sp : spec_PagesRead.f 200 b = some (P, true)
  it : impl_CountTurned.f 200 b = some (t, true)
  st : spec_CountTurned.f 200 b = some (t, true)
  tt : t = ((b.countP (fun x => decide (x < 0)) : Nat) : Int)
  ln : P.length = 2 * b.length
  at_ : ∀ i, i < b.length → leafOk b P i = true
theorem finP_of {b : List Int} (h : b ∈ allB) : ∃ P t, FinP b P t := by
  have hf := List.all_eq_true.1 finP_all b h
  unfold finP at hf
  split at hf
  · rename_i P P' t t' e1 e2 e3 e4
    rw [Bool.and_eq_true, decide_eq_true_eq] at hf
    obtain ⟨⟨rfl, rfl, h1, h2⟩, h3⟩ := hf
    exact ⟨_, _, e1, e2, e3, e4, h1, h2, fun i hi => List.all_eq_true.1 h3 i (List.mem_range.2 hi)⟩
  · cases hf
def cutGood (b : List Int) (f t a : Nat) : Bool := bindS (cutL b f t a) && (decide ((cutL b f t a).length = b.length ∧ cutL (cutL b f t a) a (a + (t - f)) f = b) && (List.range (t - f + 1)).all fun k => decide ((cutL b f t a).getD (a + k) 0 = b.getD (f + k) 0))
theorem cut_perm {b : List Int} {f t a : Nat} (hf : f ≤ t) (ht : t < b.length) : (cutL b f t a).Perm b := by
  unfold cutL
  have e : b = b.take f ++ ((b.take (t + 1)).drop f ++ b.drop (t + 1)) := by
    have h1 : b.take (t + 1) = b.take f ++ (b.take (t + 1)).drop f := by
      have := List.take_append_drop f (b.take (t + 1))
      rw [List.take_take, Nat.min_eq_left (by omega)] at this
      exact this.symm
    rw [← List.append_assoc, ← h1, List.take_append_drop]
  have p1 : ((b.take f ++ b.drop (t + 1)).take a ++ (b.take (t + 1)).drop f ++ (b.take f ++ b.drop (t + 1)).drop a).Perm ((b.take (t + 1)).drop f ++ ((b.take f ++ b.drop (t + 1)).take a ++ (b.take f ++ b.drop (t + 1)).drop a)) := by
    rw [← List.append_assoc]
    exact List.Perm.append_right _ List.perm_append_comm
  rw [List.take_append_drop] at p1
  refine p1.trans ?_
  have p2 : ((b.take (t + 1)).drop f ++ (b.take f ++ b.drop (t + 1))).Perm (b.take f ++ ((b.take (t + 1)).drop f ++ b.drop (t + 1))) := by
    rw [← List.append_assoc, ← List.append_assoc]
    exact List.Perm.append_right _ List.perm_append_comm
  refine p2.trans ?_
  rw [← e]
theorem bind_perm {b c : List Int} (h : c.Perm b) (hb : bindS b = true) : bindS c = true := by
  obtain ⟨hbd, h1, h8⟩ := (bd_iff b).1 hb
  have hl := h.length_eq
  refine (bd_iff c).2 ⟨⟨rfl, fun x hx => ?_, ?_⟩, by omega, by omega⟩
  · have := hbd.2.1 x (h.mem_iff.1 hx)
    rw [hl]
    exact this
  · exact ((h.map leaf).nodup_iff).2 hbd.2.2
theorem cut_ok {b : List Int} (hb : bindS b = true) {f t a : Nat} (hf : f ≤ t) (ht : t < b.length) (ha : a < b.length - (t - f)) : cutGood b f t a = true := by
  have hp := cut_perm (a := a) hf ht
  have hl := hp.length_eq
  have l1 : (b.take f ++ b.drop (t + 1)).length = b.length - (t + 1 - f) := by simp only [List.length_append, List.length_take, List.length_drop]; omega
  have l2 : ((b.take f ++ b.drop (t + 1)).take a).length = a := by rw [List.length_take, l1]; omega
  have l3 : ((b.take (t + 1)).drop f).length = t + 1 - f := by rw [List.length_drop, List.length_take]; omega
  have l4 : (b.take f).length = f := by rw [List.length_take]; omega
  have h1 : b.take (t + 1) = b.take f ++ (b.take (t + 1)).drop f := by
    have := List.take_append_drop f (b.take (t + 1))
    rw [List.take_take, Nat.min_eq_left (by omega)] at this
    exact this.symm
  have hrest : ∀ (r m : List Int), (r.take a).length = a → m.length = t + 1 - f → (r.take a ++ m ++ r.drop a).take a ++ (r.take a ++ m ++ r.drop a).drop (a + (t - f) + 1) = r := by
    intro r m hr hm
    rw [List.append_assoc, List.take_left' hr, ← List.append_assoc, List.drop_left' (by rw [List.length_append]; omega), List.take_append_drop]
  have hmid : ∀ (r m : List Int), (r.take a).length = a → m.length = t + 1 - f → ((r.take a ++ m ++ r.drop a).take (a + (t - f) + 1)).drop a = m := by
    intro r m hr hm
    rw [List.take_left' (by rw [List.length_append]; omega), List.drop_left' hr]
  unfold cutGood
  rw [Bool.and_eq_true, Bool.and_eq_true, decide_eq_true_eq, List.all_eq_true]
  refine ⟨bind_perm hp hb, ⟨hl, ?_⟩, fun k hk => ?_⟩
  · unfold cutL
    rw [hrest _ _ l2 l3, hmid _ _ l2 l3, List.take_left' l4, List.drop_left' l4, ← h1, List.take_append_drop]
  · rw [List.mem_range] at hk
    refine decide_eq_true ?_
    unfold cutL
    rw [List.getD_eq_getElem?_getD, List.getD_eq_getElem?_getD, List.append_assoc, List.getElem?_append_right (by omega), l2, List.getElem?_append_left (by omega), List.getElem?_drop, List.getElem?_take, if_pos (by omega), show f + (a + k - a) = f + k by omega]
def finK (l r : Int) : Bool := match impl_BindingOfRank.f 400 l r, spec_BindingOfRank.f 400 l r, impl_CountBindings.f 400 l, spec_CountBindings.f 400 l with
  | some (m, s), some (m', s'), some (a, n), some (a', n') => decide (m' = m ∧ s' = s ∧ a' = a ∧ n' = n ∧ s = (n && (decide (r ≥ 0) && decide (r < a))) ∧ m.length ≤ 8) && (!s || (impl_RankOfBinding.f 400 m == some (r, true)))
  | _, _, _, _ => false
def leavesL : List Int := [1, 2, 3, 4, 5, 8, 9, 0]
def ranksL : List Int := [0, 1, 2, 5, 7, 8, 47, 48, 383, 1000, (-1), 4611686018427387904]
set_option maxRecDepth 100000 in
theorem finK_all : (leavesL.all fun l => ranksL.all fun r => finK l r) = true := by decide +kernel
structure FinK (l r : Int) (m : List Int) (s : Bool) (a : Int) (n : Bool) : Prop where
  im : impl_BindingOfRank.f 400 l r = some (m, s)
  sm : spec_BindingOfRank.f 400 l r = some (m, s)
  ic : impl_CountBindings.f 400 l = some (a, n)
  sc : spec_CountBindings.f 400 l = some (a, n)
  ss : s = (n && (decide (r ≥ 0) && decide (r < a)))
  ml : m.length ≤ 8
  rk : s = true → impl_RankOfBinding.f 400 m = some (r, true)
theorem finK_of {l r : Int} (hl : l ∈ leavesL) (hr : r ∈ ranksL) : ∃ m s a n, FinK l r m s a n := by
  have hf := List.all_eq_true.1 (List.all_eq_true.1 finK_all l hl) r hr
  unfold finK at hf
  split at hf
  · rename_i m s m' s' a n a' n' e1 e2 e3 e4
    rw [Bool.and_eq_true, decide_eq_true_eq] at hf
    obtain ⟨⟨rfl, rfl, rfl, rfl, h1, h2⟩, h3⟩ := hf
    refine ⟨_, _, _, _, e1, e2, e3, e4, h1, h2, fun hs => ?_⟩
    rw [hs] at h3
    simpa using h3
  · cases hf
/-- How many bindings need just so many turns. -/
def cntO (n : Nat) (v : Int) : Nat := (distO n).countP (fun e => e.2 == v)
def finT3 (n : Nat) : Bool := decide (cntO n 0 = 1) && ((decide (((List.range (n + 2)).map fun (k : Nat) => cntO n (k : Int)).foldl (· + ·) 0 = allOf n)) && (impl_CountBindings.f 400 (n : Int) == some ((allOf n : Int), true)))
set_option maxRecDepth 100000 in
theorem finT3_all : ([1, 2, 3].all finT3) = true := by decide +kernel
end Go.Proofs.YtppbpefehpbejaaDoor.P
end

section
namespace Go.Proofs.YtppbpefehpbejaaDoor.P
open Go.RowKit Go.Proofs.YtppbpefehpbejaaDoorW.PrintWords Go.Proofs.YtppbpefehpbejaaDoorW.PrintLast Go.Proofs.YtppbpefehpbejaaDoorW.PrintMore Go.Proofs.YtppbpefehpbejaaDoor.Base Go.Proofs.YtppbpefehpbejaaDoor.Order Go.Proofs.YtppbpefehpbejaaDoor.Far
set_option linter.unusedVariables false

section
variable {n : Nat} (hn : n ≤ 8) {x48 : List (List Int)} {x50 : Nat} {q : List Int} {d : Nat} {i : Nat} {r : List Int}
include hn
/-- The turns of one, from a first and a last place on. -/
theorem far_l5 (hd : d ≤ 20000000) {f : Nat} (hf : f < n) (hnext : ∀ (o : Out) (X : List (List Int)), (∃ dn, G n o i dn) → o[i]? = some (q, (d : Int)) → X.length ≤ o.length →
      Ev (fun k => spec_biFar.l4 k (n : Int) (arrOf (allOf n) ((rowsFrom n (f + 1)).foldl (put q d) o)) ((d : Int) + 1) (X ++ newsAll q d (rowsFrom n (f + 1)) o) q (n : Int) x48 (x48.length : Int) (x50 : Int)) r →
      Ev (fun k => spec_biFar.l4 k (n : Int) (arrOf (allOf n) o) ((d : Int) + 1) X q ((f + 1 : Nat) : Int) x48 (x48.length : Int) (x50 : Int)) r) :
    ∀ (dt t : Nat) (o : Out) (X : List (List Int)), t + dt = n → f ≤ t → (∃ dn, G n o i dn) → o[i]? = some (q, (d : Int)) → X.length ≤ o.length →
      Ev (fun k => spec_biFar.l4 k (n : Int) (arrOf (allOf n) ((restOf n f t).foldl (put q d) o)) ((d : Int) + 1) (X ++ newsAll q d (restOf n f t) o) q (n : Int) x48 (x48.length : Int) (x50 : Int)) r →
      Ev (fun k => spec_biFar.l5 k (n : Int) (arrOf (allOf n) o) ((d : Int) + 1) X q (f : Int) (t : Int) x48 (x48.length : Int) (x50 : Int)) r := by
  have ha := allOf_le hn
  intro dt
  induction dt with
  | zero =>
    intro t o X ht hft hg hi hX hr
    obtain rfl : t = n := by omega
    rw [rest_end] at hr
    refine Ev_step (fun k => ?_) (hnext o X hg hi hX hr)
    rw [spec_biFar.l5, if_neg (by omega), nextI f (by omega)]
  | succ dt ih =>
    intro t o X ht hft hg hi hX hr
    obtain ⟨dn, g⟩ := hg
    have hq := g.bd _ (List.mem_of_getElem? hi)
    have hb := turn_bd hq hft (by omega : t < n)
    have hlo := g.few
    rw [rest_cons (by omega), List.foldl_cons, newsAll, ← List.append_assoc] at hr
    have hi' : (put q d o (f, t))[i]? = some (q, (d : Int)) := by
      obtain ⟨s, hs⟩ := put_more q d o (f, t)
      rw [hs, List.getElem?_append_left (List.getElem?_eq_some_iff.1 hi).1]
      exact hi
    have hX' : (X ++ news q o (f, t)).length ≤ (put q d o (f, t)).length := by rw [put_news, List.length_append, List.length_append, List.length_map]; omega
    have hnx := ih (t + 1) (put q d o (f, t)) (X ++ news q o (f, t)) (by omega) (by omega) ⟨_, G.put g hi hft (by omega)⟩ hi' hX' hr
    have hrk := rank_lt hb
    have hat := arr_at hb o g.bd g.nd
    have hlen := arr_len (allOf n) o
    refine Ev_step (fun k => by rw [spec_biFar.l5, if_pos (by omega)]) ?_
    refine Ev_bind (biTurn_ev hq hn f t hft (by omega)) (Ev_bind (biRank_ev hb hn) (Ev_pos (by omega) (Ev_pos (by rw [hlen]; omega) ?_)))
    simp only [rd_nat, hat, nextI t (by omega)]
    cases hl : o.lookup (turn q f t) with
    | some v =>
      have hv := g.nn _ (lookup_mem hl)
      have e1 : put q d o (f, t) = o := by unfold put; rw [hl]; rfl
      have e2 : news q o (f, t) = [] := by unfold news; rw [hl]; rfl
      rw [e1, e2, List.append_nil] at hnx
      exact Ev_neg (by show ¬ v < 0; exact Int.not_lt.2 hv) hnx
    | none =>
      have e1 : put q d o (f, t) = o ++ [(turn q f t, (d : Int) + 1)] := by unfold put; rw [hl]; rfl
      have e2 : news q o (f, t) = [turn q f t] := by unfold news; rw [hl]; rfl
      rw [e1, e2, arrOf_snoc] at hnx
      exact Ev_pos (by decide) (Ev_pos (by omega) hnx)
theorem far_l4 (hd : d ≤ 20000000) :
    ∀ (df f : Nat) (o : Out) (X : List (List Int)), f + df = n → (∃ dn, G n o i dn) → o[i]? = some (q, (d : Int)) → X.length ≤ o.length →
      Ev (fun k => spec_biFar.l4 k (n : Int) (arrOf (allOf n) ((rowsFrom n f).foldl (put q d) o)) ((d : Int) + 1) (X ++ newsAll q d (rowsFrom n f) o) q (n : Int) x48 (x48.length : Int) (x50 : Int)) r →
      Ev (fun k => spec_biFar.l4 k (n : Int) (arrOf (allOf n) o) ((d : Int) + 1) X q (f : Int) x48 (x48.length : Int) (x50 : Int)) r := by
  intro df
  induction df with
  | zero =>
    intro f o X hf hg hi hX hr
    obtain rfl : f = n := by omega
    rw [rows_end, List.foldl_nil, newsAll, List.append_nil] at hr
    exact hr
  | succ df ih =>
    intro f o X hf hg hi hX hr
    refine Ev_step (fun k => by rw [spec_biFar.l4, if_pos (by omega)]) ?_
    rw [rows_rest (by omega)] at hr
    exact far_l5 hn hd (by omega) (fun o X hg hi hX hr => ih (f + 1) o X (by omega) hg hi hX hr) (n - f) f o X (by omega) (Nat.le_refl _) hg hi hX hr
end
/-- One row after the other. -/
theorem far_l3 {n : Nat} (hn : n ≤ 8) : ∀ (kk i : Nat) (o P : Out) (R X : List (List Int)) (d : Nat) (x48 : List (List Int)) (x50 : Nat), bfs n kk i o = some (distO n) → G n o i [] →
    o = P ++ (R.map (fun b => (b, (d : Int))) ++ X.map (fun b => (b, (d : Int) + 1))) → P.length = i → R = x48.drop x50 → x50 ≤ x48.length → x48.length ≤ o.length → x50 + d ≤ i → 0 < x48.length →
    Ev (fun k => spec_biFar.l3 k (n : Int) (arrOf (allOf n) o) ((d : Int) + 1) X x48 (x48.length : Int) (x50 : Int)) (arrOf (allOf n) (distO n)) := by
  have ha := allOf_le hn
  intro kk
  induction kk with
  | zero => intro i o P R X d x48 x50 h; cases h
  | succ kk ih =>
    -- a row that isn't at its end
    have one : ∀ (i : Nat) (o P : Out) (R X : List (List Int)) (d : Nat) (x48 : List (List Int)) (x50 : Nat), bfs n (kk + 1) i o = some (distO n) → G n o i [] →
        o = P ++ (R.map (fun b => (b, (d : Int))) ++ X.map (fun b => (b, (d : Int) + 1))) → P.length = i → R = x48.drop x50 → x50 < x48.length → x48.length ≤ o.length → x50 + d ≤ i →
        Ev (fun k => spec_biFar.l3 k (n : Int) (arrOf (allOf n) o) ((d : Int) + 1) X x48 (x48.length : Int) (x50 : Int)) (arrOf (allOf n) (distO n)) := by
      intro i o P R X d x48 x50 hb g ho hP hR hx hlen hd
      have hfew := g.few
      obtain ⟨q, R', rfl, hq, hR'⟩ : ∃ q R', R = q :: R' ∧ x48.getD x50 [] = q ∧ R' = x48.drop (x50 + 1) := by
        rw [List.drop_eq_getElem_cons hx] at hR
        exact ⟨_, _, hR, getD_at x48 [] hx, rfl⟩
      have hi : o[i]? = some (q, (d : Int)) := by
        rw [ho, List.getElem?_append_right (by omega), hP, Nat.sub_self]
        rfl
      have hil : i < o.length := (List.getElem?_eq_some_iff.1 hi).1
      rw [bfs, hi] at hb
      obtain ⟨g', s, hs⟩ := g.expand hi
      have hXl : X.length ≤ o.length := by rw [ho]; simp; omega
      have hlen' : x48.length ≤ (expand n (q, (d : Int)) o).length := by rw [hs, List.length_append]; omega
      have hnx := ih (i + 1) (expand n (q, (d : Int)) o) (P ++ [(q, (d : Int))]) R' (X ++ newsAll q d (pairs n) o) d x48 (x50 + 1) hb g' (by
        show (pairs n).foldl (put q (d : Int)) o = _
        rw [puts_news, ho]
        simp) (by rw [List.length_append, hP]; rfl) hR' (by omega) hlen' (by omega) (by omega)
      refine Ev_step (fun k => by rw [spec_biFar.l3, if_pos (by omega), if_pos (by omega), if_pos (by omega)]) ?_
      rw [show rd_L2 x48 (x50 : Int) = q from by unfold rd_L2; rw [Int.toNat_natCast]; exact hq]
      have e := far_l4 (x48 := x48) (x50 := x50) (r := arrOf (allOf n) (distO n)) hn (by omega : d ≤ 20000000) n 0 o X (by omega) ⟨[], g⟩ hi hXl
      refine e ?_
      rw [← pairs_rows]
      refine Ev_step (fun k => ?_) hnx
      rw [spec_biFar.l4, if_neg (by omega), w64 (x := (x50 : Int) + 1) (by omega) (by omega)]
      rfl
    intro i o P R X d x48 x50 hb g ho hP hR hx hlen hd h0
    rcases Nat.lt_or_ge x50 x48.length with h | h
    · exact one i o P R X d x48 x50 hb g ho hP hR h hlen hd
    · have hfew := g.few
      obtain rfl : R = [] := by rw [hR, List.drop_of_length_le h]
      refine Ev_step (fun k => by rw [spec_biFar.l3, if_neg (by omega)]) ?_
      cases X with
      | nil =>
        have hlo : o.length = i := by rw [ho, ← hP]; simp
        rw [bfs, List.getElem?_eq_none (by omega)] at hb
        refine Ev_step (fun k => by rw [spec_biFar.l2, if_neg (by simp)]) ?_
        rw [← Option.some.inj hb]
        exact Ev.now _
      | cons q X' =>
        have hXl : (q :: X').length ≤ o.length := by rw [ho]; simp
        have hil : i < o.length := by rw [ho, ← hP]; simp
        have e := one i o P (q :: X') [] (d + 1) (q :: X') 0 hb g (by
          rw [ho]
          simp) hP rfl (by simp) hXl (by
          omega)
        refine Ev_step (fun k => by rw [spec_biFar.l2, if_pos (by rw [List.length_cons]; omega), w64 (x := (d : Int) + 1 + 1) (by omega) (by omega)]) ?_
        exact e
theorem fill_l0 {n N : Nat} (hN : N ≤ 20000000) {r : List Int} (hr : Ev (fun k => spec_biFar.l1 k (n : Int) (List.replicate N (-1)) ([] : List Int) 1) r) : ∀ (d i : Nat), i + d = N → Ev (fun k => spec_biFar.l0 k (n : Int) (List.replicate i (-1) ++ List.replicate d 0) (N : Int) (i : Int)) r := by
  intro d
  induction d with
  | zero =>
    intro i hi
    obtain rfl : i = N := by omega
    refine Ev_step (fun k => by rw [spec_biFar.l0, if_neg (by omega)]) ?_
    simp only [List.replicate_zero, List.append_nil]
    exact hr
  | succ d ih =>
    intro i hi
    refine Ev_step (fun k => ?_) (ih (i + 1) (by omega))
    rw [spec_biFar.l0, if_pos (by omega), if_pos (by omega), if_pos (by simp; omega), w64 (x := (i : Int) + 1) (by omega) (by omega), Int.toNat_natCast, List.set_append_right _ _ (by simp), List.length_replicate, Nat.sub_self, List.replicate_succ, List.set_cons_zero, List.replicate_succ', List.append_assoc]
    rfl
theorem far_l1 {n : Nat} (hn : n ≤ 8) (h1 : 1 ≤ n) : ∀ (d i : Nat), i + d = n → Ev (fun k => spec_biFar.l1 k (n : Int) (List.replicate (allOf n) (-1)) (right i) ((i : Int) + 1)) (arrOf (allOf n) (distO n)) := by
  have ha := allOf_le hn
  intro d
  induction d with
  | zero =>
    intro i hi
    obtain rfl : i = n := by omega
    have hb := right_bd i
    have hr := rank_lt hb
    have hs := arrOf_snoc (allOf i) [] (right i, 0)
    have e0 : arrOf (allOf i) [] = List.replicate (allOf i) (-1) := rfl
    rw [e0] at hs
    refine Ev_step (fun k => by rw [spec_biFar.l1, if_neg (by omega)]) ?_
    refine Ev_bind (biRank_ev hb hn) (Ev_pos (by omega) (Ev_pos (by rw [List.length_replicate]; omega) ?_))
    have e := far_l3 hn (allOf i + 2) 0 [(right i, 0)] [] [right i] [] 0 [right i] 0 (dist_all i).2.2 (G.start i) rfl rfl rfl (Nat.zero_le _) (Nat.le_refl _) (Nat.le_refl _) Nat.zero_lt_one
    refine Ev_step (fun k => ?_) e
    rw [spec_biFar.l2, if_pos (by show (0 : Int) < 1; decide), Int.toNat_natCast]
    show spec_biFar.l3 k (i : Int) ((List.replicate (allOf i) (-1)).set (rank (right i)) 0) 1 [] [right i] _ 0 = _
    rw [← hs]
    rfl
  | succ d ih =>
    intro i hi
    refine Ev_step (fun k => ?_) (ih (i + 1) (by omega))
    rw [spec_biFar.l1, if_pos (by omega), if_pos (by rw [right_len]; omega), w64 (x := (i : Int) + 1 + 1) (by omega) (by omega), ← right_succ]
    rfl
theorem biFar_ev {n : Nat} (hn : n ≤ 8) (h1 : 1 ≤ n) : Ev (fun k => spec_biFar.f k (n : Int)) (arrOf (allOf n) (distO n)) := by
  have ha := allOf_le hn
  simp only [spec_biFar.f]
  refine Ev_bind (biAll_ev n hn) (Ev_pos (by omega) (Ev_pos (by omega) ?_))
  simp only [Option.bind_some, Int.toNat_natCast, List.length_replicate]
  have e := far_l1 hn h1 n 0 (by omega)
  have := fill_l0 (N := allOf n) (by omega) e (allOf n) 0 (by omega)
  simp only [List.replicate_zero, List.nil_append] at this
  exact this
end Go.Proofs.YtppbpefehpbejaaDoor.P
end

section
set_option linter.unusedVariables false
namespace Go.Proofs.YtppbpefehpbejaaDoor.P
open Go.RowKit Go.Proofs.YtppbpefehpbejaaDoorW.PrintWords Go.Proofs.YtppbpefehpbejaaDoorW.PrintLast Go.Proofs.YtppbpefehpbejaaDoorW.PrintMore Go.Proofs.YtppbpefehpbejaaDoor.Base Go.Proofs.YtppbpefehpbejaaDoor.Order Go.Proofs.YtppbpefehpbejaaDoor.Far

theorem isFew_ev (l : List Int) (hn : l.length ≤ 1048576) : Ev (fun k => impl_isFew.f k l) (bindS l && decide (l.length ≤ 5)) := by
  simp only [impl_isFew.f]
  refine Ev_bind (isBinding_ev l hn) ?_
  cases hb : bindS l with
  | false => exact Ev_neg (by decide) (Ev.now _)
  | true =>
    rw [Bool.true_and, show decide (l.length ≤ 5) = decide ((l.length : Int) ≤ 5) from decide_eq_decide.2 (by omega)]
    exact Ev_pos rfl (Ev.now _)
theorem few_open {l : List Int} (h : (bindS l && decide (l.length ≤ 5)) = true) : Bd l.length l ∧ 1 ≤ l.length ∧ l.length ≤ 5 ∧ bindS l = true := by
  rw [Bool.and_eq_true, decide_eq_true_eq] at h
  have := (bd_iff l).1 h.1
  exact ⟨this.1, this.2.1, h.2, h.1⟩
/-- How many turns: both answer it. -/
def fewR (l : List Int) : Int × Bool := if (bindS l && decide (l.length ≤ 5)) = true then (((distO l.length).lookup l).getD 0, true) else (0, false)
theorem fewImpl_ev (l : List Int) (hn : l.length ≤ 1048576) : Ev (fun k => impl_FewestTurns.f k l) (fewR l) := by
  simp only [impl_FewestTurns.f]
  refine Ev_bind (isFew_ev l hn) ?_
  unfold fewR
  cases h : (bindS l && decide (l.length ≤ 5)) with
  | false => exact Ev_neg (by decide) (Ev.now _)
  | true =>
    have := few_open h
    exact Ev_pos rfl (Ev_pos ⟨this.2.2.2, this.2.2.1⟩ (Ev.now _))
end Go.Proofs.YtppbpefehpbejaaDoor.P
end

section
namespace Go.Proofs.YtppbpefehpbejaaDoor.P
open Go.RowKit Go.Proofs.YtppbpefehpbejaaDoorW.PrintWords Go.Proofs.YtppbpefehpbejaaDoorW.PrintLast Go.Proofs.YtppbpefehpbejaaDoorW.PrintMore Go.Proofs.YtppbpefehpbejaaDoor.Base Go.Proofs.YtppbpefehpbejaaDoor.Order Go.Proofs.YtppbpefehpbejaaDoor.Far
set_option linter.unusedVariables false

theorem cnt_small (p : Int → Bool) (lo : Int) : ∀ j, cnt p lo j ≤ j
  | 0 => Nat.le_refl _
  | j + 1 => by
    have := cnt_small p lo j
    rw [cnt]
    split <;> omega
theorem biOf_l1 {n : Nat} (hn : n ≤ 8) {pre xs : List Int} {x : Int} (hc : Cut n pre (x :: xs)) (r1 : Int) (A : Int) (r : List Int)
    (hnext : Ev (fun k => spec_biOf.l0 k (n : Int) r1 (pre ++ [x]) A ((pre.length + 1 : Nat) : Int)) r) :
    ∀ d j : Nat, j + d = (x + n).toNat → Ev (fun k => spec_biOf.l1 k (n : Int) r1 pre A ((pre.length : Nat) : Int) ((digit n pre x - cnt (free pre) (-(n : Int)) j : Nat) : Int) (-(n : Int) + (j : Int))) r := by
  have hlen : pre.length + (xs.length + 1) = n := by
    have := hc.1
    rwa [List.length_append, List.length_cons] at this
  have ht : pre.length ≤ 1048576 := by omega
  obtain ⟨hx1, hx2, hx3, _⟩ := hc.head
  have hfr := (free_iff _ _).1 hx1
  have hdg : digit n pre x ≤ (x + n).toNat := cnt_small _ _ _
  intro d
  induction d with
  | zero =>
    intro j hj
    obtain rfl : j = (x + n).toNat := by omega
    rw [show digit n pre x - cnt (free pre) (-(n : Int)) (x + n).toNat = 0 from Nat.sub_self _, show -(n : Int) + (((x + n).toNat : Nat) : Int) = x by omega]
    refine Ev_step (fun k => by rw [spec_biOf.l1, if_pos (by omega), if_neg hfr.1, w64 (x := -x) (by omega) (by omega)]) ?_
    refine Ev_bind (l1Has_ev _ _ ht) ?_
    rw [show pre.contains x = false by simpa using hfr.2.1]
    refine Ev_neg (by decide) (Ev_bind (l1Has_ev _ _ ht) ?_)
    rw [show pre.contains (-x) = false by simpa using hfr.2.2]
    refine Ev_step (fun k => by rw [spec_biOf.j2, if_neg (by decide), if_pos (show ((0 : Nat) : Int) = 0 from rfl), if_pos (by omega), nextI pre.length (by omega)]) hnext
  | succ d ih =>
    intro j hj
    have hnx := ih (j + 1) (by omega)
    have w1 : wrap64 (-(n : Int) + (j : Int) + 1) = -(n : Int) + ((j + 1 : Nat) : Int) := by rw [w64 (by omega) (by omega)]; omega
    have w2 : wrap64 (-(-(n : Int) + (j : Int))) = -(-(n : Int) + (j : Int)) := w64 (by omega) (by omega)
    have hs : ∀ k, spec_biOf.l1 (k + 1) (n : Int) r1 pre A ((pre.length : Nat) : Int) ((digit n pre x - cnt (free pre) (-(n : Int)) j : Nat) : Int) (-(n : Int) + (j : Int)) = _ := fun k => by
      rw [spec_biOf.l1, if_pos (by omega), w2]
    refine Ev_step hs ?_
    have hf : free pre (-(n : Int) + (j : Int)) = (-(n : Int) + (j : Int) != 0 && (!pre.contains (-(n : Int) + (j : Int)) && !pre.contains (-(-(n : Int) + (j : Int))))) := rfl
    have hcs : cnt (free pre) (-(n : Int)) (j + 1) = cnt (free pre) (-(n : Int)) j + if free pre (-(n : Int) + (j : Int)) = true then 1 else 0 := rfl
    have hskip : free pre (-(n : Int) + (j : Int)) = false → Ev (fun k => spec_biOf.j2 k (n : Int) r1 pre A ((pre.length : Nat) : Int) ((digit n pre x - cnt (free pre) (-(n : Int)) j : Nat) : Int) (-(n : Int) + (j : Int)) true) r := by
      intro h
      have hcs' : cnt (free pre) (-(n : Int)) (j + 1) = cnt (free pre) (-(n : Int)) j := by rw [hcs, h]; rfl
      rw [hcs'] at hnx
      refine Ev_step (fun k => by rw [spec_biOf.j2, if_pos rfl, w1]) hnx
    by_cases h0 : -(n : Int) + (j : Int) = 0
    · refine Ev_pos h0 (hskip ?_)
      rw [hf, show (-(n : Int) + (j : Int) != 0) = false by rw [h0]; rfl, Bool.false_and]
    · refine Ev_neg h0 (Ev_bind (l1Has_ev _ _ ht) ?_)
      rw [show (-(n : Int) + (j : Int) != 0) = true from bne_iff_ne.2 h0, Bool.true_and] at hf
      cases h1 : pre.contains (-(n : Int) + (j : Int)) with
      | true =>
        rw [h1, Bool.not_true, Bool.false_and] at hf
        exact Ev_pos rfl (hskip hf)
      | false =>
        rw [h1, Bool.not_false, Bool.true_and] at hf
        refine Ev_neg (by decide) (Ev_bind (l1Has_ev _ _ ht) ?_)
        cases h2 : pre.contains (-(-(n : Int) + (j : Int))) with
        | true =>
          rw [h2, Bool.not_true] at hf
          exact hskip hf
        | false =>
          rw [h2, Bool.not_false] at hf
          have hlt : cnt (free pre) (-(n : Int)) j < digit n pre x := cnt_lt _ _ (by omega) hf
          rw [hf, if_pos rfl] at hcs
          have w3 : wrap64 (((digit n pre x - cnt (free pre) (-(n : Int)) j : Nat) : Int) - 1) = ((digit n pre x - cnt (free pre) (-(n : Int)) (j + 1) : Nat) : Int) := by
            rw [hcs, w64 (by omega) (by omega)]
            omega
          refine Ev_step (fun k => by rw [spec_biOf.j2, if_neg (by decide), if_neg (by omega), w1, w3]) hnx
theorem ne0 {u : Nat} (h : 1 ≤ u) : ¬ ((u : Nat) : Int) = 0 := by omega
theorem tdivN (a b : Nat) : Int.tdiv (a : Int) (b : Int) = ((a / b : Nat) : Int) := rfl
theorem tmodN (a b : Nat) : Int.tmod (a : Int) (b : Int) = ((a % b : Nat) : Int) := rfl
theorem biOf_l0 {n : Nat} (hn : n ≤ 8) : ∀ (rest pre : List Int), Cut n pre rest → Ev (fun k => spec_biOf.l0 k (n : Int) ((rk n pre rest 0 : Nat) : Int) pre ((allOf rest.length : Nat) : Int) ((pre.length : Nat) : Int)) (pre ++ rest) := by
  intro rest
  induction rest with
  | nil =>
    intro pre hc
    have := hc.1
    rw [List.append_nil] at this
    refine Ev_step (fun k => ?_) (Ev.now _)
    rw [spec_biOf.l0, if_neg (by omega), List.append_nil]
  | cons x xs ih =>
    intro pre hc
    have hlen : pre.length + (xs.length + 1) = n := by
      have := hc.1
      rwa [List.length_append, List.length_cons] at this
    have hnx := ih (pre ++ [x]) hc.next
    rw [List.append_assoc, List.singleton_append, List.length_append, List.length_singleton] at hnx
    have hd := digit_lt hc
    have hr := rk_lt xs (pre ++ [x]) hc.next
    have hp := allOf_pos xs.length
    have ha := allOf_le (m := xs.length) (by omega)
    have h1 := biOf_l1 hn hc _ _ _ hnx (x + n).toNat 0 (by omega)
    have e1 : rk n pre (x :: xs) 0 = digit n pre x * allOf xs.length + rk n (pre ++ [x]) xs 0 := by rw [rk, rk_acc, Nat.zero_mul, Nat.zero_add]
    have e2 : (allOf (xs.length + 1)) / (2 * (xs.length + 1)) = allOf xs.length := Nat.mul_div_cancel _ (by omega)
    have e3 : rk n pre (x :: xs) 0 / allOf xs.length = digit n pre x := by
      rw [e1, Nat.mul_comm, Nat.mul_add_div hp, Nat.div_eq_of_lt hr, Nat.add_zero]
    have e4 : rk n pre (x :: xs) 0 % allOf xs.length = rk n (pre ++ [x]) xs 0 := by
      rw [e1, Nat.mul_comm, Nat.mul_add_mod, Nat.mod_eq_of_lt hr]
    have w1 : wrap64 (2 * wrap64 ((n : Int) - ((pre.length : Nat) : Int))) = ((2 * (xs.length + 1) : Nat) : Int) := by
      rw [w64 (x := (n : Int) - ((pre.length : Nat) : Int)) (by omega) (by omega), w64 (by omega) (by omega)]
      omega
    have w2 : wrap64 ((allOf xs.length : Nat) : Int) = ((allOf xs.length : Nat) : Int) := w64 (by omega) (by omega)
    have w3 : wrap64 ((digit n pre x : Nat) : Int) = ((digit n pre x : Nat) : Int) := w64 (by omega) (by omega)
    have w4 : wrap64 (-(n : Int)) = -(n : Int) := w64 (by omega) (by omega)
    rw [show cnt (free pre) (-(n : Int)) 0 = 0 from rfl, Nat.sub_zero, show -(n : Int) + ((0 : Nat) : Int) = -(n : Int) by omega] at h1
    refine Ev_step (fun k => ?_) h1
    rw [spec_biOf.l0, if_pos (by omega), w1, tdivN, List.length_cons, e2, w2, if_neg (ne0 (show 1 ≤ 2 * (xs.length + 1) by omega)), if_neg (ne0 hp), tdivN, tmodN, e3, e4, w3, w4]
theorem biOf_ev {n : Nat} {b : List Int} (hb : Bd n b) (hn : n ≤ 8) : Ev (fun k => spec_biOf.f k (n : Int) ((rank b : Nat) : Int)) b := by
  have h := biOf_l0 hn b [] hb
  rw [hb.1, List.nil_append] at h
  simp only [spec_biOf.f]
  refine Ev_bind (biAll_ev n hn) ?_
  unfold rank
  rw [hb.1]
  exact h
/-- What is no less than 0 has come from somewhere. -/
theorem arr_from (N : Nat) (i : Nat) : ∀ (o : Out), 0 ≤ (arrOf N o).getD i (-1) → ∃ e ∈ o, rank e.1 = i ∧ e.2 = (arrOf N o).getD i (-1) := by
  refine snoc_ind (P := fun o => 0 ≤ (arrOf N o).getD i (-1) → ∃ e ∈ o, rank e.1 = i ∧ e.2 = (arrOf N o).getD i (-1)) ?_ ?_
  · intro h
    exfalso
    unfold arrOf at h
    rw [List.foldl_nil, List.getD_eq_getElem?_getD, List.getElem?_replicate] at h
    split at h <;> simp at h
  · intro o e ih h
    rw [arrOf_snoc] at h ⊢
    by_cases hr : rank e.1 = i
    · subst hr
      refine ⟨e, by simp, rfl, ?_⟩
      rw [List.getD_eq_getElem?_getD, List.getElem?_set_self'] at h ⊢
      cases hx : (arrOf N o)[rank e.1]? with
      | none => rw [hx] at h; simp at h
      | some y => rfl
    · rw [List.getD_eq_getElem?_getD, List.getElem?_set_ne hr, ← List.getD_eq_getElem?_getD] at h ⊢
      obtain ⟨e', h1, h2, h3⟩ := ih h
      exact ⟨e', by simp [h1], h2, h3⟩
/-- The first place with the greatest number, of those before i. -/
def Top (a : List Int) (i p : Nat) (m : Int) : Prop := (m = -1 ∧ ∀ j, j < i → a.getD j 0 < 0) ∨ (0 ≤ m ∧ p < i ∧ a.getD p 0 = m ∧ (∀ j, j < i → a.getD j 0 ≤ m) ∧ ∀ j, j < p → a.getD j 0 < m)
theorem top_is {n p : Nat} {m : Int} (h : Top (arrOf (allOf n) (distO n)) (allOf n) p m) : p = rank (farB (distO n)).1 ∧ m = (farB (distO n)).2 := by
  have g := (dist_all n).1
  have B := farB_best g
  obtain ⟨b, eb⟩ : ∃ b, b = (farB (distO n)).1 := ⟨_, rfl⟩
  obtain ⟨v, ev⟩ : ∃ v, v = (farB (distO n)).2 := ⟨_, rfl⟩
  rw [← eb, ← ev] at B ⊢
  clear eb ev
  have hbd : Bd n b := g.bd _ B.1
  have hat : (arrOf (allOf n) (distO n)).getD (rank b) 0 = v := by
    have : (distO n).lookup b = some v := lookup_in g.nd B.1
    rw [arr_at hbd _ g.bd g.nd, this]
    rfl
  have hnn : 0 ≤ v := g.nn _ B.1
  have hlt := rank_lt hbd
  rcases h with ⟨_, h⟩ | ⟨h0, h1, h2, h3, h4⟩
  · have := h _ hlt
    omega
  · have h5 := h3 _ hlt
    have hl : p < (arrOf (allOf n) (distO n)).length := by rw [arr_len]; exact h1
    have hp : (arrOf (allOf n) (distO n)).getD p (-1) = m := by rw [← h2, getD_at _ _ hl, getD_at _ _ hl]
    obtain ⟨e, he, h6, h7⟩ := arr_from (allOf n) p (distO n) (by rw [hp]; exact h0)
    rw [hp] at h7
    have h8 := B.2 e he
    have hm : m = v := by omega
    refine ⟨?_, hm⟩
    have h9 : lexlt e.1 b = false := by
      rcases h8 with h8 | h8
      · omega
      · exact h8.2
    rcases lex_total e.1 b (by rw [(g.bd _ he).1, hbd.1]) with hx | hx | hx
    · rw [h9] at hx; cases hx
    · rw [← h6, hx]
    · have hk := rank_lex hbd (g.bd _ he) hx
      have := h4 (rank b) (by omega)
      omega
theorem far_scan {n : Nat} (hn : n ≤ 5) : ∀ (d i p : Nat) (m : Int), i + d = allOf n → Top (arrOf (allOf n) (distO n)) i p m → Ev (fun k => spec_FarthestBinding.l0 k (n : Int) (p : Int) m (arrOf (allOf n) (distO n)) ((allOf n : Nat) : Int) (i : Int)) ((farB (distO n)).1, (farB (distO n)).2, true) := by
  have ha : allOf n ≤ 3840 := by
    rcases (by omega : n = 0 ∨ n = 1 ∨ n = 2 ∨ n = 3 ∨ n = 4 ∨ n = 5) with h | h | h | h | h | h <;> rw [h] <;> decide
  intro d
  induction d with
  | zero =>
    intro i p m hi ht
    obtain rfl : i = allOf n := by omega
    obtain ⟨rfl, rfl⟩ := top_is ht
    refine Ev_step (fun k => by rw [spec_FarthestBinding.l0, if_neg (by omega)]) ?_
    exact Ev_bind (biOf_ev ((dist_all n).1.bd _ (farB_best (dist_all n).1).1) (by omega)) (Ev.now _)
  | succ d ih =>
    intro i p m hi ht
    refine Ev_step (fun k => by rw [spec_FarthestBinding.l0, if_pos (by omega), if_pos (by omega), if_pos (by rw [arr_len]; omega), rd_nat, nextI i (by omega)]) ?_
    by_cases hc : (arrOf (allOf n) (distO n)).getD i 0 > m
    · refine Ev_pos hc (ih (i + 1) i _ (by omega) ?_)
      rcases ht with ⟨rfl, ht⟩ | ⟨h0, h1, h2, h3, h4⟩
      · refine .inr ⟨by omega, by omega, rfl, fun j hj => ?_, fun j hj => ?_⟩
        · by_cases e : j = i
          · subst e; exact Int.le_refl _
          · have := ht j (by omega); omega
        · have := ht j (by omega); omega
      · refine .inr ⟨by omega, by omega, rfl, fun j hj => ?_, fun j hj => ?_⟩
        · by_cases e : j = i
          · subst e; exact Int.le_refl _
          · have := h3 j (by omega); omega
        · have := h3 j (by omega); omega
    · refine Ev_neg hc (ih (i + 1) p m (by omega) ?_)
      rcases ht with ⟨rfl, ht⟩ | ⟨h0, h1, h2, h3, h4⟩
      · refine .inl ⟨rfl, fun j hj => ?_⟩
        by_cases e : j = i
        · subst e; omega
        · exact ht j (by omega)
      · refine .inr ⟨h0, by omega, h2, fun j hj => ?_, h4⟩
        by_cases e : j = i
        · subst e; omega
        · exact h3 j (by omega)
theorem farthest_ev (a0 : Int) : Ev (fun k => spec_FarthestBinding.f k a0) (if 1 ≤ a0 ∧ a0 ≤ 5 then ((farB (distO a0.toNat)).1, (farB (distO a0.toNat)).2, true) else ([], 0, false)) := by
  simp only [spec_FarthestBinding.f]
  refine Ev_some (l1In_eq _ _ _) ?_
  unfold inB
  by_cases h : 1 ≤ a0 ∧ a0 ≤ 5
  · rw [decide_eq_true h, if_pos h]
    refine Ev_pos rfl ?_
    obtain ⟨n, rfl⟩ := Int.eq_ofNat_of_zero_le (show 0 ≤ a0 by omega)
    rw [Int.toNat_natCast]
    have hl := arr_len (allOf n) (distO n)
    have := far_scan (n := n) (by omega) (allOf n) 0 0 (-1) (by omega) (.inl ⟨rfl, fun j hj => by omega⟩)
    refine Ev_bind (biFar_ev (by omega) (by omega)) ?_
    rw [hl]
    exact this
  · rw [decide_eq_false h, if_neg h]
    exact Ev_neg (by decide) (Ev.now _)
end Go.Proofs.YtppbpefehpbejaaDoor.P
end

section
namespace Go.Proofs.YtppbpefehpbejaaDoor.P
open Go.RowKit Go.Proofs.YtppbpefehpbejaaDoorW.PrintWords Go.Proofs.YtppbpefehpbejaaDoorW.PrintLast Go.Proofs.YtppbpefehpbejaaDoorW.PrintMore Go.Proofs.YtppbpefehpbejaaDoor.Base
set_option linter.unusedVariables false

theorem fSame_l0 (a : List Int) (hn : a.length ≤ 1048576) : ∀ n i : Nat, i + n = a.length → Ev (fun k => laws_fSame.l0 k a a (a.length : Int) (i : Int)) true := by
  intro n
  induction n with
  | zero =>
    intro i hi
    refine Ev_step (fun k => ?_) (Ev.now _)
    rw [laws_fSame.l0, if_neg (by omega)]
  | succ n ih =>
    intro i hi
    refine Ev_step (fun k => ?_) (ih (i + 1) (by omega))
    rw [laws_fSame.l0, if_pos (by omega), if_pos (by omega), if_pos (by omega), if_pos (by omega), if_pos rfl, nextI i (by omega)]
theorem fSame_ev (a : List Int) (hn : a.length ≤ 1048576) : Ev (fun k => laws_fSame.f k a a) true := by
  refine Ev.congr (f := fun k => laws_fSame.l0 k a a (a.length : Int) 0) (fun k => by rw [laws_fSame.f, if_pos rfl]) ?_
  exact fSame_l0 a hn a.length 0 (by omega)
theorem bne_self {α : Type} [BEq α] [LawfulBEq α] (x : α) : ¬ (x != x) = true := by simp
end Go.Proofs.YtppbpefehpbejaaDoor.P
end

section
namespace Go.Proofs.YtppbpefehpbejaaDoor.P
open Go.RowKit Go.Proofs.YtppbpefehpbejaaDoorW.PrintWords Go.Proofs.YtppbpefehpbejaaDoorW.PrintLast Go.Proofs.YtppbpefehpbejaaDoorW.PrintMore Go.Proofs.YtppbpefehpbejaaDoor.Base
set_option linter.unusedVariables false

theorem among_ok {c : List Int} (hc : Bytes c) {a : Int} (s : Int) (l : List Int) (h0 : 0 ≤ a) (h1 : a ≤ 999990) (hl : 1 ≤ l.length ∧ l.length ≤ 1000) :
    ∃ x a' s', spec_l1Cur_among.f c a s l = some (x, a', s') ∧ x ∈ l ∧ a ≤ a' ∧ a' ≤ a + 2 := by
  obtain ⟨x, a', s', e, g0, g1, g2, g3⟩ := pick_ok hc s (l.length : Int) h0 h1 (by omega)
  have hx : x < (l.length : Int) := by omega
  refine ⟨rd l x, a', s', ?_, ?_, g2, g3⟩
  · rw [spec_l1Cur_among.f, e]
    simp only [Option.bind_some]
    rw [if_pos g0, if_pos hx]
  · unfold rd
    rw [List.getD_eq_getElem?_getD, List.getElem?_eq_getElem (by omega)]
    exact List.getElem_mem _
end Go.Proofs.YtppbpefehpbejaaDoor.P
end

section
namespace Go.Proofs.YtppbpefehpbejaaDoor.P
open Go.RowKit Go.Proofs.YtppbpefehpbejaaDoorW.PrintWords Go.Proofs.YtppbpefehpbejaaDoorW.PrintLast Go.Proofs.YtppbpefehpbejaaDoorW.PrintMore Go.Proofs.YtppbpefehpbejaaDoor.Base
set_option linter.unusedVariables false

theorem one_size (b : Int) : (strOfNums [b]).size = 1 := rfl
theorem spoilt_j1 {c : List Int} {w t : ByteArray} {n : Nat} {a s j a1 s1 a2 s2 q a3 s3 : Int} {i : Nat} {r : ByteArray × Int × Int} (hn : n ≤ 2) (hz : (t.size : Int) > 0) (ht : t.size ≤ 500000) (hi : i < t.size)
    (e1 : spec_l1Cur_pick.f c a s (t.size : Int) = some ((i : Int), a1, s1)) (e2 : spec_l1Cur_pick.f c a1 s1 (w.size : Int) = some (j, a2, s2)) (e3 : spec_l1Cur_pick.f c a2 s2 3 = some (q, a3, s3)) (j0 : 0 ≤ j) (j1 : j < (w.size : Int))
    (h : ∃ u : ByteArray, (q = 0 ∧ u = ((t.extract 0 i) ++ (strOfNums [bt w j])) ++ (t.extract i t.size) ∨ q = 1 ∧ u = ((t.extract 0 i) ++ (strOfNums [bt w j])) ++ (t.extract (i + 1) t.size) ∨ q ≠ 0 ∧ q ≠ 1 ∧ u = (t.extract 0 i) ++ (t.extract (i + 1) t.size)) ∧ Ev (fun k => spec_l1Cur_spoilt.l0 k u w (n : Int) c a3 s3) r) :
    Ev (fun k => spec_l1Cur_spoilt.j1 k t w ((n + 1 : Nat) : Int) true c a s) r := by
  have w1 : wrap64 ((i : Int) + 1) = ((i + 1 : Nat) : Int) := by rw [w64 (by omega) (by omega)]; omega
  have w2 : wrap64 (((n + 1 : Nat) : Int) - 1) = (n : Int) := by rw [w64 (by omega) (by omega)]; omega
  have z1 : (t.extract 0 i).size = i := by rw [ByteArray.size_extract]; omega
  have z2 : (t.extract i t.size).size = t.size - i := by rw [ByteArray.size_extract]; omega
  have z3 : (t.extract (i + 1) t.size).size = t.size - (i + 1) := by rw [ByteArray.size_extract]; omega
  have z4 := one_size (bt w j)
  have b1 : (t.extract 0 i).size + (strOfNums [bt w j]).size ≤ 9223372036854775807 := by rw [z1, z4]; omega
  have b2 : ((t.extract 0 i) ++ (strOfNums [bt w j])).size + (t.extract i t.size).size ≤ 9223372036854775807 := by rw [ByteArray.size_append, z1, z4, z2]; omega
  have b3 : ((t.extract 0 i) ++ (strOfNums [bt w j])).size + (t.extract (i + 1) t.size).size ≤ 9223372036854775807 := by rw [ByteArray.size_append, z1, z4, z3]; omega
  have b4 : (t.extract 0 i).size + (t.extract (i + 1) t.size).size ≤ 9223372036854775807 := by rw [z1, z3]; omega
  have p0 : 0 ≤ (i : Int) := by omega
  have p1 : (i : Int) ≤ (t.size : Int) := by omega
  have p2 : 0 ≤ ((i + 1 : Nat) : Int) := by omega
  have p3 : ((i + 1 : Nat) : Int) ≤ (t.size : Int) := by omega
  clear z1 z2 z3 z4 hi ht hz hn
  refine Ev_step (fun k => by rw [spec_l1Cur_spoilt.j1, if_pos rfl, e1]) ?_
  simp only [Option.bind_some, e2, if_pos j0, if_pos j1, e3, w1, w2, Int.toNat_natCast]
  clear e1 e2 e3 w1 w2
  obtain ⟨u, hu, hev⟩ := h
  rcases hu with ⟨h0, rfl⟩ | ⟨h1, rfl⟩ | ⟨h0, h1, rfl⟩
  · simp only [if_pos h0, if_pos p0, if_pos p1, if_pos b1, if_pos b2]
    exact hev
  · have h0 : ¬ q = 0 := by omega
    simp only [if_neg h0, if_pos h1, if_pos p0, if_pos p1, if_pos p2, if_pos p3, if_pos b1, if_pos b3]
    exact hev
  · simp only [if_neg h0, if_neg h1, if_pos p0, if_pos p1, if_pos p2, if_pos p3, if_pos b4]
    exact hev
theorem spoilt_l0 {c : List Int} (hc : Bytes c) (w : ByteArray) (hw : 1 ≤ w.size ∧ w.size ≤ 200) : ∀ (n : Nat) (t : ByteArray) (a s : Int), n ≤ 2 → 0 ≤ a → a + 6 * n ≤ 999900 → t.size + n ≤ 500000 →
    ∃ t' a' s', Ev (fun k => spec_l1Cur_spoilt.l0 k t w (n : Int) c a s) (t', a', s') ∧ t'.size ≤ t.size + n ∧ a ≤ a' ∧ a' ≤ a + 6 * n := by
  intro n
  induction n with
  | zero =>
    intro t a s hn h0 h1 ht
    refine ⟨t, a, s, Ev_step (fun k => by rw [spec_l1Cur_spoilt.l0, if_neg (by omega)]) (Ev_step (fun k => by rw [spec_l1Cur_spoilt.j1]) (Ev_neg (by decide) (Ev.now _))), by omega, by omega, by omega⟩
  | succ n ih =>
    intro t a s hn h0 h1 ht
    have hp : ((n + 1 : Nat) : Int) > 0 := by omega
    by_cases hz : (t.size : Int) > 0
    · obtain ⟨i, a1, s1, e1, i0, i1, g1, g2⟩ := pick_ok hc s (t.size : Int) h0 (by omega) (by omega)
      obtain ⟨j, a2, s2, e2, j0, j1, g3, g4⟩ := pick_ok hc (a := a1) s1 (w.size : Int) (by omega) (by omega) (by omega)
      obtain ⟨q, a3, s3, e3, q0, q1, g5, g6⟩ := pick_ok hc (a := a2) s2 3 (by omega) (by omega) (by omega)
      obtain ⟨i, rfl⟩ := Int.eq_ofNat_of_zero_le i0
      have hi : i < t.size := by omega
      have z1 : (t.extract 0 i).size = i := by rw [ByteArray.size_extract]; omega
      have z2 : (t.extract i t.size).size = t.size - i := by rw [ByteArray.size_extract]; omega
      have z3 : (t.extract (i + 1) t.size).size = t.size - (i + 1) := by rw [ByteArray.size_extract]; omega
      have z4 := one_size (bt w j)
      have hu : ∃ u : ByteArray, u.size ≤ t.size + 1 ∧ (q = 0 ∧ u = ((t.extract 0 i) ++ (strOfNums [bt w j])) ++ (t.extract i t.size) ∨ q = 1 ∧ u = ((t.extract 0 i) ++ (strOfNums [bt w j])) ++ (t.extract (i + 1) t.size) ∨ q ≠ 0 ∧ q ≠ 1 ∧ u = (t.extract 0 i) ++ (t.extract (i + 1) t.size)) := by
        by_cases h0q : q = 0
        · exact ⟨_, by rw [ByteArray.size_append, ByteArray.size_append, z1, z2, z4]; omega, .inl ⟨h0q, rfl⟩⟩
        · by_cases h1q : q = 1
          · exact ⟨_, by rw [ByteArray.size_append, ByteArray.size_append, z1, z3, z4]; omega, .inr (.inl ⟨h1q, rfl⟩)⟩
          · exact ⟨_, by rw [ByteArray.size_append, z1, z3]; omega, .inr (.inr ⟨h0q, h1q, rfl⟩)⟩
      obtain ⟨u, hus, hq⟩ := hu
      obtain ⟨t', a', s', e, r1, r2, r3⟩ := ih u a3 s3 (by omega) (by omega) (by omega) (by omega)
      refine ⟨t', a', s', ?_, by omega, by omega, by omega⟩
      have := spoilt_j1 (by omega) hz (by omega) hi e1 e2 e3 j0 (by omega) ⟨u, hq, e⟩
      exact Ev_step (fun k => by rw [spec_l1Cur_spoilt.l0, if_pos hp, decide_eq_true hz]) this
    · refine ⟨t, a, s, Ev_step (fun k => by rw [spec_l1Cur_spoilt.l0, if_pos hp, decide_eq_false hz]) (Ev_step (fun k => by rw [spec_l1Cur_spoilt.j1]) (Ev_neg (by decide) (Ev.now _))), by omega, by omega, by omega⟩
theorem spoilt_ok {c : List Int} (hc : Bytes c) {a : Int} (s : Int) (t w : ByteArray) (h0 : 0 ≤ a) (h1 : a ≤ 999800) (hw : 1 ≤ w.size ∧ w.size ≤ 200) (ht : t.size ≤ 400000) :
    ∃ t' a' s', Ev (fun k => spec_l1Cur_spoilt.f k c a s t w) (t', a', s') ∧ t'.size ≤ t.size + 2 ∧ a ≤ a' ∧ a' ≤ a + 14 := by
  obtain ⟨x, a1, s1, e1, x0, x1, g1, g2⟩ := pick_ok hc s 2 h0 (by omega) (by omega)
  obtain ⟨x, rfl⟩ := Int.eq_ofNat_of_zero_le x0
  obtain ⟨t', a', s', e, r1, r2, r3⟩ := spoilt_l0 hc w hw (x + 1) t a1 s1 (by omega) (by omega) (by omega) (by omega)
  refine ⟨t', a', s', ?_, by omega, by omega, by omega⟩
  have w1 : wrap64 (1 + (x : Int)) = ((x + 1 : Nat) : Int) := by rw [w64 (by omega) (by omega)]; omega
  simp only [spec_l1Cur_spoilt.f, e1, Option.bind_some, w1]
  exact e
end Go.Proofs.YtppbpefehpbejaaDoor.P
end

section
set_option linter.unusedVariables false
namespace Go.Proofs.YtppbpefehpbejaaDoor.Pure
open Go.RowKit Go.Proofs.YtppbpefehpbejaaDoorW.PrintWords Go.Proofs.YtppbpefehpbejaaDoorW.PrintLast Go.Proofs.YtppbpefehpbejaaDoorW.PrintMore Go.Proofs.YtppbpefehpbejaaDoor.P Go.Proofs.YtppbpefehpbejaaDoor.Base Go.Proofs.YtppbpefehpbejaaDoor.Order

theorem own_eq (l : List Int) (h : l.length < 17592186044416) : spec_l1Own.f l = some l := by
  rw [spec_l1Own.f]
  simp only [Option.bind_some, List.length_nil, List.nil_append]
  rw [if_pos (by omega)]
theorem cutPart_ev (b : List Int) (f t a : Int) (hn : b.length ≤ 1048576) : ∃ r : List Int × Bool, Ev (fun k => spec_CutPart.f k b f t a) r ∧ Ev (fun k => impl_CutPart.f k b f t a) r ∧ r.1.length ≤ 1048576 ∧ (r.2 = true → bindS b = true ∧ partB b f t = true ∧ 0 ≤ a ∧ a ≤ (b.length : Int) - 1 - (t - f) ∧ r.1 = cutL b f.toNat t.toNat a.toNat) := by
  have h1 := biPart_ev b f t hn
  have h2 := isBinding_ev b hn
  simp only [spec_CutPart.f, impl_CutPart.f]
  have no : Ev (fun k => spec_CutPart.j0 k b f t a true) ([], false) := by
    refine Ev_step (fun k => by rw [spec_CutPart.j0]) ?_
    exact Ev_pos rfl (Ev.now _)
  cases hb : bindS b with
  | false =>
    rw [hb, Bool.false_and] at h1
    rw [hb] at h2
    exact ⟨([], false), Ev_bind h1 (Ev_neg (by decide) no), Ev_bind h2 (Ev_neg (by decide) (Ev.now _)), Nat.zero_le _, fun h => by cases h⟩
  | true =>
    have h3 := isPart_eq b f t hb
    have hl := bind_len hb
    rw [hb, Bool.true_and] at h1
    rw [hb] at h2
    cases hp : partB b f t with
    | false =>
      rw [hp] at h1 h3
      exact ⟨([], false), Ev_bind h1 (Ev_neg (by decide) no), Ev_bind h2 (Ev_pos rfl (Ev_some h3 (Ev_neg (by decide) (Ev.now _)))), Nat.zero_le _, fun h => by cases h⟩
    | true =>
      rw [hp] at h1 h3
      unfold partB at hp
      rw [decide_eq_true_eq] at hp
      have w1 : wrap64 (t - f) = t - f := w64 (by omega) (by omega)
      have w2 : wrap64 ((b.length : Int) - 1) = (b.length : Int) - 1 := w64 (by omega) (by omega)
      have w3 : wrap64 ((b.length : Int) - 1 - (t - f)) = (b.length : Int) - 1 - (t - f) := w64 (by omega) (by omega)
      have w4 : wrap64 (t - f + 1) = t - f + 1 := w64 (by omega) (by omega)
      have w5 : wrap64 ((b.length : Int) - (t - f + 1)) = (b.length : Int) - 1 - (t - f) := by rw [w64 (by omega) (by omega)]; omega
      have w6 : wrap64 (t + 1) = t + 1 := w64 (by omega) (by omega)
      cases hq : inB a 0 ((b.length : Int) - 1 - (t - f)) with
      | false =>
        refine ⟨([], false), Ev_bind h1 (Ev_pos rfl (Ev_some (a := false) (by rw [w1, w2, w3, l1In_eq, hq]) no)), Ev_bind h2 (Ev_pos rfl (Ev_some h3 (Ev_pos rfl (Ev_some (a := false) (by rw [w1, w4, w5, within_eq, hq]) (Ev_neg (by decide) (Ev.now _)))))), Nat.zero_le _, fun h => by cases h⟩
      | true =>
        have hq' : 0 ≤ a ∧ a ≤ (b.length : Int) - 1 - (t - f) := by unfold inB at hq; exact of_decide_eq_true hq
        refine ⟨(cutL b f.toNat t.toNat a.toNat, true), Ev_bind h1 (Ev_pos rfl (Ev_some (a := true) (by rw [w1, w2, w3, l1In_eq, hq]) ?_)), Ev_bind h2 (Ev_pos rfl (Ev_some h3 (Ev_pos rfl (Ev_some (a := true) (by rw [w1, w4, w5, within_eq, hq]) (Ev_pos rfl (Ev_pos ⟨by omega, by omega, by omega, by omega, by omega, by omega⟩ (Ev.now _))))))), ?_, fun _ => ⟨rfl, rfl, hq'.1, hq'.2, rfl⟩⟩
        · have ht : (t + 1).toNat = t.toNat + 1 := by omega
          have e1 := own_eq (b.take f.toNat) (by rw [List.length_take]; omega)
          have hy : (b.take f.toNat ++ b.drop (t.toNat + 1)).length ≤ 8 := by rw [List.length_append, List.length_take, List.length_drop]; omega
          have hy2 : a ≤ ((b.take f.toNat ++ b.drop (t.toNat + 1)).length : Int) := by rw [List.length_append, List.length_take, List.length_drop]; omega
          have e2 := own_eq ((b.take f.toNat ++ b.drop (t.toNat + 1)).take a.toNat) (by rw [List.length_take]; omega)
          have hm : ((b.take (t.toNat + 1)).drop f.toNat).length ≤ 8 := by rw [List.length_drop, List.length_take]; omega
          refine Ev_step (fun k => by rw [spec_CutPart.j0]) ?_
          refine Ev_neg (by decide) (Ev_pos (by omega) (Ev_pos (by omega) ?_))
          refine ⟨0, fun k _ => ?_⟩
          simp only [w6, ht, e1, Option.bind_some]
          rw [if_pos (by omega), if_pos (by omega), if_pos (by rw [List.length_take, List.length_drop]; omega), if_pos (by omega), if_pos hy2, e2]
          simp only [Option.bind_some]
          rw [if_pos (by omega), if_pos (by have := List.length_take_le a.toNat (b.take f.toNat ++ b.drop (t.toNat + 1)); omega), if_pos (by
            have := List.length_take_le a.toNat (b.take f.toNat ++ b.drop (t.toNat + 1))
            rw [List.length_append, List.length_drop (i := a.toNat)]
            omega)]
          rfl
        · show (cutL b f.toNat t.toNat a.toNat).length ≤ 1048576
          unfold cutL
          simp only [List.length_append, List.length_take, List.length_drop]
          omega
end Go.Proofs.YtppbpefehpbejaaDoor.Pure
end

section
set_option linter.unusedVariables false
namespace Go.Proofs.YtppbpefehpbejaaDoor.Pure
open Go.RowKit Go.Proofs.YtppbpefehpbejaaDoorW.PrintWords Go.Proofs.YtppbpefehpbejaaDoor.P Go.Proofs.YtppbpefehpbejaaDoor.Base Go.Proofs.YtppbpefehpbejaaDoor.Order Go.Proofs.YtppbpefehpbejaaDoor.Far

theorem count_l0 (a1 : Int) (l : List Int) (hn : l.length ≤ 1048576) : ∀ (d i c : Nat), i + d = l.length → c ≤ i → Ev (fun k => spec_CountByTurns.l0 k a1 (c : Int) l (l.length : Int) (i : Int)) (((c + (l.drop i).countP (· == a1) : Nat) : Int), true) := by
  intro d
  induction d with
  | zero =>
    intro i c hi hc
    refine Ev_step (fun k => ?_) (Ev.now _)
    rw [spec_CountByTurns.l0, if_neg (by omega), List.drop_of_length_le (by omega), List.countP_nil, Nat.add_zero]
  | succ d ih =>
    intro i c hi hc
    have h : i < l.length := by omega
    refine Ev_step (fun k => by rw [spec_CountByTurns.l0, if_pos (by omega), if_pos (by omega), if_pos (by omega), rd_nat, nextI i (by omega), nextI c (by omega)]) ?_
    rw [List.drop_eq_getElem_cons h, List.countP_cons, ← getD_at l 0 h]
    by_cases e : l.getD i 0 = a1
    · have := ih (i + 1) (c + 1) (by omega) (by omega)
      rw [if_pos (beq_iff_eq.2 e), show c + ((l.drop (i + 1)).countP (· == a1) + 1) = c + 1 + (l.drop (i + 1)).countP (· == a1) by omega]
      exact Ev_pos e this
    · have := ih (i + 1) c (by omega) (by omega)
      rw [if_neg (by simpa using e), Nat.add_zero]
      exact Ev_neg e this
theorem countBy_ev (a0 a1 : Int) : Ev (fun k => spec_CountByTurns.f k a0 a1) (if 1 ≤ a0 ∧ a0 ≤ 5 ∧ 0 ≤ a1 then ((((distO a0.toNat).countP (fun e => e.2 == a1) : Nat) : Int), true) else (0, false)) := by
  simp only [spec_CountByTurns.f]
  refine Ev_some (l1In_eq _ _ _) ?_
  unfold inB
  by_cases h : 1 ≤ a0 ∧ a0 ≤ 5
  · rw [decide_eq_true h]
    refine Ev_pos rfl (Ev_step (fun k => by rw [spec_CountByTurns.j0]) ?_)
    obtain ⟨n, rfl⟩ := Int.eq_ofNat_of_zero_le (show 0 ≤ a0 by omega)
    by_cases h2 : a1 < 0
    · rw [if_neg (by omega)]
      exact Ev_pos (decide_eq_true h2) (Ev.now _)
    · rw [if_pos (by omega), Int.toNat_natCast]
      refine Ev_neg (by simp; omega) (Ev_bind (biFar_ev (by omega) (by omega)) ?_)
      have hl := arr_len (allOf n) (distO n)
      have ha := allOf_le (m := n) (by omega)
      have hb : allOf n ≤ 3840 := by
        rcases (by omega : n = 1 ∨ n = 2 ∨ n = 3 ∨ n = 4 ∨ n = 5) with h | h | h | h | h <;> rw [h] <;> decide
      have := count_l0 a1 (arrOf (allOf n) (distO n)) (by omega) (allOf n) 0 0 (by omega) (Nat.le_refl _)
      rw [List.drop_zero, Nat.zero_add, arr_count a1 (by omega) (distO n) (dist_all n).1.bd (dist_all n).1.nd] at this
      exact this
  · rw [decide_eq_false h, if_neg (by omega)]
    exact Ev_neg (by decide) (Ev_step (fun k => by rw [spec_CountByTurns.j0]) (Ev_pos rfl (Ev.now _)))
end Go.Proofs.YtppbpefehpbejaaDoor.Pure
end

section
namespace Go.Proofs.YtppbpefehpbejaaDoor.P
open Go.RowKit Go.Proofs.YtppbpefehpbejaaDoorW.PrintWords Go.Proofs.YtppbpefehpbejaaDoorW.PrintLast Go.Proofs.YtppbpefehpbejaaDoorW.PrintMore Go.Proofs.YtppbpefehpbejaaDoor.Base Go.Proofs.YtppbpefehpbejaaDoor.Order
set_option linter.unusedVariables false

theorem eight (a : Nat) (h1 : 1 ≤ a) (h2 : a ≤ 8) : a = 1 ∨ a = 2 ∨ a = 3 ∨ a = 4 ∨ a = 5 ∨ a = 6 ∨ a = 7 ∨ a = 8 := by omega
theorem digit_eq (a : Nat) (h1 : 1 ≤ a) (h2 : a ≤ 8) : strOfNums [wrap64 (48 + (a : Int)) % 256] = (⟨(Lib.decDigits a).toArray⟩ : ByteArray) := by
  rw [Lib.decDigits_one (by omega), w64 (by omega) (by omega)]
  rcases eight a h1 h2 with rfl | rfl | rfl | rfl | rfl | rfl | rfl | rfl <;> rfl
theorem itoa_pos (a : Nat) (h2 : a ≤ 8) : itoa.f (a : Int) = some (⟨(Lib.decDigits a).toArray⟩ : ByteArray) := by
  unfold itoa.f
  rw [if_pos (by omega)]
  unfold Lib.itoa
  rw [if_neg (by omega)]
  simp
theorem itoa_neg (a : Nat) (h1 : 1 ≤ a) (h2 : a ≤ 8) : itoa.f (-(a : Int)) = some ((⟨#[45]⟩ : ByteArray) ++ (⟨(Lib.decDigits a).toArray⟩ : ByteArray)) := by
  unfold itoa.f
  rw [if_pos (by omega)]
  unfold Lib.itoa
  rw [if_pos (by omega), show (-(a : Int)).natAbs = a by omega, Lib.decDigits_one (i := a) (by omega)]
  rcases eight a h1 h2 with rfl | rfl | rfl | rfl | rfl | rfl | rfl | rfl <;> rfl
/-- A leaf's sign and number. -/
def pieceT (x : Int) : ByteArray := (if x < 0 then (⟨#[45]⟩ : ByteArray) else (⟨#[43]⟩ : ByteArray)) ++ (⟨(Lib.decDigits x.natAbs).toArray⟩ : ByteArray)
def textT : List Int → ByteArray → ByteArray
  | [], s => s
  | x :: xs, s => textT xs (s ++ pieceT x)
theorem piece_size (x : Int) (h1 : -8 ≤ x) (h2 : x ≤ 8) (h0 : x ≠ 0) : (pieceT x).size = 2 := by
  have e : (⟨(Lib.decDigits x.natAbs).toArray⟩ : ByteArray).size = 1 := by
    rw [Lib.decDigits_one (by omega)]
    rfl
  unfold pieceT
  rw [ByteArray.size_append, e]
  split <;> rfl
theorem biText_l0 (b : List Int) (hn : b.length ≤ 8) (hb : ∀ x ∈ b, -8 ≤ x ∧ x ≤ 8 ∧ x ≠ 0) : ∀ (n i : Nat) (s : ByteArray), i + n = b.length → s.size + 2 * n ≤ 100 →
    Ev (fun k => spec_biText.l0 k s b (b.length : Int) (i : Int)) (textT (b.drop i) s) ∧ Ev (fun k => impl_bindingText.l0 k s b (b.length : Int) (i : Int)) (textT (b.drop i) s) := by
  intro n
  induction n with
  | zero =>
    intro i s hi hs
    rw [List.drop_of_length_le (by omega)]
    refine ⟨Ev_step (fun k => ?_) (Ev.now _), Ev_step (fun k => ?_) (Ev.now _)⟩
    · rw [spec_biText.l0, if_neg (by omega)]
      rfl
    · rw [impl_bindingText.l0, if_neg (by omega)]
      rfl
  | succ n ih =>
    intro i s hi hs
    have h : i < b.length := by omega
    have hx := hb _ (List.getElem_mem h)
    rw [← getD_at b 0 h] at hx
    have hz := piece_size _ hx.1 hx.2.1 hx.2.2
    obtain ⟨e1, e2⟩ := ih (i + 1) (s ++ pieceT (b.getD i 0)) (by omega) (by rw [ByteArray.size_append, hz]; omega)
    rw [List.drop_eq_getElem_cons h, ← getD_at b 0 h, textT]
    generalize hy : b.getD i 0 = x at hx hz e1 e2
    have hd : (⟨(Lib.decDigits x.natAbs).toArray⟩ : ByteArray).size = 1 := by
      rw [Lib.decDigits_one (by omega)]
      rfl
    by_cases hneg : x < 0
    · obtain ⟨a, rfl⟩ : ∃ a : Nat, x = -(a : Int) := ⟨x.natAbs, by omega⟩
      have ea : (-(a : Int)).natAbs = a := by omega
      have ep : pieceT (-(a : Int)) = (⟨#[45]⟩ : ByteArray) ++ (⟨(Lib.decDigits a).toArray⟩ : ByteArray) := by unfold pieceT; rw [if_pos hneg, ea]
      rw [ea] at hd
      rw [ep] at e1 e2 hz
      have wn : wrap64 (- -(a : Int)) = (a : Int) := by rw [w64 (by omega) (by omega)]; omega
      refine ⟨?_, ?_⟩
      · refine Ev_step (fun k => by rw [spec_biText.l0, if_pos (by omega), if_pos (by omega), if_pos (by omega), rd_nat, hy, if_pos hneg, wn, nextI i (by omega)]) ?_
        have hn1 : Ev (fun k => spec_l1Num.f k (a : Int)) (⟨(Lib.decDigits a).toArray⟩ : ByteArray) := Ev_step (fun k => by rw [spec_l1Num.f, if_pos (by omega), digit_eq a (by omega) (by omega)]) (Ev.now _)
        refine Ev_bind hn1 (Ev_pos (by omega) (Ev_pos (by rw [hz]; omega) ?_))
        rw [ep]
        exact e1
      · refine Ev_step (fun k => by rw [impl_bindingText.l0, if_pos (by omega), if_pos (by omega), if_pos (by omega), rd_nat, hy, if_neg (by omega), nextI i (by omega)]) ?_
        refine Ev_some (itoa_neg a (by omega) (by omega)) (Ev_pos (by rw [hz]; omega) ?_)
        rw [ep]
        exact e2
    · obtain ⟨a, rfl⟩ : ∃ a : Nat, x = (a : Int) := ⟨x.natAbs, by omega⟩
      have ea : ((a : Int)).natAbs = a := by omega
      have ep : pieceT (a : Int) = (⟨#[43]⟩ : ByteArray) ++ (⟨(Lib.decDigits a).toArray⟩ : ByteArray) := by unfold pieceT; rw [if_neg hneg, ea]
      rw [ea] at hd
      rw [ep] at e1 e2 hz
      refine ⟨?_, ?_⟩
      · refine Ev_step (fun k => by rw [spec_biText.l0, if_pos (by omega), if_pos (by omega), if_pos (by omega), rd_nat, hy, if_neg hneg, nextI i (by omega)]) ?_
        have hn1 : Ev (fun k => spec_l1Num.f k (a : Int)) (⟨(Lib.decDigits a).toArray⟩ : ByteArray) := Ev_step (fun k => by rw [spec_l1Num.f, if_pos (by omega), digit_eq a (by omega) (by omega)]) (Ev.now _)
        refine Ev_bind hn1 (Ev_pos (by omega) (Ev_pos (by rw [hz]; omega) ?_))
        rw [ep]
        exact e1
      · refine Ev_step (fun k => by rw [impl_bindingText.l0, if_pos (by omega), if_pos (by omega), if_pos (by omega), rd_nat, hy, if_pos (by omega), if_pos (by omega), nextI i (by omega)]) ?_
        refine Ev_some (itoa_pos a (by omega)) (Ev_pos ?_ ?_)
        · rw [ByteArray.size_append, hd]
          have : (⟨#[43]⟩ : ByteArray).size = 1 := rfl
          omega
        · rw [ByteArray.append_assoc, ep]
          exact e2
theorem bind_in {b : List Int} (h : bindS b = true) : b.length ≤ 8 ∧ ∀ x ∈ b, -8 ≤ x ∧ x ≤ 8 ∧ x ≠ 0 := by
  unfold bindS at h
  simp only [Bool.and_eq_true, decide_eq_true_eq, List.all_eq_true, fresh_iff] at h
  obtain ⟨h1, h2, h3, _⟩ := h
  exact ⟨h1.2, fun x hx => by have := h2 x hx; have := h3 x hx; omega⟩
theorem text_ev (b : List Int) (h : bindS b = true) : Ev (fun k => spec_biText.f k b) (textT b ⟨#[]⟩) ∧ Ev (fun k => impl_bindingText.f k b) (textT b ⟨#[]⟩) := by
  obtain ⟨h1, h2⟩ := bind_in h
  obtain ⟨e1, e2⟩ := biText_l0 b h1 h2 b.length 0 ⟨#[]⟩ (by omega) (by show 0 + _ ≤ _; omega)
  exact ⟨Ev.congr (fun k => by rw [spec_biText.f]; rfl) e1, Ev.congr (fun k => by rw [impl_bindingText.f]; rfl) e2⟩
end Go.Proofs.YtppbpefehpbejaaDoor.P
end

section
set_option linter.unusedVariables false
namespace Go.Proofs.YtppbpefehpbejaaDoor.Pure
open Go.RowKit Go.Proofs.YtppbpefehpbejaaDoorW.PrintWords Go.Proofs.YtppbpefehpbejaaDoor.P Go.Proofs.YtppbpefehpbejaaDoor.Base Go.Proofs.YtppbpefehpbejaaDoor.Order

/-- A leaf's two bytes. -/
def pieceL (x : Int) : List UInt8 := [if x < 0 then 45 else 43, UInt8.ofNat (48 + x.natAbs)]
theorem piece_bytes (x : Int) (h1 : -8 ≤ x) (h2 : x ≤ 8) : (pieceT x).data.toList = pieceL x := by
  unfold pieceT pieceL
  rw [Lib.decDigits_one (by omega)]
  split <;> rfl
theorem text_bytes : ∀ (b : List Int) (s : ByteArray), (∀ x ∈ b, -8 ≤ x ∧ x ≤ 8 ∧ x ≠ 0) → (textT b s).data.toList = s.data.toList ++ b.flatMap pieceL := by
  intro b
  induction b with
  | nil => intro s _; simp [textT]
  | cons x b ih =>
    intro s h
    rw [textT, ih _ (fun y hy => h y (List.mem_cons_of_mem _ hy)), ByteArray.data_append, Array.toList_append, piece_bytes x (h x (by simp)).1 (h x (by simp)).2.1, List.flatMap_cons, List.append_assoc]
/-- The byte at a place, as the list of the bytes has it. -/
theorem bt_list (s : ByteArray) (i : Nat) : bt s (i : Int) = (((s.data.toList[i]?).getD 0).toNat : Int) := by
  unfold bt
  rw [Int.toNat_natCast]
  by_cases h : i < s.size
  · rw [dif_pos h, List.getElem?_eq_getElem (by simpa using h)]
    rfl
  · rw [dif_neg h, List.getElem?_eq_none (by simpa using h)]
    rfl
theorem bytes_at : ∀ (b : List Int) (i : Nat) (h : i < b.length), (b.flatMap pieceL)[2 * i]? = some (if b[i] < 0 then 45 else 43) ∧ (b.flatMap pieceL)[2 * i + 1]? = some (UInt8.ofNat (48 + (b[i]).natAbs)) := by
  intro b
  induction b with
  | nil => intro i h; exact absurd h (by simp)
  | cons x b ih =>
    intro i h
    cases i with
    | zero => simp [pieceL]
    | succ i =>
      have := ih i (by simpa using h)
      rw [List.flatMap_cons]
      have hl : (pieceL x).length = 2 := rfl
      refine ⟨?_, ?_⟩
      · rw [List.getElem?_append_right (by omega), hl, show 2 * (i + 1) - 2 = 2 * i by omega]
        simpa using this.1
      · rw [List.getElem?_append_right (by omega), hl, show 2 * (i + 1) + 1 - 2 = 2 * i + 1 by omega]
        simpa using this.2
theorem bytes_len : ∀ b : List Int, (b.flatMap pieceL).length = 2 * b.length := by
  intro b
  induction b with
  | nil => rfl
  | cons x b ih =>
    rw [List.flatMap_cons, List.length_append, ih, List.length_cons]
    show 2 + _ = _
    omega
/-- What the program reads at place i. -/
def readP (s : ByteArray) (i : Nat) : Int := if bt s (i : Int) = 45 then 48 - bt s ((i + 1 : Nat) : Int) else bt s ((i + 1 : Nat) : Int) - 48
def listP (s : ByteArray) : Nat → Nat → List Int
  | 0, _ => []
  | n + 1, i => readP s i :: listP s n (i + 2)
/-- The end of both: is it a binding with this text? -/
def finR (s : ByteArray) (b : List Int) : List Int × Bool := if bindS b = true ∧ (textT b ⟨#[]⟩).toList = s.toList then (b, true) else ([], false)
theorem listP_len (s : ByteArray) : ∀ n i, (listP s n i).length = n := by
  intro n
  induction n with
  | zero => intro i; rfl
  | succ n ih => intro i; simp [listP, ih]
theorem bt_range (s : ByteArray) (i : Int) : 0 ≤ bt s i ∧ bt s i ≤ 255 := by
  unfold bt
  split
  · rename_i h
    have := UInt8.toNat_lt (s[i.toNat]'h)
    omega
  · omega
theorem fin_ev (s : ByteArray) (b : List Int) (hn : b.length ≤ 1048576) :
    Ev (fun k => (spec_biGood.f k b).bind fun t => if t = true then ((spec_biText.f k b).bind fun u => if u.toList = s.toList then some (b, true) else some (([] : List Int), false)) else some (([] : List Int), false)) (finR s b) ∧
    Ev (fun k => (impl_IsBinding.f k b).bind fun t => if t = true then ((impl_bindingText.f k b).bind fun u => if u.toList = s.toList then some (b, true) else some (([] : List Int), false)) else some (([] : List Int), false)) (finR s b) := by
  unfold finR
  cases hb : bindS b with
  | false =>
    rw [if_neg (fun h => by cases h.1)]
    refine ⟨Ev_bind (biGood_ev b hn) ?_, Ev_bind (isBinding_ev b hn) ?_⟩
    · rw [hb]; exact Ev_neg (by decide) (Ev.now _)
    · rw [hb]; exact Ev_neg (by decide) (Ev.now _)
  | true =>
    obtain ⟨e1, e2⟩ := text_ev b hb
    by_cases ht : (textT b ⟨#[]⟩).toList = s.toList
    · rw [if_pos ⟨rfl, ht⟩]
      refine ⟨Ev_bind (biGood_ev b hn) ?_, Ev_bind (isBinding_ev b hn) ?_⟩
      · rw [hb]; exact Ev_pos rfl (Ev_bind e1 (Ev_pos ht (Ev.now _)))
      · rw [hb]; exact Ev_pos rfl (Ev_bind e2 (Ev_pos ht (Ev.now _)))
    · rw [if_neg (fun h => ht h.2)]
      refine ⟨Ev_bind (biGood_ev b hn) ?_, Ev_bind (isBinding_ev b hn) ?_⟩
      · rw [hb]; exact Ev_pos rfl (Ev_bind e1 (Ev_neg ht (Ev.now _)))
      · rw [hb]; exact Ev_pos rfl (Ev_bind e2 (Ev_neg ht (Ev.now _)))
theorem next2 (n : Nat) (h : n ≤ 1000) : wrap64 ((n : Int) + 2) = ((n + 2 : Nat) : Int) := by
  rw [w64 (by omega) (by omega)]; omega
theorem implParse_l0 (s : ByteArray) (hs : s.size ≤ 16) : ∀ (n i : Nat) (acc : List Int), i + 2 * n = s.size → acc.length + n ≤ 100 → Ev (fun k => impl_ParseBinding.l0 k s acc (i : Int)) (finR s (acc ++ listP s n i)) := by
  intro n
  induction n with
  | zero =>
    intro i acc hi ha
    rw [listP, List.append_nil]
    exact Ev_step (fun k => by rw [impl_ParseBinding.l0, if_neg (by omega)]) (fin_ev s acc (by omega)).2
  | succ n ih =>
    intro i acc hi ha
    have hb0 := bt_range s (i : Int)
    have hb1 := bt_range s ((i + 1 : Nat) : Int)
    have w1 : wrap64 (wrap64 (bt s ((i + 1 : Nat) : Int)) - 48) = bt s ((i + 1 : Nat) : Int) - 48 := by rw [w64 (x := bt s ((i + 1 : Nat) : Int)) (by omega) (by omega), w64 (by omega) (by omega)]
    have w2 : wrap64 (-(bt s ((i + 1 : Nat) : Int) - 48)) = 48 - bt s ((i + 1 : Nat) : Int) := by rw [w64 (by omega) (by omega)]; omega
    refine Ev_step (fun k => by rw [impl_ParseBinding.l0, if_pos (by omega), nextI i (by omega), if_pos (by omega), if_pos (by omega), if_pos (by omega), w1, w2, next2 i (by omega)]) ?_
    have := fun v => ih (i + 2) (acc ++ [v]) (by omega) (by rw [List.length_append]; simp only [List.length_cons, List.length_nil]; omega)
    rw [listP]
    unfold readP
    by_cases h : bt s (i : Int) = 45
    · rw [if_pos h]
      refine Ev_pos h (Ev_pos (by omega) ?_)
      have t := this (48 - bt s ((i + 1 : Nat) : Int))
      rw [List.append_assoc] at t
      exact t
    · rw [if_neg h]
      refine Ev_neg h (Ev_pos (by omega) ?_)
      have t := this (bt s ((i + 1 : Nat) : Int) - 48)
      rw [List.append_assoc] at t
      exact t
/-- A digit's number, as the reference reads it. -/
def digS (c : Int) : Int := if 48 ≤ c ∧ c ≤ 57 then c - 48 else -1
theorem read_ev (e : ByteArray) (he : e.size = 1) : Ev (fun k => spec_l1Read.f k e) (digS (bt e 0)) := by
  have hb := bt_range e 0
  have hl : Ev (fun k => spec_l1Read.l0 k e 0 0) (digS (bt e 0)) := by
    refine Ev_step (fun k => by rw [spec_l1Read.l0, if_pos (by omega), if_pos (by decide)]) ?_
    unfold digS
    by_cases h1 : bt e 0 < 48
    · rw [if_neg (by omega)]
      exact Ev_pos h1 (Ev.now _)
    · by_cases h2 : bt e 0 > 57
      · rw [if_neg (by omega)]
        exact Ev_neg h1 (Ev_pos h2 (Ev.now _))
      · rw [if_pos (by omega)]
        have w : wrap64 (wrap64 (10 * 0) + ((bt e 0 - 48) % 256)) = bt e 0 - 48 := by rw [w64 (x := 10 * 0) (by omega) (by omega), w64 (by omega) (by omega)]; omega
        have w1 : wrap64 (0 + 1) = 1 := by unfold wrap64; omega
        refine Ev_neg h1 (Ev_neg h2 ?_)
        rw [w, w1]
        exact Ev_step (fun k => by rw [spec_l1Read.l0, if_neg (by omega)]) (Ev.now _)
  have hj : Ev (fun k => spec_l1Read.j0 k e false) (digS (bt e 0)) := Ev_step (fun k => by rw [spec_l1Read.j0, if_neg (by decide)]) hl
  simp only [spec_l1Read.f]
  refine Ev_some (l1In_eq _ _ _) ?_
  rw [he]
  refine Ev_pos (by decide) (Ev_pos (by decide) ?_)
  by_cases h : bt e 0 = 48
  · exact Ev_pos h hj
  · exact Ev_neg h hj
/-- What the reference answers from place i on. -/
def finS (s : ByteArray) : Nat → Nat → List Int → List Int × Bool
  | 0, _, acc => finR s acc
  | n + 1, i, acc => if bt s (i : Int) = 43 then finS s n (i + 2) (acc ++ [digS (bt s ((i + 1 : Nat) : Int))]) else if bt s (i : Int) = 45 then finS s n (i + 2) (acc ++ [-(digS (bt s ((i + 1 : Nat) : Int)))]) else ([], false)
theorem cut_bt (s : ByteArray) (a : Nat) (h : a < s.size) : (s.extract a (a + 1)).size = 1 ∧ bt (s.extract a (a + 1)) 0 = bt s (a : Int) := by
  have h1 : (s.extract a (a + 1)).size = 1 := by rw [ByteArray.size_extract]; omega
  refine ⟨h1, ?_⟩
  unfold bt
  rw [dif_pos (by rw [h1]; decide), dif_pos (by rw [Int.toNat_natCast]; exact h)]
  simp [ByteArray.getElem_extract]
theorem specParse_l0 (s : ByteArray) (hs : s.size ≤ 16) : ∀ (n i : Nat) (acc : List Int), i + 2 * n = s.size → acc.length + n ≤ 100 → Ev (fun k => spec_biParse.l0 k s acc (i : Int)) (finS s n i acc) := by
  intro n
  induction n with
  | zero =>
    intro i acc hi ha
    rw [finS]
    exact Ev_step (fun k => by rw [spec_biParse.l0, if_neg (by omega)]) (fin_ev s acc (by omega)).1
  | succ n ih =>
    intro i acc hi ha
    obtain ⟨c1, c2⟩ := cut_bt s (i + 1) (by omega)
    have hr := read_ev _ c1
    rw [c2] at hr
    have hd : -1 ≤ digS (bt s ((i + 1 : Nat) : Int)) ∧ digS (bt s ((i + 1 : Nat) : Int)) ≤ 9 := by unfold digS; split <;> omega
    have w2 : wrap64 (-(digS (bt s ((i + 1 : Nat) : Int)))) = -(digS (bt s ((i + 1 : Nat) : Int))) := by rw [w64 (by omega) (by omega)]
    have := fun v => ih (i + 2) (acc ++ [v]) (by omega) (by rw [List.length_append]; simp only [List.length_cons, List.length_nil]; omega)
    refine Ev_step (fun k => by rw [spec_biParse.l0, if_pos (by omega), nextI i (by omega), next2 i (by omega), if_pos (by omega), if_pos (by omega), if_pos (by omega), Int.toNat_natCast, Int.toNat_natCast]) ?_
    refine Ev_bind hr (Ev_pos (by omega) ?_)
    rw [finS]
    by_cases h : bt s (i : Int) = 43
    · rw [if_pos h]
      exact Ev_pos h (Ev_pos (by omega) (this _))
    · rw [if_neg h]
      refine Ev_neg h ?_
      by_cases h5 : bt s (i : Int) = 45
      · rw [if_pos h5]
        refine Ev_pos h5 (Ev_pos (by omega) ?_)
        rw [w2]
        exact this _
      · rw [if_neg h5]
        exact Ev_neg h5 (Ev.now _)
theorem finS_none (s : ByteArray) (h : ∀ b, finR s b = ([], false)) : ∀ n i acc, finS s n i acc = ([], false) := by
  intro n
  induction n with
  | zero => intro i acc; exact h acc
  | succ n ih =>
    intro i acc
    rw [finS, ih, ih]
    split
    · rfl
    · split <;> rfl
/-- Where a binding has this text, both read it. -/
theorem read_both (s : ByteArray) (b : List Int) (hb : ∀ x ∈ b, -8 ≤ x ∧ x ≤ 8 ∧ x ≠ 0) (hs : s.data.toList = b.flatMap pieceL) :
    ∀ m j, j + m = b.length → listP s m (2 * j) = b.drop j ∧ finS s m (2 * j) (b.take j) = finR s b := by
  intro m
  induction m with
  | zero =>
    intro j hj
    rw [List.drop_of_length_le (by omega), List.take_of_length_le (by omega)]
    exact ⟨rfl, rfl⟩
  | succ m ih =>
    intro j hj
    have h : j < b.length := by omega
    obtain ⟨i1, i2⟩ := ih (j + 1) (by omega)
    obtain ⟨p1, p2⟩ := bytes_at b j h
    have hx := hb _ (List.getElem_mem h)
    have b1 : bt s ((2 * j : Nat) : Int) = if b[j] < 0 then 45 else 43 := by
      rw [bt_list, hs, p1]
      split <;> rfl
    have b2 : bt s ((2 * j + 1 : Nat) : Int) = 48 + (b[j]).natAbs := by
      rw [bt_list, hs, p2]
      have : (UInt8.ofNat (48 + (b[j]).natAbs)).toNat = 48 + (b[j]).natAbs := by
        rw [UInt8.toNat_ofNat']
        omega
      simp only [Option.getD_some, this]
      omega
    have hd : digS (bt s ((2 * j + 1 : Nat) : Int)) = (b[j]).natAbs := by
      unfold digS
      rw [b2, if_pos (by omega)]
      omega
    have e2 : 2 * (j + 1) = 2 * j + 2 := by omega
    rw [e2] at i1 i2
    have tk : b.take (j + 1) = b.take j ++ [b[j]] := by rw [List.take_add_one, List.getElem?_eq_getElem h]; rfl
    rw [tk] at i2
    constructor
    · rw [listP, i1, List.drop_eq_getElem_cons h]
      congr 1
      unfold readP
      rw [b1, b2]
      by_cases hn : b[j] < 0
      · rw [if_pos hn, if_pos rfl]; omega
      · rw [if_neg hn, if_neg (by decide)]; omega
    · rw [finS, hd, b1]
      by_cases hn : b[j] < 0
      · rw [if_pos hn, if_neg (by decide), if_pos rfl, show -(((b[j]).natAbs : Nat) : Int) = b[j] by omega]
        exact i2
      · rw [if_neg hn, if_pos rfl, show (((b[j]).natAbs : Nat) : Int) = b[j] by omega]
        exact i2
theorem parse_ev (s : ByteArray) (hm : s.size ≤ 1048576) : ∃ r : List Int × Bool, Ev (fun k => spec_ParseBinding.f k s) r ∧ Ev (fun k => impl_ParseBinding.f k s) r ∧ r.1.length ≤ 1048576 ∧ (r.2 = true → bindS r.1 = true ∧ (textT r.1 ⟨#[]⟩).toList = s.toList) := by
  have fin_len : ∀ b, b.length ≤ 100 → (finR s b).1.length ≤ 1048576 := fun b h => by
    unfold finR
    split
    · show b.length ≤ _; omega
    · exact Nat.zero_le _
  have key : ∀ (r : List Int × Bool), Ev (fun k => spec_biParse.f k s) r → Ev (fun k => spec_ParseBinding.f k s) r := fun r h => by
    simp only [spec_ParseBinding.f]
    exact Ev_bind h (Ev.now _)
  by_cases ho : ((s.size : Int) % 2) = 1
  · refine ⟨([], false), key _ ?_, ?_, Nat.zero_le _, fun h => by cases h⟩
    · simp only [spec_biParse.f]
      exact Ev_pos ho (Ev_step (fun k => by rw [spec_biParse.j0]) (Ev_pos rfl (Ev.now _)))
    · simp only [impl_ParseBinding.f]
      exact Ev_some (a := []) rfl (Ev_pos ho (Ev_step (fun k => by rw [impl_ParseBinding.j0]) (Ev_pos rfl (Ev.now _))))
  · by_cases hg : (s.size : Int) > 16
    · refine ⟨([], false), key _ ?_, ?_, Nat.zero_le _, fun h => by cases h⟩
      · simp only [spec_biParse.f]
        exact Ev_neg ho (Ev_step (fun k => by rw [spec_biParse.j0]) (Ev_pos (decide_eq_true hg) (Ev.now _)))
      · simp only [impl_ParseBinding.f]
        exact Ev_some (a := []) rfl (Ev_neg ho (Ev_step (fun k => by rw [impl_ParseBinding.j0]) (Ev_pos (decide_eq_true hg) (Ev.now _))))
    · obtain ⟨n, hn⟩ : ∃ n, s.size = 2 * n := ⟨s.size / 2, by omega⟩
      have h1 := specParse_l0 s (by omega) n 0 [] (by omega) (by simp only [List.length_nil]; omega)
      have h2 := implParse_l0 s (by omega) n 0 [] (by omega) (by simp only [List.length_nil]; omega)
      have he : finS s n 0 [] = finR s ([] ++ listP s n 0) := by
        rw [List.nil_append]
        by_cases hx : ∃ b, bindS b = true ∧ (textT b ⟨#[]⟩).toList = s.toList
        · obtain ⟨b, hb, ht⟩ := hx
          obtain ⟨_, hi⟩ := bind_in hb
          rw [ByteArray.toList_eq, ByteArray.toList_eq, text_bytes b _ hi] at ht
          have hs : s.data.toList = b.flatMap pieceL := ht.symm.trans (List.nil_append _)
          have hl : b.length = n := by
            have e := congrArg List.length hs
            rw [bytes_len] at e
            have : s.data.toList.length = s.size := by rw [Array.length_toList]; rfl
            omega
          obtain ⟨r1, r2⟩ := read_both s b hi hs n 0 (by omega)
          rw [Nat.mul_zero] at r1 r2
          rw [r1, List.drop_zero]
          rw [List.take_zero] at r2
          exact r2
        · have hno : ∀ b, finR s b = ([], false) := fun b => by
            unfold finR
            exact if_neg (fun h => hx ⟨b, h⟩)
          rw [hno, finS_none s hno]
      refine ⟨finR s ([] ++ listP s n 0), key _ ?_, ?_, fin_len _ (by rw [List.nil_append, listP_len]; omega), fun h => by
        unfold finR at h ⊢
        split at h
        · rename_i h2
          rw [if_pos h2]
          exact h2
        · cases h⟩
      · simp only [spec_biParse.f]
        refine Ev_neg ho (Ev_step (fun k => by rw [spec_biParse.j0]) (Ev_neg (by simp; omega) ?_))
        rw [← he]
        exact h1
      · simp only [impl_ParseBinding.f]
        refine Ev_some (a := []) rfl (Ev_neg ho ?_)
        refine Ev_step (fun k => by rw [impl_ParseBinding.j0]) ?_
        refine Ev_neg (by simp; omega) ?_
        exact h2
/-- The text of a binding is read as the binding. -/
theorem parse_text {b : List Int} (hb : bindS b = true) : Ev (fun k => impl_ParseBinding.f k (textT b ⟨#[]⟩)) (b, true) := by
  obtain ⟨h8, hi⟩ := bind_in hb
  have hs : (textT b ⟨#[]⟩).data.toList = b.flatMap pieceL := by rw [text_bytes b _ hi]; rfl
  generalize ht : textT b ⟨#[]⟩ = s at hs
  have hl : s.size = 2 * b.length := by
    have e := congrArg List.length hs
    rw [bytes_len] at e
    have : s.data.toList.length = s.size := by rw [Array.length_toList]; rfl
    omega
  obtain ⟨r1, r2⟩ := read_both s b hi hs b.length 0 (by omega)
  rw [Nat.mul_zero, List.drop_zero] at r1
  have h2 := implParse_l0 s (by omega) b.length 0 [] (by omega) (by simp only [List.length_nil]; omega)
  rw [r1, List.nil_append] at h2
  have hf : finR s b = (b, true) := by
    unfold finR
    rw [if_pos ⟨hb, by rw [ht]⟩]
  rw [hf] at h2
  simp only [impl_ParseBinding.f]
  refine Ev_some (a := []) rfl (Ev_neg (by omega) ?_)
  refine Ev_step (fun k => by rw [impl_ParseBinding.j0]) ?_
  exact Ev_neg (by simp; omega) h2
end Go.Proofs.YtppbpefehpbejaaDoor.Pure
end
