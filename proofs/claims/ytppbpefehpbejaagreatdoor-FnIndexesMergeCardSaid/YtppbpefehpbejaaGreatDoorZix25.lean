/- Lean functions with the answers of the program's Go functions, and for each the proof that the Go code comes to these answers; no condition. -/
import Derived.Test.YtppbpefehpbejaaGreatDoorZix21
import Derived.Test.YtppbpefehpbejaaGreatDoorZix22
import Derived.Test.YtppbpefehpbejaaGreatDoorZix24
import Derived.Shelf.Abstract
import Derived.Test.YtppbpefehpbejaaGreatDoorZix23
section
namespace Go.Proofs.YtppbpefehpbejaaGreatDoor.P
open Go.RowKit Go.Proofs.YtppbpefehpbejaaGreatDoorW.PrintWords Go.Proofs.YtppbpefehpbejaaGreatDoorW.PrintLast Go.Proofs.YtppbpefehpbejaaGreatDoorW.PrintMore
attribute [local go_sem] max2_int min2_int max_two min_two max_three min_three max_four min_four   -- for this text's walks alone
set_option linter.unusedVariables false
set_option linter.unusedSimpArgs false

def spec_ixParse.l0 : Nat → List (S69) → List ByteArray → Int → Int → Option ((List (S69)) × Bool)
 | 0, _, _, _, _ => none
 | k + 1, x4, x15, x16, x17 => if x17 < x16 then (if 0 ≤ x17 then (if x17 < (x15.length : Int) then ((spec_ixLong.f k (rdOf ByteArray.empty x15 x17)).bind fun bt457 => (if bt457.2.2 = true then (if x4.length < 8796093022208 then (spec_ixParse.l0 k (x4 ++ [(⟨bt457.1, bt457.2.1⟩ : S69)]) x15 x16 (wrap64 (x17 + 1))) else (none)) else (some (([] : List (S69)), false)))) else (none)) else (none)) else ((spec_ixGood.f k x4).bind fun t464 => (if t464 = true then (some (x4, true)) else (some (([] : List (S69)), false))))
def spec_ixParse.f (k : Nat) (a0 : ByteArray) : Option ((List (S69)) × Bool) := if (a0.size : Int) > 200 then (some (([] : List (S69)), false)) else (if a0.toList = ([] : List UInt8) then (some (([] : List (S69)), true)) else ((spec_l1Split.f k a0 44).bind fun t453 => (spec_ixParse.l0 k ([] : List (S69)) t453 (t453.length : Int) 0)))
set_option maxHeartbeats 8000000 in
set_option maxRecDepth 100000 in
theorem spec_ixParse.calls (k : Nat) (a0 : ByteArray) (r1 : List (S69)) (r2 : Bool) (w : World) (h : spec_ixParse.f k a0 = some (r1, r2)) :
  Calls Tryz.prog 143 #[.string a0] w fun e w' => ∃ v0_ : Value, e = .returned (.tuple #[v0_, .bool r2]) ∧ Kd.R k69 69 w' w.heap.size (fun _ => True) v0_ r1 ∧ Below w.heap.size w w' := by
 have hu69 := Tryz.underlying69
 have HB := Az_ (Below.refl w.heap.size w)
 have H : (if (a0.size : Int) > 200 then (some (([] : List (S69)), false)) else (if a0.toList = ([] : List UInt8) then (some (([] : List (S69)), true)) else ((spec_l1Split.f k a0 44).bind fun t453 => (spec_ixParse.l0 k ([] : List (S69)) t453 (t453.length : Int) 0)))) = some (r1, r2) := h
 clear h
 by_cases c2 : (a0.size : Int) > 200
 ·rw [if_pos c2] at H
  have c2b0 := decide_eq_true c2
  have c2b1 : decide (200 < a0.size) = true := decide_eq_true (by omega)
  clear c2
  simp only [Option.some.injEq, Prod.mk.injEq] at H
  obtain ⟨rfl, rfl⟩ := H
  go_enter Tryz.func143, Tryz.ntmps143
  go_wp2
  go_ret2
  exact ⟨_, w61_, w41_, w109_⟩
 ·rw [if_neg c2] at H
  have c2b0 := decide_eq_false c2
  have c2b1 : decide (200 < a0.size) = false := decide_eq_false (by omega)
  clear c2
  by_cases c3 : a0.toList = ([] : List UInt8)
  ·rw [if_pos c3] at H
   have c3b0 : (a0.toList == ([] : List UInt8)) = true := beq_iff_eq.mpr c3
   have c3b1 : (a0.toList != ([] : List UInt8)) = false := bne_eq_false_iff_eq.mpr c3
   clear c3
   simp only [Option.some.injEq, Prod.mk.injEq] at H
   obtain ⟨rfl, rfl⟩ := H
   go_enter Tryz.func143, Tryz.ntmps143
   go_wp2
   go_ret2
   exact ⟨_, w61_, w41_, w109_⟩
  ·rw [if_neg c3] at H
   have c3b0 : (a0.toList == ([] : List UInt8)) = false := beq_eq_false_iff_ne.mpr c3
   have c3b1 : (a0.toList != ([] : List UInt8)) = true := bne_iff_ne.mpr c3
   replace H := bqz_ H; obtain ⟨t453, A4, H⟩ := H
   replace H : (spec_ixParse.l0 k ([] : List (S69)) t453 (t453.length : Int) 0) = some (r1, r2) := H
   have H' := Az_ H
   clear H
   go_enter Tryz.func143, Tryz.ntmps143
   go_wp2_with (first | ((with_reducible refine gate_callee (f := 171) rfl ?_); refine goesL_ (some 15) rfl rfl Tryz.func171 (w110_) rfl #[.string a0, .int .u8 44] rfl maz_ ?_; (with_reducible refine (spec_l1Split.calls k a0 44 t453 _ A4.out).mono ?_); rintro e w5 ⟨v454, rfl, ho0, hb⟩; refine ⟨_, rfl, ?_⟩; have HO455 := Az_ (Kd.R_lower ho0 (below_size (ubz_ HB.out))); replace HB := Az_ (btz_ (ubz_ HB.out) hb); (try clear hb); (try clear ho0); obtain ⟨Ao6, co6, eo6⟩ := Kd.R_slice HO455.out; subst eo6))
   go_loopg [4, 17] k (fun kq v4 v17 w' => ∃ (x4_1 : List (S69)) (x17_1 : Int), v17 = .int .i64 x17_1 ∧ Aside0 (spec_ixParse.l0 kq x4_1 t453 (t453.length : Int) x17_1 = some (r1, r2)) ∧ Aside0 (kq ≤ k) ∧ Aside0 (Kd.R k69 69 w' w.heap.size (fun _ => True) v4 x4_1) ∧ Aside0 (Kd.R Kd.string 9 w' w.heap.size (fun _ => True) (.slice Ao6 t453.length co6) t453) ∧ Aside0 (Below w.heap.size w w'))
   case atStart => exact ⟨(([] : List (S69))), (0), qaz_, H', ⟨Nat.le_refl _⟩, ⟨w41_⟩, ⟨by (with_reducible repeat (first | apply raz_ | apply rnz_ | apply rdz_)); exact HO455.out⟩, ⟨w109_⟩⟩
   case round =>
    clear H'
    clear c2b0 c2b1 c3 c3b0 c3b1
    obtain ⟨x4_1, x17_1, rfl, HA, HK1, HO_4, HO_15, HB⟩ := hrel
    cases gk with
    | zero => exact absurd HA.out (by simp [spec_ixParse.l0])
    | succ k1 =>
     have H := HA.out
     clear HA
     simp only [spec_ixParse.l0] at H
     by_cases c7 : x17_1 < (t453.length : Int)
     ·rw [if_pos c7] at H
      have c7b0 := decide_eq_true c7
      clear c7
      by_cases c8 : 0 ≤ x17_1
      ·rw [if_pos c8] at H
       have c8b0 := decide_eq_true c8
       clear c8
       by_cases c9 : x17_1 < (t453.length : Int)
       ·rw [if_pos c9] at H
        have c9b0 := decide_eq_true c9
        clear c9
        replace H := bqz_ H; obtain ⟨⟨t457, t458, t459⟩, A10, H⟩ := H
        replace H : (if t459 = true then (if x4_1.length < 8796093022208 then (spec_ixParse.l0 k1 (x4_1 ++ [(⟨t457, t458⟩ : S69)]) t453 (t453.length : Int) (wrap64 (x17_1 + 1))) else (none)) else (some (([] : List (S69)), false))) = some (r1, r2) := H
        by_cases c11 : t459 = true
        ·subst c11
         rw [if_pos rfl] at H
         by_cases c12 : x4_1.length < 8796093022208
         ·rw [if_pos c12] at H
          have LMc12 := Az_ c12
          clear c12
          obtain ⟨y461, hy461⟩ : ∃ y_ : List (S69), y_ = (x4_1 ++ [(⟨t457, t458⟩ : S69)]) := ⟨_, rfl⟩
          replace H : (spec_ixParse.l0 k1 y461 t453 (t453.length : Int) (wrap64 (x17_1 + 1))) = some (r1, r2) := by first | (rw [hy461]; with_reducible exact H) | (have H2_ := (Option.bind_some _ _).symm.trans H; rw [hy461]; with_reducible exact H2_) | (have H2_ := (Option.bind_some _ _).symm.trans H; with_reducible exact H2_) | with_reducible exact H | (rw [hy461]; exact H) | exact H
          have Ny461 := Az_ hy461
          clear hy461
          have H' := Az_ H
          clear H
          have p456 : 0 ≤ (x17_1 : Int) := of_decide_eq_true asz_
          have q456 : x17_1 < (t453.length : Int) := of_decide_eq_true asz_
          obtain ⟨ad456, e456, hx456_0⟩ := Kd.at_string (Kd.R_reads' HO_15.out).2.2 x17_1 p456 q456
          cases e456
          replace p456 := eq_true p456
          replace q456 := eq_true q456
          go_wp2_with (first | ((with_reducible refine gate_callee (f := 180) rfl ?_); refine goesL_ (some 23) rfl rfl Tryz.func180 (w110_) rfl #[.string (rdOf ByteArray.empty t453 x17_1)] rfl maz_ ?_; (with_reducible refine (spec_ixLong.calls k1 (rdOf ByteArray.empty t453 x17_1) t457 t458 true _ A10.out).mono ?_); rintro e w13 ⟨rfl, hb⟩; refine ⟨_, rfl, ?_⟩; replace HO_4 := Az_ (Kd.R_below (w105_) hb); replace HO_15 := Az_ (Kd.R_below (w86_) hb); replace HB := Az_ (btz_ (ubz_ HB.out) hb); (try clear hb)) | ((with_reducible refine gate_dst (N := 7) rfl ?_); refine box_event ?hg (N := 7) ?hd (cs := #[.int .i64 0, .int .i64 0]) (t := 69) ?hr ?_; (case hd => rfl); (case hg => rfl); (case hr => first | (go_simp; done) | (go_simp; rfl)); intro gb460 hg w14 hbox hb; replace HO_4 := Az_ (Kd.R_below (Kd.R_elderB (w105_) gb460 (Nat.le_of_eq hg.symm)) hb); replace HO_15 := Az_ (Kd.R_below (w86_) hb); have BK460 := Az_ (hbox); have GW460 := Az_ ((by rw [hg]; exact (below_size (ubz_ HB.out)) : w.heap.size ≤ gb460)); have GE460 := Az_ ((by rw [hg]; exact (below_size (ubz_ HB.out)) : w.heap.size ≤ gb460)); replace HB := Az_ (btz_ (ubz_ HB.out) hb); clear hb hbox hg; have hcz15_0 : w14.cell? ⟨gb460, 0, none⟩ = some (.int .i64 0) := (blk_cell BK460.out 0).trans rfl; have hcz15_1 : w14.cell? ⟨gb460, 1, none⟩ = some (.int .i64 0) := (blk_cell BK460.out 1).trans rfl; have hfz15_0 := blk_frozen BK460.out 0; have hfz15_1 := blk_frozen BK460.out 1) | ((with_reducible refine gate_builtin (b := .append) (xs := #[.tmp 28, .tmp 30]) rfl ?_); at_builtin; refine Kd.R_append k69 (w0 := w) w.heap.size rfl (.tmp 28) (.tmp 30) 51 69 (.agg #[(.int .i64 0), (.int .i64 0)]) 16 rfl Tryz.underlying51 info69 rfl (by decide) (by omega) u4 x4_1 (⟨t457, t458⟩ : S69) [.int .i64 t457, .int .i64 t458] (fun k_ => k_ ≠ gb460) (fun _ => False) rfl (by first | (go_simp; done) | (go_simp; rfl)) ?aP (fun _ hk => hk.elim) ?aF ?aO ?aB ?aS ?aL ?_; (case aP => exact k69_mkM _ _ _ (⟨t457, t458⟩ : S69)); (case aB => exact (w40_)); (case aF => exact (fun k_ hk => Kd.freshB (g := gb460) (o := .cells #[.int .i64 t457, .int .i64 t458] 69 (0, 0)) (w17_) k_ hk)); (case aO => exact (by (with_reducible repeat (first | apply raz_ | apply rnz_ | apply rdz_)); exact Kd.R_mono (Kd.R_far (p := ⟨gb460, 1, none⟩) (Kd.R_far (p := ⟨gb460, 0, none⟩) (Kd.R_mono HO_4.out (fun k_ hk => (⟨hk, hk.2⟩ : _ ∧ k_ ≠ gb460))) (fun _ hk => hk.2) (.int .i64 t457)) (fun _ hk => hk.2) (.int .i64 t458)) (fun _ hk => hk.1.2))); (case aS => exact (below_size (w40_))); (case aL => have := LMc12.out; omega); intro v462 w16 ho hb hg hat; rw [← Ny461.out] at ho; replace HO_15 := Az_ (Kd.R_over' (by (with_reducible repeat (first | apply raz_ | apply rnz_ | apply rdz_)); exact (Kd.R_mono (Kd.R_far (p := ⟨gb460, 1, none⟩) (Kd.R_far (p := ⟨gb460, 0, none⟩) (Kd.R_types HO_15.out BK460.out (by decide)) (fun _ hk => hk.2) (.int .i64 t457)) (fun _ hk => hk.2) (.int .i64 t458)) (fun _ h_ => h_.1))) (Kd.R_typed (by (with_reducible repeat (first | apply raz_ | apply rnz_ | apply rdz_)); exact (Kd.R_mono (Kd.R_far (p := ⟨gb460, 1, none⟩) (Kd.R_far (p := ⟨gb460, 0, none⟩) (Kd.R_mono HO_4.out (fun k_ hk => (⟨hk, hk.2⟩ : _ ∧ k_ ≠ gb460))) (fun _ hk => hk.2) (.int .i64 t457)) (fun _ hk => hk.2) (.int .i64 t458)) (fun _ h_ => h_.1)))) (by decide) hg); replace BK460 := Az_ (blk_grown (g := gb460) (o := .cells #[.int .i64 t457, .int .i64 t458] 69 (0, 0)) (w17_) hg (Kd.R_away HO_4.out (fun _ hk => hk.2))); replace HB := Az_ (hb); have HO463 := Az_ (ho); clear HO_4; clear ho hb hg hat))
          go_roundg k1
          case measure => have := HK1.out; omega
          case rel => exact ⟨(y461), (wrap64 (x17_1 + 1)), qaz_, H', ⟨w83_⟩, ⟨by (with_reducible repeat (first | apply raz_ | apply rnz_ | apply rdz_)); exact Kd.R_mono HO463.out (fun _ hk => trivial)⟩, ⟨w64_⟩, ⟨w40_⟩⟩
         ·rw [if_neg c12] at H
          exact absurd H (by simp)
        ·replace c11 := Bool.eq_false_iff.mpr c11
         subst c11
         rw [if_neg nfz_] at H
         simp only [Option.some.injEq, Prod.mk.injEq] at H
         obtain ⟨rfl, rfl⟩ := H
         have p456 : 0 ≤ (x17_1 : Int) := of_decide_eq_true asz_
         have q456 : x17_1 < (t453.length : Int) := of_decide_eq_true asz_
         obtain ⟨ad456, e456, hx456_0⟩ := Kd.at_string (Kd.R_reads' HO_15.out).2.2 x17_1 p456 q456
         cases e456
         replace p456 := eq_true p456
         replace q456 := eq_true q456
         go_wp2_with (first | ((with_reducible refine gate_callee (f := 180) rfl ?_); refine goesL_ (some 23) rfl rfl Tryz.func180 (w110_) rfl #[.string (rdOf ByteArray.empty t453 x17_1)] rfl maz_ ?_; (with_reducible refine (spec_ixLong.calls k1 (rdOf ByteArray.empty t453 x17_1) t457 t458 false _ A10.out).mono ?_); rintro e w17 ⟨rfl, hb⟩; refine ⟨_, rfl, ?_⟩; replace HO_4 := Az_ (Kd.R_below (w105_) hb); replace HO_15 := Az_ (Kd.R_below (w86_) hb); replace HB := Az_ (btz_ (ubz_ HB.out) hb); (try clear hb)) | ((with_reducible refine gate_dst (N := 7) rfl ?_); refine box_event ?hg (N := 7) ?hd (cs := #[.int .i64 0, .int .i64 0]) (t := 69) ?hr ?_; (case hd => rfl); (case hg => rfl); (case hr => first | (go_simp; done) | (go_simp; rfl)); intro gb460 hg w18 hbox hb; replace HO_4 := Az_ (Kd.R_below (Kd.R_elderB (w105_) gb460 (Nat.le_of_eq hg.symm)) hb); replace HO_15 := Az_ (Kd.R_below (w86_) hb); have BK460 := Az_ (hbox); have GW460 := Az_ ((by rw [hg]; exact (below_size (ubz_ HB.out)) : w.heap.size ≤ gb460)); have GE460 := Az_ ((by rw [hg]; exact (below_size (ubz_ HB.out)) : w.heap.size ≤ gb460)); replace HB := Az_ (btz_ (ubz_ HB.out) hb); clear hb hbox hg; have hcz19_0 : w18.cell? ⟨gb460, 0, none⟩ = some (.int .i64 0) := (blk_cell BK460.out 0).trans rfl; have hcz19_1 : w18.cell? ⟨gb460, 1, none⟩ = some (.int .i64 0) := (blk_cell BK460.out 1).trans rfl; have hfz19_0 := blk_frozen BK460.out 0; have hfz19_1 := blk_frozen BK460.out 1))
         go_ret2
         exact ⟨_, w61_, w41_, w40_⟩
       ·rw [if_neg c9] at H
        exact absurd H (by simp)
      ·rw [if_neg c8] at H
       exact absurd H (by simp)
     ·rw [if_neg c7] at H
      have c7b0 := decide_eq_false c7
      clear c7
      replace H := bqz_ H; obtain ⟨t464, A20, H⟩ := H
      replace H : (if t464 = true then (some (x4_1, true)) else (some (([] : List (S69)), false))) = some (r1, r2) := H
      by_cases c21 : t464 = true
      ·subst c21
       rw [if_pos rfl] at H
       simp only [Option.some.injEq, Prod.mk.injEq] at H
       obtain ⟨rfl, rfl⟩ := H
       obtain ⟨Ao22, co22, eo22⟩ := Kd.R_slice HO_4.out
       subst eo22
       go_wp2_with (first | ((with_reducible refine gate_callee (f := 136) rfl ?_); refine goesL_ (some 34) rfl rfl Tryz.func136 (w110_) rfl #[.slice Ao22 x4_1.length co22] rfl maz_ ?_; (with_reducible refine (spec_ixGood.calls k1 _ _ x4_1 true _ ?side1 ?side2 A20.out).mono ?_); (case side1 => exact ucz_ ((Kd.R_reads' HO_4.out).2.2)); (case side2 => exact (Kd.R_reads' HO_4.out).2.1); rintro e w23 ⟨rfl, hb⟩; refine ⟨_, rfl, ?_⟩; replace HO_4 := Az_ (Kd.R_below (w105_) hb); replace HO_15 := Az_ (Kd.R_below (w86_) hb); replace HB := Az_ (btz_ (ubz_ HB.out) hb); (try clear hb)))
       go_ret2
       exact ⟨_, w61_, w70_, w109_⟩
      ·replace c21 := Bool.eq_false_iff.mpr c21
       subst c21
       rw [if_neg nfz_] at H
       simp only [Option.some.injEq, Prod.mk.injEq] at H
       obtain ⟨rfl, rfl⟩ := H
       obtain ⟨Ao24, co24, eo24⟩ := Kd.R_slice HO_4.out
       subst eo24
       go_wp2_with (first | ((with_reducible refine gate_callee (f := 136) rfl ?_); refine goesL_ (some 34) rfl rfl Tryz.func136 (w110_) rfl #[.slice Ao24 x4_1.length co24] rfl maz_ ?_; (with_reducible refine (spec_ixGood.calls k1 _ _ x4_1 false _ ?side1 ?side2 A20.out).mono ?_); (case side1 => exact ucz_ ((Kd.R_reads' HO_4.out).2.2)); (case side2 => exact (Kd.R_reads' HO_4.out).2.1); rintro e w25 ⟨rfl, hb⟩; refine ⟨_, rfl, ?_⟩; replace HO_4 := Az_ (Kd.R_below (w105_) hb); replace HO_15 := Az_ (Kd.R_below (w86_) hb); replace HB := Az_ (btz_ (ubz_ HB.out) hb); (try clear hb)))
       go_ret2
       exact ⟨_, w61_, w41_, w109_⟩

def spec_ParseRanges.f (k : Nat) (a0 : ByteArray) : Option ((List (S69)) × Bool) := (spec_ixParse.f k a0).bind fun bt465 => (some (bt465.1, bt465.2))
set_option maxHeartbeats 8000000 in
set_option maxRecDepth 100000 in
theorem spec_ParseRanges.calls (k : Nat) (a0 : ByteArray) (r1 : List (S69)) (r2 : Bool) (w : World) (h : spec_ParseRanges.f k a0 = some (r1, r2)) :
  Calls Tryz.prog 59 #[.string a0] w fun e w' => ∃ v0_ : Value, e = .returned (.tuple #[v0_, .bool r2]) ∧ Kd.R k69 69 w' w.heap.size (fun _ => True) v0_ r1 ∧ Below w.heap.size w w' := by
 have HB := Az_ (Below.refl w.heap.size w)
 have H : ((spec_ixParse.f k a0).bind fun bt465 => (some (bt465.1, bt465.2))) = some (r1, r2) := h
 clear h
 replace H := bqz_ H; obtain ⟨⟨t465, t466⟩, A2, H⟩ := H
 replace H : (some (t465, t466)) = some (r1, r2) := H
 simp only [Option.some.injEq, Prod.mk.injEq] at H
 obtain ⟨rfl, rfl⟩ := H
 go_enter Tryz.func59, Tryz.ntmps59
 go_wp2_with (first | ((with_reducible refine gate_callee (f := 143) rfl ?_); refine goesL_ (some 5) rfl rfl Tryz.func143 (w110_) rfl #[.string a0] rfl maz_ ?_; (with_reducible refine (spec_ixParse.calls k a0 t465 t466 _ A2.out).mono ?_); rintro e w3 ⟨v467, rfl, ho0, hb⟩; refine ⟨_, rfl, ?_⟩; have HO468 := Az_ (Kd.R_lower ho0 (below_size (ubz_ HB.out))); replace HB := Az_ (btz_ (ubz_ HB.out) hb); (try clear hb); (try clear ho0)))
 go_ret2
 exact ⟨_, w61_, by (with_reducible repeat (first | apply raz_ | apply rnz_ | apply rdz_)); exact HO468.out, w109_⟩

def spec_AreRanges.f (k : Nat) (l0 : List (S69)) : Option (Bool) := (spec_ixGood.f k l0).bind fun t469 => (some t469)
set_option maxHeartbeats 8000000 in
set_option maxRecDepth 100000 in
theorem spec_AreRanges.calls (k : Nat) (A0 : Option Addr) (c0 : Nat) (l0 : List (S69)) (r : Bool) (w : World) (hr0 : Kd.C k69 w A0 l0.length l0) (hc0 : l0.length ≤ c0) (h : spec_AreRanges.f k l0 = some r) :
  Calls Tryz.prog 60 #[.slice A0 l0.length c0] w fun e w' => e = .returned (.bool r) ∧ Below w.heap.size w w' := by
 have HR0 := Az_ hr0
 have HC0 := Az_ hc0
 clear hr0 hc0
 have HB := Az_ (Below.refl w.heap.size w)
 have H : ((spec_ixGood.f k l0).bind fun t469 => (some t469)) = some r := h
 clear h
 replace H := bqz_ H; obtain ⟨t469, A2, H⟩ := H
 replace H : (some t469) = some r := H
 obtain rfl := Option.some.inj H
 go_enter Tryz.func60, Tryz.ntmps60
 go_wp2_with (first | ((with_reducible refine gate_callee (f := 136) rfl ?_); refine goesL_ (some 4) rfl rfl Tryz.func136 (w110_) rfl #[.slice A0 l0.length c0] rfl maz_ ?_; (with_reducible refine (spec_ixGood.calls k _ _ l0 t469 _ ?side1 ?side2 A2.out).mono ?_); (case side1 => exact ucz_ (HR0.out)); (case side2 => exact HC0.out); rintro e w3 ⟨rfl, hb⟩; refine ⟨_, rfl, ?_⟩; replace HB := Az_ (btz_ (ubz_ HB.out) hb); (try clear hb)))
 go_ret
 exact ⟨w61_, w109_⟩

end Go.Proofs.YtppbpefehpbejaaGreatDoor.P
end

section
namespace Go.Proofs.YtppbpefehpbejaaGreatDoor.P
open Go.RowKit Go.Proofs.YtppbpefehpbejaaGreatDoorW.PrintWords Go.Proofs.YtppbpefehpbejaaGreatDoorW.PrintLast Go.Proofs.YtppbpefehpbejaaGreatDoorW.PrintMore
attribute [local go_sem] max2_int min2_int max_two min_two max_three min_three max_four min_four   -- for this text's walks alone
set_option linter.unusedVariables false
set_option linter.unusedSimpArgs false

theorem PS_zero : Tryz.zeroCells138 = Array.replicate 2001 (.bool false) := by kernel_rfl
theorem PS_new {w : World} {g base : Nat} (h : w.heap[g]? = some (.cells Tryz.zeroCells138 138 (0, 0))) (hb : base ≤ g) : Kd.R Kd.bool 138 w base (fun _ => True) (.slice (some ⟨g, 0, none⟩) 2001 2001) (List.replicate 2001 false) := by
  rw [PS_zero] at h
  have hs : (List.replicate 2001 false).length = 2001 := List.length_replicate
  have ho : w.ownsRow base 138 1 (.slice (some ⟨g, 0, none⟩) 2001 2001) 2001 (encs Value.bool (List.replicate 2001 false)) := by
    refine ⟨?_, .inr ⟨g, 2001, _, rfl, hb, h, ?_, by unfold maxLen; omega, ?_, ?_⟩⟩
    · rw [encs, List.length_map, Nat.mul_one, hs]
    · exact Nat.le_refl _
    · rw [Array.size_replicate]
    · rw [Array.toList_replicate, encs, List.map_replicate, List.take_of_length_le (by rw [List.length_replicate]; omega)]
  exact Kd.R_of_own (by rw [hs]; exact ho) (fun _ _ => trivial)
theorem PS_form {w : World} {g base : Nat} {ok : Nat → Prop} {xs : List Bool} (h : Kd.R Kd.bool 138 w base ok (.slice (some ⟨g, 0, none⟩) 2001 2001) xs) : base ≤ g ∧ g < w.heap.size ∧ ∃ cells, w.heap[g]? = some (.cells cells 138 (0, 0)) := by
  have hl := (Kd.R_reads' h).1
  obtain ⟨g', c', e, hb, hl, hc⟩ := Kd.R_form h (by omega)
  injection e with e1 e2 e3
  injection e1 with e1
  injection e1 with e1
  subst e1
  exact ⟨hb, hl, hc⟩
mutual
def impl_setOf.l0 : Nat → List Bool → List (S69) → Int → Int → Option (List Bool)
  | 0, _, _, _, _ => none
  | k + 1, x3, x9, x10, x11 => if x11 < x10 then (if 0 ≤ x11 then (if x11 < (x9.length : Int) then (impl_setOf.l1 k x3 ((rd_T69 x9 x11).f0) x9 x10 x11 ((rd_T69 x9 x11).f0) ((rd_T69 x9 x11).f1)) else (none)) else (none)) else (some x3)
def impl_setOf.l1 : Nat → List Bool → Int → List (S69) → Int → Int → Int → Int → Option (List Bool)
  | 0, _, _, _, _, _, _, _ => none
  | k + 1, x3, x6, x9, x10, x11, x258000, x258001 => if x6 ≤ x258001 then (if 0 ≤ x6 then (if x6 < (x3.length : Int) then (impl_setOf.l1 k (x3.set (x6 : Int).toNat true) (wrap64 (x6 + 1)) x9 x10 x11 x258000 x258001) else (none)) else (none)) else (impl_setOf.l0 k x3 x9 x10 (wrap64 (x11 + 1)))
end
def impl_setOf.f (k : Nat) (l0 : List (S69)) : Option (List Bool) := if 2001 ≤ 281474976710656 then (impl_setOf.l0 k (List.replicate 2001 false) l0 (l0.length : Int) 0) else (none)
set_option maxHeartbeats 8000000 in
set_option maxRecDepth 100000 in
theorem impl_setOf.calls (k : Nat) (A0 : Option Addr) (c0 : Nat) (l0 : List (S69)) (r : List Bool) (w : World) (hr0 : Kd.C k69 w A0 l0.length l0) (hc0 : l0.length ≤ c0) (h : impl_setOf.f k l0 = some r) :
    Calls Tryz.prog 125 #[.slice A0 l0.length c0] w fun e w' => ∃ v0_ : Nat, e = .returned (.pointer (some ⟨v0_, 0, none⟩)) ∧ Kd.R Kd.bool 138 w' w.heap.size (fun _ => True) (.slice (some ⟨v0_, 0, none⟩) 2001 2001) r ∧ Below w.heap.size w w' := by
  have hu63 := Tryz.underlying69
  have HR0 := Aside0.mk hr0
  have HC0 := Aside0.mk hc0
  clear hr0 hc0
  have HB := Aside0.mk (Below.refl w.heap.size w)
  have H : (if 2001 ≤ 281474976710656 then (impl_setOf.l0 k (List.replicate 2001 false) l0 (l0.length : Int) 0) else (none)) = some r := h
  clear h
  by_cases c2 : 2001 ≤ 281474976710656
  · rw [if_pos c2] at H
    have c2b0 := eq_true c2
    have c2b1 : decide (2001 ≤ 281474976710656) = true := decide_eq_true c2
    clear c2
    obtain ⟨y253, hy253⟩ : ∃ y_ : List Bool, y_ = (List.replicate 2001 false) := ⟨_, rfl⟩
    replace H : (impl_setOf.l0 k y253 l0 (l0.length : Int) 0) = some r := by first | (rw [hy253]; with_reducible exact H) | (have H2_ := (Option.bind_some _ _).symm.trans H; rw [hy253]; with_reducible exact H2_) | (have H2_ := (Option.bind_some _ _).symm.trans H; with_reducible exact H2_) | with_reducible exact H | (rw [hy253]; exact H) | exact H
    have Ny253 := Aside0.mk hy253
    clear hy253
    have H' := Aside0.mk H
    clear H
    have hu58 := Tryz.underlying138
    go_enter Tryz.func125, Tryz.ntmps125
    go_wp2_with (first | ((with_reducible refine gate_dst (N := 8) rfl ?_); refine box_event ?hg (N := 8) ?hd (cs := Tryz.zeroCells138) (t := 138) ?hr ?_; (case hd => rfl); (case hg => rfl); (case hr => first | (go_simp; done) | (go_simp; rfl)); intro v254 hg_ w3 hbox hb; have ho4 := PS_new hbox (Nat.le_of_eq hg_.symm); rw [← Ny253.out] at ho4; clear hg_ hbox; have n0_ := Aside0.mk (Kd.R_lower ho4 (below_size (w47_))); have n1_ := Aside0.mk (below_step (w47_) hb); clear HB; have HO255 := n0_; have HB := n1_; clear n0_ n1_; clear hb ho4))
    go_loopg [11] k (fun kq v11 w' => ∃ (x3_1 : List Bool) (x11_1 : Int), v11 = .int .i64 x11_1 ∧ Aside0 (impl_setOf.l0 kq x3_1 l0 (l0.length : Int) x11_1 = some r) ∧ Aside0 (kq ≤ k) ∧ Aside0 (Kd.R Kd.bool 138 w' w.heap.size (fun _ => True) (.slice (some ⟨v254, 0, none⟩) 2001 2001) x3_1) ∧ Aside0 (Below w.heap.size w w'))
    case atStart => exact ⟨(y253), (0), (w77_), H', ⟨Nat.le_refl _⟩, ⟨by (with_reducible repeat (first | apply Kd.R_alloc | apply Kd.R_drewN | apply Kd.R_drew)); exact HO255.out⟩, ⟨w47_⟩⟩
    case round =>
      clear H'
      try clear c2
      try clear c2b0
      try clear c2b1
      try clear p2
      try clear c4
      obtain ⟨x3_1, x11_1, rfl, HA, HK1, HO_3, HB⟩ := hrel
      cases gk with
      | zero => exact absurd HA.out (by simp [impl_setOf.l0])
      | succ k1 =>
        have H := HA.out
        clear HA
        simp only [impl_setOf.l0] at H
        by_cases c5 : x11_1 < (l0.length : Int)
        · rw [if_pos c5] at H
          have c5b0 : decide (x11_1 < (l0.length : Int)) = true := decide_eq_true c5
          clear c5
          by_cases c6 : 0 ≤ x11_1
          · rw [if_pos c6] at H
            have c6b0 : decide (0 ≤ x11_1) = true := decide_eq_true c6
            clear c6
            by_cases c7 : x11_1 < (l0.length : Int)
            · rw [if_pos c7] at H
              have c7b0 : decide (x11_1 < (l0.length : Int)) = true := decide_eq_true c7
              clear c7
              have H' := Aside0.mk H
              clear H
              have p256 : 0 ≤ (x11_1 : Int) := of_decide_eq_true (w76_)
              have q256 : x11_1 < (l0.length : Int) := of_decide_eq_true (w76_)
              obtain ⟨ad256, e256, hx256_0, hx256_1⟩ := at_T69 HR0.out x11_1 p256 q256
              cases e256
              replace hx256_0 := (HB.out.cell (World.block_lt_of_cell? w _ hx256_0)).trans hx256_0
              replace hx256_1 := (HB.out.cell (World.block_lt_of_cell? w _ hx256_1)).trans hx256_1
              replace p256 := eq_true p256
              replace q256 := eq_true q256
              go_wp2_with (first | ((with_reducible refine gate_dst (N := 5) rfl ?_); refine box_event ?hg (N := 5) ?hd (cs := #[.int .i64 0, .int .i64 0]) (t := 69) ?hr ?_; (case hd => rfl); (case hg => rfl); (case hr => first | (go_simp; done) | (go_simp; rfl)); intro gb257 hg w8 hbox hb; have n0_ := Aside0.mk (Kd.R_below (w57_) hb); have n1_ := Aside0.mk (below_step (w47_) hb); have n2_ := Aside0.mk (hbox); have n3_ := Aside0.mk ((by rw [hg]; exact (below_size (w47_)) : w.heap.size ≤ gb257)); have n4_ := Aside0.mk ((by rw [hg]; exact (below_size (w47_)) : w.heap.size ≤ gb257)); clear HO_3; clear HB; have HO_3 := n0_; have HB := n1_; have BK257 := n2_; have GW257 := n3_; have GE257 := n4_; clear n0_ n1_ n2_ n3_ n4_; clear hb hbox hg; have hcz9_0 : w8.cell? ⟨gb257, 0, none⟩ = some (.int .i64 0) := (blk_cell BK257.out 0).trans rfl; have hcz9_1 : w8.cell? ⟨gb257, 1, none⟩ = some (.int .i64 0) := (blk_cell BK257.out 1).trans rfl; have hfz9_0 := blk_frozen BK257.out 0; have hfz9_1 := blk_frozen BK257.out 1))
              go_loopg [6] k1 (fun kq v6 w' => ∃ (x3_2 : List Bool) (x6_2 : Int), v6 = .int .i64 x6_2 ∧ Aside0 (impl_setOf.l1 kq x3_2 x6_2 l0 (l0.length : Int) x11_1 ((rd_T69 l0 x11_1).f0) ((rd_T69 l0 x11_1).f1) = some r) ∧ Aside0 (kq ≤ k1) ∧ Aside0 (Kd.R Kd.bool 138 w' w.heap.size (fun _ => True) (.slice (some ⟨v254, 0, none⟩) 2001 2001) x3_2) ∧ Aside0 (w'.heap[gb257]? = some (.cells #[.int .i64 ((rd_T69 l0 x11_1).f0), .int .i64 ((rd_T69 l0 x11_1).f1)] 69 (0, 0))) ∧ Aside0 (Below w.heap.size w w'))
              case atStart => exact ⟨(x3_1), ((rd_T69 l0 x11_1).f0), (w77_), H', ⟨Nat.le_refl _⟩, ⟨by (with_reducible repeat (first | apply Kd.R_alloc | apply Kd.R_drewN | apply Kd.R_drew)); exact Kd.R_mono (Kd.R_far (p := ⟨gb257, 1, none⟩) (Kd.R_far (p := ⟨gb257, 0, none⟩) (Kd.R_types HO_3.out BK257.out (by decide)) (fun _ hk => hk.2) (.int .i64 ((rd_T69 l0 x11_1).f0))) (fun _ hk => hk.2) (.int .i64 ((rd_T69 l0 x11_1).f1))) (fun _ hk => trivial)⟩, ⟨by (with_reducible repeat (first | refine blk_drewN ?_ _ | refine blk_drew ?_ | refine blk_alloc ?_ _)); refine blk_put (cs := #[.int .i64 ((rd_T69 l0 x11_1).f0), .int .i64 0]) ?_ 1 _ rfl; (with_reducible repeat (first | refine blk_drewN ?_ _ | refine blk_drew ?_ | refine blk_alloc ?_ _)); refine blk_put (cs := #[.int .i64 0, .int .i64 0]) ?_ 0 _ rfl; (with_reducible repeat (first | refine blk_drewN ?_ _ | refine blk_drew ?_ | refine blk_alloc ?_ _)); exact BK257.out⟩, ⟨w31_⟩⟩
              case round =>
                clear H'
                try clear c2
                try clear c2b0
                try clear c2b1
                try clear p2
                try clear q2
                try clear hx2
                try clear c4
                try clear c5
                try clear c5b0
                try clear c6
                try clear c6b0
                try clear c7
                try clear c7b0
                try clear hcz9_0
                try clear hcz9_1
                try clear hfz9_0
                try clear hfz9_1
                try clear hx256_0
                try clear hx256_1
                try clear p2
                try clear p256
                try clear q256
                obtain ⟨x3_2, x6_2, rfl, HA, HK2, HO_3, BK257, HB⟩ := hrel
                cases gk with
                | zero => exact absurd HA.out (by simp [impl_setOf.l1])
                | succ k2 =>
                  have H := HA.out
                  clear HA
                  simp only [impl_setOf.l1] at H
                  by_cases c10 : x6_2 ≤ ((rd_T69 l0 x11_1).f1)
                  · rw [if_pos c10] at H
                    have c10b0 : decide (x6_2 ≤ ((rd_T69 l0 x11_1).f1)) = true := decide_eq_true c10
                    clear c10
                    by_cases c11 : 0 ≤ x6_2
                    · rw [if_pos c11] at H
                      have c11b0 : decide (0 ≤ x6_2) = true := decide_eq_true c11
                      clear c11
                      by_cases c12 : x6_2 < (x3_2.length : Int)
                      · rw [if_pos c12] at H
                        have c12b0 : decide (x6_2 < (x3_2.length : Int)) = true := decide_eq_true c12
                        clear c12
                        obtain ⟨y258, hy258⟩ : ∃ y_ : List Bool, y_ = (x3_2.set (x6_2 : Int).toNat true) := ⟨_, rfl⟩
                        replace H : (impl_setOf.l1 k2 y258 (wrap64 (x6_2 + 1)) l0 (l0.length : Int) x11_1 ((rd_T69 l0 x11_1).f0) ((rd_T69 l0 x11_1).f1)) = some r := by first | (rw [hy258]; with_reducible exact H) | (have H2_ := (Option.bind_some _ _).symm.trans H; rw [hy258]; with_reducible exact H2_) | (have H2_ := (Option.bind_some _ _).symm.trans H; with_reducible exact H2_) | with_reducible exact H | (rw [hy258]; exact H) | exact H
                        have Ny258 := Aside0.mk hy258
                        clear hy258
                        have H' := Aside0.mk H
                        clear H
                        have hcz14_0 : wr.cell? ⟨gb257, 0, none⟩ = some (.int .i64 ((rd_T69 l0 x11_1).f0)) := (blk_cell BK257.out 0).trans rfl
                        have hcz14_1 : wr.cell? ⟨gb257, 1, none⟩ = some (.int .i64 ((rd_T69 l0 x11_1).f1)) := (blk_cell BK257.out 1).trans rfl
                        have hfz14_0 := blk_frozen BK257.out 0
                        have hfz14_1 := blk_frozen BK257.out 1
                        have p13 : 0 ≤ (x6_2 : Int) := of_decide_eq_true (w76_)
                        have q13 : (x6_2 : Int) < ((x3_2.length : Int) : Int) := of_decide_eq_true (w76_)
                        obtain ⟨gb13, gl13, cl13, HG13⟩ := PS_form HO_3.out
                        have GB13 := Aside0.mk gb13
                        have GG13 := Aside0.mk HG13
                        clear gb13 gl13 HG13
                        have q13z : (x6_2 : Int) < 2001 := (by have e_ := (Kd.R_reads' HO_3.out).1; have h_ := q13; rw [← e_] at h_; exact h_)
                        obtain ⟨hx13_0, hf13_0⟩ := Kd.R_celln false HO_3.out (x6_2 : Int) p13 q13z
                        replace q13z := eq_true q13z
                        replace p13 := eq_true p13
                        replace q13 := eq_true q13
                        have HP15 := Kd.R_putg HO_3.out (x6_2 : Int) true
                        go_wp2_with (first | ((with_reducible refine gate_store (t := 4) (p := 26) rfl ?_); refine store_event (t := 4) (p := 26) (v := ?vo_w16) (w1 := (wr.setCell ⟨v254, (x6_2 : Int).toNat, none⟩ (.bool true))) ?hg ?ho ?hn ?hr ?_; (case ho => rfl); (case hg => rfl); (case hn => rfl); (case hr => first | (go_simp; done) | (go_simp; rfl)); intro w16 hw; have hg : wr.grownBy w16 (some v254) := (by rw [hw]; exact HP15.2); have hp_ : Kd.R Kd.bool 138 w16 w.heap.size (fun _ => True) (.slice (some ⟨v254, 0, none⟩) 2001 2001) y258 := (by rw [hw, Ny258.out]; exact HP15.1); clear HP15; have n0_ := Aside0.mk (hp_); have n1_ := Aside0.mk (blk_grown (g := gb257) (o := .cells #[.int .i64 ((rd_T69 l0 x11_1).f0), .int .i64 ((rd_T69 l0 x11_1).f1)] 69 (0, 0)) (by (with_reducible repeat (first | refine blk_drewN ?_ _ | refine blk_drew ?_ | refine blk_alloc ?_ _)); exact BK257.out) hg (Kd.R_ne HO_3.out BK257.out (by decide))); have n2_ := Aside0.mk ((by rw [hw]; exact below_set (HB.out) GB13.out : Below w.heap.size w w16)); clear HO_3; clear BK257; clear HB; have HO_3 := n0_; have BK257 := n1_; have HB := n2_; clear n0_ n1_ n2_; clear hg hw hp_))
                        go_roundg k2
                        case measure => have := HK1.out; have := HK2.out; omega
                        case rel => exact ⟨(y258), (wrap64 (x6_2 + 1)), (w77_), H', ⟨w79_⟩, ⟨w57_⟩, ⟨by (with_reducible repeat (first | refine blk_drewN ?_ _ | refine blk_drew ?_ | refine blk_alloc ?_ _)); exact BK257.out⟩, ⟨w31_⟩⟩
                      · rw [if_neg c12] at H
                        exact absurd H (by simp)
                    · rw [if_neg c11] at H
                      exact absurd H (by simp)
                  · rw [if_neg c10] at H
                    have c10b0 : decide (x6_2 ≤ ((rd_T69 l0 x11_1).f1)) = false := decide_eq_false c10
                    clear c10
                    have H' := Aside0.mk H
                    clear H
                    have hcz17_0 : wr.cell? ⟨gb257, 0, none⟩ = some (.int .i64 ((rd_T69 l0 x11_1).f0)) := (blk_cell BK257.out 0).trans rfl
                    have hcz17_1 : wr.cell? ⟨gb257, 1, none⟩ = some (.int .i64 ((rd_T69 l0 x11_1).f1)) := (blk_cell BK257.out 1).trans rfl
                    have hfz17_0 := blk_frozen BK257.out 0
                    have hfz17_1 := blk_frozen BK257.out 1
                    go_wp2
                    go_roundg k2
                    case measure => have := HK1.out; have := HK2.out; omega
                    case rel => exact ⟨(x3_2), (wrap64 (x11_1 + 1)), (w77_), H', ⟨w79_⟩, ⟨w57_⟩, ⟨w31_⟩⟩
            · rw [if_neg c7] at H
              exact absurd H (by simp)
          · rw [if_neg c6] at H
            exact absurd H (by simp)
        · rw [if_neg c5] at H
          have c5b0 : decide (x11_1 < (l0.length : Int)) = false := decide_eq_false c5
          clear c5
          obtain rfl := Option.some.inj H
          go_wp2
          go_ret
          exact ⟨_, w61_, w57_, w47_⟩
  · rw [if_neg c2] at H
    exact absurd H (by simp)

def impl_pageSet_all.l0 : Nat → List Bool → List (S69) → Int → Option ((List (S69)))
  | 0, _, _, _ => none
  | k + 1, x0, x3, x4 => if x4 ≤ 2000 then (if 0 ≤ x4 then (if x4 < (x0.length : Int) then (if rdOf false x0 x4 = true then (if (x3.length : Int) > 0 then (if 0 ≤ (wrap64 ((x3.length : Int) - 1)) then (if (wrap64 ((x3.length : Int) - 1)) < (x3.length : Int) then (if ((rd_T69 x3 (wrap64 ((x3.length : Int) - 1))).f1) = (wrap64 (x4 - 1)) then (impl_pageSet_all.l0 k x0 (x3.set ((wrap64 ((x3.length : Int) - 1)) : Int).toNat (⟨(rd_T69 x3 (wrap64 ((x3.length : Int) - 1))).f0, x4⟩ : S69)) (wrap64 (x4 + 1))) else (if x3.length < 8796093022208 then (impl_pageSet_all.l0 k x0 (x3 ++ [(⟨x4, x4⟩ : S69)]) (wrap64 (x4 + 1))) else (none))) else (none)) else (none)) else (if x3.length < 8796093022208 then (impl_pageSet_all.l0 k x0 (x3 ++ [(⟨x4, x4⟩ : S69)]) (wrap64 (x4 + 1))) else (none))) else (impl_pageSet_all.l0 k x0 x3 (wrap64 (x4 + 1)))) else (none)) else (none)) else (some x3)
def impl_pageSet_all.f (k : Nat) (l0 : List Bool) : Option ((List (S69))) := impl_pageSet_all.l0 k l0 (([] : List (S69))) 1
set_option maxHeartbeats 8000000 in
set_option maxRecDepth 100000 in
theorem impl_pageSet_all.calls (k : Nat) (g0 : Nat) (l0 : List Bool) (r : List (S69)) (w : World) (hr0 : Kd.C Kd.bool w (some ⟨g0, 0, none⟩) l0.length l0) (hc0 : l0.length = 2001) (h : impl_pageSet_all.f k l0 = some r) :
    Calls Tryz.prog 175 #[.pointer (some ⟨g0, 0, none⟩)] w fun e w' => ∃ v0_ : Value, e = .returned (v0_) ∧ Kd.R k69 69 w' w.heap.size (fun _ => True) v0_ r ∧ Below w.heap.size w w' := by
  have hu63 := Tryz.underlying69
  have HR0 := Aside0.mk hr0
  have HC0 := Aside0.mk hc0
  clear hr0 hc0
  have HB := Aside0.mk (Below.refl w.heap.size w)
  have H : (impl_pageSet_all.l0 k l0 (([] : List (S69))) 1) = some r := h
  clear h
  obtain ⟨y129, hy129⟩ : ∃ y_ : List (S69), y_ = (([] : List (S69))) := ⟨_, rfl⟩
  replace H : (impl_pageSet_all.l0 k l0 y129 1) = some r := by first | (rw [hy129]; with_reducible exact H) | (have H2_ := (Option.bind_some _ _).symm.trans H; rw [hy129]; with_reducible exact H2_) | (have H2_ := (Option.bind_some _ _).symm.trans H; with_reducible exact H2_) | with_reducible exact H | (rw [hy129]; exact H) | exact H
  have Ny129 := Aside0.mk hy129
  clear hy129
  have H' := Aside0.mk H
  clear H
  have hu58 := Tryz.underlying138
  go_enter Tryz.func175, Tryz.ntmps175
  go_wp2_with (first | ((with_reducible refine gate_dst (N := 6) rfl ?_); refine Kd.R_lit k69 _ 69 ?hg (N := 6) ?hd (xs := ([] : List (S69))) (inner := []) (ok := fun _ => True) (okp := fun _ => True) ?hr ?hp (fun _ hk => hk) trivial (Below.refl _ _) (Nat.le_refl _) (by simp) ?_; (case hd => rfl); (case hg => rfl); (case hr => first | (go_simp; done) | (go_simp; rfl)); (case hp => exact (Reps.none _ _)); intro v130 w2 ho3 hb hg_ hnew_; clear hg_ hnew_; (first | rw [← Ny129.out] at ho3 | (simp only [Int.reduceToNat] at ho3; rw [← Ny129.out] at ho3)); have n0_ := Aside0.mk (Kd.R_lower ho3 (below_size (w47_))); have n1_ := Aside0.mk (below_step (w47_) hb); clear HB; have HO131 := n0_; have HB := n1_; clear n0_ n1_; clear hb ho3))
  go_loopg [3, 4] k (fun kq v3 v4 w' => ∃ (x3_1 : List (S69)) (x4_1 : Int), v4 = .int .i64 x4_1 ∧ Aside0 (impl_pageSet_all.l0 kq l0 x3_1 x4_1 = some r) ∧ Aside0 (kq ≤ k) ∧ Aside0 (Kd.R k69 69 w' w.heap.size (fun _ => True) v3 x3_1) ∧ Aside0 (Below w.heap.size w w'))
  case atStart => exact ⟨(y129), (1), (w77_), H', ⟨Nat.le_refl _⟩, ⟨by (with_reducible repeat (first | apply Kd.R_alloc | apply Kd.R_drewN | apply Kd.R_drew)); exact HO131.out⟩, ⟨w47_⟩⟩
  case round =>
    clear H'
    try clear p2
    obtain ⟨x3_1, x4_1, rfl, HA, HK1, HO_3, HB⟩ := hrel
    cases gk with
    | zero => exact absurd HA.out (by simp [impl_pageSet_all.l0])
    | succ k1 =>
      have H := HA.out
      clear HA
      simp only [impl_pageSet_all.l0] at H
      by_cases c4 : x4_1 ≤ 2000
      · rw [if_pos c4] at H
        have c4b0 : decide (x4_1 ≤ 2000) = true := decide_eq_true c4
        clear c4
        by_cases c5 : 0 ≤ x4_1
        · rw [if_pos c5] at H
          have c5b0 : decide (0 ≤ x4_1) = true := decide_eq_true c5
          clear c5
          by_cases c6 : x4_1 < (l0.length : Int)
          · rw [if_pos c6] at H
            have c6b0 : decide (x4_1 < (l0.length : Int)) = true := decide_eq_true c6
            clear c6
            obtain ⟨bq7, hbq7⟩ : ∃ b_ : Bool, b_ = (rdOf false l0 x4_1) := ⟨_, rfl⟩
            replace H : (if bq7 = true then (if (x3_1.length : Int) > 0 then (if 0 ≤ (wrap64 ((x3_1.length : Int) - 1)) then (if (wrap64 ((x3_1.length : Int) - 1)) < (x3_1.length : Int) then (if ((rd_T69 x3_1 (wrap64 ((x3_1.length : Int) - 1))).f1) = (wrap64 (x4_1 - 1)) then (impl_pageSet_all.l0 k1 l0 (x3_1.set ((wrap64 ((x3_1.length : Int) - 1)) : Int).toNat (⟨(rd_T69 x3_1 (wrap64 ((x3_1.length : Int) - 1))).f0, x4_1⟩ : S69)) (wrap64 (x4_1 + 1))) else (if x3_1.length < 8796093022208 then (impl_pageSet_all.l0 k1 l0 (x3_1 ++ [(⟨x4_1, x4_1⟩ : S69)]) (wrap64 (x4_1 + 1))) else (none))) else (none)) else (none)) else (if x3_1.length < 8796093022208 then (impl_pageSet_all.l0 k1 l0 (x3_1 ++ [(⟨x4_1, x4_1⟩ : S69)]) (wrap64 (x4_1 + 1))) else (none))) else (impl_pageSet_all.l0 k1 l0 x3_1 (wrap64 (x4_1 + 1)))) = some r := by rw [← hbq7] at H; exact H
            have Nbq7 := Aside0.mk hbq7
            clear hbq7
            by_cases c8 : bq7 = true
            · subst c8
              have H1 : (if (x3_1.length : Int) > 0 then (if 0 ≤ (wrap64 ((x3_1.length : Int) - 1)) then (if (wrap64 ((x3_1.length : Int) - 1)) < (x3_1.length : Int) then (if ((rd_T69 x3_1 (wrap64 ((x3_1.length : Int) - 1))).f1) = (wrap64 (x4_1 - 1)) then (impl_pageSet_all.l0 k1 l0 (x3_1.set ((wrap64 ((x3_1.length : Int) - 1)) : Int).toNat (⟨(rd_T69 x3_1 (wrap64 ((x3_1.length : Int) - 1))).f0, x4_1⟩ : S69)) (wrap64 (x4_1 + 1))) else (if x3_1.length < 8796093022208 then (impl_pageSet_all.l0 k1 l0 (x3_1 ++ [(⟨x4_1, x4_1⟩ : S69)]) (wrap64 (x4_1 + 1))) else (none))) else (none)) else (none)) else (if x3_1.length < 8796093022208 then (impl_pageSet_all.l0 k1 l0 (x3_1 ++ [(⟨x4_1, x4_1⟩ : S69)]) (wrap64 (x4_1 + 1))) else (none))) = some r := by rw [if_pos rfl] at H; exact H
              clear H
              have H := H1
              clear H1
              by_cases c9 : (x3_1.length : Int) > 0
              · rw [if_pos c9] at H
                have c9b0 : decide (0 < (x3_1.length : Int)) = true := decide_eq_true c9
                have c9b1 : decide (0 < x3_1.length) = true := decide_eq_true (by omega)
                clear c9
                obtain ⟨ji10, hji10⟩ : ∃ j_ : Int, (wrap64 ((x3_1.length : Int) - 1)) = j_ := ⟨_, rfl⟩
                replace H : (if 0 ≤ (ji10) then (if (ji10) < (x3_1.length : Int) then (if ((rd_T69 x3_1 (ji10)).f1) = (wrap64 (x4_1 - 1)) then (impl_pageSet_all.l0 k1 l0 (x3_1.set ((ji10) : Int).toNat (⟨(rd_T69 x3_1 (ji10)).f0, x4_1⟩ : S69)) (wrap64 (x4_1 + 1))) else (if x3_1.length < 8796093022208 then (impl_pageSet_all.l0 k1 l0 (x3_1 ++ [(⟨x4_1, x4_1⟩ : S69)]) (wrap64 (x4_1 + 1))) else (none))) else (none)) else (none)) = some r := by first | (rw [hji10] at H; exact H) | (simp only [hji10] at H ⊢; exact H)
                have hji10w : (IntKind.i64.wrap ((x3_1.length : Int) - 1)) = ji10 := (i64_w _).trans hji10
                by_cases c11 : 0 ≤ (ji10)
                · rw [if_pos c11] at H
                  have c11b0 : decide (0 ≤ (ji10)) = true := decide_eq_true c11
                  clear c11
                  by_cases c12 : (ji10) < (x3_1.length : Int)
                  · rw [if_pos c12] at H
                    have c12b0 : decide ((ji10) < (x3_1.length : Int)) = true := decide_eq_true c12
                    clear c12
                    by_cases c13 : ((rd_T69 x3_1 (ji10)).f1) = (wrap64 (x4_1 - 1))
                    · rw [if_pos c13] at H
                      have c13b0 : (((rd_T69 x3_1 (ji10)).f1) == (wrap64 (x4_1 - 1))) = true := beq_iff_eq.mpr c13
                      have c13b1 : (((rd_T69 x3_1 (ji10)).f1) != (wrap64 (x4_1 - 1))) = false := bne_eq_false_iff_eq.mpr c13
                      clear c13
                      obtain ⟨y134, hy134⟩ : ∃ y_ : List (S69), y_ = (x3_1.set ((ji10) : Int).toNat (⟨(rd_T69 x3_1 (ji10)).f0, x4_1⟩ : S69)) := ⟨_, rfl⟩
                      replace H : (impl_pageSet_all.l0 k1 l0 y134 (wrap64 (x4_1 + 1))) = some r := by first | (rw [hy134]; with_reducible exact H) | (have H2_ := (Option.bind_some _ _).symm.trans H; rw [hy134]; with_reducible exact H2_) | (have H2_ := (Option.bind_some _ _).symm.trans H; with_reducible exact H2_) | with_reducible exact H | (rw [hy134]; exact H) | exact H
                      have Ny134 := Aside0.mk hy134
                      clear hy134
                      have H' := Aside0.mk H
                      clear H
                      obtain ⟨Ao15, co15, eo15⟩ := Kd.R_slice HO_3.out
                      subst eo15
                      have p132 : 0 ≤ (x4_1 : Int) := of_decide_eq_true (w76_)
                      have q132 : x4_1 < (l0.length : Int) := of_decide_eq_true (w76_)
                      obtain ⟨ad132, e132, hx132_0⟩ := Kd.at_bool HR0.out x4_1 p132 q132
                      (try rw [← Nbq7.out] at hx132_0)
                      cases e132
                      rw [add_at, Nat.zero_add] at hx132_0
                      have q132z : x4_1 < 2001 := by have := HC0.out; omega
                      replace q132z := eq_true q132z
                      replace hx132_0 := (HB.out.cell (World.block_lt_of_cell? w _ hx132_0)).trans hx132_0
                      replace p132 := eq_true p132
                      replace q132 := eq_true q132
                      have p133 : 0 ≤ ((ji10) : Int) := of_decide_eq_true (w76_)
                      have q133 : (ji10) < (x3_1.length : Int) := of_decide_eq_true (w76_)
                      obtain ⟨ad133, e133, hx133_0, hx133_1⟩ := at_T69 (Kd.R_reads' HO_3.out).2.2 (ji10) p133 q133
                      cases e133
                      replace p133 := eq_true p133
                      replace q133 := eq_true q133
                      have p14 : 0 ≤ ((ji10) : Int) := of_decide_eq_true (w76_)
                      have q14 : ((ji10) : Int) < ((x3_1.length : Int) : Int) := of_decide_eq_true (w76_)
                      obtain ⟨go14, co14, eo14, gb14, gl14, cl14, HG14⟩ := Kd.R_form HO_3.out (by omega)
                      (first | cases eo14 | (injection eo14 with ea_ en_ ec_; (first | subst ea_ | (injection ea_ with ea_; subst ea_)); subst ec_; clear en_))
                      have GB14 := Aside0.mk gb14
                      have GG14 := Aside0.mk HG14
                      clear gb14 gl14 HG14
                      (first | simp only [add_plain] at hx133_0 | skip)
                      (first | simp only [add_plain] at hx133_1 | skip)
                      obtain ⟨ce14, hcl14, hM14, hcc14, hfr14⟩ := Kd.R_elem HO_3.out z69 ((ji10) : Int) p14 q14
                      obtain rfl := k69_openM hM14
                      have hx14_0 : wr.cell? ⟨go14, ((ji10) : Int).toNat * 2, none⟩ = some (.int .i64 ((rd_T69 x3_1 (ji10)).f0)) := hcc14 0 _ rfl
                      have hx14_1 : wr.cell? ⟨go14, ((ji10) : Int).toNat * 2 + 1, none⟩ = some (.int .i64 ((rd_T69 x3_1 (ji10)).f1)) := hcc14 1 _ rfl
                      have hf14_0 : wr.frozen? ⟨go14, ((ji10) : Int).toNat * 2, none⟩ = false := hfr14 0
                      have hf14_1 : wr.frozen? ⟨go14, ((ji10) : Int).toNat * 2 + 1, none⟩ = false := hfr14 1
                      clear hcl14 hcc14 hfr14 hM14
                      replace p14 := eq_true p14
                      replace q14 := eq_true q14
                      have HX16 := Aside0.mk (show Kd.R k69 69 wr w.heap.size (fun _ => True) (.slice (some ⟨go14, 0, none⟩) x3_1.length co15) x3_1 from (w57_))
                      obtain ⟨ce16, hcl16, hM16, hcc16, hfr16⟩ := Kd.R_elem HX16.out z69 ((ji10) : Int) (of_decide_eq_true (w76_)) (by have h_ : ((ji10) : Int) < ((x3_1.length : Int) : Int) := of_decide_eq_true (w76_); first | exact h_ | (have e_ := (Kd.R_reads' HO_3.out).1; omega) | simpa using h_)
                      obtain rfl := k69_openM hM16
                      have HP16 := Kd.R_seg HX16.out ((ji10) : Int) (of_decide_eq_true (w76_)) (by have h_ : ((ji10) : Int) < ((x3_1.length : Int) : Int) := of_decide_eq_true (w76_); first | exact h_ | (have e_ := (Kd.R_reads' HO_3.out).1; omega) | simpa using h_) (seg := [.int .i64 x4_1]) (j := 1) hcl16 hcc16 (show 2 ≤ 2 from by decide) (x' := (⟨(rd_T69 x3_1 (ji10)).f0, x4_1⟩ : S69)) (k69_mkM _ _ _ (⟨(rd_T69 x3_1 (ji10)).f0, x4_1⟩ : S69) ) (fun _ hk => hk)
                      have hx16_1 := hcc16 1 _ rfl
                      (try simp only [show (k69).sz = 2 from rfl, Nat.mul_one, Nat.add_zero] at hx16_1)
                      have hf16_1 := hfr16 1
                      (try simp only [show (k69).sz = 2 from rfl, Nat.mul_one, Nat.add_zero] at hf16_1)
                      clear hcl16 hcc16 hfr16 hM16
                      go_wp2_with (first | ((with_reducible refine gate_store (t := 3) (p := 45) rfl ?_); refine store_event (t := 3) (p := 45) (v := ?vo_w17) (w1 := (wr.setCell ⟨go14, ((ji10) : Int).toNat * 2 + 1, none⟩ (.int .i64 x4_1))) ?hg ?ho ?hn ?hr ?_; (case ho => rfl); (case hg => rfl); (case hn => rfl); (case hr => first | (go_simp; done) | (go_simp; rfl)); intro w17 hw; have hg : wr.grownBy w17 (some go14) := (by rw [hw]; exact HP16.2); have hp_ : Kd.R k69 69 w17 w.heap.size (fun _ => True) (.slice (some ⟨go14, 0, none⟩) x3_1.length co15) y134 := (by rw [hw, Ny134.out]; exact HP16.1); clear HP16; have n0_ := Aside0.mk (hp_); have n1_ := Aside0.mk ((by rw [hw]; exact below_set (HB.out) GB14.out : Below w.heap.size w w17)); clear HO_3; clear HB; have HO_3 := n0_; have HB := n1_; clear n0_ n1_; clear hg hw hp_))
                      go_roundg k1
                      case measure => have := HK1.out; omega
                      case rel => exact ⟨(y134), (wrap64 (x4_1 + 1)), (w77_), H', ⟨w83_⟩, ⟨w57_⟩, ⟨w47_⟩⟩
                    · rw [if_neg c13] at H
                      have c13b0 : (((rd_T69 x3_1 (ji10)).f1) == (wrap64 (x4_1 - 1))) = false := beq_eq_false_iff_ne.mpr c13
                      have c13b1 : (((rd_T69 x3_1 (ji10)).f1) != (wrap64 (x4_1 - 1))) = true := bne_iff_ne.mpr c13
                      by_cases c18 : x3_1.length < 8796093022208
                      · rw [if_pos c18] at H
                        have LMc18 := Aside0.mk c18
                        clear c18
                        obtain ⟨y135, hy135⟩ : ∃ y_ : List (S69), y_ = (x3_1 ++ [(⟨x4_1, x4_1⟩ : S69)]) := ⟨_, rfl⟩
                        replace H : (impl_pageSet_all.l0 k1 l0 y135 (wrap64 (x4_1 + 1))) = some r := by first | (rw [hy135]; with_reducible exact H) | (have H2_ := (Option.bind_some _ _).symm.trans H; rw [hy135]; with_reducible exact H2_) | (have H2_ := (Option.bind_some _ _).symm.trans H; with_reducible exact H2_) | with_reducible exact H | (rw [hy135]; exact H) | exact H
                        have Ny135 := Aside0.mk hy135
                        clear hy135
                        have H' := Aside0.mk H
                        clear H
                        obtain ⟨Ao19, co19, eo19⟩ := Kd.R_slice HO_3.out
                        subst eo19
                        have p132 : 0 ≤ (x4_1 : Int) := of_decide_eq_true (w76_)
                        have q132 : x4_1 < (l0.length : Int) := of_decide_eq_true (w76_)
                        obtain ⟨ad132, e132, hx132_0⟩ := Kd.at_bool HR0.out x4_1 p132 q132
                        (try rw [← Nbq7.out] at hx132_0)
                        cases e132
                        rw [add_at, Nat.zero_add] at hx132_0
                        have q132z : x4_1 < 2001 := by have := HC0.out; omega
                        replace q132z := eq_true q132z
                        replace hx132_0 := (HB.out.cell (World.block_lt_of_cell? w _ hx132_0)).trans hx132_0
                        replace p132 := eq_true p132
                        replace q132 := eq_true q132
                        have p133 : 0 ≤ ((ji10) : Int) := of_decide_eq_true (w76_)
                        have q133 : (ji10) < (x3_1.length : Int) := of_decide_eq_true (w76_)
                        obtain ⟨ad133, e133, hx133_0, hx133_1⟩ := at_T69 (Kd.R_reads' HO_3.out).2.2 (ji10) p133 q133
                        cases e133
                        replace p133 := eq_true p133
                        replace q133 := eq_true q133
                        go_wp2_with (first | ((with_reducible refine gate_builtin (b := .append) (xs := #[.tmp 13, .tmp 17]) rfl ?_); at_builtin; refine Kd.R_append k69 (w0 := w) w.heap.size rfl (.tmp 13) (.tmp 17) 51 69 (.agg #[(.int .i64 0), (.int .i64 0)]) 16 rfl Tryz.underlying51 info69 rfl (by decide) (by omega) (.slice (some ad133) x3_1.length co19) x3_1 (⟨x4_1, x4_1⟩ : S69) [.int .i64 x4_1, .int .i64 x4_1] (fun _ => True) (fun _ => False) rfl rfl ?aP (fun _ hk => hk.elim) ?aF ?aO ?aB ?aS ?aL ?_; (case aP => exact k69_mkM _ _ _ (⟨x4_1, x4_1⟩ : S69)); (case aB => exact (w47_)); (case aF => exact (fun _ _ => trivial)); (case aO => exact (w57_)); (case aS => exact (below_size (w47_))); (case aL => have := LMc18.out; omega); intro v136 w20 ho hb hg hat; rw [← Ny135.out] at ho; have n0_ := Aside0.mk (hb); have n1_ := Aside0.mk (ho); clear HB; clear HO_3; have HB := n0_; have HO137 := n1_; clear n0_ n1_; clear ho hb hg hat))
                        go_roundg k1
                        case measure => have := HK1.out; omega
                        case rel => exact ⟨(y135), (wrap64 (x4_1 + 1)), (w77_), H', ⟨w83_⟩, ⟨by (with_reducible repeat (first | apply Kd.R_alloc | apply Kd.R_drewN | apply Kd.R_drew)); exact HO137.out⟩, ⟨w47_⟩⟩
                      · rw [if_neg c18] at H
                        exact absurd H (by simp)
                  · rw [if_neg c12] at H
                    exact absurd H (by simp)
                · rw [if_neg c11] at H
                  exact absurd H (by simp)
              · rw [if_neg c9] at H
                have c9b0 : decide (0 < (x3_1.length : Int)) = false := decide_eq_false c9
                have c9b1 : decide (0 < x3_1.length) = false := decide_eq_false (by omega)
                clear c9
                by_cases c21 : x3_1.length < 8796093022208
                · rw [if_pos c21] at H
                  have LMc21 := Aside0.mk c21
                  clear c21
                  obtain ⟨y138, hy138⟩ : ∃ y_ : List (S69), y_ = (x3_1 ++ [(⟨x4_1, x4_1⟩ : S69)]) := ⟨_, rfl⟩
                  replace H : (impl_pageSet_all.l0 k1 l0 y138 (wrap64 (x4_1 + 1))) = some r := by first | (rw [hy138]; with_reducible exact H) | (have H2_ := (Option.bind_some _ _).symm.trans H; rw [hy138]; with_reducible exact H2_) | (have H2_ := (Option.bind_some _ _).symm.trans H; with_reducible exact H2_) | with_reducible exact H | (rw [hy138]; exact H) | exact H
                  have Ny138 := Aside0.mk hy138
                  clear hy138
                  have H' := Aside0.mk H
                  clear H
                  obtain ⟨Ao22, co22, eo22⟩ := Kd.R_slice HO_3.out
                  subst eo22
                  have p132 : 0 ≤ (x4_1 : Int) := of_decide_eq_true (w76_)
                  have q132 : x4_1 < (l0.length : Int) := of_decide_eq_true (w76_)
                  obtain ⟨ad132, e132, hx132_0⟩ := Kd.at_bool HR0.out x4_1 p132 q132
                  (try rw [← Nbq7.out] at hx132_0)
                  cases e132
                  rw [add_at, Nat.zero_add] at hx132_0
                  have q132z : x4_1 < 2001 := by have := HC0.out; omega
                  replace q132z := eq_true q132z
                  replace hx132_0 := (HB.out.cell (World.block_lt_of_cell? w _ hx132_0)).trans hx132_0
                  replace p132 := eq_true p132
                  replace q132 := eq_true q132
                  go_wp2_with (first | ((with_reducible refine gate_builtin (b := .append) (xs := #[.tmp 13, .tmp 17]) rfl ?_); at_builtin; refine Kd.R_append k69 (w0 := w) w.heap.size rfl (.tmp 13) (.tmp 17) 51 69 (.agg #[(.int .i64 0), (.int .i64 0)]) 16 rfl Tryz.underlying51 info69 rfl (by decide) (by omega) (.slice Ao22 x3_1.length co22) x3_1 (⟨x4_1, x4_1⟩ : S69) [.int .i64 x4_1, .int .i64 x4_1] (fun _ => True) (fun _ => False) rfl rfl ?aP (fun _ hk => hk.elim) ?aF ?aO ?aB ?aS ?aL ?_; (case aP => exact k69_mkM _ _ _ (⟨x4_1, x4_1⟩ : S69)); (case aB => exact (w47_)); (case aF => exact (fun _ _ => trivial)); (case aO => exact (w57_)); (case aS => exact (below_size (w47_))); (case aL => have := LMc21.out; omega); intro v139 w23 ho hb hg hat; rw [← Ny138.out] at ho; have n0_ := Aside0.mk (hb); have n1_ := Aside0.mk (ho); clear HB; clear HO_3; have HB := n0_; have HO140 := n1_; clear n0_ n1_; clear ho hb hg hat))
                  go_roundg k1
                  case measure => have := HK1.out; omega
                  case rel => exact ⟨(y138), (wrap64 (x4_1 + 1)), (w77_), H', ⟨w83_⟩, ⟨by (with_reducible repeat (first | apply Kd.R_alloc | apply Kd.R_drewN | apply Kd.R_drew)); exact HO140.out⟩, ⟨w47_⟩⟩
                · rw [if_neg c21] at H
                  exact absurd H (by simp)
            · replace c8 := Bool.eq_false_iff.mpr c8
              subst c8
              have H1 : (impl_pageSet_all.l0 k1 l0 x3_1 (wrap64 (x4_1 + 1))) = some r := by rw [if_neg (show ¬ (false = true) by decide)] at H; exact H
              clear H
              have H := H1
              clear H1
              have H' := Aside0.mk H
              clear H
              obtain ⟨Ao24, co24, eo24⟩ := Kd.R_slice HO_3.out
              subst eo24
              have p132 : 0 ≤ (x4_1 : Int) := of_decide_eq_true (w76_)
              have q132 : x4_1 < (l0.length : Int) := of_decide_eq_true (w76_)
              obtain ⟨ad132, e132, hx132_0⟩ := Kd.at_bool HR0.out x4_1 p132 q132
              (try rw [← Nbq7.out] at hx132_0)
              cases e132
              rw [add_at, Nat.zero_add] at hx132_0
              have q132z : x4_1 < 2001 := by have := HC0.out; omega
              replace q132z := eq_true q132z
              replace hx132_0 := (HB.out.cell (World.block_lt_of_cell? w _ hx132_0)).trans hx132_0
              replace p132 := eq_true p132
              replace q132 := eq_true q132
              go_wp2
              go_roundg k1
              case measure => have := HK1.out; omega
              case rel => exact ⟨(x3_1), (wrap64 (x4_1 + 1)), (w77_), H', ⟨w83_⟩, ⟨w57_⟩, ⟨w47_⟩⟩
          · rw [if_neg c6] at H
            exact absurd H (by simp)
        · rw [if_neg c5] at H
          exact absurd H (by simp)
      · rw [if_neg c4] at H
        have c4b0 : decide (x4_1 ≤ 2000) = false := decide_eq_false c4
        clear c4
        obtain rfl := Option.some.inj H
        go_wp2
        go_ret
        exact ⟨_, w61_, w57_, w47_⟩

def impl_pageSet_ranges.f (k : Nat) (l0 : List Bool) : Option ((List (S69)) × Bool) := (impl_pageSet_all.f k l0).bind fun t141 => (if (t141.length : Int) > 20 then (some (([] : List (S69)), false)) else (some (t141, true)))
set_option maxHeartbeats 8000000 in
set_option maxRecDepth 100000 in
theorem impl_pageSet_ranges.calls (k : Nat) (g0 : Nat) (l0 : List Bool) (r1 : List (S69)) (r2 : Bool) (w : World) (hr0 : Kd.C Kd.bool w (some ⟨g0, 0, none⟩) l0.length l0) (hc0 : l0.length = 2001) (h : impl_pageSet_ranges.f k l0 = some (r1, r2)) :
    Calls Tryz.prog 130 #[.pointer (some ⟨g0, 0, none⟩)] w fun e w' => ∃ v0_ : Value, e = .returned (.tuple #[v0_, .bool r2]) ∧ Kd.R k69 69 w' w.heap.size (fun _ => True) v0_ r1 ∧ Below w.heap.size w w' := by
  have HR0 := Aside0.mk hr0
  have HC0 := Aside0.mk hc0
  clear hr0 hc0
  have HB := Aside0.mk (Below.refl w.heap.size w)
  have H : ((impl_pageSet_all.f k l0).bind fun t141 => (if (t141.length : Int) > 20 then (some (([] : List (S69)), false)) else (some (t141, true)))) = some (r1, r2) := h
  clear h
  replace H := Option.bind_eq_some_iff.mp H
  obtain ⟨t141, A20, H⟩ := H
  replace H : (if (t141.length : Int) > 20 then (some (([] : List (S69)), false)) else (some (t141, true))) = some (r1, r2) := H
  have A2 := Aside0.mk A20
  clear A20
  by_cases c3 : (t141.length : Int) > 20
  · rw [if_pos c3] at H
    have c3b0 : decide (20 < (t141.length : Int)) = true := decide_eq_true c3
    have c3b1 : decide (20 < t141.length) = true := decide_eq_true (by omega)
    clear c3
    simp only [Option.some.injEq, Prod.mk.injEq] at H
    obtain ⟨rfl, rfl⟩ := H
    go_enter Tryz.func130, Tryz.ntmps130
    go_wp2_with (first | ((with_reducible refine gate_callee (f := 175) rfl ?_); refine goesL_ (some 6) rfl rfl Tryz.func175 (w110_) rfl #[.pointer (some ⟨g0, 0, none⟩)] rfl (w43_) ?_; (with_reducible refine (impl_pageSet_all.calls k g0 l0 t141 _ ?side1 ?side2 A2.out).mono ?_); (case side1 => repeat (first | exact HR0.out | (with_reducible refine Kd.C_alloc ?_ _) | (with_reducible refine Kd.C_drewN ?_ _) | (with_reducible refine Kd.C_drew ?_))); (case side2 => exact HC0.out); rintro e w4 ⟨v142, rfl, ho0, hb⟩; refine ⟨_, rfl, ?_⟩; have n0_ := Aside0.mk (Kd.R_lower ho0 (below_size (w47_))); have n1_ := Aside0.mk (below_step (w47_) hb); clear HB; have HO143 := n0_; have HB := n1_; clear n0_ n1_; (try clear hb); (try clear hb2); (try clear hk); (try clear hi); (try clear ho0); obtain ⟨Ao5, co5, eo5⟩ := Kd.R_slice HO143.out; subst eo5))
    go_ret2
    exact ⟨_, w61_, w41_, w47_⟩
  · rw [if_neg c3] at H
    have c3b0 : decide (20 < (t141.length : Int)) = false := decide_eq_false c3
    have c3b1 : decide (20 < t141.length) = false := decide_eq_false (by omega)
    clear c3
    simp only [Option.some.injEq, Prod.mk.injEq] at H
    obtain ⟨rfl, rfl⟩ := H
    go_enter Tryz.func130, Tryz.ntmps130
    go_wp2_with (first | ((with_reducible refine gate_callee (f := 175) rfl ?_); refine goesL_ (some 6) rfl rfl Tryz.func175 (w110_) rfl #[.pointer (some ⟨g0, 0, none⟩)] rfl (w43_) ?_; (with_reducible refine (impl_pageSet_all.calls k g0 l0 t141 _ ?side1 ?side2 A2.out).mono ?_); (case side1 => repeat (first | exact HR0.out | (with_reducible refine Kd.C_alloc ?_ _) | (with_reducible refine Kd.C_drewN ?_ _) | (with_reducible refine Kd.C_drew ?_))); (case side2 => exact HC0.out); rintro e w6 ⟨v142, rfl, ho0, hb⟩; refine ⟨_, rfl, ?_⟩; have n0_ := Aside0.mk (Kd.R_lower ho0 (below_size (w47_))); have n1_ := Aside0.mk (below_step (w47_) hb); clear HB; have HO143 := n0_; have HB := n1_; clear n0_ n1_; (try clear hb); (try clear hb2); (try clear hk); (try clear hi); (try clear ho0); obtain ⟨Ao7, co7, eo7⟩ := Kd.R_slice HO143.out; subst eo7))
    go_ret2
    exact ⟨_, w61_, by (with_reducible repeat (first | apply Kd.R_alloc | apply Kd.R_drewN | apply Kd.R_drew)); exact HO143.out, w47_⟩

end Go.Proofs.YtppbpefehpbejaaGreatDoor.P
end

section
namespace Go.Proofs.YtppbpefehpbejaaGreatDoor.P
open Go.Shelf Go.RowKit Go.Proofs.YtppbpefehpbejaaGreatDoorW.PrintWords Go.Proofs.YtppbpefehpbejaaGreatDoorW.PrintLast Go.Proofs.YtppbpefehpbejaaGreatDoorW.PrintMore
attribute [local go_sem] max2_int min2_int max_two min_two max_three min_three max_four min_four   -- for this text's walks alone
set_option linter.unusedVariables false
set_option linter.unusedSimpArgs false

mutual
def impl_combined.j0 (op : Bool → Bool → Bool) : Nat → List (S69) → List (S69) → Bool → Option ((List (S69)) × Bool)
  | 0, _, _, _ => none
  | k + 1, x0, x1, x18 => if x18 = true then (some (([] : List (S69)), false)) else ((impl_setOf.f k x0).bind fun t200 => ((impl_setOf.f k x1).bind fun t203 => (impl_combined.l0 op k t200 t203 0)))
def impl_combined.l0 (op : Bool → Bool → Bool) : Nat → List Bool → List Bool → Int → Option ((List (S69)) × Bool)
  | 0, _, _, _ => none
  | k + 1, x8, x9, x23 => if x23 < 2001 then (if 0 ≤ x23 then (if x23 < (x8.length : Int) then (if x23 < (x9.length : Int) then ((some (op (rdOf false x8 x23) (rdOf false x9 x23))).bind fun t208 => (impl_combined.l0 op k (x8.set (x23 : Int).toNat t208) x9 (wrap64 (x23 + 1)))) else (none)) else (none)) else (none)) else ((impl_pageSet_ranges.f k x8).bind fun bt210 => (some (bt210.1, bt210.2)))
end
def impl_combined.f (op : Bool → Bool → Bool) (k : Nat) (l0 : List (S69)) (l1 : List (S69)) : Option ((List (S69)) × Bool) := (impl_AreRanges.f k l0).bind fun t198 => (if t198 = true then ((impl_AreRanges.f k l1).bind fun t199 => (impl_combined.j0 op k l0 l1 (!t199))) else (impl_combined.j0 op k l0 l1 true))
def impl_combined.T7 : Bool × List (List Nat × List Nat) := (true, [([], []), ([], []), ([], []), ([], []), ([], []), ([3], [3]), ([5, 4], [4, 5]), ([6], [6]), ([], []), ([], []), ([8], [8]), ([10, 9], [9, 10]), ([11], [11]), ([2, 7, 12], [2, 7, 12]), ([0], [0]), ([14, 1, 0, 1, 2, 3, 4, 5, 6, 7, 8, 9, 10, 11, 12, 13], [1, 14]), ([15, 13, 13, 0, 1, 2, 3, 4, 5, 6, 7, 8, 9, 10, 11, 12, 13], [13, 15])])
def impl_combined.B7 : List Nat := [0, 0, 0, 0, 0, 8, 56, 120, 0, 0, 256, 1792, 3840, 8188, 1, 32767, 65535]
theorem impl_combined.tab7 : rtab .any (opsOf Tryz.f118 7) = impl_combined.T7 := by kernel_rfl
theorem impl_combined.bits7 : waitsOk impl_combined.T7.2 impl_combined.B7 = true := by kernel_rfl
set_option maxHeartbeats 8000000 in
set_option maxRecDepth 100000 in
theorem impl_combined.calls (F : FuncId) (op : Bool → Bool → Bool) (hEG : ∀ args w, (callFunc F args).run Tryz.prog w = .ok (.enter F args) w) (hF : ∀ a b W, Calls Tryz.prog F #[.bool a, .bool b] W fun e w' => e = .returned (.bool (op a b)) ∧ Drawn0 W w') (k : Nat) (A0 : Option Addr) (c0 : Nat) (l0 : List (S69)) (A1 : Option Addr) (c1 : Nat) (l1 : List (S69)) (r1 : List (S69)) (r2 : Bool) (w : World) (hr0 : Kd.C k69 w A0 l0.length l0) (hc0 : l0.length ≤ c0) (hr1 : Kd.C k69 w A1 l1.length l1) (hc1 : l1.length ≤ c1) (h : impl_combined.f op k l0 l1 = some (r1, r2)) :
    Calls Tryz.prog 118 #[.slice A0 l0.length c0, .slice A1 l1.length c1, .func (.func F) #[] #[]] w fun e w' => ∃ v0_ : Value, e = .returned (.tuple #[v0_, .bool r2]) ∧ Kd.R k69 69 w' w.heap.size (fun _ => True) v0_ r1 ∧ Below w.heap.size w w' := by
  have EG := Aside0.mk hEG
  have CF := Aside0.mk hF
  clear hEG hF
  have hu58 := Tryz.underlying138
  have HR0 := Aside0.mk hr0
  have HC0 := Aside0.mk hc0
  clear hr0 hc0
  have HR1 := Aside0.mk hr1
  have HC1 := Aside0.mk hc1
  clear hr1 hc1
  have HB := Aside0.mk (Below.refl w.heap.size w)
  have H : ((impl_AreRanges.f k l0).bind fun t198 => (if t198 = true then ((impl_AreRanges.f k l1).bind fun t199 => (impl_combined.j0 op k l0 l1 (!t199))) else (impl_combined.j0 op k l0 l1 true))) = some (r1, r2) := h
  clear h
  have HC4 := Aside0.mk H
  clear H
  go_enter Tryz.func118, Tryz.ntmps118
  go_upto_region 1 with (fail)
  go_cut [18] (fun v18 wc => ∃ (kq : Nat) (x18_3 : Bool), v18 = .bool x18_3 ∧ Aside0 (impl_combined.j0 op kq l0 l1 x18_3 = some (r1, r2)) ∧ Aside0 (kq ≤ k) ∧ Aside0 (Below w.heap.size w wc))
  case first =>
    have H := HC4.out
    clear HC4
    replace H := Option.bind_eq_some_iff.mp H
    obtain ⟨t198, A50, H⟩ := H
    replace H : (if t198 = true then ((impl_AreRanges.f k l1).bind fun t199 => (impl_combined.j0 op k l0 l1 (!t199))) else (impl_combined.j0 op k l0 l1 true)) = some (r1, r2) := H
    have A5 := Aside0.mk A50
    clear A50
    by_cases c6 : t198 = true
    · subst c6
      have H1 : ((impl_AreRanges.f k l1).bind fun t199 => (impl_combined.j0 op k l0 l1 (!t199))) = some (r1, r2) := by rw [if_pos rfl] at H; exact H
      clear H
      have H := H1
      clear H1
      replace H := Option.bind_eq_some_iff.mp H
      obtain ⟨t199, A70, H⟩ := H
      replace H : (impl_combined.j0 op k l0 l1 (!t199)) = some (r1, r2) := H
      have A7 := Aside0.mk A70
      clear A70
      have H' := Aside0.mk H
      clear H
      go_wp2_with (first | ((with_reducible refine gate_callee (f := 43) rfl ?_); refine goesL_ (some 12) rfl rfl Tryz.func43 (w110_) rfl #[.slice A0 l0.length c0] rfl (w43_) ?_; (with_reducible refine (impl_AreRanges.calls k _ _ l0 true _ ?side1 ?side2 A5.out).mono ?_); (case side1 => repeat (first | exact (Kd.C_below HR0.out HB.out) | (with_reducible refine Kd.C_alloc ?_ _) | (with_reducible refine Kd.C_drewN ?_ _) | (with_reducible refine Kd.C_drew ?_))); (case side2 => exact HC0.out); rintro e w8 ⟨rfl, hb⟩; refine ⟨_, rfl, ?_⟩; have n0_ := Aside0.mk (below_step (w47_) hb); clear HB; have HB := n0_; clear n0_; (try clear hb); (try clear hb2); (try clear hk); (try clear hi)) | (go_at_call 43; (with_reducible refine (impl_AreRanges.calls k _ _ l1 t199 _ ?side1 ?side2 A7.out).mono ?_); (case side1 => repeat (first | exact (Kd.C_below HR1.out HB.out) | (with_reducible refine Kd.C_alloc ?_ _) | (with_reducible refine Kd.C_drewN ?_ _) | (with_reducible refine Kd.C_drew ?_))); (case side2 => exact HC1.out); rintro e w9 ⟨rfl, hb⟩; have n0_ := Aside0.mk (below_step (w47_) hb); clear HB; have HB := n0_; clear n0_; (try clear hb); (try clear hb2); (try clear hk); (try clear hi)))
      go_meet
      case rel => exact ⟨_, (!t199), (w77_), H', ⟨w81_⟩, ⟨w47_⟩⟩
    · replace c6 := Bool.eq_false_iff.mpr c6
      subst c6
      have H1 : (impl_combined.j0 op k l0 l1 true) = some (r1, r2) := by rw [if_neg (show ¬ (false = true) by decide)] at H; exact H
      clear H
      have H := H1
      clear H1
      have H' := Aside0.mk H
      clear H
      go_wp2_with (first | ((with_reducible refine gate_callee (f := 43) rfl ?_); refine goesL_ (some 12) rfl rfl Tryz.func43 (w110_) rfl #[.slice A0 l0.length c0] rfl (w43_) ?_; (with_reducible refine (impl_AreRanges.calls k _ _ l0 false _ ?side1 ?side2 A5.out).mono ?_); (case side1 => repeat (first | exact (Kd.C_below HR0.out HB.out) | (with_reducible refine Kd.C_alloc ?_ _) | (with_reducible refine Kd.C_drewN ?_ _) | (with_reducible refine Kd.C_drew ?_))); (case side2 => exact HC0.out); rintro e w10 ⟨rfl, hb⟩; refine ⟨_, rfl, ?_⟩; have n0_ := Aside0.mk (below_step (w47_) hb); clear HB; have HB := n0_; clear n0_; (try clear hb); (try clear hb2); (try clear hk); (try clear hi)))
      go_meet
      case rel => exact ⟨_, (true), (w77_), H', ⟨w81_⟩, ⟨w47_⟩⟩
  case rest =>
    clear HC4
    try clear c1
    try clear p2
    try clear c5
    try clear c6
    obtain ⟨kq, x18_3, rfl, HA, HJ3, HB⟩ := hcut
    cases kq with
    | zero => exact absurd HA.out (by simp [impl_combined.j0])
    | succ kj3 =>
      have H := HA.out
      clear HA
      simp only [impl_combined.j0] at H
      by_cases c11 : x18_3 = true
      · subst c11
        have H1 : (some (([] : List (S69)), false)) = some (r1, r2) := by rw [if_pos rfl] at H; exact H
        clear H
        have H := H1
        clear H1
        simp only [Option.some.injEq, Prod.mk.injEq] at H
        obtain ⟨rfl, rfl⟩ := H
        go_wp2
        go_ret2
        exact ⟨_, w61_, w41_, w47_⟩
      · replace c11 := Bool.eq_false_iff.mpr c11
        subst c11
        have H1 : ((impl_setOf.f kj3 l0).bind fun t200 => ((impl_setOf.f kj3 l1).bind fun t203 => (impl_combined.l0 op kj3 t200 t203 0))) = some (r1, r2) := by rw [if_neg (show ¬ (false = true) by decide)] at H; exact H
        clear H
        have H := H1
        clear H1
        replace H := Option.bind_eq_some_iff.mp H
        obtain ⟨t200, A120, H⟩ := H
        replace H : ((impl_setOf.f kj3 l1).bind fun t203 => (impl_combined.l0 op kj3 t200 t203 0)) = some (r1, r2) := H
        have A12 := Aside0.mk A120
        clear A120
        replace H := Option.bind_eq_some_iff.mp H
        obtain ⟨t203, A130, H⟩ := H
        replace H : (impl_combined.l0 op kj3 t200 t203 0) = some (r1, r2) := H
        have A13 := Aside0.mk A130
        clear A130
        have H' := Aside0.mk H
        clear H
        go_wp2_with (first | ((with_reducible refine gate_callee (f := 125) rfl ?_); refine goesL_ (some 20) rfl rfl Tryz.func125 (w110_) rfl #[.slice A0 l0.length c0] rfl (w43_) ?_; (with_reducible refine (impl_setOf.calls kj3 _ _ l0 t200 _ ?side1 ?side2 A12.out).mono ?_); (case side1 => repeat (first | exact (Kd.C_below HR0.out HB.out) | (with_reducible refine Kd.C_alloc ?_ _) | (with_reducible refine Kd.C_drewN ?_ _) | (with_reducible refine Kd.C_drew ?_))); (case side2 => exact HC0.out); rintro e w14 ⟨v201, rfl, ho0, hb⟩; refine ⟨_, rfl, ?_⟩; have n0_ := Aside0.mk (Kd.R_lower ho0 (below_size (w47_))); have n1_ := Aside0.mk (below_step (w47_) hb); clear HB; have HO202 := n0_; have HB := n1_; clear n0_ n1_; (try clear hb); (try clear hb2); (try clear hk); (try clear hi); (try clear ho0)) | ((with_reducible refine gate_callee (f := 125) rfl ?_); refine goesL_ (some 22) rfl rfl Tryz.func125 (w110_) rfl #[.slice A1 l1.length c1] rfl (w43_) ?_; (with_reducible refine (impl_setOf.calls kj3 _ _ l1 t203 _ ?side1 ?side2 A13.out).mono ?_); (case side1 => repeat (first | exact (Kd.C_below HR1.out HB.out) | (with_reducible refine Kd.C_alloc ?_ _) | (with_reducible refine Kd.C_drewN ?_ _) | (with_reducible refine Kd.C_drew ?_))); (case side2 => exact HC1.out); rintro e w15 ⟨v204, rfl, ho0, hb⟩; refine ⟨_, rfl, ?_⟩; have n0_ := Aside0.mk (Kd.R_elder' (by (with_reducible repeat (first | apply Kd.R_alloc | apply Kd.R_drewN | apply Kd.R_drew)); exact HO202.out) (Kd.R_base ho0) hb); have n1_ := Aside0.mk (Kd.R_lower (Kd.R_new' ho0 (Kd.R_lt (by (with_reducible repeat (first | apply Kd.R_alloc | apply Kd.R_drewN | apply Kd.R_drew)); exact HO202.out))) (below_size (w47_))); have n2_ := Aside0.mk (below_step (w47_) hb); clear HO202; clear HB; have HO202 := n0_; have HO205 := n1_; have HB := n2_; clear n0_ n1_ n2_; (try clear hb); (try clear hb2); (try clear hk); (try clear hi); (try clear ho0)))
        go_loopg [23] kj3 (fun kq v23 w' => ∃ (x8_2 : List Bool) (x9_2 : List Bool) (x23_2 : Int), v23 = .int .i64 x23_2 ∧ Aside0 (impl_combined.l0 op kq x8_2 x9_2 x23_2 = some (r1, r2)) ∧ Aside0 (kq ≤ kj3) ∧ Aside0 (Kd.R Kd.bool 138 w' w.heap.size (fun k_ => some k_ ≠ (Value.slice (some ⟨v204, 0, none⟩) 2001 2001).ownBlock) (.slice (some ⟨v201, 0, none⟩) 2001 2001) x8_2) ∧ Aside0 (Kd.R Kd.bool 138 w' w.heap.size (fun k_ => some k_ ≠ (Value.slice (some ⟨v201, 0, none⟩) 2001 2001).ownBlock) (.slice (some ⟨v204, 0, none⟩) 2001 2001) x9_2) ∧ Aside0 (Below w.heap.size w w'))
        case atStart => exact ⟨(t200), (t203), (0), (w77_), H', ⟨Nat.le_refl _⟩, ⟨by (with_reducible repeat (first | apply Kd.R_alloc | apply Kd.R_drewN | apply Kd.R_drew)); exact Kd.R_mono HO202.out (fun _ hk => hk.2)⟩, ⟨by (with_reducible repeat (first | apply Kd.R_alloc | apply Kd.R_drewN | apply Kd.R_drew)); exact Kd.R_mono HO205.out (fun _ hk => hk.2)⟩, ⟨w47_⟩⟩
        case round =>
          clear H'
          try clear c1
          try clear p2
          try clear c4
          try clear c5
          try clear c6
          try clear c11
          try clear p2
          obtain ⟨x8_2, x9_2, x23_2, rfl, HA, HK2, HO_8, HO_9, HB⟩ := hrel
          cases gk with
          | zero => exact absurd HA.out (by simp [impl_combined.l0])
          | succ k2 =>
            have H := HA.out
            clear HA
            simp only [impl_combined.l0] at H
            by_cases c16 : x23_2 < 2001
            · rw [if_pos c16] at H
              have c16b0 : decide (x23_2 < 2001) = true := decide_eq_true c16
              clear c16
              by_cases c17 : 0 ≤ x23_2
              · rw [if_pos c17] at H
                have c17b0 : decide (0 ≤ x23_2) = true := decide_eq_true c17
                clear c17
                by_cases c18 : x23_2 < (x8_2.length : Int)
                · rw [if_pos c18] at H
                  have c18b0 : decide (x23_2 < (x8_2.length : Int)) = true := decide_eq_true c18
                  clear c18
                  by_cases c19 : x23_2 < (x9_2.length : Int)
                  · rw [if_pos c19] at H
                    have c19b0 : decide (x23_2 < (x9_2.length : Int)) = true := decide_eq_true c19
                    clear c19
                    replace H := Option.bind_eq_some_iff.mp H
                    obtain ⟨t208, A200, H⟩ := H
                    replace H : (impl_combined.l0 op k2 (x8_2.set (x23_2 : Int).toNat t208) x9_2 (wrap64 (x23_2 + 1))) = some (r1, r2) := H
                    have A20 := Aside0.mk A200
                    clear A200
                    obtain ⟨y209, hy209⟩ : ∃ y_ : List Bool, y_ = (x8_2.set (x23_2 : Int).toNat t208) := ⟨_, rfl⟩
                    replace H : (impl_combined.l0 op k2 y209 x9_2 (wrap64 (x23_2 + 1))) = some (r1, r2) := by first | (rw [hy209]; with_reducible exact H) | (have H2_ := (Option.bind_some _ _).symm.trans H; rw [hy209]; with_reducible exact H2_) | (have H2_ := (Option.bind_some _ _).symm.trans H; with_reducible exact H2_) | with_reducible exact H | (rw [hy209]; exact H) | exact H
                    have Ny209 := Aside0.mk hy209
                    clear hy209
                    have H' := Aside0.mk H
                    clear H
                    try go_wp2
                    have n0_ := Aside0.mk (Kd.R_drew HO_8.out)
                    have n1_ := Aside0.mk (Kd.R_drew HO_9.out)
                    have n2_ := Aside0.mk (below_drew1 HB.out)
                    clear HO_8
                    clear HO_9
                    clear HB
                    have HO_8 := n0_
                    have HO_9 := n1_
                    have HB := n2_
                    clear n0_ n1_ n2_
                    have p206 : 0 ≤ (x23_2 : Int) := of_decide_eq_true (w76_)
                    have q206 : x23_2 < (x8_2.length : Int) := of_decide_eq_true (w76_)
                    obtain ⟨ad206, e206, hx206_0⟩ := Kd.at_bool (Kd.R_reads' HO_8.out).2.2 x23_2 p206 q206
                    cases e206
                    rw [add_at, Nat.zero_add] at hx206_0
                    have q206z : x23_2 < 2001 := by have := (Kd.R_reads' HO_8.out).1; omega
                    replace q206z := eq_true q206z
                    replace p206 := eq_true p206
                    replace q206 := eq_true q206
                    have p207 : 0 ≤ (x23_2 : Int) := of_decide_eq_true (w76_)
                    have q207 : x23_2 < (x9_2.length : Int) := of_decide_eq_true (w76_)
                    obtain ⟨ad207, e207, hx207_0⟩ := Kd.at_bool (Kd.R_reads' HO_9.out).2.2 x23_2 p207 q207
                    cases e207
                    rw [add_at, Nat.zero_add] at hx207_0
                    have q207z : x23_2 < 2001 := by have := (Kd.R_reads' HO_9.out).1; omega
                    replace q207z := eq_true q207z
                    replace p207 := eq_true p207
                    replace q207 := eq_true q207
                    refine start_ (n := 17) (S := fun w' => w'.cell? (⟨v201, (x23_2).toNat, none⟩ : Addr) = some (.bool (rdOf false x8_2 x23_2)) ∧ w'.cell? (⟨v204, (x23_2).toNat, none⟩ : Addr) = some (.bool (rdOf false x9_2 x23_2))) (ds := [16]) #[false, false, false, false, false, false, false, false, false, false, false, false, false, false, false, false, false] (w110_) rfl rfl ⟨hx206_0, hx207_0⟩ (fun hHeld => ?_); refine with_tabW impl_combined.tab7 impl_combined.bits7 (fun HT_ HW_ => ?_)
                    generalize wr.drew = w22 at HO_8 HO_9 HB hx206_0 hx207_0 hHeld ⊢
                    refine pure_ (i := 0) (N := some 26) (v := ?_) (a' := ?_) (mz_ [1,16]) rfl rfl (any_of HT_.out (w110_)) (fun _ _ _ h => h) (Or.inl ⟨by rfl, ?_⟩) ?_ ?_
                    rotate_left
                    · intro w'
                      go_simp
                      with_reducible rfl
                    rotate_left
                    · simp only [Act.put, List.setIfInBounds_toArray, List.set_cons_zero, List.set_cons_succ, i64_w, i32_w]
                      rfl
                    refine pure_ (i := 1) (N := some 27) (v := ?_) (a' := ?_) (mz_ [2,15]) rfl rfl (any_of HT_.out (w110_)) (fun _ _ _ h => h) (Or.inl ⟨by rfl, ?_⟩) ?_ ?_
                    rotate_left
                    · intro w'
                      go_simp
                      with_reducible rfl
                    rotate_left
                    · simp only [Act.put, List.setIfInBounds_toArray, List.set_cons_zero, List.set_cons_succ, i64_w, i32_w]
                      rfl
                    refine pure_ (i := 2) (N := some 28) (v := ?_) (a' := ?_) (mz_ [3,14]) rfl rfl (any_of HT_.out (w110_)) (fun _ _ _ h => h) (Or.inl ⟨by rfl, ?_⟩) ?_ ?_
                    rotate_left
                    · intro w'
                      go_simp
                      with_reducible rfl
                    rotate_left
                    · simp only [Act.put, List.setIfInBounds_toArray, List.set_cons_zero, List.set_cons_succ, i64_w, i32_w]
                      rfl
                    refine pure_ (i := 3) (N := some 29) (v := ?_) (a' := ?_) (mz_ [4,13]) rfl rfl (any_of HT_.out (w110_)) (fun _ _ _ h => h) (Or.inl ⟨by rfl, ?_⟩) ?_ ?_
                    rotate_left
                    · intro w'
                      go_simp
                      with_reducible rfl
                    rotate_left
                    · simp only [Act.put, List.setIfInBounds_toArray, List.set_cons_zero, List.set_cons_succ, i64_w, i32_w]
                      rfl
                    refine pure_ (i := 4) (N := some 30) (v := ?_) (a' := ?_) (mz_ [5,12]) rfl rfl (any_of HT_.out (w110_)) (fun _ _ _ h => h) (Or.inl ⟨by rfl, ?_⟩) ?_ ?_
                    rotate_left
                    · intro w'
                      go_simp
                      with_reducible rfl
                    rotate_left
                    · simp only [Act.put, List.setIfInBounds_toArray, List.set_cons_zero, List.set_cons_succ, i64_w, i32_w]
                      rfl
                    refine pure_ (i := 5) (N := some 31) (v := ?_) (a' := ?_) (mz_ [6,11]) rfl rfl (any_of HT_.out (w110_)) (fun _ _ _ h => h) (Or.inl ⟨by rfl, ?_⟩) ?_ ?_
                    rotate_left
                    · intro w'
                      go_simp
                      with_reducible rfl
                    rotate_left
                    · simp only [Act.put, List.setIfInBounds_toArray, List.set_cons_zero, List.set_cons_succ, i64_w, i32_w]
                      rfl
                    refine pure_ (i := 6) (N := some 32) (v := ?_) (a' := ?_) (mz_ [7,10]) rfl rfl (any_of HT_.out (w110_)) (fun _ _ _ h => h) (Or.inl ⟨by rfl, ?_⟩) ?_ ?_
                    rotate_left
                    · intro w'
                      go_simp
                      with_reducible rfl
                    rotate_left
                    · simp only [Act.put, List.setIfInBounds_toArray, List.set_cons_zero, List.set_cons_succ, i64_w, i32_w]
                      rfl
                    refine pure_ (i := 8) (N := some 34) (v := ?_) (a' := ?_) (mz_ [7,1,1,8]) rfl rfl (any_of HT_.out (w110_)) (fun _ _ _ h => h) (Or.inl ⟨by rfl, ?_⟩) ?_ ?_
                    rotate_left
                    · intro w'
                      go_simp
                      with_reducible rfl
                    rotate_left
                    · simp only [Act.put, List.setIfInBounds_toArray, List.set_cons_zero, List.set_cons_succ, i64_w, i32_w]
                      rfl
                    refine pure_ (i := 9) (N := some 35) (v := ?_) (a' := ?_) (mz_ [7,1,2,7]) rfl rfl (any_of HT_.out (w110_)) (fun _ _ _ h => h) (Or.inl ⟨by rfl, ?_⟩) ?_ ?_
                    rotate_left
                    · intro w'
                      go_simp
                      with_reducible rfl
                    rotate_left
                    · simp only [Act.put, List.setIfInBounds_toArray, List.set_cons_zero, List.set_cons_succ, i64_w, i32_w]
                      rfl
                    refine pure_ (i := 10) (N := some 36) (v := ?_) (a' := ?_) (mz_ [7,1,3,6]) rfl rfl (any_of HT_.out (w110_)) (fun _ _ _ h => h) (Or.inl ⟨by rfl, ?_⟩) ?_ ?_
                    rotate_left
                    · intro w'
                      go_simp
                      with_reducible rfl
                    rotate_left
                    · simp only [Act.put, List.setIfInBounds_toArray, List.set_cons_zero, List.set_cons_succ, i64_w, i32_w]
                      rfl
                    refine pure_ (i := 11) (N := some 37) (v := ?_) (a' := ?_) (mz_ [7,1,4,5]) rfl rfl (any_of HT_.out (w110_)) (fun _ _ _ h => h) (Or.inl ⟨by rfl, ?_⟩) ?_ ?_
                    rotate_left
                    · intro w'
                      go_simp
                      with_reducible rfl
                    rotate_left
                    · simp only [Act.put, List.setIfInBounds_toArray, List.set_cons_zero, List.set_cons_succ, i64_w, i32_w]
                      rfl
                    refine pure_ (i := 14) (N := some 40) (v := ?_) (a' := ?_) (mz_ [7,1,4,2,1,2]) rfl rfl (any_of HT_.out (w110_)) (fun _ _ _ h => h) (Or.inl ⟨by rfl, ?_⟩) ?_ ?_
                    rotate_left
                    · intro w'
                      go_simp
                      with_reducible rfl
                    rotate_left
                    · simp only [Act.put, List.setIfInBounds_toArray, List.set_cons_zero, List.set_cons_succ, i64_w, i32_w]
                      rfl
                    refine take_ (i := 7) (N := some 33) (v := ?_) (a' := ?_) (mz_ [12,2,1,2]) rfl rfl (take_ofW HT_.out HW_.out (w110_)) (fun _ _ _ h => h) (Or.inl ⟨by rfl, ?_⟩) hHeld ?_ ?_
                    rotate_left
                    · rintro w' ⟨s0, s1⟩
                      go_simp
                      with_reducible rfl
                    rotate_left
                    · simp only [Act.put, List.setIfInBounds_toArray, List.set_cons_zero, List.set_cons_succ, i64_w, i32_w]
                      rfl
                    refine take_ (i := 12) (N := some 38) (v := ?_) (a' := ?_) (mz_ [13,1,1,2]) rfl rfl (take_ofW HT_.out HW_.out (w110_)) (fun _ _ _ h => h) (Or.inl ⟨by rfl, ?_⟩) hHeld ?_ ?_
                    rotate_left
                    · rintro w' ⟨s0, s1⟩
                      go_simp
                      with_reducible rfl
                    rotate_left
                    · simp only [Act.put, List.setIfInBounds_toArray, List.set_cons_zero, List.set_cons_succ, i64_w, i32_w]
                      rfl
                    refine one_ (i := 13) (N := some 39) (mz_ [15,2]) rfl rfl (one_of HT_.out (w110_)) (by decide) (fun K hK => ?_)
                    refine call_ F #[.bool (rdOf false x8_2 x23_2), .bool (rdOf false x9_2 x23_2)] (by rfl) rfl (by have he_ := EG.out #[.bool (rdOf false x8_2 x23_2), .bool (rdOf false x9_2 x23_2)] w22; unfold execOp; simp [resolve, Deferred.ofValue, invoke, Act.eval, he_]) ?_
                    rw [← Option.some.inj A20.out] at Ny209
                    with_reducible refine (CF.out (rdOf false x8_2 x23_2) (rdOf false x9_2 x23_2) _).mono ?_
                    rintro e w' ⟨rfl, ⟨nd, rfl⟩⟩
                    refine ⟨_, rfl, ?_⟩
                    have p21 : 0 ≤ (x23_2 : Int) := of_decide_eq_true (w76_)
                    have q21 : (x23_2 : Int) < ((x8_2.length : Int) : Int) := of_decide_eq_true (w76_)
                    obtain ⟨gb21, gl21, cl21, HG21⟩ := PS_form HO_8.out
                    have GB21 := Aside0.mk gb21
                    have GG21 := Aside0.mk HG21
                    clear gb21 gl21 HG21
                    (first | simp only [add_plain] at hx206_0 | skip)
                    have q21z : (x23_2 : Int) < 2001 := (by have e_ := (Kd.R_reads' HO_8.out).1; have h_ := q21; rw [← e_] at h_; exact h_)
                    obtain ⟨hx21_0, hf21_0⟩ := Kd.R_celln false HO_8.out (x23_2 : Int) p21 q21z
                    replace q21z := eq_true q21z
                    replace p21 := eq_true p21
                    replace q21 := eq_true q21
                    have HP25 := Kd.R_putn HO_8.out (x23_2 : Int) (op (rdOf false x8_2 x23_2) (rdOf false x9_2 x23_2))
                    rw [← Ny209.out] at HP25
                    have HQ25 := Aside0.mk HP25
                    clear HP25
                    refine hK.out _ _ ⟨hHeld.1, hHeld.2⟩ (fun hHeld => ?_)
                    clear hK K
                    refine norm_ (a' := ?_) ?_ ?_
                    rotate_left
                    · show Act.put _ (some 39) _ = _
                      simp only [Act.put, List.setIfInBounds_toArray, List.set_cons_zero, List.set_cons_succ, i64_w, i32_w]
                      rfl
                    refine pure_ (i := 15) (N := some 41) (v := ?_) (a' := ?_) (mz_ [16,1]) rfl rfl (any_of HT_.out (w110_)) (fun _ _ _ h => h) (Or.inl ⟨by rfl, ?_⟩) ?_ ?_
                    rotate_left
                    · intro w'
                      go_simp
                      with_reducible rfl
                    rotate_left
                    · simp only [Act.put, List.setIfInBounds_toArray, List.set_cons_zero, List.set_cons_succ, i64_w, i32_w]
                      rfl
                    refine last_ (i := 16) (N := none) (mz_ [17]) rfl rfl (one_of HT_.out (w110_)) (by decide) (fun K hK => ?_)
                    refine skip_ (w1 := ?_) (by rfl) rfl ?_ ?_
                    rotate_left
                    · go_simp
                      rfl
                    refine hK.out _ _ ?_
                    clear hK K
                    refine done_ (done_of HT_.out (w110_)) ?_
                    try go_wp2
                    go_roundg k2
                    case measure => have := HJ3.out; have := HK2.out; omega
                    case rel => exact ⟨(y209), (x9_2), (wrap64 (x23_2 + 1)), (w77_), H', ⟨w80_⟩, ⟨by (with_reducible repeat (first | apply Kd.R_alloc | apply Kd.R_drewN | apply Kd.R_drew)); exact HQ25.out⟩, ⟨by (with_reducible repeat (first | apply Kd.R_alloc | apply Kd.R_drewN | apply Kd.R_drew)); exact Kd.R_mono (Kd.R_far (p := ⟨v201, (x23_2 : Int).toNat, none⟩) (Kd.R_mono HO_9.out (fun k_ hk => (⟨hk, fun e_ => hk (by rw [e_]; rfl)⟩ : _ ∧ k_ ≠ v201))) (fun _ hk => hk.2) (.bool (op (rdOf false x8_2 x23_2) (rdOf false x9_2 x23_2)))) (fun _ hk => hk.1)⟩, ⟨by repeat (first | (with_reducible first | exact HB.out | apply below_alloc | apply pw_below_drewN | apply below_drew1 | refine below_set ?_ GB21.out) | exact HB.out)⟩⟩
                  · rw [if_neg c19] at H
                    exact absurd H (by simp)
                · rw [if_neg c18] at H
                  exact absurd H (by simp)
              · rw [if_neg c17] at H
                exact absurd H (by simp)
            · rw [if_neg c16] at H
              have c16b0 : decide (x23_2 < 2001) = false := decide_eq_false c16
              clear c16
              replace H := Option.bind_eq_some_iff.mp H
              obtain ⟨⟨t210, t211⟩, A260, H⟩ := H
              replace H : (some (t210, t211)) = some (r1, r2) := H
              have A26 := Aside0.mk A260
              clear A260
              simp only [Option.some.injEq, Prod.mk.injEq] at H
              obtain ⟨rfl, rfl⟩ := H
              go_wp2_with (first | ((with_reducible refine gate_callee (f := 130) rfl ?_); refine goesL_ (some 44) rfl rfl Tryz.func130 (w110_) rfl #[.pointer (some ⟨v201, 0, none⟩)] rfl (w43_) ?_; (with_reducible refine (impl_pageSet_ranges.calls k2 v201 x8_2 t210 t211 _ ?side1 ?side2 A26.out).mono ?_); (case side1 => repeat (first | exact (Kd.R_reads' HO_8.out).2.2 | (with_reducible refine Kd.C_alloc ?_ _) | (with_reducible refine Kd.C_drewN ?_ _) | (with_reducible refine Kd.C_drew ?_))); (case side2 => exact (Kd.R_reads' HO_8.out).1.symm); rintro e w28 ⟨v212, rfl, ho0, hb⟩; refine ⟨_, rfl, ?_⟩; have n0_ := Aside0.mk (Kd.R_below (by (with_reducible repeat (first | apply Kd.R_alloc | apply Kd.R_drewN | apply Kd.R_drew)); exact HO_8.out) hb); have n1_ := Aside0.mk (Kd.R_below (by (with_reducible repeat (first | apply Kd.R_alloc | apply Kd.R_drewN | apply Kd.R_drew)); exact HO_9.out) hb); have n2_ := Aside0.mk (Kd.R_lower ho0 (below_size (w47_))); have n3_ := Aside0.mk (below_step (w47_) hb); clear HO_8; clear HO_9; clear HB; have HO_8 := n0_; have HO_9 := n1_; have HO213 := n2_; have HB := n3_; clear n0_ n1_ n2_ n3_; (try clear hb); (try clear hb2); (try clear hk); (try clear hi); (try clear ho0)))
              go_ret2
              exact ⟨_, w61_, by (with_reducible repeat (first | apply Kd.R_alloc | apply Kd.R_drewN | apply Kd.R_drew)); exact HO213.out, w47_⟩

theorem impl_CommonRanges_1.calls (a b : Bool) (W : World) : Calls Tryz.prog 121 #[.bool a, .bool b] W fun e w' => e = .returned (.bool ((fun a b => a && b) a b)) ∧ Drawn0 W w' := by
  cases a <;> cases b <;> (go_enter Tryz.func121, Tryz.ntmps121; go_wp2; go_ret; exact ⟨w77_, w74_⟩)
def impl_CommonRanges.f (k : Nat) (l0 : List (S69)) (l1 : List (S69)) : Option ((List (S69)) × Bool) := impl_combined.f (fun a b => a && b) k l0 l1
set_option maxHeartbeats 8000000 in
set_option maxRecDepth 100000 in
theorem impl_CommonRanges.calls (k : Nat) (A0 : Option Addr) (c0 : Nat) (l0 : List (S69)) (A1 : Option Addr) (c1 : Nat) (l1 : List (S69)) (r1 : List (S69)) (r2 : Bool) (w : World) (hr0 : Kd.C k69 w A0 l0.length l0) (hc0 : l0.length ≤ c0) (hr1 : Kd.C k69 w A1 l1.length l1) (hc1 : l1.length ≤ c1) (h : impl_CommonRanges.f k l0 l1 = some (r1, r2)) :
    Calls Tryz.prog 37 #[.slice A0 l0.length c0, .slice A1 l1.length c1] w fun e w' => ∃ v0_ : Value, e = .returned (.tuple #[v0_, .bool r2]) ∧ Kd.R k69 69 w' w.heap.size (fun _ => True) v0_ r1 ∧ Below w.heap.size w w' := by
  have hcall := impl_combined.calls 121 (fun a b => a && b) (enters_of Tryz.func121 (w110_) rfl) impl_CommonRanges_1.calls k A0 c0 l0 A1 c1 l1 r1 r2 w hr0 hc0 hr1 hc1 h
  clear hr0 hc0 hr1 hc1 h
  have HCALL := Aside0.mk hcall
  clear hcall
  go_enter Tryz.func37, Tryz.ntmps37
  go_wp2_with (go_at_call 118; refine HCALL.out.mono ?_; rintro e w4 ⟨v216, rfl, ho0, hb⟩)
  go_ret2
  exact ⟨_, w61_, ho0, hb⟩

theorem impl_UnionRanges_1.calls (a b : Bool) (W : World) : Calls Tryz.prog 119 #[.bool a, .bool b] W fun e w' => e = .returned (.bool ((fun a b => a || b) a b)) ∧ Drawn0 W w' := by
  cases a <;> cases b <;> (go_enter Tryz.func119, Tryz.ntmps119; go_wp2; go_ret; exact ⟨w77_, w74_⟩)
def impl_UnionRanges.f (k : Nat) (l0 : List (S69)) (l1 : List (S69)) : Option ((List (S69)) × Bool) := impl_combined.f (fun a b => a || b) k l0 l1
set_option maxHeartbeats 8000000 in
set_option maxRecDepth 100000 in
theorem impl_UnionRanges.calls (k : Nat) (A0 : Option Addr) (c0 : Nat) (l0 : List (S69)) (A1 : Option Addr) (c1 : Nat) (l1 : List (S69)) (r1 : List (S69)) (r2 : Bool) (w : World) (hr0 : Kd.C k69 w A0 l0.length l0) (hc0 : l0.length ≤ c0) (hr1 : Kd.C k69 w A1 l1.length l1) (hc1 : l1.length ≤ c1) (h : impl_UnionRanges.f k l0 l1 = some (r1, r2)) :
    Calls Tryz.prog 35 #[.slice A0 l0.length c0, .slice A1 l1.length c1] w fun e w' => ∃ v0_ : Value, e = .returned (.tuple #[v0_, .bool r2]) ∧ Kd.R k69 69 w' w.heap.size (fun _ => True) v0_ r1 ∧ Below w.heap.size w w' := by
  have hcall := impl_combined.calls 119 (fun a b => a || b) (enters_of Tryz.func119 (w110_) rfl) impl_UnionRanges_1.calls k A0 c0 l0 A1 c1 l1 r1 r2 w hr0 hc0 hr1 hc1 h
  clear hr0 hc0 hr1 hc1 h
  have HCALL := Aside0.mk hcall
  clear hcall
  go_enter Tryz.func35, Tryz.ntmps35
  go_wp2_with (go_at_call 118; refine HCALL.out.mono ?_; rintro e w4 ⟨v216, rfl, ho0, hb⟩)
  go_ret2
  exact ⟨_, w61_, ho0, hb⟩

theorem impl_WithoutRanges_1.calls (a b : Bool) (W : World) : Calls Tryz.prog 122 #[.bool a, .bool b] W fun e w' => e = .returned (.bool ((fun a b => a && !b) a b)) ∧ Drawn0 W w' := by
  cases a <;> cases b <;> (go_enter Tryz.func122, Tryz.ntmps122; go_wp2; go_ret; exact ⟨w77_, w74_⟩)
def impl_WithoutRanges.f (k : Nat) (l0 : List (S69)) (l1 : List (S69)) : Option ((List (S69)) × Bool) := impl_combined.f (fun a b => a && !b) k l0 l1
set_option maxHeartbeats 8000000 in
set_option maxRecDepth 100000 in
theorem impl_WithoutRanges.calls (k : Nat) (A0 : Option Addr) (c0 : Nat) (l0 : List (S69)) (A1 : Option Addr) (c1 : Nat) (l1 : List (S69)) (r1 : List (S69)) (r2 : Bool) (w : World) (hr0 : Kd.C k69 w A0 l0.length l0) (hc0 : l0.length ≤ c0) (hr1 : Kd.C k69 w A1 l1.length l1) (hc1 : l1.length ≤ c1) (h : impl_WithoutRanges.f k l0 l1 = some (r1, r2)) :
    Calls Tryz.prog 39 #[.slice A0 l0.length c0, .slice A1 l1.length c1] w fun e w' => ∃ v0_ : Value, e = .returned (.tuple #[v0_, .bool r2]) ∧ Kd.R k69 69 w' w.heap.size (fun _ => True) v0_ r1 ∧ Below w.heap.size w w' := by
  have hcall := impl_combined.calls 122 (fun a b => a && !b) (enters_of Tryz.func122 (w110_) rfl) impl_WithoutRanges_1.calls k A0 c0 l0 A1 c1 l1 r1 r2 w hr0 hc0 hr1 hc1 h
  clear hr0 hc0 hr1 hc1 h
  have HCALL := Aside0.mk hcall
  clear hcall
  go_enter Tryz.func39, Tryz.ntmps39
  go_wp2_with (go_at_call 118; refine HCALL.out.mono ?_; rintro e w4 ⟨v216, rfl, ho0, hb⟩)
  go_ret2
  exact ⟨_, w61_, ho0, hb⟩

end Go.Proofs.YtppbpefehpbejaaGreatDoor.P
end

section
namespace Go.Proofs.YtppbpefehpbejaaGreatDoor.P
open Go.RowKit Go.Proofs.YtppbpefehpbejaaGreatDoorW.PrintWords Go.Proofs.YtppbpefehpbejaaGreatDoorW.PrintLast Go.Proofs.YtppbpefehpbejaaGreatDoorW.PrintMore
set_option linter.unusedVariables false
set_option linter.unusedSimpArgs false

def impl_HasIndexed.f (k : Nat) (l0 : List (S69)) (a1 : Int) : Option (Bool × Bool) :=
  (impl_AreRanges.f k l0).bind fun t => (if t = true then ((impl_isIndexed.f a1).bind fun u => (if u = true then ((impl_setOf.f k l0).bind fun s => (if 0 ≤ a1 then (if a1 < (s.length : Int) then some (rdOf false s a1, true) else none) else none)) else some (false, false))) else some (false, false))
set_option maxHeartbeats 4000000 in
set_option maxRecDepth 100000 in
theorem impl_HasIndexed.calls (k : Nat) (A0 : Option Addr) (c0 : Nat) (l0 : List (S69)) (a1 : Int) (r1 : Bool) (r2 : Bool) (w : World) (hr0 : Kd.C k69 w A0 l0.length l0) (hc0 : l0.length ≤ c0) (h : impl_HasIndexed.f k l0 a1 = some (r1, r2)) :
    Calls Tryz.prog 44 #[.slice A0 l0.length c0, .int .i64 a1] w fun e w' => e = .returned (.tuple #[.bool r1, .bool r2]) ∧ Below w.heap.size w w' := by
  have hu58 := Tryz.underlying138
  have HR := Aside0.mk hr0
  have HC := Aside0.mk hc0
  clear hr0 hc0
  unfold impl_HasIndexed.f at h
  obtain ⟨t, h1, h⟩ := Option.bind_eq_some_iff.mp h
  have A1 := Aside0.mk h1
  clear h1
  cases t with
  | false =>
    rw [if_neg (by decide)] at h
    simp only [Option.some.injEq, Prod.mk.injEq] at h
    obtain ⟨rfl, rfl⟩ := h
    go_enter Tryz.func44, Tryz.ntmps44
    go_wp2_with (first | (go_at_call 43; (with_reducible refine (impl_AreRanges.calls k A0 c0 l0 false _ HR.out HC.out A1.out).mono ?_); rintro e w1 ⟨rfl, hb⟩; have HB1 := Aside0.mk (show Below w.heap.size w w1 from (w78_)); clear hb))
    go_ret2
    exact ⟨w77_, HB1.out⟩
  | true =>
    rw [if_pos rfl] at h
    obtain ⟨u, h2, h⟩ := Option.bind_eq_some_iff.mp h
    have A2 := Aside0.mk h2
    clear h2
    cases u with
    | false =>
      rw [if_neg (by decide)] at h
      simp only [Option.some.injEq, Prod.mk.injEq] at h
      obtain ⟨rfl, rfl⟩ := h
      go_enter Tryz.func44, Tryz.ntmps44
      go_wp2_with (first | (go_at_call 43; (with_reducible refine (impl_AreRanges.calls k A0 c0 l0 true _ HR.out HC.out A1.out).mono ?_); rintro e w1 ⟨rfl, hb⟩; have HB1 := Aside0.mk (show Below w.heap.size w w1 from (w78_)); clear hb) | (go_at_call 124; (with_reducible refine (impl_isIndexed.calls a1 false _ A2.out).mono ?_); rintro e w2 ⟨rfl, ⟨nd, rfl⟩⟩))
      go_ret2
      exact ⟨w77_, by repeat (first | (with_reducible first | exact HB1.out | apply pw_below_drewN) | exact HB1.out)⟩
    | true =>
      rw [if_pos rfl] at h
      obtain ⟨s, h3, h⟩ := Option.bind_eq_some_iff.mp h
      have A3 := Aside0.mk h3
      clear h3
      by_cases c1 : 0 ≤ a1
      · rw [if_pos c1] at h
        by_cases c2 : a1 < (s.length : Int)
        · rw [if_pos c2] at h
          simp only [Option.some.injEq, Prod.mk.injEq] at h
          obtain ⟨hq, rfl⟩ := h
          have HQ := Aside0.mk hq
          clear hq
          go_enter Tryz.func44, Tryz.ntmps44
          go_wp2_with (first | (go_at_call 43; (with_reducible refine (impl_AreRanges.calls k A0 c0 l0 true _ HR.out HC.out A1.out).mono ?_); rintro e w1 ⟨rfl, hb⟩; have HB1 := Aside0.mk (show Below w.heap.size w w1 from (w78_)); clear hb) | (go_at_call 124; (with_reducible refine (impl_isIndexed.calls a1 true _ A2.out).mono ?_); rintro e w2 ⟨rfl, ⟨nd, rfl⟩⟩) | (go_at_call 125; (with_reducible refine (impl_setOf.calls k A0 c0 l0 s _ ?side1 HC.out A3.out).mono ?_); (case side1 => exact Kd.C_drewN (Kd.C_below HR.out HB1.out) _); rintro e w3 ⟨v, rfl, ho, hb⟩; have HB3 := Aside0.mk (below_step (pw_below_drewN HB1.out nd) hb); obtain ⟨ad, ead, hx0⟩ := Kd.at_bool (Kd.R_reads' ho).2.2 a1 c1 c2; rw [HQ.out] at hx0; cases ead; rw [add_at, Nat.zero_add] at hx0; have q1 : a1 < 2001 := (by have := (Kd.R_reads' ho).1; omega); clear ho hb))
          repeat (go_quiet (fail); try go_wp2)
          go_ret2
          exact ⟨w77_, by repeat (first | (with_reducible first | exact HB3.out | apply pw_below_drewN | apply below_drew1) | exact HB3.out)⟩
        · rw [if_neg c2] at h
          cases h
      · rw [if_neg c1] at h
        cases h
end Go.Proofs.YtppbpefehpbejaaGreatDoor.P
end

section
namespace Go.Proofs.YtppbpefehpbejaaGreatDoor.P
open Go.Shelf Go.RowKit Go.Proofs.YtppbpefehpbejaaGreatDoorW.PrintWords Go.Proofs.YtppbpefehpbejaaGreatDoorW.PrintLast Go.Proofs.YtppbpefehpbejaaGreatDoorW.PrintMore
set_option linter.unusedVariables false
set_option linter.unusedSimpArgs false

def PredRange (g : Nat) (lb : Array Value) (p : S69 → Bool) (l : List S69) (w : World) : Prop :=
  ∀ (W : World) (x : S69), x ∈ l → Below w.heap.size w W → Calls Tryz.prog g (#[.agg #[.int .i64 x.f0, .int .i64 x.f1]] ++ lb) W fun e w' => e = .returned (.bool (p x)) ∧ Below W.heap.size W w'
def IdxPost (b : Bool) (e : Ending) : Prop := ∃ i : Int, e = .returned (.int .i64 i) ∧ decide (0 ≤ i) = b

theorem any_hit {α : Type} (l : List α) (z : α) (p : α → Bool) (i : Nat) (hi : i < l.length) (h : p (l.getD i z) = true) : l.any p = true := by
  rw [List.any_eq_true]
  refine ⟨l[i], List.getElem_mem hi, ?_⟩
  rw [List.getD_eq_getElem?_getD, List.getElem?_eq_getElem hi] at h
  exact h
theorem any_miss {α : Type} (l : List α) (z : α) (p : α → Bool) (h : ∀ j, j < l.length → p (l.getD j z) = false) : l.any p = false := by
  rw [List.any_eq_false]
  intro x hx
  obtain ⟨i, hi, rfl⟩ := List.mem_iff_getElem.1 hx
  have := h i hi
  rw [List.getD_eq_getElem?_getD, List.getElem?_eq_getElem hi] at this
  simpa using this

set_option maxHeartbeats 2000000 in
set_option maxRecDepth 100000 in
theorem indexFunc_range (g : Nat) (lb : Array Value) (p : S69 → Bool) (eg : ∀ args w, (callFunc g args).run Tryz.prog w = .ok (.enter g args) w) (A : Option Addr) (c : Nat) (l : List S69) (w : World)
    (hr : Kd.C k69 w A l.length l) (hp : PredRange g lb p l w) :
    Calls Tryz.prog 174 #[.slice A l.length c, .func (.func g) #[] lb] w fun e w' => IdxPost (l.any p) e ∧ Below w.heap.size w w' := by
  have hu31 := Tryz.underlying69
  have hbig : l.length ≤ 9223372036854775807 := hr.2.1
  have HR := Aside0.mk hr
  have HP := Aside0.mk hp
  clear hr hp
  go_enter Tryz.func174, Tryz.ntmps174
  go_wp2
  go_loopg [5, 8] l.length (fun gg _ s8 wr => ∃ x : Int, s8 = .int .i64 x ∧ Aside0 (0 ≤ x ∧ x ≤ l.length ∧ l.length - x.toNat ≤ gg) ∧ Aside0 (Below w.heap.size w wr) ∧ Aside0 (∀ j, j < x.toNat → p (l.getD j z69) = false))
  case atStart => exact ⟨0, rfl, ⟨by omega, by omega, by simp⟩, ⟨Below.refl _ w⟩, ⟨fun j hj => absurd hj (by simp)⟩⟩
  case round =>
    obtain ⟨x, rfl, HX, HB, HM⟩ := hrel
    by_cases hlt : x < (l.length : Int)
    · have h0 : 0 ≤ x := HX.out.1
      obtain ⟨ad, e, hx0, hx1⟩ := at_T69 HR.out x h0 hlt
      cases e
      replace hx0 := (HB.out.cell (World.block_lt_of_cell? w _ hx0)).trans hx0
      replace hx1 := (HB.out.cell (World.block_lt_of_cell? w _ hx1)).trans hx1
      have hmem : rd_T69 l x ∈ l := by
        unfold rd_T69
        rw [List.getD_eq_getElem?_getD, List.getElem?_eq_getElem (by omega)]
        exact List.getElem_mem _
      have hcall := HP.out wr (rd_T69 l x) hmem HB.out
      have HQ := Aside0.mk (show rd_T69 l x = l.getD x.toNat z69 from rfl)
      generalize rd_T69 l x = y at hx0 hx1 hcall HQ
      clear hmem
      cases hq : p y with
      | true =>
        rw [hq] at hcall
        go_wp2_with (go_at_fn g; refine hcall.mono ?_; rintro e w' ⟨rfl, hb'⟩)
        go_ret
        refine ⟨⟨x, rfl, ?_⟩, below_step HB.out hb'⟩
        rw [any_hit l z69 p x.toNat (by omega) (by rw [← HQ.out]; exact hq)]
        exact decide_eq_true h0
      | false =>
        rw [hq] at hcall
        go_wp2_with (go_at_fn g; refine hcall.mono ?_; rintro e w' ⟨rfl, hb'⟩)
        go_roundg (l.length - (x + 1).toNat)
        case measure => have := HX.out; omega
        case rel =>
          refine ⟨x + 1, by go_num, ⟨by omega, by omega, Nat.le_refl _⟩, ⟨below_step HB.out hb'⟩, ⟨fun j hj => ?_⟩⟩
          by_cases e : j = x.toNat
          · subst e
            rw [← HQ.out]; exact hq
          · exact HM.out j (by omega)
    · have hx : x = (l.length : Int) := by have := HX.out; omega
      go_wp2
      go_ret
      refine ⟨⟨-1, rfl, ?_⟩, HB.out⟩
      rw [any_miss l z69 p (fun j hj => HM.out j (by omega))]
      rfl

set_option maxHeartbeats 2000000 in
set_option maxRecDepth 100000 in
theorem containsFunc_range (g : Nat) (lb : Array Value) (p : S69 → Bool) (eg : ∀ args w, (callFunc g args).run Tryz.prog w = .ok (.enter g args) w) (A : Option Addr) (c : Nat) (l : List S69) (w : World)
    (hr : Kd.C k69 w A l.length l) (hp : PredRange g lb p l w) :
    Calls Tryz.prog 128 #[.slice A l.length c, .func (.func g) #[] lb] w fun e w' => e = .returned (.bool (l.any p)) ∧ Below w.heap.size w w' := by
  have hc := indexFunc_range g lb p eg A c l w hr hp
  clear hr hp
  go_enter Tryz.func128, Tryz.ntmps128
  go_wp2_with (go_at_call 174; refine hc.mono ?_; rintro e w' ⟨⟨i, rfl, hi⟩, hb'⟩; have HI := Aside0.mk hi; clear hi)
  go_ret
  exact ⟨by first | rfl | (rw [HI.out]; rfl), hb'⟩
end Go.Proofs.YtppbpefehpbejaaGreatDoor.P
end

section
namespace Go.Proofs.YtppbpefehpbejaaGreatDoor.P
open Go.RowKit Go.Proofs.YtppbpefehpbejaaGreatDoorW.PrintWords Go.Proofs.YtppbpefehpbejaaGreatDoorW.PrintLast Go.Proofs.YtppbpefehpbejaaGreatDoorW.PrintMore
set_option linter.unusedVariables false
set_option linter.unusedSimpArgs false

def isR (x : S69) : Bool := (impl_isRange.f x.f0 x.f1).getD false
def impl_MergeRanges.f (k : Nat) (l : List S69) : Option (List S69 × Bool) :=
  if 100 < l.length then some ([], false) else if l.all (fun x => (impl_isRange.f x.f0 x.f1).isSome) = true then (if l.any (fun x => !isR x) = true then some ([], false) else (impl_setOf.f k l).bind fun s => (impl_pageSet_ranges.f k s)) else none
theorem isR_some {x : S69} (h : (impl_isRange.f x.f0 x.f1).isSome = true) : impl_isRange.f x.f0 x.f1 = some (isR x) := by
  unfold isR
  cases e : impl_isRange.f x.f0 x.f1 with
  | none => rw [e] at h; cases h
  | some b => rfl

set_option maxHeartbeats 4000000 in
set_option maxRecDepth 100000 in
theorem merge_1_calls (x : S69) (b : Bool) (w : World) (h : impl_isRange.f x.f0 x.f1 = some b) :
    Calls Tryz.prog 129 #[.agg #[.int .i64 x.f0, .int .i64 x.f1]] w fun e w' => e = .returned (.bool (!b)) ∧ Below w.heap.size w w' := by
  have hu := Tryz.underlying69
  have HB := Aside0.mk (Below.refl w.heap.size w)
  have A2 := Aside0.mk h
  clear h
  obtain ⟨a0, a1⟩ := x
  simp only at A2
  go_enter Tryz.func129, Tryz.ntmps129
  go_wp2_with (first | ((with_reducible refine gate_dst (N := 1) rfl ?_); refine box_event ?hg (N := 1) ?hd (cs := #[.int .i64 a0, .int .i64 a1]) (t := 69) ?hr ?_; (case hd => rfl); (case hg => rfl); (case hr => first | (go_simp; done) | (go_simp; rfl)); intro gb136 hg w3 hbox hb; have n0_ := Aside0.mk (below_step (w47_) hb); have n1_ := Aside0.mk (hbox); clear HB; have HB := n0_; have BK136 := n1_; clear n0_ n1_; clear hb hbox hg; have hcz4_0 : w3.cell? ⟨gb136, 0, none⟩ = some (.int .i64 a0) := (blk_cell BK136.out 0).trans rfl; have hcz4_1 : w3.cell? ⟨gb136, 1, none⟩ = some (.int .i64 a1) := (blk_cell BK136.out 1).trans rfl; have hfz4_0 := blk_frozen BK136.out 0; have hfz4_1 := blk_frozen BK136.out 1) | (go_at_call 123; (with_reducible refine (impl_isRange.calls a0 a1 b _ A2.out).mono ?_); rintro e w5 ⟨rfl, hb⟩; have n1_ := Aside0.mk (below_step (w47_) hb); clear HB; have HB := n1_; clear n1_; (try clear hb)))
  go_ret
  exact ⟨by first | rfl | (simp [*]; done), w47_⟩

set_option maxHeartbeats 4000000 in
set_option maxRecDepth 100000 in
theorem impl_MergeRanges.calls (k : Nat) (A0 : Option Addr) (c0 : Nat) (l0 : List S69) (r1 : List S69) (r2 : Bool) (w : World) (hr0 : Kd.C k69 w A0 l0.length l0) (hc0 : l0.length ≤ c0) (h : impl_MergeRanges.f k l0 = some (r1, r2)) :
    Calls Tryz.prog 46 #[.slice A0 l0.length c0] w fun e w' => ∃ v0_ : Value, e = .returned (.tuple #[v0_, .bool r2]) ∧ Kd.R k69 69 w' w.heap.size (fun _ => True) v0_ r1 ∧ Below w.heap.size w w' := by
  unfold impl_MergeRanges.f at h
  have HR := Aside0.mk hr0
  have HC := Aside0.mk hc0
  clear hr0 hc0
  by_cases c2 : 100 < l0.length
  · rw [if_pos c2] at h
    simp only [Option.some.injEq, Prod.mk.injEq] at h
    obtain ⟨rfl, rfl⟩ := h
    have c3 : decide ((100 : Int) < (l0.length : Int)) = true := decide_eq_true (by omega)
    have c4 : decide (100 < l0.length) = true := decide_eq_true c2
    clear c2
    go_enter Tryz.func46, Tryz.ntmps46
    go_wp2
    go_ret2
    exact ⟨_, rfl, Kd.R_nil _ _ _ _ _, Below.refl _ _⟩
  · rw [if_neg c2] at h
    by_cases c4 : l0.all (fun x => (impl_isRange.f x.f0 x.f1).isSome) = true
    · rw [if_pos c4] at h
      have c3 : decide ((100 : Int) < (l0.length : Int)) = false := decide_eq_false (by omega)
      have c5 : decide (100 < l0.length) = false := decide_eq_false c2
      clear c2
      have eg := enters_of Tryz.func129 (w110_) rfl
      have hcall := containsFunc_range 129 #[] (fun x => !isR x) eg A0 c0 l0 w HR.out (fun W' x hx _ => merge_1_calls x (isR x) W' (isR_some (List.all_eq_true.1 c4 x hx)))
      clear c4 eg
      cases hb : l0.any (fun x => !isR x) with
      | true =>
        rw [if_pos hb] at h
        simp only [Option.some.injEq, Prod.mk.injEq] at h
        obtain ⟨rfl, rfl⟩ := h
        rw [hb] at hcall
        clear hb
        have HCALL := Aside0.mk hcall
        clear hcall
        go_enter Tryz.func46, Tryz.ntmps46
        go_wp2_with (go_at_call 128; refine HCALL.out.mono ?_; rintro e w' ⟨rfl, hb'⟩)
        go_ret2
        exact ⟨_, rfl, Kd.R_nil _ _ _ _ _, hb'⟩
      | false =>
        rw [if_neg (by rw [hb]; decide)] at h
        rw [hb] at hcall
        clear hb
        have HCALL := Aside0.mk hcall
        clear hcall
        replace h := Option.bind_eq_some_iff.mp h
        obtain ⟨s, A1, A2⟩ := h
        replace A1 := Aside0.mk A1
        replace A2 := Aside0.mk A2
        go_enter Tryz.func46, Tryz.ntmps46
        go_wp2_with (first | (go_at_call 128; refine HCALL.out.mono ?_; rintro e w1 ⟨rfl, hb1⟩; have HB1 := Aside0.mk hb1; clear hb1) | (go_at_call 125; refine (impl_setOf.calls k A0 c0 l0 s _ (Kd.C_below HR.out HB1.out) HC.out A1.out).mono ?_; rintro e w2 ⟨g, rfl, ho, hb2⟩; have HO := Aside0.mk ho; have HB2 := Aside0.mk (below_step HB1.out hb2); clear ho hb2) | (go_at_call 130; refine (impl_pageSet_ranges.calls k g s r1 r2 _ (Kd.R_reads' HO.out).2.2 (Kd.R_reads' HO.out).1.symm A2.out).mono ?_; rintro e w3 ⟨v, rfl, ho3, hb3⟩; have HO3 := Aside0.mk (Kd.R_lower ho3 (below_size HB2.out)); have HB3 := Aside0.mk (below_step HB2.out hb3); clear ho3 hb3))
        go_ret2
        exact ⟨_, rfl, HO3.out, HB3.out⟩
    · rw [if_neg c4] at h
      cases h
end Go.Proofs.YtppbpefehpbejaaGreatDoor.P
end

section
namespace Go.Proofs.YtppbpefehpbejaaGreatDoor.P
open Go.RowKit Go.Proofs.YtppbpefehpbejaaGreatDoorW.PrintWords Go.Proofs.YtppbpefehpbejaaGreatDoorW.PrintLast Go.Proofs.YtppbpefehpbejaaGreatDoorW.PrintMore
set_option linter.unusedVariables false
set_option linter.unusedSimpArgs false

def impl_PagesOfRanges.l0 : Nat → List Bool → List Int → Int → Option (List Int × Bool)
  | 0, _, _, _ => none
  | k + 1, s, x4, x13 => if x13 < 2001 then (if 0 ≤ x13 then (if x13 < (s.length : Int) then (if rdOf false s x13 = true then (if x4.length < 17592186044416 then impl_PagesOfRanges.l0 k s (x4 ++ [x13]) (wrap64 (x13 + 1)) else none) else impl_PagesOfRanges.l0 k s x4 (wrap64 (x13 + 1))) else none) else none) else some (x4, true)
def impl_PagesOfRanges.f (k : Nat) (l0 : List (S69)) : Option (List Int × Bool) :=
  (impl_AreRanges.f k l0).bind fun t => (if t = true then ((impl_setOf.f k l0).bind fun s => impl_PagesOfRanges.l0 k s [] 0) else some ([], false))
set_option maxHeartbeats 8000000 in
set_option maxRecDepth 100000 in
theorem impl_PagesOfRanges.calls (k : Nat) (A0 : Option Addr) (c0 : Nat) (l0 : List (S69)) (r1 : List Int) (r2 : Bool) (w : World) (hr0 : Kd.C k69 w A0 l0.length l0) (hc0 : l0.length ≤ c0) (h : impl_PagesOfRanges.f k l0 = some (r1, r2)) :
    Calls Tryz.prog 52 #[.slice A0 l0.length c0] w fun e w' => ∃ v0_ : Value, e = .returned (.tuple #[v0_, .bool r2]) ∧ Kd.R (Kd.int .i64) 3 w' w.heap.size (fun _ => True) v0_ r1 ∧ Below w.heap.size w w' := by
  have hu58 := Tryz.underlying138
  have HR := Aside0.mk hr0
  have HC := Aside0.mk hc0
  clear hr0 hc0
  unfold impl_PagesOfRanges.f at h
  obtain ⟨t, h1, h⟩ := Option.bind_eq_some_iff.mp h
  have A1 := Aside0.mk h1
  clear h1
  cases t with
  | false =>
    rw [if_neg (by decide)] at h
    simp only [Option.some.injEq, Prod.mk.injEq] at h
    obtain ⟨rfl, rfl⟩ := h
    go_enter Tryz.func52, Tryz.ntmps52
    go_wp2_with (first | (go_at_call 43; (with_reducible refine (impl_AreRanges.calls k A0 c0 l0 false _ HR.out HC.out A1.out).mono ?_); rintro e w1 ⟨rfl, hb⟩; have HB1 := Aside0.mk (show Below w.heap.size w w1 from (w78_)); clear hb))
    go_ret2
    exact ⟨_, w77_, Kd.R_nil _ _ _ _ _, HB1.out⟩
  | true =>
    rw [if_pos rfl] at h
    obtain ⟨s, h3, h⟩ := Option.bind_eq_some_iff.mp h
    have A3 := Aside0.mk h3
    have H' := Aside0.mk h
    clear h3 h
    go_enter Tryz.func52, Tryz.ntmps52
    go_wp2_with (first | (go_at_call 43; (with_reducible refine (impl_AreRanges.calls k A0 c0 l0 true _ HR.out HC.out A1.out).mono ?_); rintro e w1 ⟨rfl, hb⟩; have HB1 := Aside0.mk (show Below w.heap.size w w1 from (w78_)); clear hb) | ((with_reducible refine gate_dst (N := 10) rfl ?_); refine Kd.R_lit (Kd.int .i64) _ 3 ?hg (N := 10) ?hd (xs := ([] : List Int)) (inner := []) (ok := fun _ => True) (okp := fun _ => True) ?hr ?hp (fun _ hk => hk) trivial (Below.refl _ _) (Nat.le_refl _) (by simp) ?_; (case hd => rfl); (case hg => rfl); (case hr => first | (go_simp; done) | (go_simp; rfl)); (case hp => exact (Reps.none _ _)); intro v4 w2 ho4 hb hg_ hnew_; clear hg_ hnew_; have HO4 := Aside0.mk (Kd.R_lower ho4 HB1.out.size); have HB2 := Aside0.mk (below_step HB1.out hb); clear hb ho4) | (go_at_call 125; (with_reducible refine (impl_setOf.calls k A0 c0 l0 s _ ?side1 HC.out A3.out).mono ?_); (case side1 => exact Kd.C_below HR.out HB2.out); rintro e w3 ⟨v, rfl, ho, hb⟩; have HS := Aside0.mk (Kd.R_lower ho HB2.out.size); have HO5 := Aside0.mk (Kd.R_below HO4.out hb); have HB3 := Aside0.mk (below_step HB2.out hb); clear HO4 ho hb))
    repeat (go_quiet (fail); try go_wp2)
    go_loopg [4, 13] k (fun kq v4 v13 w' => ∃ (x4 : List Int) (x13 : Int), v13 = .int .i64 x13 ∧ Aside0 (impl_PagesOfRanges.l0 kq s x4 x13 = some (r1, r2)) ∧ Aside0 (Kd.R (Kd.int .i64) 3 w' w.heap.size (fun _ => True) v4 x4) ∧ Aside0 (Kd.R Kd.bool 138 w' w.heap.size (fun _ => True) (.slice (some ⟨v, 0, none⟩) 2001 2001) s) ∧ Aside0 (Below w.heap.size w w'))
    case atStart => exact ⟨[], 0, rfl, H', ⟨HO5.out⟩, ⟨HS.out⟩, ⟨HB3.out⟩⟩
    case round =>
      clear H' HO5 HS HB3
      obtain ⟨x4, x13, rfl, HA, HO, HS, HB⟩ := hrel
      cases gk with
      | zero => exact absurd HA.out (by simp [impl_PagesOfRanges.l0])
      | succ k1 =>
        have H := HA.out
        clear HA
        simp only [impl_PagesOfRanges.l0] at H
        by_cases c1 : x13 < 2001
        · rw [if_pos c1] at H
          by_cases c2 : 0 ≤ x13
          · rw [if_pos c2] at H
            by_cases c3 : x13 < (s.length : Int)
            · rw [if_pos c3] at H
              obtain ⟨ad, ead, hx0⟩ := Kd.at_bool (Kd.R_reads' HS.out).2.2 x13 c2 c3
              cases ead
              rw [add_at, Nat.zero_add] at hx0
              cases hb : rdOf false s x13 with
              | true =>
                rw [hb] at hx0 H
                rw [if_pos rfl] at H
                by_cases c4 : x4.length < 17592186044416
                · rw [if_pos c4] at H
                  have H' := Aside0.mk H
                  have HL := Aside0.mk c4
                  clear H c4
                  go_wp2
                  repeat (go_quiet (fail); try go_wp2_with (first | ((with_reducible refine gate_builtin (b := .append) (xs := #[.tmp 20, .tmp 22]) rfl ?_); at_builtin; refine Kd.R_append (Kd.int .i64) (w0 := w) w.heap.size rfl (.tmp 20) (.tmp 22) 24 3 (.int .i64 0) 8 rfl Tryz.underlying24 info3 rfl (by decide) (by omega) u4 x4 x13 [.int .i64 x13] (fun _ => True) (fun _ => False) rfl rfl ?aP (fun _ hk => hk.elim) ?aF ?aO ?aB ?aS ?aL ?_; (case aP => exact rfl); (case aB => exact (w47_)); (case aF => exact (fun _ _ => trivial)); (case aO => exact (w59_)); (case aS => exact (below_size (w47_))); (case aL => have := HL.out; omega); intro v336 w13 ho hb2 hg hat; have HS2 := Aside0.mk (Kd.R_over' (by (with_reducible repeat (first | apply Kd.R_alloc | apply Kd.R_drewN | apply Kd.R_drew)); exact HS.out) (Kd.R_typed (w59_)) (by decide) hg); have HO2 := Aside0.mk ho; have HB2 := Aside0.mk hb2; clear ho hb2 hg hat)))
                  go_roundg k1
                  case measure => omega
                  case rel => exact ⟨x4 ++ [x13], wrap64 (x13 + 1), by (have e_ : wrap64 (x13 + 1) = x13 + 1 := by unfold wrap64; omega); rw [e_], H', ⟨HO2.out⟩, ⟨HS2.out⟩, ⟨HB2.out⟩⟩
                · rw [if_neg c4] at H
                  cases H
              | false =>
                rw [hb] at hx0 H
                rw [if_neg Bool.false_ne_true] at H
                have H' := Aside0.mk H
                clear H
                go_wp2
                repeat (go_quiet (fail); try go_wp2)
                go_roundg k1
                case measure => omega
                case rel => exact ⟨x4, wrap64 (x13 + 1), by (have e_ : wrap64 (x13 + 1) = x13 + 1 := by unfold wrap64; omega); rw [e_], H', ⟨(w59_)⟩, ⟨(by (with_reducible repeat (first | apply Kd.R_alloc | apply Kd.R_drewN | apply Kd.R_drew)); exact HS.out)⟩, ⟨(w47_)⟩⟩
            · rw [if_neg c3] at H
              cases H
          · rw [if_neg c2] at H
            cases H
        · rw [if_neg c1] at H
          simp only [Option.some.injEq, Prod.mk.injEq] at H
          obtain ⟨rfl, rfl⟩ := H
          go_wp2
          repeat (go_quiet (fail); try go_wp2)
          go_ret2
          exact ⟨_, w77_, w59_, by repeat (first | (with_reducible first | exact HB.out | apply pw_below_drewN | apply below_drew1) | exact HB.out)⟩
end Go.Proofs.YtppbpefehpbejaaGreatDoor.P
end

section
namespace Go.Proofs.YtppbpefehpbejaaGreatDoor.P
open Go.RowKit Go.Proofs.YtppbpefehpbejaaGreatDoorW.PrintWords Go.Proofs.YtppbpefehpbejaaGreatDoorW.PrintLast Go.Proofs.YtppbpefehpbejaaGreatDoorW.PrintMore
attribute [local go_sem] max2_int min2_int max_two min_two max_three min_three max_four min_four   -- for this text's walks alone
set_option linter.unusedVariables false
set_option linter.unusedSimpArgs false

def impl_RangesOfPages.l0 : Nat → List Int → List Bool → List Int → Int → Int → Option ((List (S69)) × Bool)
  | 0, _, _, _, _, _ => none
  | k + 1, x0, x4, x9, x10, x11 => if x11 < x10 then (if 0 ≤ x11 then (if x11 < (x9.length : Int) then ((impl_isIndexed.f (rd x9 x11)).bind fun t148 => (if t148 = true then (if x11 > 0 then (if 0 ≤ (wrap64 (x11 - 1)) then (if (wrap64 (x11 - 1)) < (x0.length : Int) then (if (rd x0 (wrap64 (x11 - 1))) ≥ (rd x9 x11) then (some (([] : List (S69)), false)) else (if 0 ≤ (rd x9 x11) then (if (rd x9 x11) < (x4.length : Int) then (impl_RangesOfPages.l0 k x0 (x4.set ((rd x9 x11) : Int).toNat true) x9 x10 (wrap64 (x11 + 1))) else (none)) else (none))) else (none)) else (none)) else (if 0 ≤ (rd x9 x11) then (if (rd x9 x11) < (x4.length : Int) then (impl_RangesOfPages.l0 k x0 (x4.set ((rd x9 x11) : Int).toNat true) x9 x10 (wrap64 (x11 + 1))) else (none)) else (none))) else (some (([] : List (S69)), false)))) else (none)) else (none)) else ((impl_pageSet_ranges.f k x4).bind fun bt152 => (some (bt152.1, bt152.2)))
def impl_RangesOfPages.f (k : Nat) (l0 : List Int) : Option ((List (S69)) × Bool) := if 2001 ≤ 281474976710656 then (impl_RangesOfPages.l0 k l0 (List.replicate 2001 false) l0 (l0.length : Int) 0) else (none)
set_option maxHeartbeats 8000000 in
set_option maxRecDepth 100000 in
theorem impl_RangesOfPages.calls (k : Nat) (A0 : Option Addr) (c0 : Nat) (l0 : List Int) (r1 : List (S69)) (r2 : Bool) (w : World) (hr0 : Kd.C (Kd.int .i64) w A0 l0.length l0) (hc0 : l0.length ≤ c0) (h : impl_RangesOfPages.f k l0 = some (r1, r2)) :
    Calls Tryz.prog 49 #[.slice A0 l0.length c0] w fun e w' => ∃ v0_ : Value, e = .returned (.tuple #[v0_, .bool r2]) ∧ Kd.R k69 69 w' w.heap.size (fun _ => True) v0_ r1 ∧ Below w.heap.size w w' := by
  have HR0 := Aside0.mk hr0
  have HC0 := Aside0.mk hc0
  clear hr0 hc0
  have HB := Aside0.mk (Below.refl w.heap.size w)
  have H : (if 2001 ≤ 281474976710656 then (impl_RangesOfPages.l0 k l0 (List.replicate 2001 false) l0 (l0.length : Int) 0) else (none)) = some (r1, r2) := h
  clear h
  by_cases c2 : 2001 ≤ 281474976710656
  · rw [if_pos c2] at H
    have c2b0 := eq_true c2
    have c2b1 : decide (2001 ≤ 281474976710656) = true := decide_eq_true c2
    clear c2
    obtain ⟨y144, hy144⟩ : ∃ y_ : List Bool, y_ = (List.replicate 2001 false) := ⟨_, rfl⟩
    replace H : (impl_RangesOfPages.l0 k l0 y144 l0 (l0.length : Int) 0) = some (r1, r2) := by first | (rw [hy144]; with_reducible exact H) | (have H2_ := (Option.bind_some _ _).symm.trans H; rw [hy144]; with_reducible exact H2_) | (have H2_ := (Option.bind_some _ _).symm.trans H; with_reducible exact H2_) | with_reducible exact H | (rw [hy144]; exact H) | exact H
    have Ny144 := Aside0.mk hy144
    clear hy144
    have H' := Aside0.mk H
    clear H
    have hu58 := Tryz.underlying138
    go_enter Tryz.func49, Tryz.ntmps49
    go_wp2_with (first | ((with_reducible refine gate_dst (N := 8) rfl ?_); refine box_event ?hg (N := 8) ?hd (cs := Tryz.zeroCells138) (t := 138) ?hr ?_; (case hd => rfl); (case hg => rfl); (case hr => first | (go_simp; done) | (go_simp; rfl)); intro v145 hg_ w3 hbox hb; have ho4 := PS_new hbox (Nat.le_of_eq hg_.symm); rw [← Ny144.out] at ho4; clear hg_ hbox; have n0_ := Aside0.mk (Kd.R_lower ho4 (below_size (w47_))); have n1_ := Aside0.mk (below_step (w47_) hb); clear HB; have HO146 := n0_; have HB := n1_; clear n0_ n1_; clear hb ho4))
    go_loopg [11] k (fun kq v11 w' => ∃ (x4_1 : List Bool) (x11_1 : Int), v11 = .int .i64 x11_1 ∧ Aside0 (impl_RangesOfPages.l0 kq l0 x4_1 l0 (l0.length : Int) x11_1 = some (r1, r2)) ∧ Aside0 (kq ≤ k) ∧ Aside0 (Kd.R Kd.bool 138 w' w.heap.size (fun _ => True) (.slice (some ⟨v145, 0, none⟩) 2001 2001) x4_1) ∧ Aside0 (Below w.heap.size w w'))
    case atStart => exact ⟨(y144), (0), (w77_), H', ⟨Nat.le_refl _⟩, ⟨by (with_reducible repeat (first | apply Kd.R_alloc | apply Kd.R_drewN | apply Kd.R_drew)); exact HO146.out⟩, ⟨w47_⟩⟩
    case round =>
      clear H'
      try clear c1
      try clear c2
      try clear c2b0
      try clear c2b1
      try clear p2
      obtain ⟨x4_1, x11_1, rfl, HA, HK1, HO_4, HB⟩ := hrel
      cases gk with
      | zero => exact absurd HA.out (by simp [impl_RangesOfPages.l0])
      | succ k1 =>
        have H := HA.out
        clear HA
        simp only [impl_RangesOfPages.l0] at H
        by_cases c5 : x11_1 < (l0.length : Int)
        · rw [if_pos c5] at H
          have c5b0 : decide (x11_1 < (l0.length : Int)) = true := decide_eq_true c5
          clear c5
          by_cases c6 : 0 ≤ x11_1
          · rw [if_pos c6] at H
            have c6b0 : decide (0 ≤ x11_1) = true := decide_eq_true c6
            clear c6
            by_cases c7 : x11_1 < (l0.length : Int)
            · rw [if_pos c7] at H
              have c7b0 : decide (x11_1 < (l0.length : Int)) = true := decide_eq_true c7
              clear c7
              replace H := Option.bind_eq_some_iff.mp H
              obtain ⟨t148, A80, H⟩ := H
              replace H : (if t148 = true then (if x11_1 > 0 then (if 0 ≤ (wrap64 (x11_1 - 1)) then (if (wrap64 (x11_1 - 1)) < (l0.length : Int) then (if (rd l0 (wrap64 (x11_1 - 1))) ≥ (rd l0 x11_1) then (some (([] : List (S69)), false)) else (if 0 ≤ (rd l0 x11_1) then (if (rd l0 x11_1) < (x4_1.length : Int) then (impl_RangesOfPages.l0 k1 l0 (x4_1.set ((rd l0 x11_1) : Int).toNat true) l0 (l0.length : Int) (wrap64 (x11_1 + 1))) else (none)) else (none))) else (none)) else (none)) else (if 0 ≤ (rd l0 x11_1) then (if (rd l0 x11_1) < (x4_1.length : Int) then (impl_RangesOfPages.l0 k1 l0 (x4_1.set ((rd l0 x11_1) : Int).toNat true) l0 (l0.length : Int) (wrap64 (x11_1 + 1))) else (none)) else (none))) else (some (([] : List (S69)), false))) = some (r1, r2) := H
              have A8 := Aside0.mk A80
              clear A80
              by_cases c9 : t148 = true
              · subst c9
                have H1 : (if x11_1 > 0 then (if 0 ≤ (wrap64 (x11_1 - 1)) then (if (wrap64 (x11_1 - 1)) < (l0.length : Int) then (if (rd l0 (wrap64 (x11_1 - 1))) ≥ (rd l0 x11_1) then (some (([] : List (S69)), false)) else (if 0 ≤ (rd l0 x11_1) then (if (rd l0 x11_1) < (x4_1.length : Int) then (impl_RangesOfPages.l0 k1 l0 (x4_1.set ((rd l0 x11_1) : Int).toNat true) l0 (l0.length : Int) (wrap64 (x11_1 + 1))) else (none)) else (none))) else (none)) else (none)) else (if 0 ≤ (rd l0 x11_1) then (if (rd l0 x11_1) < (x4_1.length : Int) then (impl_RangesOfPages.l0 k1 l0 (x4_1.set ((rd l0 x11_1) : Int).toNat true) l0 (l0.length : Int) (wrap64 (x11_1 + 1))) else (none)) else (none))) = some (r1, r2) := by rw [if_pos rfl] at H; exact H
                clear H
                have H := H1
                clear H1
                by_cases c10 : x11_1 > 0
                · rw [if_pos c10] at H
                  have c10b0 : decide (0 < x11_1) = true := decide_eq_true c10
                  clear c10
                  obtain ⟨ji11, hji11⟩ : ∃ j_ : Int, (wrap64 (x11_1 - 1)) = j_ := ⟨_, rfl⟩
                  replace H : (if 0 ≤ (ji11) then (if (ji11) < (l0.length : Int) then (if (rd l0 (ji11)) ≥ (rd l0 x11_1) then (some (([] : List (S69)), false)) else (if 0 ≤ (rd l0 x11_1) then (if (rd l0 x11_1) < (x4_1.length : Int) then (impl_RangesOfPages.l0 k1 l0 (x4_1.set ((rd l0 x11_1) : Int).toNat true) l0 (l0.length : Int) (wrap64 (x11_1 + 1))) else (none)) else (none))) else (none)) else (none)) = some (r1, r2) := by first | (rw [hji11] at H; exact H) | (simp only [hji11] at H ⊢; exact H)
                  (try rw [hji11] at A8)
                  have hji11w : (IntKind.i64.wrap (x11_1 - 1)) = ji11 := (i64_w _).trans hji11
                  by_cases c12 : 0 ≤ (ji11)
                  · rw [if_pos c12] at H
                    have c12b0 : decide (0 ≤ (ji11)) = true := decide_eq_true c12
                    clear c12
                    by_cases c13 : (ji11) < (l0.length : Int)
                    · rw [if_pos c13] at H
                      have c13b0 : decide ((ji11) < (l0.length : Int)) = true := decide_eq_true c13
                      clear c13
                      by_cases c14 : (rd l0 (ji11)) ≥ (rd l0 x11_1)
                      · rw [if_pos c14] at H
                        have c14b0 : decide ((rd l0 x11_1) ≤ (rd l0 (ji11))) = true := decide_eq_true c14
                        clear c14
                        simp only [Option.some.injEq, Prod.mk.injEq] at H
                        obtain ⟨rfl, rfl⟩ := H
                        have p147 : 0 ≤ (x11_1 : Int) := of_decide_eq_true (w76_)
                        have q147 : x11_1 < (l0.length : Int) := of_decide_eq_true (w76_)
                        obtain ⟨ad147, e147, hx147_0⟩ := Kd.at_int HR0.out x11_1 p147 q147
                        cases e147
                        replace hx147_0 := (HB.out.cell (World.block_lt_of_cell? w _ hx147_0)).trans hx147_0
                        replace p147 := eq_true p147
                        replace q147 := eq_true q147
                        go_wp2_with (first | ((with_reducible refine gate_callee (f := 124) rfl ?_); refine goesL_ (some 17) rfl rfl Tryz.func124 (w110_) rfl #[.int .i64 (rd l0 x11_1)] rfl (w43_) ?_; (with_reducible refine (impl_isIndexed.calls (rd l0 x11_1) true _ A8.out).mono ?_); rintro e w' ⟨rfl, ⟨nd, rfl⟩⟩; refine ⟨_, rfl, ?_⟩; have p149 : 0 ≤ ((ji11) : Int) := of_decide_eq_true (w76_); have q149 : (ji11) < (l0.length : Int) := of_decide_eq_true (w76_); obtain ⟨ad149, e149, hx149_0⟩ := Kd.at_int HR0.out (ji11) p149 q149; obtain rfl : ad147 = ad149 := (by injection e149); replace hx149_0 := (HB.out.cell (World.block_lt_of_cell? w _ hx149_0)).trans hx149_0; replace p149 := eq_true p149; replace q149 := eq_true q149))
                        go_ret2
                        exact ⟨_, by first | rfl | (simp [errW_none, errW_some] <;> rfl) | (simp only [← hji11]; first | rfl | (simp [errW_none, errW_some] <;> rfl)) | (simp [*, errW_none, errW_some] <;> rfl), w41_, w47_⟩
                      · rw [if_neg c14] at H
                        have c14b0 : decide ((rd l0 x11_1) ≤ (rd l0 (ji11))) = false := decide_eq_false c14
                        clear c14
                        by_cases c15 : 0 ≤ (rd l0 x11_1)
                        · rw [if_pos c15] at H
                          have c15b0 : decide (0 ≤ (rd l0 x11_1)) = true := decide_eq_true c15
                          clear c15
                          by_cases c16 : (rd l0 x11_1) < (x4_1.length : Int)
                          · rw [if_pos c16] at H
                            have c16b0 : decide ((rd l0 x11_1) < (x4_1.length : Int)) = true := decide_eq_true c16
                            clear c16
                            obtain ⟨y150, hy150⟩ : ∃ y_ : List Bool, y_ = (x4_1.set ((rd l0 x11_1) : Int).toNat true) := ⟨_, rfl⟩
                            replace H : (impl_RangesOfPages.l0 k1 l0 y150 l0 (l0.length : Int) (wrap64 (x11_1 + 1))) = some (r1, r2) := by first | (rw [hy150]; with_reducible exact H) | (have H2_ := (Option.bind_some _ _).symm.trans H; rw [hy150]; with_reducible exact H2_) | (have H2_ := (Option.bind_some _ _).symm.trans H; with_reducible exact H2_) | with_reducible exact H | (rw [hy150]; exact H) | exact H
                            have Ny150 := Aside0.mk hy150
                            clear hy150
                            have H' := Aside0.mk H
                            clear H
                            have p147 : 0 ≤ (x11_1 : Int) := of_decide_eq_true (w76_)
                            have q147 : x11_1 < (l0.length : Int) := of_decide_eq_true (w76_)
                            obtain ⟨ad147, e147, hx147_0⟩ := Kd.at_int HR0.out x11_1 p147 q147
                            cases e147
                            replace hx147_0 := (HB.out.cell (World.block_lt_of_cell? w _ hx147_0)).trans hx147_0
                            replace p147 := eq_true p147
                            replace q147 := eq_true q147
                            go_wp2_with (first | ((with_reducible refine gate_callee (f := 124) rfl ?_); refine goesL_ (some 17) rfl rfl Tryz.func124 (w110_) rfl #[.int .i64 (rd l0 x11_1)] rfl (w43_) ?_; (with_reducible refine (impl_isIndexed.calls (rd l0 x11_1) true _ A8.out).mono ?_); rintro e w' ⟨rfl, ⟨nd, rfl⟩⟩; refine ⟨_, rfl, ?_⟩; (try (rw [drewN_self wr]; generalize hq_ : World.drewN wr _ = wr; have n0_ : Aside0 (Kd.R Kd.bool 138 wr w.heap.size (fun _ => True) (.slice (some ⟨v145, 0, none⟩) 2001 2001) x4_1) := ⟨w49_⟩; have n1_ : Aside0 (Below w.heap.size w wr) := ⟨w32_⟩; clear HO_4 HB hq_; have HO_4 := n0_; have HB := n1_; clear n0_ n1_)); have p149 : 0 ≤ ((ji11) : Int) := of_decide_eq_true (w76_); have q149 : (ji11) < (l0.length : Int) := of_decide_eq_true (w76_); obtain ⟨ad149, e149, hx149_0⟩ := Kd.at_int HR0.out (ji11) p149 q149; obtain rfl : ad147 = ad149 := (by injection e149); replace hx149_0 := (HB.out.cell (World.block_lt_of_cell? w _ hx149_0)).trans hx149_0; replace p149 := eq_true p149; replace q149 := eq_true q149; have p17 : 0 ≤ ((rd l0 x11_1) : Int) := of_decide_eq_true (w76_); have q17 : ((rd l0 x11_1) : Int) < ((x4_1.length : Int) : Int) := of_decide_eq_true (w76_); obtain ⟨gb17, gl17, cl17, HG17⟩ := PS_form HO_4.out; have GB17 := Aside0.mk gb17; have GG17 := Aside0.mk HG17; clear gb17 gl17 HG17; have q17z : ((rd l0 x11_1) : Int) < 2001 := (by have e_ := (Kd.R_reads' HO_4.out).1; have h_ := q17; rw [← e_] at h_; exact h_); obtain ⟨hx17_0, hf17_0⟩ := Kd.R_celln false HO_4.out ((rd l0 x11_1) : Int) p17 q17z; replace q17z := eq_true q17z; replace p17 := eq_true p17; replace q17 := eq_true q17; have HP18 := Kd.R_putg HO_4.out ((rd l0 x11_1) : Int) true) | ((with_reducible refine gate_store (t := 4) (p := 35) rfl ?_); refine store_event (t := 4) (p := 35) (v := ?vo_w19) (w1 := (wr.setCell ⟨v145, ((rd l0 x11_1) : Int).toNat, none⟩ (.bool true))) ?hg ?ho ?hn ?hr ?_; (case ho => rfl); (case hg => rfl); (case hn => rfl); (case hr => first | (go_simp; done) | (go_simp; rfl)); intro w19 hw; have hg : wr.grownBy w19 (some v145) := (by rw [hw]; exact HP18.2); have hp_ : Kd.R Kd.bool 138 w19 w.heap.size (fun _ => True) (.slice (some ⟨v145, 0, none⟩) 2001 2001) y150 := (by rw [hw, Ny150.out]; exact HP18.1); clear HP18; have n0_ := Aside0.mk (hp_); have n1_ := Aside0.mk ((by rw [hw]; exact below_set (HB.out) GB17.out : Below w.heap.size w w19)); clear HO_4; clear HB; have HO_4 := n0_; have HB := n1_; clear n0_ n1_; clear hg hw hp_))
                            go_roundg k1
                            case measure => have := HK1.out; omega
                            case rel => exact ⟨(y150), (wrap64 (x11_1 + 1)), (w77_), H', ⟨w83_⟩, ⟨w58_⟩, ⟨w47_⟩⟩
                          · rw [if_neg c16] at H
                            exact absurd H (by simp)
                        · rw [if_neg c15] at H
                          exact absurd H (by simp)
                    · rw [if_neg c13] at H
                      exact absurd H (by simp)
                  · rw [if_neg c12] at H
                    exact absurd H (by simp)
                · rw [if_neg c10] at H
                  have c10b0 : decide (0 < x11_1) = false := decide_eq_false c10
                  clear c10
                  by_cases c20 : 0 ≤ (rd l0 x11_1)
                  · rw [if_pos c20] at H
                    have c20b0 : decide (0 ≤ (rd l0 x11_1)) = true := decide_eq_true c20
                    clear c20
                    by_cases c21 : (rd l0 x11_1) < (x4_1.length : Int)
                    · rw [if_pos c21] at H
                      have c21b0 : decide ((rd l0 x11_1) < (x4_1.length : Int)) = true := decide_eq_true c21
                      clear c21
                      obtain ⟨y151, hy151⟩ : ∃ y_ : List Bool, y_ = (x4_1.set ((rd l0 x11_1) : Int).toNat true) := ⟨_, rfl⟩
                      replace H : (impl_RangesOfPages.l0 k1 l0 y151 l0 (l0.length : Int) (wrap64 (x11_1 + 1))) = some (r1, r2) := by first | (rw [hy151]; with_reducible exact H) | (have H2_ := (Option.bind_some _ _).symm.trans H; rw [hy151]; with_reducible exact H2_) | (have H2_ := (Option.bind_some _ _).symm.trans H; with_reducible exact H2_) | with_reducible exact H | (rw [hy151]; exact H) | exact H
                      have Ny151 := Aside0.mk hy151
                      clear hy151
                      have H' := Aside0.mk H
                      clear H
                      have p147 : 0 ≤ (x11_1 : Int) := of_decide_eq_true (w76_)
                      have q147 : x11_1 < (l0.length : Int) := of_decide_eq_true (w76_)
                      obtain ⟨ad147, e147, hx147_0⟩ := Kd.at_int HR0.out x11_1 p147 q147
                      cases e147
                      replace hx147_0 := (HB.out.cell (World.block_lt_of_cell? w _ hx147_0)).trans hx147_0
                      replace p147 := eq_true p147
                      replace q147 := eq_true q147
                      go_wp2_with (first | ((with_reducible refine gate_callee (f := 124) rfl ?_); refine goesL_ (some 17) rfl rfl Tryz.func124 (w110_) rfl #[.int .i64 (rd l0 x11_1)] rfl (w43_) ?_; (with_reducible refine (impl_isIndexed.calls (rd l0 x11_1) true _ A8.out).mono ?_); rintro e w' ⟨rfl, ⟨nd, rfl⟩⟩; refine ⟨_, rfl, ?_⟩; (try (rw [drewN_self wr]; generalize hq_ : World.drewN wr _ = wr; have n0_ : Aside0 (Kd.R Kd.bool 138 wr w.heap.size (fun _ => True) (.slice (some ⟨v145, 0, none⟩) 2001 2001) x4_1) := ⟨w49_⟩; have n1_ : Aside0 (Below w.heap.size w wr) := ⟨w32_⟩; clear HO_4 HB hq_; have HO_4 := n0_; have HB := n1_; clear n0_ n1_)); have p22 : 0 ≤ ((rd l0 x11_1) : Int) := of_decide_eq_true (w76_); have q22 : ((rd l0 x11_1) : Int) < ((x4_1.length : Int) : Int) := of_decide_eq_true (w76_); obtain ⟨gb22, gl22, cl22, HG22⟩ := PS_form HO_4.out; have GB22 := Aside0.mk gb22; have GG22 := Aside0.mk HG22; clear gb22 gl22 HG22; have q22z : ((rd l0 x11_1) : Int) < 2001 := (by have e_ := (Kd.R_reads' HO_4.out).1; have h_ := q22; rw [← e_] at h_; exact h_); obtain ⟨hx22_0, hf22_0⟩ := Kd.R_celln false HO_4.out ((rd l0 x11_1) : Int) p22 q22z; replace q22z := eq_true q22z; replace p22 := eq_true p22; replace q22 := eq_true q22; have HP23 := Kd.R_putg HO_4.out ((rd l0 x11_1) : Int) true) | ((with_reducible refine gate_store (t := 4) (p := 35) rfl ?_); refine store_event (t := 4) (p := 35) (v := ?vo_w24) (w1 := (wr.setCell ⟨v145, ((rd l0 x11_1) : Int).toNat, none⟩ (.bool true))) ?hg ?ho ?hn ?hr ?_; (case ho => rfl); (case hg => rfl); (case hn => rfl); (case hr => first | (go_simp; done) | (go_simp; rfl)); intro w24 hw; have hg : wr.grownBy w24 (some v145) := (by rw [hw]; exact HP23.2); have hp_ : Kd.R Kd.bool 138 w24 w.heap.size (fun _ => True) (.slice (some ⟨v145, 0, none⟩) 2001 2001) y151 := (by rw [hw, Ny151.out]; exact HP23.1); clear HP23; have n0_ := Aside0.mk (hp_); have n1_ := Aside0.mk ((by rw [hw]; exact below_set (HB.out) GB22.out : Below w.heap.size w w24)); clear HO_4; clear HB; have HO_4 := n0_; have HB := n1_; clear n0_ n1_; clear hg hw hp_))
                      go_roundg k1
                      case measure => have := HK1.out; omega
                      case rel => exact ⟨(y151), (wrap64 (x11_1 + 1)), (w77_), H', ⟨w83_⟩, ⟨w58_⟩, ⟨w47_⟩⟩
                    · rw [if_neg c21] at H
                      exact absurd H (by simp)
                  · rw [if_neg c20] at H
                    exact absurd H (by simp)
              · replace c9 := Bool.eq_false_iff.mpr c9
                subst c9
                have H1 : (some (([] : List (S69)), false)) = some (r1, r2) := by rw [if_neg (show ¬ (false = true) by decide)] at H; exact H
                clear H
                have H := H1
                clear H1
                simp only [Option.some.injEq, Prod.mk.injEq] at H
                obtain ⟨rfl, rfl⟩ := H
                have p147 : 0 ≤ (x11_1 : Int) := of_decide_eq_true (w76_)
                have q147 : x11_1 < (l0.length : Int) := of_decide_eq_true (w76_)
                obtain ⟨ad147, e147, hx147_0⟩ := Kd.at_int HR0.out x11_1 p147 q147
                cases e147
                replace hx147_0 := (HB.out.cell (World.block_lt_of_cell? w _ hx147_0)).trans hx147_0
                replace p147 := eq_true p147
                replace q147 := eq_true q147
                go_wp2_with (first | ((with_reducible refine gate_callee (f := 124) rfl ?_); refine goesL_ (some 17) rfl rfl Tryz.func124 (w110_) rfl #[.int .i64 (rd l0 x11_1)] rfl (w43_) ?_; (with_reducible refine (impl_isIndexed.calls (rd l0 x11_1) false _ A8.out).mono ?_); rintro e w' ⟨rfl, ⟨nd, rfl⟩⟩; refine ⟨_, rfl, ?_⟩))
                go_ret2
                exact ⟨_, w61_, w41_, w47_⟩
            · rw [if_neg c7] at H
              exact absurd H (by simp)
          · rw [if_neg c6] at H
            exact absurd H (by simp)
        · rw [if_neg c5] at H
          have c5b0 : decide (x11_1 < (l0.length : Int)) = false := decide_eq_false c5
          clear c5
          replace H := Option.bind_eq_some_iff.mp H
          obtain ⟨⟨t152, t153⟩, A250, H⟩ := H
          replace H : (some (t152, t153)) = some (r1, r2) := H
          have A25 := Aside0.mk A250
          clear A250
          simp only [Option.some.injEq, Prod.mk.injEq] at H
          obtain ⟨rfl, rfl⟩ := H
          go_wp2_with (first | ((with_reducible refine gate_callee (f := 130) rfl ?_); refine goesL_ (some 38) rfl rfl Tryz.func130 (w110_) rfl #[.pointer (some ⟨v145, 0, none⟩)] rfl (w43_) ?_; (with_reducible refine (impl_pageSet_ranges.calls k1 v145 x4_1 t152 t153 _ ?side1 ?side2 A25.out).mono ?_); (case side1 => repeat (first | exact (Kd.R_reads' HO_4.out).2.2 | (with_reducible refine Kd.C_alloc ?_ _) | (with_reducible refine Kd.C_drewN ?_ _) | (with_reducible refine Kd.C_drew ?_))); (case side2 => exact (Kd.R_reads' HO_4.out).1.symm); rintro e w27 ⟨v154, rfl, ho0, hb⟩; refine ⟨_, rfl, ?_⟩; have n0_ := Aside0.mk (Kd.R_below (w58_) hb); have n1_ := Aside0.mk (Kd.R_lower ho0 (below_size (w47_))); have n2_ := Aside0.mk (below_step (w47_) hb); clear HO_4; clear HB; have HO_4 := n0_; have HO155 := n1_; have HB := n2_; clear n0_ n1_ n2_; (try clear hb); (try clear hb2); (try clear hk); (try clear hi); (try clear ho0)))
          go_ret2
          exact ⟨_, w61_, by (with_reducible repeat (first | apply Kd.R_alloc | apply Kd.R_drewN | apply Kd.R_drew)); exact HO155.out, w47_⟩
  · rw [if_neg c2] at H
    exact absurd H (by simp)

end Go.Proofs.YtppbpefehpbejaaGreatDoor.P
end

section
namespace Go.Proofs.YtppbpefehpbejaaGreatDoor.P
open Go.RowKit Go.Proofs.YtppbpefehpbejaaGreatDoorW.PrintWords Go.Proofs.YtppbpefehpbejaaGreatDoorW.PrintLast Go.Proofs.YtppbpefehpbejaaGreatDoorW.PrintMore
attribute [local go_sem] max2_int min2_int max_two min_two max_three min_three max_four min_four   -- for this text's walks alone
set_option linter.unusedVariables false
set_option linter.unusedSimpArgs false

mutual
def laws_FnIndexesMerge.j0 : Nat → List Int → List (S69) → List (S69) → List (S69) → Bool → List (S69) → List (S69) → Bool → Option (Bool)
 | 0, _, _, _, _, _, _, _, _ => none
 | k + 1, x1, x5, x6, x7, x8, x11, x15, x172 => if x172 = true then (some false) else (if x8 = true then ((impl_CountIndexed.f k x5).bind fun bt504 => ((impl_CountIndexed.f k x6).bind fun bt506 => ((impl_CountIndexed.f k x7).bind fun bt508 => ((impl_CountIndexed.f k x11).bind fun bt510 => ((impl_CountIndexed.f k x15).bind fun bt512 => ((impl_UnionRanges.f k x6 x5).bind fun bt514 => ((impl_CommonRanges.f k x6 x5).bind fun bt518 => ((impl_UnionRanges.f k x15 x11).bind fun bt522 => ((impl_AreRanges.f k x7).bind fun t526 => (if t526 = true then ((impl_AreRanges.f k x11).bind fun t527 => (if t527 = true then ((impl_AreRanges.f k x15).bind fun t528 => (if t528 = true then (if bt504.2 = true then (if bt506.2 = true then (if bt508.2 = true then (if bt510.2 = true then (if bt512.2 = true then (if (wrap64 (bt508.1 + bt510.1)) = (wrap64 (bt504.1 + bt506.1)) then (if (wrap64 (bt512.1 + bt510.1)) = bt504.1 then (if bt514.2 = true then ((laws_fRanges.f k bt514.1 x7).bind fun t529 => (if t529 = true then (if bt518.2 = true then ((laws_fRanges.f k bt518.1 x11).bind fun t530 => (if t530 = true then (if bt522.2 = true then ((laws_fRanges.f k bt522.1 x5).bind fun t531 => (laws_FnIndexesMerge.j1 k x1 x5 x6 x7 x11 x15 (!t531))) else (laws_FnIndexesMerge.j1 k x1 x5 x6 x7 x11 x15 true)) else (laws_FnIndexesMerge.j1 k x1 x5 x6 x7 x11 x15 true))) else (laws_FnIndexesMerge.j1 k x1 x5 x6 x7 x11 x15 true)) else (laws_FnIndexesMerge.j1 k x1 x5 x6 x7 x11 x15 true))) else (laws_FnIndexesMerge.j1 k x1 x5 x6 x7 x11 x15 true)) else (laws_FnIndexesMerge.j1 k x1 x5 x6 x7 x11 x15 true)) else (laws_FnIndexesMerge.j1 k x1 x5 x6 x7 x11 x15 true)) else (laws_FnIndexesMerge.j1 k x1 x5 x6 x7 x11 x15 true)) else (laws_FnIndexesMerge.j1 k x1 x5 x6 x7 x11 x15 true)) else (laws_FnIndexesMerge.j1 k x1 x5 x6 x7 x11 x15 true)) else (laws_FnIndexesMerge.j1 k x1 x5 x6 x7 x11 x15 true)) else (laws_FnIndexesMerge.j1 k x1 x5 x6 x7 x11 x15 true)) else (laws_FnIndexesMerge.j1 k x1 x5 x6 x7 x11 x15 true))) else (laws_FnIndexesMerge.j1 k x1 x5 x6 x7 x11 x15 true))) else (laws_FnIndexesMerge.j1 k x1 x5 x6 x7 x11 x15 true))))))))))) else (laws_FnIndexesMerge.j3 k x1))
def laws_FnIndexesMerge.j3 : Nat → List Int → Option (Bool)
 | 0, _ => none
 | k + 1, x1 => (spec_DrawMergeRanges.f k x1).bind fun t542 => ((impl_MergeRanges.f k t542).bind fun bt545 => ((spec_MergeRanges.f k t542).bind fun bt549 => ((spec_DrawRangesOfPages.f k x1).bind fun t553 => ((impl_RangesOfPages.f k t553).bind fun bt556 => ((spec_RangesOfPages.f k t553).bind fun bt560 => ((spec_DrawPagesOfRanges.f k x1).bind fun t564 => ((impl_PagesOfRanges.f k t564).bind fun bt567 => ((spec_PagesOfRanges.f k t564).bind fun bt571 => ((impl_RangesText.f k t564).bind fun bt575 => ((spec_RangesText.f k t564).bind fun bt577 => ((impl_CountIndexed.f k t564).bind fun bt579 => ((spec_CountIndexed.f k t564).bind fun bt581 => ((spec_DrawParseRanges.f k x1).bind fun t583 => ((impl_ParseRanges.f k t583).bind fun bt584 => ((spec_ParseRanges.f k t583).bind fun bt588 => (if (bt545.2 != bt549.2) = true then (laws_FnIndexesMerge.j4 k t542 bt545.1 bt545.2 t553 bt556.1 bt556.2 t564 bt567.1 bt567.2 bt575.1 bt579.1 t583 bt584.1 bt584.2 true) else ((laws_fRanges.f k bt545.1 bt549.1).bind fun t592 => (if t592 = true then (if (bt556.2 != bt560.2) = true then (laws_FnIndexesMerge.j4 k t542 bt545.1 bt545.2 t553 bt556.1 bt556.2 t564 bt567.1 bt567.2 bt575.1 bt579.1 t583 bt584.1 bt584.2 true) else ((laws_fRanges.f k bt556.1 bt560.1).bind fun t593 => (if t593 = true then (if (bt567.2 != bt571.2) = true then (laws_FnIndexesMerge.j4 k t542 bt545.1 bt545.2 t553 bt556.1 bt556.2 t564 bt567.1 bt567.2 bt575.1 bt579.1 t583 bt584.1 bt584.2 true) else ((laws_fSame.f k bt567.1 bt571.1).bind fun t594 => (if t594 = true then (if (bt575.2 != bt577.2) = true then (laws_FnIndexesMerge.j4 k t542 bt545.1 bt545.2 t553 bt556.1 bt556.2 t564 bt567.1 bt567.2 bt575.1 bt579.1 t583 bt584.1 bt584.2 true) else (if bt575.1.toList = bt577.1.toList then (if (bt579.2 != bt581.2) = true then (laws_FnIndexesMerge.j4 k t542 bt545.1 bt545.2 t553 bt556.1 bt556.2 t564 bt567.1 bt567.2 bt575.1 bt579.1 t583 bt584.1 bt584.2 true) else (if bt579.1 = bt581.1 then (if (bt584.2 != bt588.2) = true then (laws_FnIndexesMerge.j4 k t542 bt545.1 bt545.2 t553 bt556.1 bt556.2 t564 bt567.1 bt567.2 bt575.1 bt579.1 t583 bt584.1 bt584.2 true) else ((laws_fRanges.f k bt584.1 bt588.1).bind fun t595 => (if t595 = true then ((impl_AreRanges.f k t564).bind fun t596 => (if (bt567.2 != t596) = true then (laws_FnIndexesMerge.j4 k t542 bt545.1 bt545.2 t553 bt556.1 bt556.2 t564 bt567.1 bt567.2 bt575.1 bt579.1 t583 bt584.1 bt584.2 true) else ((impl_AreRanges.f k t564).bind fun t597 => ((spec_AreRanges.f k t564).bind fun t598 => (if (t597 != t598) = true then (laws_FnIndexesMerge.j4 k t542 bt545.1 bt545.2 t553 bt556.1 bt556.2 t564 bt567.1 bt567.2 bt575.1 bt579.1 t583 bt584.1 bt584.2 true) else (if (bt575.2 != bt567.2) = true then (laws_FnIndexesMerge.j4 k t542 bt545.1 bt545.2 t553 bt556.1 bt556.2 t564 bt567.1 bt567.2 bt575.1 bt579.1 t583 bt584.1 bt584.2 true) else (laws_FnIndexesMerge.j4 k t542 bt545.1 bt545.2 t553 bt556.1 bt556.2 t564 bt567.1 bt567.2 bt575.1 bt579.1 t583 bt584.1 bt584.2 (bt579.2 != bt567.2)))))))) else (laws_FnIndexesMerge.j4 k t542 bt545.1 bt545.2 t553 bt556.1 bt556.2 t564 bt567.1 bt567.2 bt575.1 bt579.1 t583 bt584.1 bt584.2 true)))) else (laws_FnIndexesMerge.j4 k t542 bt545.1 bt545.2 t553 bt556.1 bt556.2 t564 bt567.1 bt567.2 bt575.1 bt579.1 t583 bt584.1 bt584.2 true))) else (laws_FnIndexesMerge.j4 k t542 bt545.1 bt545.2 t553 bt556.1 bt556.2 t564 bt567.1 bt567.2 bt575.1 bt579.1 t583 bt584.1 bt584.2 true))) else (laws_FnIndexesMerge.j4 k t542 bt545.1 bt545.2 t553 bt556.1 bt556.2 t564 bt567.1 bt567.2 bt575.1 bt579.1 t583 bt584.1 bt584.2 true)))) else (laws_FnIndexesMerge.j4 k t542 bt545.1 bt545.2 t553 bt556.1 bt556.2 t564 bt567.1 bt567.2 bt575.1 bt579.1 t583 bt584.1 bt584.2 true)))) else (laws_FnIndexesMerge.j4 k t542 bt545.1 bt545.2 t553 bt556.1 bt556.2 t564 bt567.1 bt567.2 bt575.1 bt579.1 t583 bt584.1 bt584.2 true)))))))))))))))))))
def laws_FnIndexesMerge.j4 : Nat → List (S69) → List (S69) → Bool → List Int → List (S69) → Bool → List (S69) → List Int → Bool → ByteArray → Int → ByteArray → List (S69) → Bool → Bool → Option (Bool)
 | 0, _, _, _, _, _, _, _, _, _, _, _, _, _, _, _ => none
 | k + 1, x46, x47, x48, x51, x52, x53, x56, x57, x58, x61, x65, x69, x70, x71, x525 => if x525 = true then (some false) else (if x48 = true then ((impl_AreRanges.f k x47).bind fun t599 => (if t599 = true then (laws_FnIndexesMerge.l1 k x46 x47 x51 x52 x53 x56 x57 x58 x61 x65 x69 x70 x71 1) else (some false))) else (laws_FnIndexesMerge.j7 k x51 x52 x53 x56 x57 x58 x61 x65 x69 x70 x71))
def laws_FnIndexesMerge.j7 : Nat → List Int → List (S69) → Bool → List (S69) → List Int → Bool → ByteArray → Int → ByteArray → List (S69) → Bool → Option (Bool)
 | 0, _, _, _, _, _, _, _, _, _, _, _ => none
 | k + 1, x51, x52, x53, x56, x57, x58, x61, x65, x69, x70, x71 => if x53 = true then ((impl_PagesOfRanges.f k x52).bind fun bt604 => (if bt604.2 = true then ((laws_fSame.f k bt604.1 x51).bind fun t608 => (if t608 = true then (laws_FnIndexesMerge.j8 k x56 x57 x58 x61 x65 x69 x70 x71) else (some false))) else (some false))) else (laws_FnIndexesMerge.j8 k x56 x57 x58 x61 x65 x69 x70 x71)
def laws_FnIndexesMerge.j8 : Nat → List (S69) → List Int → Bool → ByteArray → Int → ByteArray → List (S69) → Bool → Option (Bool)
 | 0, _, _, _, _, _, _, _, _ => none
 | k + 1, x56, x57, x58, x61, x65, x69, x70, x71 => if x58 = true then ((impl_RangesOfPages.f k x57).bind fun bt609 => ((impl_ParseRanges.f k x61).bind fun bt613 => (if (x57.length : Int) = x65 then ((laws_fRises.f k x57).bind fun t617 => (if t617 = true then (if bt609.2 = true then ((laws_fRanges.f k bt609.1 x56).bind fun t618 => (if t618 = true then (if bt613.2 = true then ((laws_fRanges.f k bt613.1 x56).bind fun t619 => (laws_FnIndexesMerge.j9 k x69 x70 x71 (!t619))) else (laws_FnIndexesMerge.j9 k x69 x70 x71 true)) else (laws_FnIndexesMerge.j9 k x69 x70 x71 true))) else (laws_FnIndexesMerge.j9 k x69 x70 x71 true)) else (laws_FnIndexesMerge.j9 k x69 x70 x71 true))) else (laws_FnIndexesMerge.j9 k x69 x70 x71 true)))) else (if x71 = true then ((impl_RangesText.f k x70).bind fun bt622 => (if bt622.2 = true then (some (bt622.1.toList == x69.toList)) else (some false))) else (some true))
def laws_FnIndexesMerge.j9 : Nat → ByteArray → List (S69) → Bool → Bool → Option (Bool)
 | 0, _, _, _, _ => none
 | k + 1, x69, x70, x71, x620 => if x620 = true then (some false) else (if x71 = true then ((impl_RangesText.f k x70).bind fun bt620 => (if bt620.2 = true then (some (bt620.1.toList == x69.toList)) else (some false))) else (some true))
def laws_FnIndexesMerge.l1 : Nat → List (S69) → List (S69) → List Int → List (S69) → Bool → List (S69) → List Int → Bool → ByteArray → Int → ByteArray → List (S69) → Bool → Int → Option (Bool)
 | 0, _, _, _, _, _, _, _, _, _, _, _, _, _, _ => none
 | k + 1, x46, x47, x51, x52, x53, x56, x57, x58, x61, x65, x69, x70, x71, x74 => if x74 ≤ 60 then (laws_FnIndexesMerge.l2 k x46 x47 x51 x52 x53 x56 x57 x58 x61 x65 x69 x70 x71 x74 false x46 (x46.length : Int) 0) else (laws_FnIndexesMerge.j7 k x51 x52 x53 x56 x57 x58 x61 x65 x69 x70 x71)
def laws_FnIndexesMerge.l2 : Nat → List (S69) → List (S69) → List Int → List (S69) → Bool → List (S69) → List Int → Bool → ByteArray → Int → ByteArray → List (S69) → Bool → Int → Bool → List (S69) → Int → Int → Option (Bool)
 | 0, _, _, _, _, _, _, _, _, _, _, _, _, _, _, _, _, _, _ => none
 | k + 1, x46, x47, x51, x52, x53, x56, x57, x58, x61, x65, x69, x70, x71, x74, x75, x534, x535, x536 => if x536 < x535 then (if 0 ≤ x536 then (if x536 < (x534.length : Int) then (if x75 = true then (laws_FnIndexesMerge.l2 k x46 x47 x51 x52 x53 x56 x57 x58 x61 x65 x69 x70 x71 x74 true x534 x535 (wrap64 (x536 + 1))) else (if ((rd_T69 x534 x536).f0) ≤ x74 then (laws_FnIndexesMerge.l2 k x46 x47 x51 x52 x53 x56 x57 x58 x61 x65 x69 x70 x71 x74 (decide (x74 ≤ ((rd_T69 x534 x536).f1))) x534 x535 (wrap64 (x536 + 1))) else (laws_FnIndexesMerge.l2 k x46 x47 x51 x52 x53 x56 x57 x58 x61 x65 x69 x70 x71 x74 false x534 x535 (wrap64 (x536 + 1))))) else (none)) else (none)) else ((impl_HasIndexed.f k x47 x74).bind fun bt602 => (if bt602.2 = true then (if (bt602.1 != x75) = true then (some false) else (laws_FnIndexesMerge.l1 k x46 x47 x51 x52 x53 x56 x57 x58 x61 x65 x69 x70 x71 (wrap64 (x74 + 1)))) else (some false)))
def laws_FnIndexesMerge.j1 : Nat → List Int → List (S69) → List (S69) → List (S69) → List (S69) → List (S69) → Bool → Option (Bool)
 | 0, _, _, _, _, _, _, _ => none
 | k + 1, x1, x5, x6, x7, x11, x15, x295 => if x295 = true then (some false) else (laws_FnIndexesMerge.l0 k x1 x5 x6 x7 x11 x15 1)
def laws_FnIndexesMerge.l0 : Nat → List Int → List (S69) → List (S69) → List (S69) → List (S69) → List (S69) → Int → Option (Bool)
 | 0, _, _, _, _, _, _, _ => none
 | k + 1, x1, x5, x6, x7, x11, x15, x35 => if x35 ≤ 160 then ((impl_HasIndexed.f k x5 x35).bind fun bt532 => ((impl_HasIndexed.f k x6 x35).bind fun bt534 => ((impl_HasIndexed.f k x7 x35).bind fun bt536 => ((impl_HasIndexed.f k x11 x35).bind fun bt538 => ((impl_HasIndexed.f k x15 x35).bind fun bt540 => (if bt532.2 = true then (if bt534.2 = true then (if bt536.2 = true then (if bt538.2 = true then (if bt540.2 = true then (if bt532.1 = true then (if (bt536.1 != true) = true then (some false) else (if (bt538.1 != bt534.1) = true then (some false) else (if (bt540.1 != (!bt534.1)) = true then (some false) else (laws_FnIndexesMerge.l0 k x1 x5 x6 x7 x11 x15 (wrap64 (x35 + 1)))))) else (if (bt536.1 != bt534.1) = true then (some false) else (if (bt538.1 != false) = true then (some false) else (if (bt540.1 != false) = true then (some false) else (laws_FnIndexesMerge.l0 k x1 x5 x6 x7 x11 x15 (wrap64 (x35 + 1))))))) else (some false)) else (some false)) else (some false)) else (some false)) else (some false))))))) else (laws_FnIndexesMerge.j3 k x1)
end
def laws_FnIndexesMerge.f (k : Nat) (l0 : List Int) (l1 : List Int) : Option (Bool) := (laws_big.f l0 l1).bind fun t470 => (if t470 = true then (some true) else ((spec_DrawUnionRanges.f k l0).bind fun bt471 => ((impl_UnionRanges.f k bt471.1 bt471.2).bind fun bt477 => ((spec_UnionRanges.f k bt471.1 bt471.2).bind fun bt481 => ((impl_CommonRanges.f k bt471.1 bt471.2).bind fun bt485 => ((spec_CommonRanges.f k bt471.1 bt471.2).bind fun bt489 => ((impl_WithoutRanges.f k bt471.1 bt471.2).bind fun bt493 => ((spec_WithoutRanges.f k bt471.1 bt471.2).bind fun bt497 => (if (bt477.2 != bt481.2) = true then (laws_FnIndexesMerge.j0 k l1 bt471.1 bt471.2 bt477.1 bt477.2 bt485.1 bt493.1 true) else ((laws_fRanges.f k bt477.1 bt481.1).bind fun t501 => (if t501 = true then (if (bt485.2 != bt489.2) = true then (laws_FnIndexesMerge.j0 k l1 bt471.1 bt471.2 bt477.1 bt477.2 bt485.1 bt493.1 true) else ((laws_fRanges.f k bt485.1 bt489.1).bind fun t502 => (if t502 = true then (if (bt493.2 != bt497.2) = true then (laws_FnIndexesMerge.j0 k l1 bt471.1 bt471.2 bt477.1 bt477.2 bt485.1 bt493.1 true) else ((laws_fRanges.f k bt493.1 bt497.1).bind fun t503 => (if t503 = true then (if (bt485.2 != bt477.2) = true then (laws_FnIndexesMerge.j0 k l1 bt471.1 bt471.2 bt477.1 bt477.2 bt485.1 bt493.1 true) else (laws_FnIndexesMerge.j0 k l1 bt471.1 bt471.2 bt477.1 bt477.2 bt485.1 bt493.1 (bt493.2 != bt477.2))) else (laws_FnIndexesMerge.j0 k l1 bt471.1 bt471.2 bt477.1 bt477.2 bt485.1 bt493.1 true)))) else (laws_FnIndexesMerge.j0 k l1 bt471.1 bt471.2 bt477.1 bt477.2 bt485.1 bt493.1 true)))) else (laws_FnIndexesMerge.j0 k l1 bt471.1 bt471.2 bt477.1 bt477.2 bt485.1 bt493.1 true))))))))))))
theorem laws_FnIndexesMerge.j0_no (k : Nat) (y0_ : List Int) (y1_ : List (S69)) (y2_ : List (S69)) (y3_ : List (S69)) (y4_ : Bool) (y5_ : List (S69)) (y6_ : List (S69)) (r : Bool) (hr : r = true) (H : laws_FnIndexesMerge.j0 k y0_ y1_ y2_ y3_ y4_ y5_ y6_ true = some r) : False := by
 subst hr
 cases k with
 | zero => simp [laws_FnIndexesMerge.j0] at H
 | succ k => rw [laws_FnIndexesMerge.j0, if_pos rfl] at H; cases H
theorem laws_FnIndexesMerge.j4_no (k : Nat) (y0_ : List (S69)) (y1_ : List (S69)) (y2_ : Bool) (y3_ : List Int) (y4_ : List (S69)) (y5_ : Bool) (y6_ : List (S69)) (y7_ : List Int) (y8_ : Bool) (y9_ : ByteArray) (y10_ : Int) (y11_ : ByteArray) (y12_ : List (S69)) (y13_ : Bool) (r : Bool) (hr : r = true) (H : laws_FnIndexesMerge.j4 k y0_ y1_ y2_ y3_ y4_ y5_ y6_ y7_ y8_ y9_ y10_ y11_ y12_ y13_ true = some r) : False := by
 subst hr
 cases k with
 | zero => simp [laws_FnIndexesMerge.j4] at H
 | succ k => rw [laws_FnIndexesMerge.j4, if_pos rfl] at H; cases H
theorem laws_FnIndexesMerge.j9_no (k : Nat) (y0_ : ByteArray) (y1_ : List (S69)) (y2_ : Bool) (r : Bool) (hr : r = true) (H : laws_FnIndexesMerge.j9 k y0_ y1_ y2_ true = some r) : False := by
 subst hr
 cases k with
 | zero => simp [laws_FnIndexesMerge.j9] at H
 | succ k => rw [laws_FnIndexesMerge.j9, if_pos rfl] at H; cases H
theorem laws_FnIndexesMerge.j1_no (k : Nat) (y0_ : List Int) (y1_ : List (S69)) (y2_ : List (S69)) (y3_ : List (S69)) (y4_ : List (S69)) (y5_ : List (S69)) (r : Bool) (hr : r = true) (H : laws_FnIndexesMerge.j1 k y0_ y1_ y2_ y3_ y4_ y5_ true = some r) : False := by
 subst hr
 cases k with
 | zero => simp [laws_FnIndexesMerge.j1] at H
 | succ k => rw [laws_FnIndexesMerge.j1, if_pos rfl] at H; cases H

def laws_FnIndexesMerge.Pure : Prop := ∀ (l0 : List Int) (l1 : List Int), (l0.length ≤ maxLen ∧ ∀ x0_, x0_ ∈ l0 → (Lit.int .u8 x0_).wf = true) → (l1.length ≤ maxLen ∧ ∀ x0_, x0_ ∈ l1 → (Lit.int .u8 x0_).wf = true) → ∃ k, laws_FnIndexesMerge.f k l0 l1 = some true

end Go.Proofs.YtppbpefehpbejaaGreatDoor.P
end
