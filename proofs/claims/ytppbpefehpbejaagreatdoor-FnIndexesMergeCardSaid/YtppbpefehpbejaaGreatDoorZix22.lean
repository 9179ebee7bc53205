/- Lean functions with the answers of the program's Go functions, and for each the proof that the Go code comes to these answers; no condition. -/
import Derived.Test.YtppbpefehpbejaaGreatDoorZix21
section
namespace Go.Proofs.YtppbpefehpbejaaGreatDoor.P
open Go.RowKit Go.Proofs.YtppbpefehpbejaaGreatDoorW.PrintWords Go.Proofs.YtppbpefehpbejaaGreatDoorW.PrintLast Go.Proofs.YtppbpefehpbejaaGreatDoorW.PrintMore
attribute [local go_sem] max2_int min2_int max_two min_two max_three min_three max_four min_four   -- for this text's walks alone
set_option linter.unusedVariables false
set_option linter.unusedSimpArgs false

mutual
def spec_ixMarks.l0 : Nat → List Bool → List (S69) → Int → Int → Option (List Bool)
 | 0, _, _, _, _ => none
 | k + 1, x3, x8, x9, x10 => if x10 < x9 then (if 0 ≤ x10 then (if x10 < (x8.length : Int) then (spec_ixMarks.l1 k x3 ((rd_T69 x8 x10).f0) x8 x9 x10 ((rd_T69 x8 x10).f0) ((rd_T69 x8 x10).f1)) else (none)) else (none)) else (some x3)
def spec_ixMarks.l1 : Nat → List Bool → Int → List (S69) → Int → Int → Int → Int → Option (List Bool)
 | 0, _, _, _, _, _, _, _ => none
 | k + 1, x3, x6, x8, x9, x10, x198000, x198001 => if x6 ≤ x198001 then (if 0 ≤ x6 then (if x6 < (x3.length : Int) then (spec_ixMarks.l1 k (x3.set (x6 : Int).toNat true) (wrap64 (x6 + 1)) x8 x9 x10 x198000 x198001) else (none)) else (none)) else (spec_ixMarks.l0 k x3 x8 x9 (wrap64 (x10 + 1)))
end
def spec_ixMarks.f (k : Nat) (l0 : List (S69)) : Option (List Bool) := if 2002 ≤ 281474976710656 then (spec_ixMarks.l0 k (List.replicate 2002 false) l0 (l0.length : Int) 0) else (none)
set_option maxHeartbeats 8000000 in
set_option maxRecDepth 100000 in
theorem spec_ixMarks.calls (k : Nat) (A0 : Option Addr) (c0 : Nat) (l0 : List (S69)) (r : List Bool) (w : World) (hr0 : Kd.C k69 w A0 l0.length l0) (hc0 : l0.length ≤ c0) (h : spec_ixMarks.f k l0 = some r) :
  Calls Tryz.prog 133 #[.slice A0 l0.length c0] w fun e w' => ∃ v0_ : Value, e = .returned (v0_) ∧ Kd.R Kd.bool 4 w' w.heap.size (fun _ => True) v0_ r ∧ Below w.heap.size w w' := by
 have hu69 := Tryz.underlying69
 have HR0 := Az_ hr0
 have HC0 := Az_ hc0
 clear hr0 hc0
 have HB := Az_ (Below.refl w.heap.size w)
 have H : (if 2002 ≤ 281474976710656 then (spec_ixMarks.l0 k (List.replicate 2002 false) l0 (l0.length : Int) 0) else (none)) = some r := h
 clear h
 by_cases c2 : 2002 ≤ 281474976710656
 ·rw [if_pos c2] at H
  have c2b0 := eq_true c2
  have c2b1 := decide_eq_true c2
  clear c2
  obtain ⟨y193, hy193⟩ : ∃ y_ : List Bool, y_ = (List.replicate 2002 false) := ⟨_, rfl⟩
  replace H : (spec_ixMarks.l0 k y193 l0 (l0.length : Int) 0) = some r := by first | (rw [hy193]; with_reducible exact H) | (have H2_ := (Option.bind_some _ _).symm.trans H; rw [hy193]; with_reducible exact H2_) | (have H2_ := (Option.bind_some _ _).symm.trans H; with_reducible exact H2_) | with_reducible exact H | (rw [hy193]; exact H) | exact H
  have Ny193 := Az_ hy193
  clear hy193
  have H' := Az_ H
  clear H
  go_enter Tryz.func133, Tryz.ntmps133
  go_wp2_with (first | ((with_reducible refine gate_dst (N := 7) rfl ?_); refine Kd.R_make Kd.bool _ 4 rfl (N := 7) rfl 135 _ _ rfl 2002 rfl rfl Tryz.underlying135 (.bool false) 1 info4 rfl (by decide) (by omega) false (ok := fun _ => True) (okp := fun _ => True) rfl (fun _ hk => hk) trivial (by omega) (by omega) (Below.refl _ _) (Nat.le_refl _) ?_; intro v194 w3 ho4 hb hg_ hnew_; clear hg_ hnew_; (first | rw [← Ny193.out] at ho4 | (simp only [Int.reduceToNat] at ho4; rw [← Ny193.out] at ho4)); have HO195 := Az_ (Kd.R_lower ho4 (below_size (ubz_ HB.out))); replace HB := Az_ (btz_ (ubz_ HB.out) hb); clear hb ho4))
  go_loopg [10] k (fun kq v10 w' => ∃ (x3_1 : List Bool) (x10_1 : Int), v10 = .int .i64 x10_1 ∧ Aside0 (spec_ixMarks.l0 kq x3_1 l0 (l0.length : Int) x10_1 = some r) ∧ Aside0 (kq ≤ k) ∧ Aside0 (Kd.R Kd.bool 4 w' w.heap.size (fun _ => True) v194 x3_1) ∧ Aside0 (Below w.heap.size w w'))
  case atStart => exact ⟨(y193), (0), qaz_, H', ⟨Nat.le_refl _⟩, ⟨by (with_reducible repeat (first | apply raz_ | apply rnz_ | apply rdz_)); exact HO195.out⟩, ⟨w109_⟩⟩
  case round =>
   clear H'
   clear c2b0 c2b1
   obtain ⟨x3_1, x10_1, rfl, HA, HK1, HO_3, HB⟩ := hrel
   cases gk with
   | zero => exact absurd HA.out (by simp [spec_ixMarks.l0])
   | succ k1 =>
    have H := HA.out
    clear HA
    simp only [spec_ixMarks.l0] at H
    by_cases c5 : x10_1 < (l0.length : Int)
    ·rw [if_pos c5] at H
     have c5b0 := decide_eq_true c5
     clear c5
     by_cases c6 : 0 ≤ x10_1
     ·rw [if_pos c6] at H
      have c6b0 := decide_eq_true c6
      clear c6
      by_cases c7 : x10_1 < (l0.length : Int)
      ·rw [if_pos c7] at H
       have c7b0 := decide_eq_true c7
       clear c7
       have H' := Az_ H
       clear H
       have p196 : 0 ≤ (x10_1 : Int) := of_decide_eq_true asz_
       have q196 : x10_1 < (l0.length : Int) := of_decide_eq_true asz_
       obtain ⟨ad196, e196, hx196_0, hx196_1⟩ := at_T69 HR0.out x10_1 p196 q196
       cases e196
       replace hx196_0 := (HB.out.cell (World.block_lt_of_cell? w _ hx196_0)).trans hx196_0
       replace hx196_1 := (HB.out.cell (World.block_lt_of_cell? w _ hx196_1)).trans hx196_1
       replace p196 := eq_true p196
       replace q196 := eq_true q196
       go_wp2_with (first | ((with_reducible refine gate_dst (N := 5) rfl ?_); refine box_event ?hg (N := 5) ?hd (cs := #[.int .i64 0, .int .i64 0]) (t := 69) ?hr ?_; (case hd => rfl); (case hg => rfl); (case hr => first | (go_simp; done) | (go_simp; rfl)); intro gb197 hg w8 hbox hb; replace HO_3 := Az_ (Kd.R_below (w104_) hb); have BK197 := Az_ (hbox); have GW197 := Az_ ((by rw [hg]; exact (below_size (ubz_ HB.out)) : w.heap.size ≤ gb197)); have GE197 := Az_ ((by rw [hg]; exact (below_size (ubz_ HB.out)) : w.heap.size ≤ gb197)); replace HB := Az_ (btz_ (ubz_ HB.out) hb); clear hb hbox hg; have hcz9_0 : w8.cell? ⟨gb197, 0, none⟩ = some (.int .i64 0) := (blk_cell BK197.out 0).trans rfl; have hcz9_1 : w8.cell? ⟨gb197, 1, none⟩ = some (.int .i64 0) := (blk_cell BK197.out 1).trans rfl; have hfz9_0 := blk_frozen BK197.out 0; have hfz9_1 := blk_frozen BK197.out 1))
       go_loopg [6] k1 (fun kq v6 w' => ∃ (x3_2 : List Bool) (x6_2 : Int), v6 = .int .i64 x6_2 ∧ Aside0 (spec_ixMarks.l1 kq x3_2 x6_2 l0 (l0.length : Int) x10_1 ((rd_T69 l0 x10_1).f0) ((rd_T69 l0 x10_1).f1) = some r) ∧ Aside0 (kq ≤ k1) ∧ Aside0 (Kd.R Kd.bool 4 w' w.heap.size (fun _ => True) v194 x3_2) ∧ Aside0 (w'.heap[gb197]? = some (.cells #[.int .i64 ((rd_T69 l0 x10_1).f0), .int .i64 ((rd_T69 l0 x10_1).f1)] 69 (0, 0))) ∧ Aside0 (Below w.heap.size w w'))
       case atStart => exact ⟨(x3_1), ((rd_T69 l0 x10_1).f0), qaz_, H', ⟨Nat.le_refl _⟩, ⟨by (with_reducible repeat (first | apply raz_ | apply rnz_ | apply rdz_)); exact Kd.R_mono (Kd.R_far (p := ⟨gb197, 1, none⟩) (Kd.R_far (p := ⟨gb197, 0, none⟩) (Kd.R_types HO_3.out BK197.out (by decide)) (fun _ hk => hk.2) (.int .i64 ((rd_T69 l0 x10_1).f0))) (fun _ hk => hk.2) (.int .i64 ((rd_T69 l0 x10_1).f1))) (fun _ hk => trivial)⟩, ⟨by (with_reducible repeat (first | refine knz_ ?_ _ | refine kdz_ ?_ | refine kaz_ ?_ _)); refine blk_put (cs := #[.int .i64 ((rd_T69 l0 x10_1).f0), .int .i64 0]) ?_ 1 _ rfl; (with_reducible repeat (first | refine knz_ ?_ _ | refine kdz_ ?_ | refine kaz_ ?_ _)); refine blk_put (cs := #[.int .i64 0, .int .i64 0]) ?_ 0 _ rfl; (with_reducible repeat (first | refine knz_ ?_ _ | refine kdz_ ?_ | refine kaz_ ?_ _)); exact BK197.out⟩, ⟨w40_⟩⟩
       case round =>
        clear H'
        clear c5b0 c6b0 c7b0 hcz9_0 hcz9_1 hfz9_0 hfz9_1 hx196_0 hx196_1 p196 q196
        obtain ⟨x3_2, x6_2, rfl, HA, HK2, HO_3, BK197, HB⟩ := hrel
        cases gk with
        | zero => exact absurd HA.out (by simp [spec_ixMarks.l1])
        | succ k2 =>
         have H := HA.out
         clear HA
         simp only [spec_ixMarks.l1] at H
         by_cases c10 : x6_2 ≤ ((rd_T69 l0 x10_1).f1)
         ·rw [if_pos c10] at H
          have c10b0 := decide_eq_true c10
          clear c10
          by_cases c11 : 0 ≤ x6_2
          ·rw [if_pos c11] at H
           have c11b0 := decide_eq_true c11
           clear c11
           by_cases c12 : x6_2 < (x3_2.length : Int)
           ·rw [if_pos c12] at H
            have c12b0 := decide_eq_true c12
            clear c12
            obtain ⟨y198, hy198⟩ : ∃ y_ : List Bool, y_ = (x3_2.set (x6_2 : Int).toNat true) := ⟨_, rfl⟩
            replace H : (spec_ixMarks.l1 k2 y198 (wrap64 (x6_2 + 1)) l0 (l0.length : Int) x10_1 ((rd_T69 l0 x10_1).f0) ((rd_T69 l0 x10_1).f1)) = some r := by first | (rw [hy198]; with_reducible exact H) | (have H2_ := (Option.bind_some _ _).symm.trans H; rw [hy198]; with_reducible exact H2_) | (have H2_ := (Option.bind_some _ _).symm.trans H; with_reducible exact H2_) | with_reducible exact H | (rw [hy198]; exact H) | exact H
            have Ny198 := Az_ hy198
            clear hy198
            have H' := Az_ H
            clear H
            have hcz14_0 : wr.cell? ⟨gb197, 0, none⟩ = some (.int .i64 ((rd_T69 l0 x10_1).f0)) := (blk_cell BK197.out 0).trans rfl
            have hcz14_1 : wr.cell? ⟨gb197, 1, none⟩ = some (.int .i64 ((rd_T69 l0 x10_1).f1)) := (blk_cell BK197.out 1).trans rfl
            have hfz14_0 := blk_frozen BK197.out 0
            have hfz14_1 := blk_frozen BK197.out 1
            have p13 : 0 ≤ (x6_2 : Int) := of_decide_eq_true asz_
            have q13 : (x6_2 : Int) < ((x3_2.length : Int) : Int) := of_decide_eq_true asz_
            obtain ⟨go13, co13, eo13, gb13, gl13, cl13, HG13⟩ := Kd.R_form HO_3.out (by omega)
            (first | cases eo13 | (injection eo13 with ea_ en_ ec_; (first | subst ea_ | (injection ea_ with ea_; subst ea_)); subst ec_; clear en_))
            have GB13 := Az_ gb13
            have GG13 := Az_ HG13
            clear gb13 gl13 HG13
            obtain ⟨hx13_0, hf13_0⟩ := Kd.R_celln false HO_3.out (x6_2 : Int) p13 q13
            replace p13 := eq_true p13
            replace q13 := eq_true q13
            have HP15 := Kd.R_putg HO_3.out (x6_2 : Int) true
            go_wp2_with (first | ((with_reducible refine gate_store (t := 4) (p := 24) rfl ?_); refine store_event (t := 4) (p := 24) (v := ?vo_w16) (w1 := (wr.setCell ⟨go13, (x6_2 : Int).toNat, none⟩ (.bool true))) ?hg ?ho ?hn ?hr ?_; (case ho => rfl); (case hg => rfl); (case hn => rfl); (case hr => first | (go_simp; done) | (go_simp; rfl)); intro w16 hw; have hg : wr.grownBy w16 (some go13) := (by rw [hw]; exact HP15.2); have hp_ : Kd.R Kd.bool 4 w16 w.heap.size (fun _ => True) (.slice (some ⟨go13, 0, none⟩) x3_2.length co13) y198 := (by rw [hw, Ny198.out]; exact HP15.1); clear HP15; replace BK197 := Az_ (blk_grown (g := gb197) (o := .cells #[.int .i64 ((rd_T69 l0 x10_1).f0), .int .i64 ((rd_T69 l0 x10_1).f1)] 69 (0, 0)) (by exact ukz_ BK197.out) hg (Kd.R_ne HO_3.out BK197.out (by decide))); replace HO_3 := Az_ (hp_); replace HB := Az_ ((by rw [hw]; exact bsz_ (HB.out) GB13.out : Below w.heap.size w w16)); clear hg hw hp_))
            go_roundg k2
            case measure => have := HK1.out; have := HK2.out; omega
            case rel => exact ⟨(y198), (wrap64 (x6_2 + 1)), qaz_, H', ⟨w79_⟩, ⟨w69_⟩, ⟨by (with_reducible repeat (first | refine knz_ ?_ _ | refine kdz_ ?_ | refine kaz_ ?_ _)); exact BK197.out⟩, ⟨w40_⟩⟩
           ·rw [if_neg c12] at H
            exact absurd H (by simp)
          ·rw [if_neg c11] at H
           exact absurd H (by simp)
         ·rw [if_neg c10] at H
          have c10b0 := decide_eq_false c10
          clear c10
          have H' := Az_ H
          clear H
          have hcz17_0 : wr.cell? ⟨gb197, 0, none⟩ = some (.int .i64 ((rd_T69 l0 x10_1).f0)) := (blk_cell BK197.out 0).trans rfl
          have hcz17_1 : wr.cell? ⟨gb197, 1, none⟩ = some (.int .i64 ((rd_T69 l0 x10_1).f1)) := (blk_cell BK197.out 1).trans rfl
          have hfz17_0 := blk_frozen BK197.out 0
          have hfz17_1 := blk_frozen BK197.out 1
          go_wp2
          go_roundg k2
          case measure => have := HK1.out; have := HK2.out; omega
          case rel => exact ⟨(x3_2), (wrap64 (x10_1 + 1)), qaz_, H', ⟨w79_⟩, ⟨w69_⟩, ⟨w40_⟩⟩
      ·rw [if_neg c7] at H
       exact absurd H (by simp)
     ·rw [if_neg c6] at H
      exact absurd H (by simp)
    ·rw [if_neg c5] at H
     have c5b0 := decide_eq_false c5
     clear c5
     obtain rfl := Option.some.inj H
     go_wp2
     go_ret
     exact ⟨_, w61_, w69_, w109_⟩
 ·rw [if_neg c2] at H
  exact absurd H (by simp)

def spec_l1In.f (a0 : Int) (a1 : Int) (a2 : Int) : Option (Bool) := if a0 ≥ a1 then (some (decide (a0 ≤ a2))) else (some false)
set_option maxHeartbeats 8000000 in
set_option maxRecDepth 100000 in
theorem spec_l1In.calls (a0 : Int) (a1 : Int) (a2 : Int) (r : Bool) (w : World) (h : spec_l1In.f a0 a1 a2 = some r) :
  Calls Tryz.prog 159 #[.int .i64 a0, .int .i64 a1, .int .i64 a2] w fun e w' => e = .returned (.bool r) ∧ Drawn0 w w' := by
 have H : (if a0 ≥ a1 then (some (decide (a0 ≤ a2))) else (some false)) = some r := h
 clear h
 by_cases c4 : a0 ≥ a1
 ·rw [if_pos c4] at H
  have c4b0 := decide_eq_true c4
  clear c4
  obtain rfl := Option.some.inj H
  go_enter Tryz.func159, Tryz.ntmps159
  go_wp2
  go_ret
  exact ⟨w77_, w74_⟩
 ·rw [if_neg c4] at H
  have c4b0 := decide_eq_false c4
  clear c4
  obtain rfl := Option.some.inj H
  go_enter Tryz.func159, Tryz.ntmps159
  go_wp2
  go_ret
  exact ⟨w77_, w74_⟩

def spec_ixRange.f (a0_0 : Int) (a0_1 : Int) : Option (Bool) := (spec_l1In.f a0_0 1 2000).bind fun t200 => (if t200 = true then ((spec_l1In.f a0_1 a0_0 2000).bind fun t201 => (some t201)) else (some false))
set_option maxHeartbeats 8000000 in
set_option maxRecDepth 100000 in
theorem spec_ixRange.calls (a0_0 : Int) (a0_1 : Int) (r : Bool) (w : World) (h : spec_ixRange.f a0_0 a0_1 = some r) :
  Calls Tryz.prog 131 #[.agg #[.int .i64 a0_0, .int .i64 a0_1]] w fun e w' => e = .returned (.bool r) ∧ Below w.heap.size w w' := by
 have hu69 := Tryz.underlying69
 have HB := Az_ (Below.refl w.heap.size w)
 have H : ((spec_l1In.f a0_0 1 2000).bind fun t200 => (if t200 = true then ((spec_l1In.f a0_1 a0_0 2000).bind fun t201 => (some t201)) else (some false))) = some r := h
 clear h
 replace H := bqz_ H; obtain ⟨t200, A2, H⟩ := H
 replace H : (if t200 = true then ((spec_l1In.f a0_1 a0_0 2000).bind fun t201 => (some t201)) else (some false)) = some r := H
 by_cases c3 : t200 = true
 ·subst c3
  rw [if_pos rfl] at H
  replace H := bqz_ H; obtain ⟨t201, A4, H⟩ := H
  replace H : (some t201) = some r := H
  obtain rfl := Option.some.inj H
  go_enter Tryz.func131, Tryz.ntmps131
  go_wp2_with (first | ((with_reducible refine gate_dst (N := 1) rfl ?_); refine box_event ?hg (N := 1) ?hd (cs := #[.int .i64 a0_0, .int .i64 a0_1]) (t := 69) ?hr ?_; (case hd => rfl); (case hg => rfl); (case hr => first | (go_simp; done) | (go_simp; rfl)); intro gb199 hg w5 hbox hb; have BK199 := Az_ (hbox); have GW199 := Az_ ((by rw [hg]; exact (below_size (ubz_ HB.out)) : w.heap.size ≤ gb199)); have GE199 := Az_ ((by rw [hg]; exact (below_size (ubz_ HB.out)) : w.heap.size ≤ gb199)); replace HB := Az_ (btz_ (ubz_ HB.out) hb); clear hb hbox hg; have hcz6_0 : w5.cell? ⟨gb199, 0, none⟩ = some (.int .i64 a0_0) := (blk_cell BK199.out 0).trans rfl; have hcz6_1 : w5.cell? ⟨gb199, 1, none⟩ = some (.int .i64 a0_1) := (blk_cell BK199.out 1).trans rfl; have hfz6_0 := blk_frozen BK199.out 0; have hfz6_1 := blk_frozen BK199.out 1) | ((with_reducible refine gate_callee (f := 159) rfl ?_); refine goesL_ (some 5) rfl rfl Tryz.func159 (w110_) rfl #[.int .i64 a0_0, .int .i64 1, .int .i64 2000] rfl maz_ ?_; (with_reducible refine (spec_l1In.calls a0_0 1 2000 true _ A2.out).mono ?_); rintro e w' ⟨rfl, ⟨nd, rfl⟩⟩; refine ⟨_, rfl, ?_⟩) | (go_at_call 159; (with_reducible refine (spec_l1In.calls a0_1 a0_0 2000 t201 _ A4.out).mono ?_); rintro e w' ⟨rfl, ⟨nd, rfl⟩⟩))
  go_ret
  exact ⟨w61_, w40_⟩
 ·replace c3 := Bool.eq_false_iff.mpr c3
  subst c3
  rw [if_neg nfz_] at H
  obtain rfl := Option.some.inj H
  go_enter Tryz.func131, Tryz.ntmps131
  go_wp2_with (first | ((with_reducible refine gate_dst (N := 1) rfl ?_); refine box_event ?hg (N := 1) ?hd (cs := #[.int .i64 a0_0, .int .i64 a0_1]) (t := 69) ?hr ?_; (case hd => rfl); (case hg => rfl); (case hr => first | (go_simp; done) | (go_simp; rfl)); intro gb199 hg w7 hbox hb; have BK199 := Az_ (hbox); have GW199 := Az_ ((by rw [hg]; exact (below_size (ubz_ HB.out)) : w.heap.size ≤ gb199)); have GE199 := Az_ ((by rw [hg]; exact (below_size (ubz_ HB.out)) : w.heap.size ≤ gb199)); replace HB := Az_ (btz_ (ubz_ HB.out) hb); clear hb hbox hg; have hcz8_0 : w7.cell? ⟨gb199, 0, none⟩ = some (.int .i64 a0_0) := (blk_cell BK199.out 0).trans rfl; have hcz8_1 : w7.cell? ⟨gb199, 1, none⟩ = some (.int .i64 a0_1) := (blk_cell BK199.out 1).trans rfl; have hfz8_0 := blk_frozen BK199.out 0; have hfz8_1 := blk_frozen BK199.out 1) | ((with_reducible refine gate_callee (f := 159) rfl ?_); refine goesL_ (some 5) rfl rfl Tryz.func159 (w110_) rfl #[.int .i64 a0_0, .int .i64 1, .int .i64 2000] rfl maz_ ?_; (with_reducible refine (spec_l1In.calls a0_0 1 2000 false _ A2.out).mono ?_); rintro e w' ⟨rfl, ⟨nd, rfl⟩⟩; refine ⟨_, rfl, ?_⟩))
  go_ret
  exact ⟨w61_, w40_⟩

end Go.Proofs.YtppbpefehpbejaaGreatDoor.P
end

section
namespace Go.Proofs.YtppbpefehpbejaaGreatDoor.P
open Go.RowKit Go.Proofs.YtppbpefehpbejaaGreatDoorW.PrintWords Go.Proofs.YtppbpefehpbejaaGreatDoorW.PrintLast Go.Proofs.YtppbpefehpbejaaGreatDoorW.PrintMore
attribute [local go_sem] max2_int min2_int max_two min_two max_three min_three max_four min_four   -- for this text's walks alone
set_option linter.unusedVariables false
set_option linter.unusedSimpArgs false

def spec_ixGood.l0 : Nat → List (S69) → List (S69) → Int → Int → Option (Bool)
 | 0, _, _, _, _ => none
 | k + 1, x0, x8, x9, x10 => if x10 < x9 then (if 0 ≤ x10 then (if x10 < (x8.length : Int) then ((spec_ixRange.f ((rd_T69 x8 x10).f0) ((rd_T69 x8 x10).f1)).bind fun t204 => (if t204 = true then (if x10 > 0 then (if 0 ≤ (wrap64 (x10 - 1)) then (if (wrap64 (x10 - 1)) < (x0.length : Int) then (if ((rd_T69 x8 x10).f0) < (wrap64 (((rd_T69 x0 (wrap64 (x10 - 1))).f1) + 2)) then (some false) else (spec_ixGood.l0 k x0 x8 x9 (wrap64 (x10 + 1)))) else (none)) else (none)) else (spec_ixGood.l0 k x0 x8 x9 (wrap64 (x10 + 1)))) else (some false))) else (none)) else (none)) else (some true)
def spec_ixGood.f (k : Nat) (l0 : List (S69)) : Option (Bool) := if (l0.length : Int) > 20 then (some false) else (spec_ixGood.l0 k l0 l0 (l0.length : Int) 0)
def spec_ixGood.T6 : Bool × List (List Nat × List Nat) := (true, [([], []), ([0], [0]), ([1], [1]), ([2, 1], [2]), ([3], [3]), ([4, 3], [3, 4]), ([5, 3, 3], [3, 5]), ([6], [6]), ([7, 6], [6, 7]), ([6], [6]), ([6], [6]), ([10, 6], [6, 10]), ([9, 11, 6], [6, 9, 11]), ([12, 6], [6, 12]), ([13, 6], [6, 13]), ([14, 6], [6, 14]), ([8, 15, 6], [6, 8, 15]), ([6, 16, 3], [3, 6, 16]), ([3, 17], [3, 17])])
def spec_ixGood.B6 : List Nat := [0, 1, 3, 7, 15, 31, 63, 127, 255, 127, 127, 1151, 3711, 7807, 15999, 32383, 65535, 131071, 262143]
theorem spec_ixGood.tab6 : rtab .any (opsOf Tryz.f136 6) = spec_ixGood.T6 := by kernel_rfl
theorem spec_ixGood.bits6 : waitsOk spec_ixGood.T6.2 spec_ixGood.B6 = true := by kernel_rfl
set_option maxHeartbeats 8000000 in
set_option maxRecDepth 100000 in
theorem spec_ixGood.calls (k : Nat) (A0 : Option Addr) (c0 : Nat) (l0 : List (S69)) (r : Bool) (w : World) (hr0 : Kd.C k69 w A0 l0.length l0) (hc0 : l0.length ≤ c0) (h : spec_ixGood.f k l0 = some r) :
  Calls Tryz.prog 136 #[.slice A0 l0.length c0] w fun e w' => e = .returned (.bool r) ∧ Below w.heap.size w w' := by
 have hu69 := Tryz.underlying69
 have HR0 := Az_ hr0
 have HC0 := Az_ hc0
 clear hr0 hc0
 have HB := Az_ (Below.refl w.heap.size w)
 have H : (if (l0.length : Int) > 20 then (some false) else (spec_ixGood.l0 k l0 l0 (l0.length : Int) 0)) = some r := h
 clear h
 by_cases c2 : (l0.length : Int) > 20
 ·rw [if_pos c2] at H
  have c2b0 := decide_eq_true c2
  have c2b1 : decide (20 < l0.length) = true := decide_eq_true (by omega)
  clear c2
  obtain rfl := Option.some.inj H
  go_enter Tryz.func136, Tryz.ntmps136
  go_wp2
  go_ret
  exact ⟨w61_, w109_⟩
 ·rw [if_neg c2] at H
  have c2b0 := decide_eq_false c2
  have c2b1 : decide (20 < l0.length) = false := decide_eq_false (by omega)
  clear c2
  have H' := Az_ H
  clear H
  go_enter Tryz.func136, Tryz.ntmps136
  go_wp2
  go_loopg [10] k (fun kq v10 w' => ∃ (x10_1 : Int), v10 = .int .i64 x10_1 ∧ Aside0 (spec_ixGood.l0 kq l0 l0 (l0.length : Int) x10_1 = some r) ∧ Aside0 (kq ≤ k) ∧ Aside0 (Below w.heap.size w w'))
  case atStart => exact ⟨(0), qaz_, H', ⟨Nat.le_refl _⟩, ⟨w109_⟩⟩
  case round =>
   clear H'
   clear c2b0 c2b1
   obtain ⟨x10_1, rfl, HA, HK1, HB⟩ := hrel
   cases gk with
   | zero => exact absurd HA.out (by simp [spec_ixGood.l0])
   | succ k1 =>
    have H := HA.out
    clear HA
    simp only [spec_ixGood.l0] at H
    by_cases c3 : x10_1 < (l0.length : Int)
    ·rw [if_pos c3] at H
     have c3b0 := decide_eq_true c3
     clear c3
     by_cases c4 : 0 ≤ x10_1
     ·rw [if_pos c4] at H
      have c4b0 := decide_eq_true c4
      clear c4
      by_cases c5 : x10_1 < (l0.length : Int)
      ·rw [if_pos c5] at H
       have c5b0 := decide_eq_true c5
       clear c5
       replace H := bqz_ H; obtain ⟨t204, A6, H⟩ := H
       replace H : (if t204 = true then (if x10_1 > 0 then (if 0 ≤ (wrap64 (x10_1 - 1)) then (if (wrap64 (x10_1 - 1)) < (l0.length : Int) then (if ((rd_T69 l0 x10_1).f0) < (wrap64 (((rd_T69 l0 (wrap64 (x10_1 - 1))).f1) + 2)) then (some false) else (spec_ixGood.l0 k1 l0 l0 (l0.length : Int) (wrap64 (x10_1 + 1)))) else (none)) else (none)) else (spec_ixGood.l0 k1 l0 l0 (l0.length : Int) (wrap64 (x10_1 + 1)))) else (some false)) = some r := H
       by_cases c7 : t204 = true
       ·subst c7
        rw [if_pos rfl] at H
        by_cases c8 : x10_1 > 0
        ·rw [if_pos c8] at H
         have c8b0 := decide_eq_true c8
         clear c8
         obtain ⟨ji9, hji9⟩ : ∃ j_ : Int, (wrap64 (x10_1 - 1)) = j_ := ⟨_, rfl⟩
         replace H : (if 0 ≤ (ji9) then (if (ji9) < (l0.length : Int) then (if ((rd_T69 l0 x10_1).f0) < (wrap64 (((rd_T69 l0 (ji9)).f1) + 2)) then (some false) else (spec_ixGood.l0 k1 l0 l0 (l0.length : Int) (wrap64 (x10_1 + 1)))) else (none)) else (none)) = some r := by first | (rw [hji9] at H; exact H) | (simp only [hji9] at H ⊢; exact H)
         (try rw [hji9] at A6)
         have hji9w : (IntKind.i64.wrap (x10_1 - 1)) = ji9 := (i64_w _).trans hji9
         by_cases c10 : 0 ≤ (ji9)
         ·rw [if_pos c10] at H
          have c10b0 := decide_eq_true c10
          clear c10
          by_cases c11 : (ji9) < (l0.length : Int)
          ·rw [if_pos c11] at H
           have c11b0 := decide_eq_true c11
           clear c11
           by_cases c12 : ((rd_T69 l0 x10_1).f0) < (wrap64 (((rd_T69 l0 (ji9)).f1) + 2))
           ·rw [if_pos c12] at H
            have c12b0 := decide_eq_true c12
            clear c12
            obtain rfl := Option.some.inj H
            have p202 : 0 ≤ (x10_1 : Int) := of_decide_eq_true asz_
            have q202 : x10_1 < (l0.length : Int) := of_decide_eq_true asz_
            obtain ⟨ad202, e202, hx202_0, hx202_1⟩ := at_T69 HR0.out x10_1 p202 q202
            cases e202
            replace hx202_0 := (HB.out.cell (World.block_lt_of_cell? w _ hx202_0)).trans hx202_0
            replace hx202_1 := (HB.out.cell (World.block_lt_of_cell? w _ hx202_1)).trans hx202_1
            replace p202 := eq_true p202
            replace q202 := eq_true q202
            try go_wp2_with (first | ((with_reducible refine gate_dst (N := 4) rfl ?_); refine box_event ?hg (N := 4) ?hd (cs := #[.int .i64 0, .int .i64 0]) (t := 69) ?hr ?_; (case hd => rfl); (case hg => rfl); (case hr => first | (go_simp; done) | (go_simp; rfl)); intro gb203 hg w13 hbox hb; have BK203 := Az_ (hbox); have GW203 := Az_ ((by rw [hg]; exact (below_size (ubz_ HB.out)) : w.heap.size ≤ gb203)); have GE203 := Az_ ((by rw [hg]; exact (below_size (ubz_ HB.out)) : w.heap.size ≤ gb203)); replace HB := Az_ (btz_ (ubz_ HB.out) hb); clear hb hbox hg; have hcz14_0 : w13.cell? ⟨gb203, 0, none⟩ = some (.int .i64 0) := (blk_cell BK203.out 0).trans rfl; have hcz14_1 : w13.cell? ⟨gb203, 1, none⟩ = some (.int .i64 0) := (blk_cell BK203.out 1).trans rfl; have hfz14_0 := blk_frozen BK203.out 0; have hfz14_1 := blk_frozen BK203.out 1))
            have n0_ : Aside0 (((w13.setCell ⟨gb203, 0, none⟩ (.int .i64 ((rd_T69 l0 x10_1).f0))).setCell ⟨gb203, 1, none⟩ (.int .i64 ((rd_T69 l0 x10_1).f1))).heap[gb203]? = some (.cells #[.int .i64 ((rd_T69 l0 x10_1).f0), .int .i64 ((rd_T69 l0 x10_1).f1)] 69 (0, 0))) := ⟨w10_⟩
            have n1_ : Aside0 (Below w.heap.size w ((w13.setCell ⟨gb203, 0, none⟩ (.int .i64 ((rd_T69 l0 x10_1).f0))).setCell ⟨gb203, 1, none⟩ (.int .i64 ((rd_T69 l0 x10_1).f1)))) := ⟨w40_⟩
            clear BK203
            clear HB
            generalize ((w13.setCell ⟨gb203, 0, none⟩ (.int .i64 ((rd_T69 l0 x10_1).f0))).setCell ⟨gb203, 1, none⟩ (.int .i64 ((rd_T69 l0 x10_1).f1))) = w15 at n0_ n1_ ⊢
            have BK203 := n0_
            have HB := n1_
            clear n0_ n1_
            have n0_ := Az_ (kdz_ BK203.out)
            have n1_ := Az_ (bdz_ HB.out)
            clear BK203 HB
            have BK203 := n0_
            have HB := n1_
            clear n0_ n1_
            have p205 : 0 ≤ ((ji9) : Int) := of_decide_eq_true asz_
            have q205 : (ji9) < (l0.length : Int) := of_decide_eq_true asz_
            obtain ⟨ad205, e205, hx205_0, hx205_1⟩ := at_T69 HR0.out (ji9) p205 q205
            have hw205_1 := hx205_1
            have hw205_0 := hx205_0
            obtain rfl : ad202 = ad205 := (by injection e205)
            replace hx205_0 := (HB.out.cell (World.block_lt_of_cell? w _ hx205_0)).trans hx205_0
            replace hx205_1 := (HB.out.cell (World.block_lt_of_cell? w _ hx205_1)).trans hx205_1
            replace p205 := eq_true p205
            replace q205 := eq_true q205
            refine start_ (n := 19) (S := fun w' => w'.cell? ⟨gb203, 0, none⟩ = some (.int .i64 ((rd_T69 l0 x10_1).f0)) ∧ w'.cell? ⟨gb203, 1, none⟩ = some (.int .i64 ((rd_T69 l0 x10_1).f1)) ∧ w'.cell? (ad202.add (((ji9)).toNat * 2)) = some (.int .i64 ((rd_T69 l0 (ji9)).f0)) ∧ w'.cell? ⟨(ad202.add (((ji9)).toNat * 2)).block, (ad202.add (((ji9)).toNat * 2)).off + 1, none⟩ = some (.int .i64 ((rd_T69 l0 (ji9)).f1))) (ds := []) #[false, false, false, false, false, false, false, false, false, false, false, false, false, false, false, false, false, false, false] (w110_) rfl rfl ⟨(blk_cell BK203.out 0).trans rfl, (blk_cell BK203.out 1).trans rfl, ((HB.out.cell (World.block_lt_of_cell? w _ hw205_0)).trans hw205_0), ((HB.out.cell (World.block_lt_of_cell? w _ hw205_1)).trans hw205_1)⟩ (fun hHeld => ?_); refine with_tabW spec_ixGood.tab6 spec_ixGood.bits6 (fun HT_ HW_ => ?_)
            generalize w15.drew = w16 at BK203 HB hx205_0 hx205_1 hHeld ⊢
            refine take_ (i := 0) (N := some 15) (v := ?_) (a' := ?_) (mz_ [1,18]) rfl rfl (take_ofW HT_.out HW_.out (w110_)) (fun _ _ _ h => h) (Or.inl ⟨by rfl, ?_⟩) hHeld ?_ ?_
            rotate_left
            ·rintro w' ⟨s0, s1, s2, s3⟩
             go_simp
             with_reducible rfl
            rotate_left
            ·simp only [Act.put, usz_, utz_, uvz_, i64_w, i32_w]
             rfl
            refine one_ (i := 1) (N := some 16) (mz_ [2,17]) rfl rfl (one_of HT_.out (w110_)) (by decide) (fun K hK => ?_)
            refine goes_ Tryz.func131 (w110_) rfl #[.agg #[.int .i64 ((rd_T69 l0 x10_1).f0), .int .i64 ((rd_T69 l0 x10_1).f1)]] (by rfl) rfl rfl maz_ ?_
            with_reducible refine (spec_ixRange.calls ((rd_T69 l0 x10_1).f0) ((rd_T69 l0 x10_1).f1) true _ A6.out).mono ?_
            rintro e w17 ⟨rfl, hb⟩
            refine ⟨_, rfl, ?_⟩
            have n1_ := Az_ (btz_ (w40_) hb)
            clear HB
            replace BK203 := Az_ (ukbz_ BK203.out hb)
            have HB := n1_
            clear n1_
            clear hb
            refine hK.out _ _ ⟨(blk_cell BK203.out 0).trans rfl, (blk_cell BK203.out 1).trans rfl, ((HB.out.cell (World.block_lt_of_cell? w _ hw205_0)).trans hw205_0), ((HB.out.cell (World.block_lt_of_cell? w _ hw205_1)).trans hw205_1)⟩ (fun hHeld => ?_)
            clear hK K
            refine norm_ (a' := ?_) ?_ ?_
            rotate_left
            ·show Act.put _ (some 16) _ = _
             simp only [Act.put, usz_, utz_, uvz_, i64_w, i32_w]
             rfl
            refine pure_ (i := 2) (N := some 17) (v := ?_) (a' := ?_) (mz_ [3,16]) rfl rfl (any_of HT_.out (w110_)) (fun _ _ _ h => h) (Or.inl ⟨by rfl, ?_⟩) ?_ ?_
            rotate_left
            ·intro w'
             go_simp
             with_reducible rfl
            rotate_left
            ·simp only [Act.put, usz_, utz_, uvz_, i64_w, i32_w]
             rfl
            refine pure_ (i := 3) (N := some 18) (v := ?_) (a' := ?_) (mz_ [4,15]) rfl rfl (any_of HT_.out (w110_)) (fun _ _ _ h => h) (Or.inl ⟨by rfl, ?_⟩) ?_ ?_
            rotate_left
            ·intro w'
             go_simp
             with_reducible rfl
            rotate_left
            ·simp only [Act.put, usz_, utz_, uvz_, i64_w, i32_w]
             rfl
            refine pure_ (i := 4) (N := some 19) (v := ?_) (a' := ?_) (mz_ [5,14]) rfl rfl (any_of HT_.out (w110_)) (fun _ _ _ h => h) (Or.inl ⟨by rfl, ?_⟩) ?_ ?_
            rotate_left
            ·intro w'
             go_simp
             with_reducible rfl
            rotate_left
            ·simp only [Act.put, usz_, utz_, uvz_, i64_w, i32_w]
             rfl
            refine pure_ (i := 5) (N := some 20) (v := ?_) (a' := ?_) (mz_ [6,13]) rfl rfl (any_of HT_.out (w110_)) (fun _ _ _ h => h) (Or.inl ⟨by rfl, ?_⟩) ?_ ?_
            rotate_left
            ·intro w'
             go_simp
             with_reducible rfl
            rotate_left
            ·simp only [Act.put, usz_, utz_, uvz_, i64_w, i32_w]
             rfl
            refine pure_ (i := 6) (N := some 21) (v := ?_) (a' := ?_) (mz_ [7,12]) rfl rfl (any_of HT_.out (w110_)) (fun _ _ _ h => h) (Or.inl ⟨by rfl, ?_⟩) ?_ ?_
            rotate_left
            ·intro w'
             go_simp
             with_reducible rfl
            rotate_left
            ·simp only [Act.put, usz_, utz_, uvz_, i64_w, i32_w]
             rfl
            refine pure_ (i := 7) (N := some 22) (v := ?_) (a' := ?_) (mz_ [8,11]) rfl rfl (any_of HT_.out (w110_)) (fun _ _ _ h => h) (Or.inl ⟨by rfl, ?_⟩) ?_ ?_
            rotate_left
            ·intro w'
             go_simp
             with_reducible rfl
            rotate_left
            ·simp only [Act.put, usz_, utz_, uvz_, i64_w, i32_w]
             rfl
            refine pure_ (i := 9) (N := some 24) (v := ?_) (a' := ?_) (mz_ [8,1,1,9]) rfl rfl (any_of HT_.out (w110_)) (fun _ _ _ h => h) (Or.inl ⟨by rfl, ?_⟩) ?_ ?_
            rotate_left
            ·intro w'
             go_simp
             with_reducible rfl
            rotate_left
            ·simp only [Act.put, usz_, utz_, uvz_, i64_w, i32_w]
             rfl
            refine pure_ (i := 10) (N := some 25) (v := ?_) (a' := ?_) (mz_ [8,1,2,8]) rfl rfl (any_of HT_.out (w110_)) (fun _ _ _ h => h) (Or.inl ⟨by rfl, ?_⟩) ?_ ?_
            rotate_left
            ·intro w'
             go_simp
             with_reducible rfl
            rotate_left
            ·simp only [Act.put, usz_, utz_, uvz_, i64_w, i32_w]
             rfl
            refine pure_ (i := 11) (N := some 26) (v := ?_) (a' := ?_) (mz_ [8,1,3,7]) rfl rfl (any_of HT_.out (w110_)) (fun _ _ _ h => h) (Or.inl ⟨by rfl, ?_⟩) ?_ ?_
            rotate_left
            ·intro w'
             go_simp
             with_reducible rfl
            rotate_left
            ·simp only [Act.put, usz_, utz_, uvz_, i64_w, i32_w]
             rfl
            refine pure_ (i := 12) (N := some 27) (v := ?_) (a' := ?_) (mz_ [8,1,4,6]) rfl rfl (any_of HT_.out (w110_)) (fun _ _ _ h => h) (Or.inl ⟨by rfl, ?_⟩) ?_ ?_
            rotate_left
            ·intro w'
             go_simp
             with_reducible rfl
            rotate_left
            ·simp only [Act.put, usz_, utz_, uvz_, i64_w, i32_w]
             rfl
            refine pure_ (i := 13) (N := some 28) (v := ?_) (a' := ?_) (mz_ [8,1,5,5]) rfl rfl (any_of HT_.out (w110_)) (fun _ _ _ h => h) (Or.inl ⟨by rfl, ?_⟩) ?_ ?_
            rotate_left
            ·intro w'
             go_simp
             with_reducible rfl
            rotate_left
            ·simp only [Act.put, usz_, utz_, uvz_, i64_w, i32_w]
             rfl
            refine take_ (i := 8) (N := some 23) (v := ?_) (a' := ?_) (mz_ [14,5]) rfl rfl (take_ofW HT_.out HW_.out (w110_)) (fun _ _ _ h => h) (Or.inl ⟨by rfl, ?_⟩) hHeld ?_ ?_
            rotate_left
            ·rintro w' ⟨s0, s1, s2, s3⟩
             go_simp
             with_reducible rfl
            rotate_left
            ·simp only [Act.put, usz_, utz_, uvz_, i64_w, i32_w]
             rfl
            refine take_ (i := 14) (N := some 29) (v := ?_) (a' := ?_) (mz_ [15,4]) rfl rfl (take_ofW HT_.out HW_.out (w110_)) (fun _ _ _ h => h) (Or.inl ⟨by rfl, ?_⟩) hHeld ?_ ?_
            rotate_left
            ·rintro w' ⟨s0, s1, s2, s3⟩
             go_simp
             with_reducible rfl
            rotate_left
            ·simp only [Act.put, usz_, utz_, uvz_, i64_w, i32_w]
             rfl
            refine pure_ (i := 15) (N := some 30) (v := ?_) (a' := ?_) (mz_ [16,3]) rfl rfl (any_of HT_.out (w110_)) (fun _ _ _ h => h) (Or.inl ⟨by rfl, ?_⟩) ?_ ?_
            rotate_left
            ·intro w'
             go_simp
             with_reducible rfl
            rotate_left
            ·simp only [Act.put, usz_, utz_, uvz_, i64_w, i32_w]
             rfl
            refine pure_ (i := 16) (N := some 31) (v := ?_) (a' := ?_) (mz_ [17,2]) rfl rfl (any_of HT_.out (w110_)) (fun _ _ _ h => h) (Or.inl ⟨by rfl, ?_⟩) ?_ ?_
            rotate_left
            ·intro w'
             go_simp
             with_reducible rfl
            rotate_left
            ·simp only [Act.put, usz_, utz_, uvz_, i64_w, i32_w]
             rfl
            refine pure_ (i := 17) (N := some 32) (v := ?_) (a' := ?_) (mz_ [18,1]) rfl rfl (any_of HT_.out (w110_)) (fun _ _ _ h => h) (Or.inl ⟨by rfl, ?_⟩) ?_ ?_
            rotate_left
            ·intro w'
             go_simp
             with_reducible rfl
            rotate_left
            ·simp only [Act.put, usz_, utz_, uvz_, i64_w, i32_w]
             rfl
            refine pure_ (i := 18) (N := some 33) (v := ?_) (a' := ?_) (mz_ [19]) rfl rfl (any_of HT_.out (w110_)) (fun _ _ _ h => h) (Or.inl ⟨by rfl, ?_⟩) ?_ ?_
            rotate_left
            ·intro w'
             go_simp
             with_reducible rfl
            rotate_left
            ·simp only [Act.put, usz_, utz_, uvz_, i64_w, i32_w]
             rfl
            refine done_ (done_of HT_.out (w110_)) ?_
            try go_wp2
            go_ret
            exact ⟨by first | rfl | (simp [errW_none, errW_some] <;> rfl) | (simp only [← hji9]; first | rfl | (simp [errW_none, errW_some] <;> rfl)) | (simp [*, errW_none, errW_some] <;> rfl), w40_⟩
           ·rw [if_neg c12] at H
            have c12b0 := decide_eq_false c12
            clear c12
            have H' := Az_ H
            clear H
            have p202 : 0 ≤ (x10_1 : Int) := of_decide_eq_true asz_
            have q202 : x10_1 < (l0.length : Int) := of_decide_eq_true asz_
            obtain ⟨ad202, e202, hx202_0, hx202_1⟩ := at_T69 HR0.out x10_1 p202 q202
            cases e202
            replace hx202_0 := (HB.out.cell (World.block_lt_of_cell? w _ hx202_0)).trans hx202_0
            replace hx202_1 := (HB.out.cell (World.block_lt_of_cell? w _ hx202_1)).trans hx202_1
            replace p202 := eq_true p202
            replace q202 := eq_true q202
            try go_wp2_with (first | ((with_reducible refine gate_dst (N := 4) rfl ?_); refine box_event ?hg (N := 4) ?hd (cs := #[.int .i64 0, .int .i64 0]) (t := 69) ?hr ?_; (case hd => rfl); (case hg => rfl); (case hr => first | (go_simp; done) | (go_simp; rfl)); intro gb203 hg w18 hbox hb; have BK203 := Az_ (hbox); have GW203 := Az_ ((by rw [hg]; exact (below_size (ubz_ HB.out)) : w.heap.size ≤ gb203)); have GE203 := Az_ ((by rw [hg]; exact (below_size (ubz_ HB.out)) : w.heap.size ≤ gb203)); replace HB := Az_ (btz_ (ubz_ HB.out) hb); clear hb hbox hg; have hcz19_0 : w18.cell? ⟨gb203, 0, none⟩ = some (.int .i64 0) := (blk_cell BK203.out 0).trans rfl; have hcz19_1 : w18.cell? ⟨gb203, 1, none⟩ = some (.int .i64 0) := (blk_cell BK203.out 1).trans rfl; have hfz19_0 := blk_frozen BK203.out 0; have hfz19_1 := blk_frozen BK203.out 1))
            have n0_ : Aside0 (((w18.setCell ⟨gb203, 0, none⟩ (.int .i64 ((rd_T69 l0 x10_1).f0))).setCell ⟨gb203, 1, none⟩ (.int .i64 ((rd_T69 l0 x10_1).f1))).heap[gb203]? = some (.cells #[.int .i64 ((rd_T69 l0 x10_1).f0), .int .i64 ((rd_T69 l0 x10_1).f1)] 69 (0, 0))) := ⟨w10_⟩
            have n1_ : Aside0 (Below w.heap.size w ((w18.setCell ⟨gb203, 0, none⟩ (.int .i64 ((rd_T69 l0 x10_1).f0))).setCell ⟨gb203, 1, none⟩ (.int .i64 ((rd_T69 l0 x10_1).f1)))) := ⟨w40_⟩
            clear BK203
            clear HB
            generalize ((w18.setCell ⟨gb203, 0, none⟩ (.int .i64 ((rd_T69 l0 x10_1).f0))).setCell ⟨gb203, 1, none⟩ (.int .i64 ((rd_T69 l0 x10_1).f1))) = w20 at n0_ n1_ ⊢
            have BK203 := n0_
            have HB := n1_
            clear n0_ n1_
            have n0_ := Az_ (kdz_ BK203.out)
            have n1_ := Az_ (bdz_ HB.out)
            clear BK203 HB
            have BK203 := n0_
            have HB := n1_
            clear n0_ n1_
            have p205 : 0 ≤ ((ji9) : Int) := of_decide_eq_true asz_
            have q205 : (ji9) < (l0.length : Int) := of_decide_eq_true asz_
            obtain ⟨ad205, e205, hx205_0, hx205_1⟩ := at_T69 HR0.out (ji9) p205 q205
            have hw205_1 := hx205_1
            have hw205_0 := hx205_0
            obtain rfl : ad202 = ad205 := (by injection e205)
            replace hx205_0 := (HB.out.cell (World.block_lt_of_cell? w _ hx205_0)).trans hx205_0
            replace hx205_1 := (HB.out.cell (World.block_lt_of_cell? w _ hx205_1)).trans hx205_1
            replace p205 := eq_true p205
            replace q205 := eq_true q205
            refine start_ (n := 19) (S := fun w' => w'.cell? ⟨gb203, 0, none⟩ = some (.int .i64 ((rd_T69 l0 x10_1).f0)) ∧ w'.cell? ⟨gb203, 1, none⟩ = some (.int .i64 ((rd_T69 l0 x10_1).f1)) ∧ w'.cell? (ad202.add (((ji9)).toNat * 2)) = some (.int .i64 ((rd_T69 l0 (ji9)).f0)) ∧ w'.cell? ⟨(ad202.add (((ji9)).toNat * 2)).block, (ad202.add (((ji9)).toNat * 2)).off + 1, none⟩ = some (.int .i64 ((rd_T69 l0 (ji9)).f1))) (ds := []) #[false, false, false, false, false, false, false, false, false, false, false, false, false, false, false, false, false, false, false] (w110_) rfl rfl ⟨(blk_cell BK203.out 0).trans rfl, (blk_cell BK203.out 1).trans rfl, ((HB.out.cell (World.block_lt_of_cell? w _ hw205_0)).trans hw205_0), ((HB.out.cell (World.block_lt_of_cell? w _ hw205_1)).trans hw205_1)⟩ (fun hHeld => ?_); refine with_tabW spec_ixGood.tab6 spec_ixGood.bits6 (fun HT_ HW_ => ?_)
            generalize w20.drew = w21 at BK203 HB hx205_0 hx205_1 hHeld ⊢
            refine take_ (i := 0) (N := some 15) (v := ?_) (a' := ?_) (mz_ [1,18]) rfl rfl (take_ofW HT_.out HW_.out (w110_)) (fun _ _ _ h => h) (Or.inl ⟨by rfl, ?_⟩) hHeld ?_ ?_
            rotate_left
            ·rintro w' ⟨s0, s1, s2, s3⟩
             go_simp
             with_reducible rfl
            rotate_left
            ·simp only [Act.put, usz_, utz_, uvz_, i64_w, i32_w]
             rfl
            refine one_ (i := 1) (N := some 16) (mz_ [2,17]) rfl rfl (one_of HT_.out (w110_)) (by decide) (fun K hK => ?_)
            refine goes_ Tryz.func131 (w110_) rfl #[.agg #[.int .i64 ((rd_T69 l0 x10_1).f0), .int .i64 ((rd_T69 l0 x10_1).f1)]] (by rfl) rfl rfl maz_ ?_
            with_reducible refine (spec_ixRange.calls ((rd_T69 l0 x10_1).f0) ((rd_T69 l0 x10_1).f1) true _ A6.out).mono ?_
            rintro e w22 ⟨rfl, hb⟩
            refine ⟨_, rfl, ?_⟩
            have n1_ := Az_ (btz_ (w40_) hb)
            clear HB
            replace BK203 := Az_ (ukbz_ BK203.out hb)
            have HB := n1_
            clear n1_
            clear hb
            refine hK.out _ _ ⟨(blk_cell BK203.out 0).trans rfl, (blk_cell BK203.out 1).trans rfl, ((HB.out.cell (World.block_lt_of_cell? w _ hw205_0)).trans hw205_0), ((HB.out.cell (World.block_lt_of_cell? w _ hw205_1)).trans hw205_1)⟩ (fun hHeld => ?_)
            clear hK K
            refine norm_ (a' := ?_) ?_ ?_
            rotate_left
            ·show Act.put _ (some 16) _ = _
             simp only [Act.put, usz_, utz_, uvz_, i64_w, i32_w]
             rfl
            refine pure_ (i := 2) (N := some 17) (v := ?_) (a' := ?_) (mz_ [3,16]) rfl rfl (any_of HT_.out (w110_)) (fun _ _ _ h => h) (Or.inl ⟨by rfl, ?_⟩) ?_ ?_
            rotate_left
            ·intro w'
             go_simp
             with_reducible rfl
            rotate_left
            ·simp only [Act.put, usz_, utz_, uvz_, i64_w, i32_w]
             rfl
            refine pure_ (i := 3) (N := some 18) (v := ?_) (a' := ?_) (mz_ [4,15]) rfl rfl (any_of HT_.out (w110_)) (fun _ _ _ h => h) (Or.inl ⟨by rfl, ?_⟩) ?_ ?_
            rotate_left
            ·intro w'
             go_simp
             with_reducible rfl
            rotate_left
            ·simp only [Act.put, usz_, utz_, uvz_, i64_w, i32_w]
             rfl
            refine pure_ (i := 4) (N := some 19) (v := ?_) (a' := ?_) (mz_ [5,14]) rfl rfl (any_of HT_.out (w110_)) (fun _ _ _ h => h) (Or.inl ⟨by rfl, ?_⟩) ?_ ?_
            rotate_left
            ·intro w'
             go_simp
             with_reducible rfl
            rotate_left
            ·simp only [Act.put, usz_, utz_, uvz_, i64_w, i32_w]
             rfl
            refine pure_ (i := 5) (N := some 20) (v := ?_) (a' := ?_) (mz_ [6,13]) rfl rfl (any_of HT_.out (w110_)) (fun _ _ _ h => h) (Or.inl ⟨by rfl, ?_⟩) ?_ ?_
            rotate_left
            ·intro w'
             go_simp
             with_reducible rfl
            rotate_left
            ·simp only [Act.put, usz_, utz_, uvz_, i64_w, i32_w]
             rfl
            refine pure_ (i := 6) (N := some 21) (v := ?_) (a' := ?_) (mz_ [7,12]) rfl rfl (any_of HT_.out (w110_)) (fun _ _ _ h => h) (Or.inl ⟨by rfl, ?_⟩) ?_ ?_
            rotate_left
            ·intro w'
             go_simp
             with_reducible rfl
            rotate_left
            ·simp only [Act.put, usz_, utz_, uvz_, i64_w, i32_w]
             rfl
            refine pure_ (i := 7) (N := some 22) (v := ?_) (a' := ?_) (mz_ [8,11]) rfl rfl (any_of HT_.out (w110_)) (fun _ _ _ h => h) (Or.inl ⟨by rfl, ?_⟩) ?_ ?_
            rotate_left
            ·intro w'
             go_simp
             with_reducible rfl
            rotate_left
            ·simp only [Act.put, usz_, utz_, uvz_, i64_w, i32_w]
             rfl
            refine pure_ (i := 9) (N := some 24) (v := ?_) (a' := ?_) (mz_ [8,1,1,9]) rfl rfl (any_of HT_.out (w110_)) (fun _ _ _ h => h) (Or.inl ⟨by rfl, ?_⟩) ?_ ?_
            rotate_left
            ·intro w'
             go_simp
             with_reducible rfl
            rotate_left
            ·simp only [Act.put, usz_, utz_, uvz_, i64_w, i32_w]
             rfl
            refine pure_ (i := 10) (N := some 25) (v := ?_) (a' := ?_) (mz_ [8,1,2,8]) rfl rfl (any_of HT_.out (w110_)) (fun _ _ _ h => h) (Or.inl ⟨by rfl, ?_⟩) ?_ ?_
            rotate_left
            ·intro w'
             go_simp
             with_reducible rfl
            rotate_left
            ·simp only [Act.put, usz_, utz_, uvz_, i64_w, i32_w]
             rfl
            refine pure_ (i := 11) (N := some 26) (v := ?_) (a' := ?_) (mz_ [8,1,3,7]) rfl rfl (any_of HT_.out (w110_)) (fun _ _ _ h => h) (Or.inl ⟨by rfl, ?_⟩) ?_ ?_
            rotate_left
            ·intro w'
             go_simp
             with_reducible rfl
            rotate_left
            ·simp only [Act.put, usz_, utz_, uvz_, i64_w, i32_w]
             rfl
            refine pure_ (i := 12) (N := some 27) (v := ?_) (a' := ?_) (mz_ [8,1,4,6]) rfl rfl (any_of HT_.out (w110_)) (fun _ _ _ h => h) (Or.inl ⟨by rfl, ?_⟩) ?_ ?_
            rotate_left
            ·intro w'
             go_simp
             with_reducible rfl
            rotate_left
            ·simp only [Act.put, usz_, utz_, uvz_, i64_w, i32_w]
             rfl
            refine pure_ (i := 13) (N := some 28) (v := ?_) (a' := ?_) (mz_ [8,1,5,5]) rfl rfl (any_of HT_.out (w110_)) (fun _ _ _ h => h) (Or.inl ⟨by rfl, ?_⟩) ?_ ?_
            rotate_left
            ·intro w'
             go_simp
             with_reducible rfl
            rotate_left
            ·simp only [Act.put, usz_, utz_, uvz_, i64_w, i32_w]
             rfl
            refine take_ (i := 8) (N := some 23) (v := ?_) (a' := ?_) (mz_ [14,5]) rfl rfl (take_ofW HT_.out HW_.out (w110_)) (fun _ _ _ h => h) (Or.inl ⟨by rfl, ?_⟩) hHeld ?_ ?_
            rotate_left
            ·rintro w' ⟨s0, s1, s2, s3⟩
             go_simp
             with_reducible rfl
            rotate_left
            ·simp only [Act.put, usz_, utz_, uvz_, i64_w, i32_w]
             rfl
            refine take_ (i := 14) (N := some 29) (v := ?_) (a' := ?_) (mz_ [15,4]) rfl rfl (take_ofW HT_.out HW_.out (w110_)) (fun _ _ _ h => h) (Or.inl ⟨by rfl, ?_⟩) hHeld ?_ ?_
            rotate_left
            ·rintro w' ⟨s0, s1, s2, s3⟩
             go_simp
             with_reducible rfl
            rotate_left
            ·simp only [Act.put, usz_, utz_, uvz_, i64_w, i32_w]
             rfl
            refine pure_ (i := 15) (N := some 30) (v := ?_) (a' := ?_) (mz_ [16,3]) rfl rfl (any_of HT_.out (w110_)) (fun _ _ _ h => h) (Or.inl ⟨by rfl, ?_⟩) ?_ ?_
            rotate_left
            ·intro w'
             go_simp
             with_reducible rfl
            rotate_left
            ·simp only [Act.put, usz_, utz_, uvz_, i64_w, i32_w]
             rfl
            refine pure_ (i := 16) (N := some 31) (v := ?_) (a' := ?_) (mz_ [17,2]) rfl rfl (any_of HT_.out (w110_)) (fun _ _ _ h => h) (Or.inl ⟨by rfl, ?_⟩) ?_ ?_
            rotate_left
            ·intro w'
             go_simp
             with_reducible rfl
            rotate_left
            ·simp only [Act.put, usz_, utz_, uvz_, i64_w, i32_w]
             rfl
            refine pure_ (i := 17) (N := some 32) (v := ?_) (a' := ?_) (mz_ [18,1]) rfl rfl (any_of HT_.out (w110_)) (fun _ _ _ h => h) (Or.inl ⟨by rfl, ?_⟩) ?_ ?_
            rotate_left
            ·intro w'
             go_simp
             with_reducible rfl
            rotate_left
            ·simp only [Act.put, usz_, utz_, uvz_, i64_w, i32_w]
             rfl
            refine pure_ (i := 18) (N := some 33) (v := ?_) (a' := ?_) (mz_ [19]) rfl rfl (any_of HT_.out (w110_)) (fun _ _ _ h => h) (Or.inl ⟨by rfl, ?_⟩) ?_ ?_
            rotate_left
            ·intro w'
             go_simp
             with_reducible rfl
            rotate_left
            ·simp only [Act.put, usz_, utz_, uvz_, i64_w, i32_w]
             rfl
            refine done_ (done_of HT_.out (w110_)) ?_
            try go_wp2
            go_roundg k1
            case measure => have := HK1.out; omega
            case rel => exact ⟨(wrap64 (x10_1 + 1)), qaz_, H', ⟨w83_⟩, ⟨w40_⟩⟩
          ·rw [if_neg c11] at H
           exact absurd H (by simp)
         ·rw [if_neg c10] at H
          exact absurd H (by simp)
        ·rw [if_neg c8] at H
         have c8b0 := decide_eq_false c8
         clear c8
         have H' := Az_ H
         clear H
         have p202 : 0 ≤ (x10_1 : Int) := of_decide_eq_true asz_
         have q202 : x10_1 < (l0.length : Int) := of_decide_eq_true asz_
         obtain ⟨ad202, e202, hx202_0, hx202_1⟩ := at_T69 HR0.out x10_1 p202 q202
         cases e202
         replace hx202_0 := (HB.out.cell (World.block_lt_of_cell? w _ hx202_0)).trans hx202_0
         replace hx202_1 := (HB.out.cell (World.block_lt_of_cell? w _ hx202_1)).trans hx202_1
         replace p202 := eq_true p202
         replace q202 := eq_true q202
         try go_wp2_with (first | ((with_reducible refine gate_dst (N := 4) rfl ?_); refine box_event ?hg (N := 4) ?hd (cs := #[.int .i64 0, .int .i64 0]) (t := 69) ?hr ?_; (case hd => rfl); (case hg => rfl); (case hr => first | (go_simp; done) | (go_simp; rfl)); intro gb203 hg w23 hbox hb; have BK203 := Az_ (hbox); have GW203 := Az_ ((by rw [hg]; exact (below_size (ubz_ HB.out)) : w.heap.size ≤ gb203)); have GE203 := Az_ ((by rw [hg]; exact (below_size (ubz_ HB.out)) : w.heap.size ≤ gb203)); replace HB := Az_ (btz_ (ubz_ HB.out) hb); clear hb hbox hg; have hcz24_0 : w23.cell? ⟨gb203, 0, none⟩ = some (.int .i64 0) := (blk_cell BK203.out 0).trans rfl; have hcz24_1 : w23.cell? ⟨gb203, 1, none⟩ = some (.int .i64 0) := (blk_cell BK203.out 1).trans rfl; have hfz24_0 := blk_frozen BK203.out 0; have hfz24_1 := blk_frozen BK203.out 1))
         have n0_ : Aside0 (((w23.setCell ⟨gb203, 0, none⟩ (.int .i64 ((rd_T69 l0 x10_1).f0))).setCell ⟨gb203, 1, none⟩ (.int .i64 ((rd_T69 l0 x10_1).f1))).heap[gb203]? = some (.cells #[.int .i64 ((rd_T69 l0 x10_1).f0), .int .i64 ((rd_T69 l0 x10_1).f1)] 69 (0, 0))) := ⟨w10_⟩
         have n1_ : Aside0 (Below w.heap.size w ((w23.setCell ⟨gb203, 0, none⟩ (.int .i64 ((rd_T69 l0 x10_1).f0))).setCell ⟨gb203, 1, none⟩ (.int .i64 ((rd_T69 l0 x10_1).f1)))) := ⟨w40_⟩
         clear BK203
         clear HB
         generalize ((w23.setCell ⟨gb203, 0, none⟩ (.int .i64 ((rd_T69 l0 x10_1).f0))).setCell ⟨gb203, 1, none⟩ (.int .i64 ((rd_T69 l0 x10_1).f1))) = w25 at n0_ n1_ ⊢
         have BK203 := n0_
         have HB := n1_
         clear n0_ n1_
         have n0_ := Az_ (kdz_ BK203.out)
         have n1_ := Az_ (bdz_ HB.out)
         clear BK203 HB
         have BK203 := n0_
         have HB := n1_
         clear n0_ n1_
         refine start_ (n := 19) (S := fun w' => w'.cell? ⟨gb203, 0, none⟩ = some (.int .i64 ((rd_T69 l0 x10_1).f0)) ∧ w'.cell? ⟨gb203, 1, none⟩ = some (.int .i64 ((rd_T69 l0 x10_1).f1))) (ds := []) #[false, false, false, false, false, false, false, false, false, false, false, false, false, false, false, false, false, false, false] (w110_) rfl rfl ⟨(blk_cell BK203.out 0).trans rfl, (blk_cell BK203.out 1).trans rfl⟩ (fun hHeld => ?_); refine with_tabW spec_ixGood.tab6 spec_ixGood.bits6 (fun HT_ HW_ => ?_)
         generalize w25.drew = w26 at BK203 HB hHeld ⊢
         refine take_ (i := 0) (N := some 15) (v := ?_) (a' := ?_) (mz_ [1,18]) rfl rfl (take_ofW HT_.out HW_.out (w110_)) (fun _ _ _ h => h) (Or.inl ⟨by rfl, ?_⟩) hHeld ?_ ?_
         rotate_left
         ·rintro w' ⟨s0, s1⟩
          go_simp
          with_reducible rfl
         rotate_left
         ·simp only [Act.put, usz_, utz_, uvz_, i64_w, i32_w]
          rfl
         refine one_ (i := 1) (N := some 16) (mz_ [2,17]) rfl rfl (one_of HT_.out (w110_)) (by decide) (fun K hK => ?_)
         refine goes_ Tryz.func131 (w110_) rfl #[.agg #[.int .i64 ((rd_T69 l0 x10_1).f0), .int .i64 ((rd_T69 l0 x10_1).f1)]] (by rfl) rfl rfl maz_ ?_
         with_reducible refine (spec_ixRange.calls ((rd_T69 l0 x10_1).f0) ((rd_T69 l0 x10_1).f1) true _ A6.out).mono ?_
         rintro e w27 ⟨rfl, hb⟩
         refine ⟨_, rfl, ?_⟩
         have n1_ := Az_ (btz_ (w40_) hb)
         clear HB
         replace BK203 := Az_ (ukbz_ BK203.out hb)
         have HB := n1_
         clear n1_
         clear hb
         refine hK.out _ _ ⟨(blk_cell BK203.out 0).trans rfl, (blk_cell BK203.out 1).trans rfl⟩ (fun hHeld => ?_)
         clear hK K
         refine norm_ (a' := ?_) ?_ ?_
         rotate_left
         ·show Act.put _ (some 16) _ = _
          simp only [Act.put, usz_, utz_, uvz_, i64_w, i32_w]
          rfl
         refine pure_ (i := 2) (N := some 17) (v := ?_) (a' := ?_) (mz_ [3,16]) rfl rfl (any_of HT_.out (w110_)) (fun _ _ _ h => h) (Or.inl ⟨by rfl, ?_⟩) ?_ ?_
         rotate_left
         ·intro w'
          go_simp
          with_reducible rfl
         rotate_left
         ·simp only [Act.put, usz_, utz_, uvz_, i64_w, i32_w]
          rfl
         refine pure_ (i := 3) (N := some 18) (v := ?_) (a' := ?_) (mz_ [4,15]) rfl rfl (any_of HT_.out (w110_)) (fun _ _ _ h => h) (Or.inl ⟨by rfl, ?_⟩) ?_ ?_
         rotate_left
         ·intro w'
          go_simp
          with_reducible rfl
         rotate_left
         ·simp only [Act.put, usz_, utz_, uvz_, i64_w, i32_w]
          rfl
         refine pure_ (i := 4) (N := some 19) (v := ?_) (a' := ?_) (mz_ [5,14]) rfl rfl (any_of HT_.out (w110_)) (fun _ _ _ h => h) (Or.inl ⟨by rfl, ?_⟩) ?_ ?_
         rotate_left
         ·intro w'
          go_simp
          with_reducible rfl
         rotate_left
         ·simp only [Act.put, usz_, utz_, uvz_, i64_w, i32_w]
          rfl
         refine pure_ (i := 5) (N := some 20) (v := ?_) (a' := ?_) (mz_ [6,13]) rfl rfl (any_of HT_.out (w110_)) (fun _ _ _ h => h) (Or.inl ⟨by rfl, ?_⟩) ?_ ?_
         rotate_left
         ·intro w'
          go_simp
          with_reducible rfl
         rotate_left
         ·simp only [Act.put, usz_, utz_, uvz_, i64_w, i32_w]
          rfl
         refine pure_ (i := 6) (N := some 21) (v := ?_) (a' := ?_) (mz_ [7,12]) rfl rfl (any_of HT_.out (w110_)) (fun _ _ _ h => h) (Or.inl ⟨by rfl, ?_⟩) ?_ ?_
         rotate_left
         ·intro w'
          go_simp
          with_reducible rfl
         rotate_left
         ·simp only [Act.put, usz_, utz_, uvz_, i64_w, i32_w]
          rfl
         refine pure_ (i := 7) (N := some 22) (v := undef) (a' := ?_) (mz_ [8,11]) rfl rfl (any_of HT_.out (w110_)) (fun _ _ _ h => h) (Or.inr ⟨by rfl, rfl⟩) ?_ ?_
         rotate_left
         ·simp only [Act.put, usz_, utz_, uvz_, i64_w, i32_w]
          rfl
         refine pure_ (i := 8) (N := some 23) (v := undef) (a' := ?_) (mz_ [9,10]) rfl rfl (any_of HT_.out (w110_)) (fun _ _ _ h => h) (Or.inr ⟨by rfl, rfl⟩) ?_ ?_
         rotate_left
         ·simp only [Act.put, usz_, utz_, uvz_, i64_w, i32_w]
          rfl
         refine pure_ (i := 9) (N := some 24) (v := undef) (a' := ?_) (mz_ [10,9]) rfl rfl (any_of HT_.out (w110_)) (fun _ _ _ h => h) (Or.inr ⟨by rfl, rfl⟩) ?_ ?_
         rotate_left
         ·simp only [Act.put, usz_, utz_, uvz_, i64_w, i32_w]
          rfl
         refine pure_ (i := 10) (N := some 25) (v := undef) (a' := ?_) (mz_ [11,8]) rfl rfl (any_of HT_.out (w110_)) (fun _ _ _ h => h) (Or.inr ⟨by rfl, rfl⟩) ?_ ?_
         rotate_left
         ·simp only [Act.put, usz_, utz_, uvz_, i64_w, i32_w]
          rfl
         refine pure_ (i := 11) (N := some 26) (v := undef) (a' := ?_) (mz_ [12,7]) rfl rfl (any_of HT_.out (w110_)) (fun _ _ _ h => h) (Or.inr ⟨by rfl, rfl⟩) ?_ ?_
         rotate_left
         ·simp only [Act.put, usz_, utz_, uvz_, i64_w, i32_w]
          rfl
         refine pure_ (i := 12) (N := some 27) (v := undef) (a' := ?_) (mz_ [13,6]) rfl rfl (any_of HT_.out (w110_)) (fun _ _ _ h => h) (Or.inr ⟨by rfl, rfl⟩) ?_ ?_
         rotate_left
         ·simp only [Act.put, usz_, utz_, uvz_, i64_w, i32_w]
          rfl
         refine pure_ (i := 13) (N := some 28) (v := undef) (a' := ?_) (mz_ [14,5]) rfl rfl (any_of HT_.out (w110_)) (fun _ _ _ h => h) (Or.inr ⟨by rfl, rfl⟩) ?_ ?_
         rotate_left
         ·simp only [Act.put, usz_, utz_, uvz_, i64_w, i32_w]
          rfl
         refine pure_ (i := 14) (N := some 29) (v := undef) (a' := ?_) (mz_ [15,4]) rfl rfl (any_of HT_.out (w110_)) (fun _ _ _ h => h) (Or.inr ⟨by rfl, rfl⟩) ?_ ?_
         rotate_left
         ·simp only [Act.put, usz_, utz_, uvz_, i64_w, i32_w]
          rfl
         refine pure_ (i := 15) (N := some 30) (v := undef) (a' := ?_) (mz_ [16,3]) rfl rfl (any_of HT_.out (w110_)) (fun _ _ _ h => h) (Or.inr ⟨by rfl, rfl⟩) ?_ ?_
         rotate_left
         ·simp only [Act.put, usz_, utz_, uvz_, i64_w, i32_w]
          rfl
         refine pure_ (i := 16) (N := some 31) (v := undef) (a' := ?_) (mz_ [17,2]) rfl rfl (any_of HT_.out (w110_)) (fun _ _ _ h => h) (Or.inr ⟨by rfl, rfl⟩) ?_ ?_
         rotate_left
         ·simp only [Act.put, usz_, utz_, uvz_, i64_w, i32_w]
          rfl
         refine pure_ (i := 17) (N := some 32) (v := ?_) (a' := ?_) (mz_ [18,1]) rfl rfl (any_of HT_.out (w110_)) (fun _ _ _ h => h) (Or.inl ⟨by rfl, ?_⟩) ?_ ?_
         rotate_left
         ·intro w'
          go_simp
          with_reducible rfl
         rotate_left
         ·simp only [Act.put, usz_, utz_, uvz_, i64_w, i32_w]
          rfl
         refine pure_ (i := 18) (N := some 33) (v := ?_) (a' := ?_) (mz_ [19]) rfl rfl (any_of HT_.out (w110_)) (fun _ _ _ h => h) (Or.inl ⟨by rfl, ?_⟩) ?_ ?_
         rotate_left
         ·intro w'
          go_simp
          with_reducible rfl
         rotate_left
         ·simp only [Act.put, usz_, utz_, uvz_, i64_w, i32_w]
          rfl
         refine done_ (done_of HT_.out (w110_)) ?_
         try go_wp2
         go_roundg k1
         case measure => have := HK1.out; omega
         case rel => exact ⟨(wrap64 (x10_1 + 1)), qaz_, H', ⟨w83_⟩, ⟨w40_⟩⟩
       ·replace c7 := Bool.eq_false_iff.mpr c7
        subst c7
        rw [if_neg nfz_] at H
        obtain rfl := Option.some.inj H
        have p202 : 0 ≤ (x10_1 : Int) := of_decide_eq_true asz_
        have q202 : x10_1 < (l0.length : Int) := of_decide_eq_true asz_
        obtain ⟨ad202, e202, hx202_0, hx202_1⟩ := at_T69 HR0.out x10_1 p202 q202
        cases e202
        replace hx202_0 := (HB.out.cell (World.block_lt_of_cell? w _ hx202_0)).trans hx202_0
        replace hx202_1 := (HB.out.cell (World.block_lt_of_cell? w _ hx202_1)).trans hx202_1
        replace p202 := eq_true p202
        replace q202 := eq_true q202
        try go_wp2_with (first | ((with_reducible refine gate_dst (N := 4) rfl ?_); refine box_event ?hg (N := 4) ?hd (cs := #[.int .i64 0, .int .i64 0]) (t := 69) ?hr ?_; (case hd => rfl); (case hg => rfl); (case hr => first | (go_simp; done) | (go_simp; rfl)); intro gb203 hg w28 hbox hb; have BK203 := Az_ (hbox); have GW203 := Az_ ((by rw [hg]; exact (below_size (ubz_ HB.out)) : w.heap.size ≤ gb203)); have GE203 := Az_ ((by rw [hg]; exact (below_size (ubz_ HB.out)) : w.heap.size ≤ gb203)); replace HB := Az_ (btz_ (ubz_ HB.out) hb); clear hb hbox hg; have hcz29_0 : w28.cell? ⟨gb203, 0, none⟩ = some (.int .i64 0) := (blk_cell BK203.out 0).trans rfl; have hcz29_1 : w28.cell? ⟨gb203, 1, none⟩ = some (.int .i64 0) := (blk_cell BK203.out 1).trans rfl; have hfz29_0 := blk_frozen BK203.out 0; have hfz29_1 := blk_frozen BK203.out 1))
        have n0_ : Aside0 (((w28.setCell ⟨gb203, 0, none⟩ (.int .i64 ((rd_T69 l0 x10_1).f0))).setCell ⟨gb203, 1, none⟩ (.int .i64 ((rd_T69 l0 x10_1).f1))).heap[gb203]? = some (.cells #[.int .i64 ((rd_T69 l0 x10_1).f0), .int .i64 ((rd_T69 l0 x10_1).f1)] 69 (0, 0))) := ⟨w10_⟩
        have n1_ : Aside0 (Below w.heap.size w ((w28.setCell ⟨gb203, 0, none⟩ (.int .i64 ((rd_T69 l0 x10_1).f0))).setCell ⟨gb203, 1, none⟩ (.int .i64 ((rd_T69 l0 x10_1).f1)))) := ⟨w40_⟩
        clear BK203
        clear HB
        generalize ((w28.setCell ⟨gb203, 0, none⟩ (.int .i64 ((rd_T69 l0 x10_1).f0))).setCell ⟨gb203, 1, none⟩ (.int .i64 ((rd_T69 l0 x10_1).f1))) = w30 at n0_ n1_ ⊢
        have BK203 := n0_
        have HB := n1_
        clear n0_ n1_
        have n0_ := Az_ (kdz_ BK203.out)
        have n1_ := Az_ (bdz_ HB.out)
        clear BK203 HB
        have BK203 := n0_
        have HB := n1_
        clear n0_ n1_
        refine start_ (n := 19) (S := fun w' => w'.cell? ⟨gb203, 0, none⟩ = some (.int .i64 ((rd_T69 l0 x10_1).f0)) ∧ w'.cell? ⟨gb203, 1, none⟩ = some (.int .i64 ((rd_T69 l0 x10_1).f1))) (ds := []) #[false, false, false, false, false, false, false, false, false, false, false, false, false, false, false, false, false, false, false] (w110_) rfl rfl ⟨(blk_cell BK203.out 0).trans rfl, (blk_cell BK203.out 1).trans rfl⟩ (fun hHeld => ?_); refine with_tabW spec_ixGood.tab6 spec_ixGood.bits6 (fun HT_ HW_ => ?_)
        generalize w30.drew = w31 at BK203 HB hHeld ⊢
        refine take_ (i := 0) (N := some 15) (v := ?_) (a' := ?_) (mz_ [1,18]) rfl rfl (take_ofW HT_.out HW_.out (w110_)) (fun _ _ _ h => h) (Or.inl ⟨by rfl, ?_⟩) hHeld ?_ ?_
        rotate_left
        ·rintro w' ⟨s0, s1⟩
         go_simp
         with_reducible rfl
        rotate_left
        ·simp only [Act.put, usz_, utz_, uvz_, i64_w, i32_w]
         rfl
        refine one_ (i := 1) (N := some 16) (mz_ [2,17]) rfl rfl (one_of HT_.out (w110_)) (by decide) (fun K hK => ?_)
        refine goes_ Tryz.func131 (w110_) rfl #[.agg #[.int .i64 ((rd_T69 l0 x10_1).f0), .int .i64 ((rd_T69 l0 x10_1).f1)]] (by rfl) rfl rfl maz_ ?_
        with_reducible refine (spec_ixRange.calls ((rd_T69 l0 x10_1).f0) ((rd_T69 l0 x10_1).f1) false _ A6.out).mono ?_
        rintro e w32 ⟨rfl, hb⟩
        refine ⟨_, rfl, ?_⟩
        have n1_ := Az_ (btz_ (w40_) hb)
        clear HB
        replace BK203 := Az_ (ukbz_ BK203.out hb)
        have HB := n1_
        clear n1_
        clear hb
        refine hK.out _ _ ⟨(blk_cell BK203.out 0).trans rfl, (blk_cell BK203.out 1).trans rfl⟩ (fun hHeld => ?_)
        clear hK K
        refine norm_ (a' := ?_) ?_ ?_
        rotate_left
        ·show Act.put _ (some 16) _ = _
         simp only [Act.put, usz_, utz_, uvz_, i64_w, i32_w]
         rfl
        refine pure_ (i := 2) (N := some 17) (v := ?_) (a' := ?_) (mz_ [3,16]) rfl rfl (any_of HT_.out (w110_)) (fun _ _ _ h => h) (Or.inl ⟨by rfl, ?_⟩) ?_ ?_
        rotate_left
        ·intro w'
         go_simp
         with_reducible rfl
        rotate_left
        ·simp only [Act.put, usz_, utz_, uvz_, i64_w, i32_w]
         rfl
        refine pure_ (i := 3) (N := some 18) (v := ?_) (a' := ?_) (mz_ [4,15]) rfl rfl (any_of HT_.out (w110_)) (fun _ _ _ h => h) (Or.inl ⟨by rfl, ?_⟩) ?_ ?_
        rotate_left
        ·intro w'
         go_simp
         with_reducible rfl
        rotate_left
        ·simp only [Act.put, usz_, utz_, uvz_, i64_w, i32_w]
         rfl
        refine pure_ (i := 4) (N := some 19) (v := undef) (a' := ?_) (mz_ [5,14]) rfl rfl (any_of HT_.out (w110_)) (fun _ _ _ h => h) (Or.inr ⟨by rfl, rfl⟩) ?_ ?_
        rotate_left
        ·simp only [Act.put, usz_, utz_, uvz_, i64_w, i32_w]
         rfl
        refine pure_ (i := 5) (N := some 20) (v := undef) (a' := ?_) (mz_ [6,13]) rfl rfl (any_of HT_.out (w110_)) (fun _ _ _ h => h) (Or.inr ⟨by rfl, rfl⟩) ?_ ?_
        rotate_left
        ·simp only [Act.put, usz_, utz_, uvz_, i64_w, i32_w]
         rfl
        refine pure_ (i := 6) (N := some 21) (v := undef) (a' := ?_) (mz_ [7,12]) rfl rfl (any_of HT_.out (w110_)) (fun _ _ _ h => h) (Or.inr ⟨by rfl, rfl⟩) ?_ ?_
        rotate_left
        ·simp only [Act.put, usz_, utz_, uvz_, i64_w, i32_w]
         rfl
        refine pure_ (i := 7) (N := some 22) (v := undef) (a' := ?_) (mz_ [8,11]) rfl rfl (any_of HT_.out (w110_)) (fun _ _ _ h => h) (Or.inr ⟨by rfl, rfl⟩) ?_ ?_
        rotate_left
        ·simp only [Act.put, usz_, utz_, uvz_, i64_w, i32_w]
         rfl
        refine pure_ (i := 8) (N := some 23) (v := undef) (a' := ?_) (mz_ [9,10]) rfl rfl (any_of HT_.out (w110_)) (fun _ _ _ h => h) (Or.inr ⟨by rfl, rfl⟩) ?_ ?_
        rotate_left
        ·simp only [Act.put, usz_, utz_, uvz_, i64_w, i32_w]
         rfl
        refine pure_ (i := 9) (N := some 24) (v := undef) (a' := ?_) (mz_ [10,9]) rfl rfl (any_of HT_.out (w110_)) (fun _ _ _ h => h) (Or.inr ⟨by rfl, rfl⟩) ?_ ?_
        rotate_left
        ·simp only [Act.put, usz_, utz_, uvz_, i64_w, i32_w]
         rfl
        refine pure_ (i := 10) (N := some 25) (v := undef) (a' := ?_) (mz_ [11,8]) rfl rfl (any_of HT_.out (w110_)) (fun _ _ _ h => h) (Or.inr ⟨by rfl, rfl⟩) ?_ ?_
        rotate_left
        ·simp only [Act.put, usz_, utz_, uvz_, i64_w, i32_w]
         rfl
        refine pure_ (i := 11) (N := some 26) (v := undef) (a' := ?_) (mz_ [12,7]) rfl rfl (any_of HT_.out (w110_)) (fun _ _ _ h => h) (Or.inr ⟨by rfl, rfl⟩) ?_ ?_
        rotate_left
        ·simp only [Act.put, usz_, utz_, uvz_, i64_w, i32_w]
         rfl
        refine pure_ (i := 12) (N := some 27) (v := undef) (a' := ?_) (mz_ [13,6]) rfl rfl (any_of HT_.out (w110_)) (fun _ _ _ h => h) (Or.inr ⟨by rfl, rfl⟩) ?_ ?_
        rotate_left
        ·simp only [Act.put, usz_, utz_, uvz_, i64_w, i32_w]
         rfl
        refine pure_ (i := 13) (N := some 28) (v := undef) (a' := ?_) (mz_ [14,5]) rfl rfl (any_of HT_.out (w110_)) (fun _ _ _ h => h) (Or.inr ⟨by rfl, rfl⟩) ?_ ?_
        rotate_left
        ·simp only [Act.put, usz_, utz_, uvz_, i64_w, i32_w]
         rfl
        refine pure_ (i := 14) (N := some 29) (v := undef) (a' := ?_) (mz_ [15,4]) rfl rfl (any_of HT_.out (w110_)) (fun _ _ _ h => h) (Or.inr ⟨by rfl, rfl⟩) ?_ ?_
        rotate_left
        ·simp only [Act.put, usz_, utz_, uvz_, i64_w, i32_w]
         rfl
        refine pure_ (i := 15) (N := some 30) (v := undef) (a' := ?_) (mz_ [16,3]) rfl rfl (any_of HT_.out (w110_)) (fun _ _ _ h => h) (Or.inr ⟨by rfl, rfl⟩) ?_ ?_
        rotate_left
        ·simp only [Act.put, usz_, utz_, uvz_, i64_w, i32_w]
         rfl
        refine pure_ (i := 16) (N := some 31) (v := undef) (a' := ?_) (mz_ [17,2]) rfl rfl (any_of HT_.out (w110_)) (fun _ _ _ h => h) (Or.inr ⟨by rfl, rfl⟩) ?_ ?_
        rotate_left
        ·simp only [Act.put, usz_, utz_, uvz_, i64_w, i32_w]
         rfl
        refine pure_ (i := 17) (N := some 32) (v := undef) (a' := ?_) (mz_ [18,1]) rfl rfl (any_of HT_.out (w110_)) (fun _ _ _ h => h) (Or.inr ⟨by rfl, rfl⟩) ?_ ?_
        rotate_left
        ·simp only [Act.put, usz_, utz_, uvz_, i64_w, i32_w]
         rfl
        refine pure_ (i := 18) (N := some 33) (v := ?_) (a' := ?_) (mz_ [19]) rfl rfl (any_of HT_.out (w110_)) (fun _ _ _ h => h) (Or.inl ⟨by rfl, ?_⟩) ?_ ?_
        rotate_left
        ·intro w'
         go_simp
         with_reducible rfl
        rotate_left
        ·simp only [Act.put, usz_, utz_, uvz_, i64_w, i32_w]
         rfl
        refine done_ (done_of HT_.out (w110_)) ?_
        try go_wp2
        go_ret
        exact ⟨w61_, w40_⟩
      ·rw [if_neg c5] at H
       exact absurd H (by simp)
     ·rw [if_neg c4] at H
      exact absurd H (by simp)
    ·rw [if_neg c3] at H
     have c3b0 := decide_eq_false c3
     clear c3
     obtain rfl := Option.some.inj H
     go_wp2
     go_ret
     exact ⟨w61_, w109_⟩

end Go.Proofs.YtppbpefehpbejaaGreatDoor.P
end

section
namespace Go.Proofs.YtppbpefehpbejaaGreatDoor.P
open Go.RowKit Go.Proofs.YtppbpefehpbejaaGreatDoorW.PrintWords Go.Proofs.YtppbpefehpbejaaGreatDoorW.PrintLast Go.Proofs.YtppbpefehpbejaaGreatDoorW.PrintMore
attribute [local go_sem] max2_int min2_int max_two min_two max_three min_three max_four min_four   -- for this text's walks alone
set_option linter.unusedVariables false
set_option linter.unusedSimpArgs false

mutual
def spec_ixBoth.j0 : Nat → List (S69) → List (S69) → Int → Bool → Option ((List (S69)) × Bool)
 | 0, _, _, _, _ => none
 | k + 1, x0, x1, x2, x18 => if x18 = true then (some (([] : List (S69)), false)) else ((spec_ixMarks.f k x0).bind fun t208 => ((spec_ixMarks.f k x1).bind fun t211 => (spec_ixBoth.l0 k x2 t208 t211 (t208.length : Int) 0)))
def spec_ixBoth.l0 : Nat → Int → List Bool → List Bool → Int → Int → Option ((List (S69)) × Bool)
 | 0, _, _, _, _, _ => none
 | k + 1, x2, x8, x9, x24, x25 => if x25 < x24 then (if x2 = 0 then (if 0 ≤ x25 then (if x25 < (x8.length : Int) then (if rdOf false x8 x25 = true then (spec_ixBoth.l0 k x2 (x8.set (x25 : Int).toNat true) x9 x24 (wrap64 (x25 + 1))) else (if x25 < (x9.length : Int) then (spec_ixBoth.l0 k x2 (x8.set (x25 : Int).toNat (rdOf false x9 x25)) x9 x24 (wrap64 (x25 + 1))) else (none))) else (none)) else (none)) else (if x2 = 1 then (if 0 ≤ x25 then (if x25 < (x8.length : Int) then (if rdOf false x8 x25 = true then (if x25 < (x9.length : Int) then (spec_ixBoth.l0 k x2 (x8.set (x25 : Int).toNat (rdOf false x9 x25)) x9 x24 (wrap64 (x25 + 1))) else (none)) else (spec_ixBoth.l0 k x2 (x8.set (x25 : Int).toNat false) x9 x24 (wrap64 (x25 + 1)))) else (none)) else (none)) else (if 0 ≤ x25 then (if x25 < (x8.length : Int) then (if rdOf false x8 x25 = true then (if x25 < (x9.length : Int) then (spec_ixBoth.l0 k x2 (x8.set (x25 : Int).toNat (!(rdOf false x9 x25))) x9 x24 (wrap64 (x25 + 1))) else (none)) else (spec_ixBoth.l0 k x2 (x8.set (x25 : Int).toNat false) x9 x24 (wrap64 (x25 + 1)))) else (none)) else (none)))) else ((spec_ixOf.f k x8).bind fun bt214 => (some (bt214.1, bt214.2)))
end
def spec_ixBoth.f (k : Nat) (l0 : List (S69)) (l1 : List (S69)) (a2 : Int) : Option ((List (S69)) × Bool) := (spec_ixGood.f k l0).bind fun t206 => (if t206 = true then ((spec_ixGood.f k l1).bind fun t207 => (spec_ixBoth.j0 k l0 l1 a2 (!t207))) else (spec_ixBoth.j0 k l0 l1 a2 true))
set_option maxHeartbeats 8000000 in
set_option maxRecDepth 100000 in
theorem spec_ixBoth.calls (k : Nat) (A0 : Option Addr) (c0 : Nat) (l0 : List (S69)) (A1 : Option Addr) (c1 : Nat) (l1 : List (S69)) (a2 : Int) (r1 : List (S69)) (r2 : Bool) (w : World) (hr0 : Kd.C k69 w A0 l0.length l0) (hc0 : l0.length ≤ c0) (hr1 : Kd.C k69 w A1 l1.length l1) (hc1 : l1.length ≤ c1) (h : spec_ixBoth.f k l0 l1 a2 = some (r1, r2)) :
  Calls Tryz.prog 120 #[.slice A0 l0.length c0, .slice A1 l1.length c1, .int .i64 a2] w fun e w' => ∃ v0_ : Value, e = .returned (.tuple #[v0_, .bool r2]) ∧ Kd.R k69 69 w' w.heap.size (fun _ => True) v0_ r1 ∧ Below w.heap.size w w' := by
 have HR0 := Az_ hr0
 have HC0 := Az_ hc0
 clear hr0 hc0
 have HR1 := Az_ hr1
 have HC1 := Az_ hc1
 clear hr1 hc1
 have HB := Az_ (Below.refl w.heap.size w)
 have H : ((spec_ixGood.f k l0).bind fun t206 => (if t206 = true then ((spec_ixGood.f k l1).bind fun t207 => (j0 k l0 l1 a2 (!t207))) else (j0 k l0 l1 a2 true))) = some (r1, r2) := h
 clear h
 have HC4 := Az_ H
 clear H
 go_enter Tryz.func120, Tryz.ntmps120
 go_upto_region 1 with (fail)
 go_cut [18] (fun v18 wc => ∃ (kq : Nat) (x18_3 : Bool), v18 = .bool x18_3 ∧ Aside0 (j0 kq l0 l1 a2 x18_3 = some (r1, r2)) ∧ Aside0 (kq ≤ k) ∧ Aside0 (Below w.heap.size w wc))
 case first =>
  have H := HC4.out
  clear HC4
  replace H := bqz_ H; obtain ⟨t206, A5, H⟩ := H
  replace H : (if t206 = true then ((spec_ixGood.f k l1).bind fun t207 => (j0 k l0 l1 a2 (!t207))) else (j0 k l0 l1 a2 true)) = some (r1, r2) := H
  by_cases c6 : t206 = true
  ·subst c6
   rw [if_pos rfl] at H
   replace H := bqz_ H; obtain ⟨t207, A7, H⟩ := H
   replace H : (j0 k l0 l1 a2 (!t207)) = some (r1, r2) := H
   have H' := Az_ H
   clear H
   go_wp2_with (first | ((with_reducible refine gate_callee (f := 136) rfl ?_); refine goesL_ (some 12) rfl rfl Tryz.func136 (w110_) rfl #[.slice A0 l0.length c0] rfl maz_ ?_; (with_reducible refine (spec_ixGood.calls k _ _ l0 true _ ?side1 ?side2 A5.out).mono ?_); (case side1 => exact ucz_ ((Kd.C_below HR0.out HB.out))); (case side2 => exact HC0.out); rintro e w8 ⟨rfl, hb⟩; refine ⟨_, rfl, ?_⟩; replace HB := Az_ (btz_ (ubz_ HB.out) hb); (try clear hb)) | (go_at_call 136; (with_reducible refine (spec_ixGood.calls k _ _ l1 t207 _ ?side1 ?side2 A7.out).mono ?_); (case side1 => exact ucz_ ((Kd.C_below HR1.out HB.out))); (case side2 => exact HC1.out); rintro e w9 ⟨rfl, hb⟩; replace HB := Az_ (btz_ (ubz_ HB.out) hb); (try clear hb)))
   go_meet
   case rel => exact ⟨_, (!t207), qaz_, H', ⟨w81_⟩, ⟨w109_⟩⟩
  ·replace c6 := Bool.eq_false_iff.mpr c6
   subst c6
   rw [if_neg nfz_] at H
   have H' := Az_ H
   clear H
   go_wp2_with (first | ((with_reducible refine gate_callee (f := 136) rfl ?_); refine goesL_ (some 12) rfl rfl Tryz.func136 (w110_) rfl #[.slice A0 l0.length c0] rfl maz_ ?_; (with_reducible refine (spec_ixGood.calls k _ _ l0 false _ ?side1 ?side2 A5.out).mono ?_); (case side1 => exact ucz_ ((Kd.C_below HR0.out HB.out))); (case side2 => exact HC0.out); rintro e w10 ⟨rfl, hb⟩; refine ⟨_, rfl, ?_⟩; replace HB := Az_ (btz_ (ubz_ HB.out) hb); (try clear hb)))
   go_meet
   case rel => exact ⟨_, (true), qaz_, H', ⟨w81_⟩, ⟨w109_⟩⟩
 case rest =>
  clear HC4
  obtain ⟨kq, x18_3, rfl, HA, HJ3, HB⟩ := hcut
  cases kq with
  | zero => exact absurd HA.out (by simp [j0])
  | succ kj3 =>
   have H := HA.out
   clear HA
   simp only [j0] at H
   by_cases c11 : x18_3 = true
   ·subst c11
    rw [if_pos rfl] at H
    simp only [Option.some.injEq, Prod.mk.injEq] at H
    obtain ⟨rfl, rfl⟩ := H
    go_wp2
    go_ret2
    exact ⟨_, w61_, w41_, w109_⟩
   ·replace c11 := Bool.eq_false_iff.mpr c11
    subst c11
    rw [if_neg nfz_] at H
    replace H := bqz_ H; obtain ⟨t208, A12, H⟩ := H
    replace H := bqz_ H; obtain ⟨t211, A13, H⟩ := H
    replace H : (spec_ixBoth.l0 kj3 a2 t208 t211 (t208.length : Int) 0) = some (r1, r2) := H
    have H' := Az_ H
    clear H
    go_wp2_with (first | ((with_reducible refine gate_callee (f := 133) rfl ?_); refine goesL_ (some 20) rfl rfl Tryz.func133 (w110_) rfl #[.slice A0 l0.length c0] rfl maz_ ?_; (with_reducible refine (spec_ixMarks.calls kj3 _ _ l0 t208 _ ?side1 ?side2 A12.out).mono ?_); (case side1 => exact ucz_ ((Kd.C_below HR0.out HB.out))); (case side2 => exact HC0.out); rintro e w14 ⟨v209, rfl, ho0, hb⟩; refine ⟨_, rfl, ?_⟩; have HO210 := Az_ (Kd.R_lower ho0 (below_size (ubz_ HB.out))); replace HB := Az_ (btz_ (ubz_ HB.out) hb); (try clear hb); (try clear ho0)) | ((with_reducible refine gate_callee (f := 133) rfl ?_); refine goesL_ (some 22) rfl rfl Tryz.func133 (w110_) rfl #[.slice A1 l1.length c1] rfl maz_ ?_; (with_reducible refine (spec_ixMarks.calls kj3 _ _ l1 t211 _ ?side1 ?side2 A13.out).mono ?_); (case side1 => exact ucz_ ((Kd.C_below HR1.out HB.out))); (case side2 => exact HC1.out); rintro e w15 ⟨v212, rfl, ho0, hb⟩; refine ⟨_, rfl, ?_⟩; have HO213 := Az_ (Kd.R_lower (Kd.R_new' ho0 (Kd.R_lt (by exact urz_ HO210.out))) (below_size (ubz_ HB.out))); replace HO210 := Az_ (rez_ (by exact urz_ HO210.out) (Kd.R_base ho0) hb); replace HB := Az_ (btz_ (ubz_ HB.out) hb); (try clear hb); (try clear ho0); obtain ⟨Ao16, co16, eo16⟩ := Kd.R_slice HO210.out; subst eo16))
    go_loopg [25] kj3 (fun kq v25 w' => ∃ (x8_2 : List Bool) (x25_2 : Int), v25 = .int .i64 x25_2 ∧ Aside0 (spec_ixBoth.l0 kq a2 x8_2 t211 (t208.length : Int) x25_2 = some (r1, r2)) ∧ Aside0 (kq ≤ kj3) ∧ Aside0 (Kd.R Kd.bool 4 w' w.heap.size (fun k_ => some k_ ≠ (v212 : Value).ownBlock) (.slice Ao16 t208.length co16) x8_2) ∧ Aside0 (Kd.R Kd.bool 4 w' w.heap.size (fun k_ => some k_ ≠ ((.slice Ao16 t208.length co16) : Value).ownBlock) v212 t211) ∧ Aside0 (Below w.heap.size w w'))
    case atStart => exact ⟨(t208), (0), qaz_, H', ⟨Nat.le_refl _⟩, ⟨by (with_reducible repeat (first | apply raz_ | apply rnz_ | apply rdz_)); exact Kd.R_mono HO210.out (fun _ hk => hk.2)⟩, ⟨by (with_reducible repeat (first | apply raz_ | apply rnz_ | apply rdz_)); exact Kd.R_mono HO213.out (fun _ hk => hk.2)⟩, ⟨w109_⟩⟩
    case round =>
     clear H'
     obtain ⟨x8_2, x25_2, rfl, HA, HK2, HO_8, HO_9, HB⟩ := hrel
     have hl8_2 := (Kd.R_reads' HO_8.out).1
     rw [hl8_2] at HO_8
     (try simp only [hl8_2])
     (try simp only [hl8_2] at HO_9)
     cases gk with
     | zero => exact absurd HA.out (by simp [spec_ixBoth.l0])
     | succ k2 =>
      have H := HA.out
      clear HA
      simp only [spec_ixBoth.l0] at H
      by_cases c17 : x25_2 < (t208.length : Int)
      ·rw [if_pos c17] at H
       have c17b0 := decide_eq_true c17
       clear c17
       by_cases c18 : a2 = 0
       ·rw [if_pos c18] at H
        have c18b0 : (a2 == 0) = true := beq_iff_eq.mpr c18
        have c18b1 : (a2 != 0) = false := bne_eq_false_iff_eq.mpr c18
        clear c18
        by_cases c19 : 0 ≤ x25_2
        ·rw [if_pos c19] at H
         have c19b0 := decide_eq_true c19
         clear c19
         by_cases c20 : x25_2 < (x8_2.length : Int)
         ·rw [if_pos c20] at H
          have c20b0 := decide_eq_true c20
          clear c20
          obtain ⟨bq21, hbq21⟩ : ∃ b_ : Bool, b_ = (rdOf false x8_2 x25_2) := ⟨_, rfl⟩
          replace H : (if bq21 = true then (spec_ixBoth.l0 k2 a2 (x8_2.set (x25_2 : Int).toNat true) t211 (t208.length : Int) (wrap64 (x25_2 + 1))) else (if x25_2 < (t211.length : Int) then (spec_ixBoth.l0 k2 a2 (x8_2.set (x25_2 : Int).toNat (rdOf false t211 x25_2)) t211 (t208.length : Int) (wrap64 (x25_2 + 1))) else (none))) = some (r1, r2) := by rw [← hbq21] at H; exact H
          have Nbq21 := Az_ hbq21
          clear hbq21
          by_cases c22 : bq21 = true
          ·subst c22
           rw [if_pos rfl] at H
           obtain ⟨y219, hy219⟩ : ∃ y_ : List Bool, y_ = (x8_2.set (x25_2 : Int).toNat true) := ⟨_, rfl⟩
           replace H : (spec_ixBoth.l0 k2 a2 y219 t211 (t208.length : Int) (wrap64 (x25_2 + 1))) = some (r1, r2) := by first | (rw [hy219]; with_reducible exact H) | (have H2_ := (Option.bind_some _ _).symm.trans H; rw [hy219]; with_reducible exact H2_) | (have H2_ := (Option.bind_some _ _).symm.trans H; with_reducible exact H2_) | with_reducible exact H | (rw [hy219]; exact H) | exact H
           have Ny219 := Az_ hy219
           clear hy219
           have H' := Az_ H
           clear H
           have p218 : 0 ≤ (x25_2 : Int) := of_decide_eq_true asz_
           have q218 : x25_2 < (x8_2.length : Int) := of_decide_eq_true asz_
           obtain ⟨ad218, e218, hx218_0⟩ := Kd.at_bool (Kd.R_reads' HO_8.out).2.2 x25_2 p218 q218
           (try rw [← Nbq21.out] at hx218_0)
           cases e218
           replace p218 := eq_true p218
           replace q218 := eq_true q218
           have p23 : 0 ≤ (x25_2 : Int) := of_decide_eq_true asz_
           have q23 : (x25_2 : Int) < ((x8_2.length : Int) : Int) := of_decide_eq_true asz_
           obtain ⟨go23, co23, eo23, gb23, gl23, cl23, HG23⟩ := Kd.R_form HO_8.out (by omega)
           (first | cases eo23 | (injection eo23 with ea_ en_ ec_; (first | subst ea_ | (injection ea_ with ea_; subst ea_)); subst ec_; clear en_))
           have GB23 := Az_ gb23
           have GG23 := Az_ HG23
           clear gb23 gl23 HG23
           (first | simp only [add_plain] at hx218_0 | skip)
           obtain ⟨hx23_0, hf23_0⟩ := Kd.R_celln false HO_8.out (x25_2 : Int) p23 q23
           replace p23 := eq_true p23
           replace q23 := eq_true q23
           have HP24 := Kd.R_putg HO_8.out (x25_2 : Int) true
           go_wp2_with (first | ((with_reducible refine gate_store (t := 4) (p := 57) rfl ?_); refine store_event (t := 4) (p := 57) (v := ?vo_w25) (w1 := (wr.setCell ⟨go23, (x25_2 : Int).toNat, none⟩ (.bool true))) ?hg ?ho ?hn ?hr ?_; (case ho => rfl); (case hg => rfl); (case hn => rfl); (case hr => first | (go_simp; done) | (go_simp; rfl)); intro w25 hw; have hg : wr.grownBy w25 (some go23) := (by rw [hw]; exact HP24.2); have hp_ : Kd.R Kd.bool 4 w25 w.heap.size (fun k_ => some k_ ≠ (v212 : Value).ownBlock) (.slice (some ⟨go23, 0, none⟩) x8_2.length co16) y219 := (by rw [hw, Ny219.out]; exact HP24.1); clear HP24; replace HO_8 := Az_ (hp_); replace HO_9 := Az_ (Kd.R_after (v := (.slice (some ⟨go23, 0, none⟩) x8_2.length co16)) (v1 := (.slice (some ⟨go23, 0, none⟩) x8_2.length co16)) (ok := (fun _ => True)) (w48_) hg (.inl rfl)); replace HB := Az_ ((by rw [hw]; exact bsz_ (HB.out) GB23.out : Below w.heap.size w w25)); clear hg hw hp_))
           (try simp only [← hl8_2])
           go_roundg k2
           case measure => have := HJ3.out; have := HK2.out; omega
           case rel => exact ⟨(y219), (wrap64 (x25_2 + 1)), qaz_, H', ⟨w80_⟩, ⟨w55_⟩, ⟨w42_⟩, ⟨w109_⟩⟩
          ·replace c22 := Bool.eq_false_iff.mpr c22
           subst c22
           rw [if_neg nfz_] at H
           by_cases c26 : x25_2 < (t211.length : Int)
           ·rw [if_pos c26] at H
            have c26b0 := decide_eq_true c26
            clear c26
            obtain ⟨y221, hy221⟩ : ∃ y_ : List Bool, y_ = (x8_2.set (x25_2 : Int).toNat (rdOf false t211 x25_2)) := ⟨_, rfl⟩
            replace H : (spec_ixBoth.l0 k2 a2 y221 t211 (t208.length : Int) (wrap64 (x25_2 + 1))) = some (r1, r2) := by first | (rw [hy221]; with_reducible exact H) | (have H2_ := (Option.bind_some _ _).symm.trans H; rw [hy221]; with_reducible exact H2_) | (have H2_ := (Option.bind_some _ _).symm.trans H; with_reducible exact H2_) | with_reducible exact H | (rw [hy221]; exact H) | exact H
            have Ny221 := Az_ hy221
            clear hy221
            have H' := Az_ H
            clear H
            have p218 : 0 ≤ (x25_2 : Int) := of_decide_eq_true asz_
            have q218 : x25_2 < (x8_2.length : Int) := of_decide_eq_true asz_
            obtain ⟨ad218, e218, hx218_0⟩ := Kd.at_bool (Kd.R_reads' HO_8.out).2.2 x25_2 p218 q218
            (try rw [← Nbq21.out] at hx218_0)
            cases e218
            replace p218 := eq_true p218
            replace q218 := eq_true q218
            obtain ⟨Ao28, co28, eo28⟩ := Kd.R_slice HO_9.out
            subst eo28
            have p220 : 0 ≤ (x25_2 : Int) := of_decide_eq_true asz_
            have q220 : x25_2 < (t211.length : Int) := of_decide_eq_true asz_
            obtain ⟨ad220, e220, hx220_0⟩ := Kd.at_bool (Kd.R_reads' HO_9.out).2.2 x25_2 p220 q220
            (try rw [← Nbq21.out] at hx220_0)
            cases e220
            replace p220 := eq_true p220
            replace q220 := eq_true q220
            have p27 : 0 ≤ (x25_2 : Int) := of_decide_eq_true asz_
            have q27 : (x25_2 : Int) < ((x8_2.length : Int) : Int) := of_decide_eq_true asz_
            obtain ⟨go27, co27, eo27, gb27, gl27, cl27, HG27⟩ := Kd.R_form HO_8.out (by omega)
            (first | cases eo27 | (injection eo27 with ea_ en_ ec_; (first | subst ea_ | (injection ea_ with ea_; subst ea_)); subst ec_; clear en_))
            have GB27 := Az_ gb27
            have GG27 := Az_ HG27
            clear gb27 gl27 HG27
            (first | simp only [add_plain] at hx218_0 | skip)
            obtain ⟨hx27_0, hf27_0⟩ := Kd.R_celln false HO_8.out (x25_2 : Int) p27 q27
            replace p27 := eq_true p27
            replace q27 := eq_true q27
            have HP29 := Kd.R_putg HO_8.out (x25_2 : Int) (rdOf false t211 x25_2)
            go_wp2_with (first | ((with_reducible refine gate_store (t := 4) (p := 57) rfl ?_); refine store_event (t := 4) (p := 57) (v := ?vo_w30) (w1 := (wr.setCell ⟨go27, (x25_2 : Int).toNat, none⟩ (.bool (rdOf false t211 x25_2)))) ?hg ?ho ?hn ?hr ?_; (case ho => rfl); (case hg => rfl); (case hn => rfl); (case hr => first | (go_simp; done) | (go_simp; rfl)); intro w30 hw; have hg : wr.grownBy w30 (some go27) := (by rw [hw]; exact HP29.2); have hp_ : Kd.R Kd.bool 4 w30 w.heap.size (fun k_ => some k_ ≠ (.slice (some ad220) t211.length co28 : Value).ownBlock) (.slice (some ⟨go27, 0, none⟩) x8_2.length co16) y221 := (by rw [hw, Ny221.out]; exact HP29.1); clear HP29; replace HO_8 := Az_ (hp_); replace HO_9 := Az_ (Kd.R_after (v := (.slice (some ⟨go27, 0, none⟩) x8_2.length co16)) (v1 := (.slice (some ⟨go27, 0, none⟩) x8_2.length co16)) (ok := (fun _ => True)) (w48_) hg (.inl rfl)); replace HB := Az_ ((by rw [hw]; exact bsz_ (HB.out) GB27.out : Below w.heap.size w w30)); clear hg hw hp_))
            (try simp only [← hl8_2])
            go_roundg k2
            case measure => have := HJ3.out; have := HK2.out; omega
            case rel => exact ⟨(y221), (wrap64 (x25_2 + 1)), qaz_, H', ⟨w80_⟩, ⟨w55_⟩, ⟨w42_⟩, ⟨w109_⟩⟩
           ·rw [if_neg c26] at H
            exact absurd H (by simp)
         ·rw [if_neg c20] at H
          exact absurd H (by simp)
        ·rw [if_neg c19] at H
         exact absurd H (by simp)
       ·rw [if_neg c18] at H
        have c18b0 : (a2 == 0) = false := beq_eq_false_iff_ne.mpr c18
        have c18b1 : (a2 != 0) = true := bne_iff_ne.mpr c18
        by_cases c31 : a2 = 1
        ·rw [if_pos c31] at H
         have c31b0 : (a2 == 1) = true := beq_iff_eq.mpr c31
         have c31b1 : (a2 != 1) = false := bne_eq_false_iff_eq.mpr c31
         clear c31
         by_cases c32 : 0 ≤ x25_2
         ·rw [if_pos c32] at H
          have c32b0 := decide_eq_true c32
          clear c32
          by_cases c33 : x25_2 < (x8_2.length : Int)
          ·rw [if_pos c33] at H
           have c33b0 := decide_eq_true c33
           clear c33
           obtain ⟨bq34, hbq34⟩ : ∃ b_ : Bool, b_ = (rdOf false x8_2 x25_2) := ⟨_, rfl⟩
           replace H : (if bq34 = true then (if x25_2 < (t211.length : Int) then (spec_ixBoth.l0 k2 a2 (x8_2.set (x25_2 : Int).toNat (rdOf false t211 x25_2)) t211 (t208.length : Int) (wrap64 (x25_2 + 1))) else (none)) else (spec_ixBoth.l0 k2 a2 (x8_2.set (x25_2 : Int).toNat false) t211 (t208.length : Int) (wrap64 (x25_2 + 1)))) = some (r1, r2) := by rw [← hbq34] at H; exact H
           have Nbq34 := Az_ hbq34
           clear hbq34
           by_cases c35 : bq34 = true
           ·subst c35
            rw [if_pos rfl] at H
            by_cases c36 : x25_2 < (t211.length : Int)
            ·rw [if_pos c36] at H
             have c36b0 := decide_eq_true c36
             clear c36
             obtain ⟨y224, hy224⟩ : ∃ y_ : List Bool, y_ = (x8_2.set (x25_2 : Int).toNat (rdOf false t211 x25_2)) := ⟨_, rfl⟩
             replace H : (spec_ixBoth.l0 k2 a2 y224 t211 (t208.length : Int) (wrap64 (x25_2 + 1))) = some (r1, r2) := by first | (rw [hy224]; with_reducible exact H) | (have H2_ := (Option.bind_some _ _).symm.trans H; rw [hy224]; with_reducible exact H2_) | (have H2_ := (Option.bind_some _ _).symm.trans H; with_reducible exact H2_) | with_reducible exact H | (rw [hy224]; exact H) | exact H
             have Ny224 := Az_ hy224
             clear hy224
             have H' := Az_ H
             clear H
             have p222 : 0 ≤ (x25_2 : Int) := of_decide_eq_true asz_
             have q222 : x25_2 < (x8_2.length : Int) := of_decide_eq_true asz_
             obtain ⟨ad222, e222, hx222_0⟩ := Kd.at_bool (Kd.R_reads' HO_8.out).2.2 x25_2 p222 q222
             (try rw [← Nbq34.out] at hx222_0)
             cases e222
             replace p222 := eq_true p222
             replace q222 := eq_true q222
             obtain ⟨Ao38, co38, eo38⟩ := Kd.R_slice HO_9.out
             subst eo38
             have p223 : 0 ≤ (x25_2 : Int) := of_decide_eq_true asz_
             have q223 : x25_2 < (t211.length : Int) := of_decide_eq_true asz_
             obtain ⟨ad223, e223, hx223_0⟩ := Kd.at_bool (Kd.R_reads' HO_9.out).2.2 x25_2 p223 q223
             (try rw [← Nbq34.out] at hx223_0)
             cases e223
             replace p223 := eq_true p223
             replace q223 := eq_true q223
             have p37 : 0 ≤ (x25_2 : Int) := of_decide_eq_true asz_
             have q37 : (x25_2 : Int) < ((x8_2.length : Int) : Int) := of_decide_eq_true asz_
             obtain ⟨go37, co37, eo37, gb37, gl37, cl37, HG37⟩ := Kd.R_form HO_8.out (by omega)
             (first | cases eo37 | (injection eo37 with ea_ en_ ec_; (first | subst ea_ | (injection ea_ with ea_; subst ea_)); subst ec_; clear en_))
             have GB37 := Az_ gb37
             have GG37 := Az_ HG37
             clear gb37 gl37 HG37
             (first | simp only [add_plain] at hx222_0 | skip)
             obtain ⟨hx37_0, hf37_0⟩ := Kd.R_celln false HO_8.out (x25_2 : Int) p37 q37
             replace p37 := eq_true p37
             replace q37 := eq_true q37
             have HP39 := Kd.R_putg HO_8.out (x25_2 : Int) (rdOf false t211 x25_2)
             go_wp2_with (first | ((with_reducible refine gate_store (t := 4) (p := 72) rfl ?_); refine store_event (t := 4) (p := 72) (v := ?vo_w40) (w1 := (wr.setCell ⟨go37, (x25_2 : Int).toNat, none⟩ (.bool (rdOf false t211 x25_2)))) ?hg ?ho ?hn ?hr ?_; (case ho => rfl); (case hg => rfl); (case hn => rfl); (case hr => first | (go_simp; done) | (go_simp; rfl)); intro w40 hw; have hg : wr.grownBy w40 (some go37) := (by rw [hw]; exact HP39.2); have hp_ : Kd.R Kd.bool 4 w40 w.heap.size (fun k_ => some k_ ≠ (.slice (some ad223) t211.length co38 : Value).ownBlock) (.slice (some ⟨go37, 0, none⟩) x8_2.length co16) y224 := (by rw [hw, Ny224.out]; exact HP39.1); clear HP39; replace HO_8 := Az_ (hp_); replace HO_9 := Az_ (Kd.R_after (v := (.slice (some ⟨go37, 0, none⟩) x8_2.length co16)) (v1 := (.slice (some ⟨go37, 0, none⟩) x8_2.length co16)) (ok := (fun _ => True)) (w48_) hg (.inl rfl)); replace HB := Az_ ((by rw [hw]; exact bsz_ (HB.out) GB37.out : Below w.heap.size w w40)); clear hg hw hp_))
             (try simp only [← hl8_2])
             go_roundg k2
             case measure => have := HJ3.out; have := HK2.out; omega
             case rel => exact ⟨(y224), (wrap64 (x25_2 + 1)), qaz_, H', ⟨w80_⟩, ⟨w55_⟩, ⟨w42_⟩, ⟨w109_⟩⟩
            ·rw [if_neg c36] at H
             exact absurd H (by simp)
           ·replace c35 := Bool.eq_false_iff.mpr c35
            subst c35
            rw [if_neg nfz_] at H
            obtain ⟨y225, hy225⟩ : ∃ y_ : List Bool, y_ = (x8_2.set (x25_2 : Int).toNat false) := ⟨_, rfl⟩
            replace H : (spec_ixBoth.l0 k2 a2 y225 t211 (t208.length : Int) (wrap64 (x25_2 + 1))) = some (r1, r2) := by first | (rw [hy225]; with_reducible exact H) | (have H2_ := (Option.bind_some _ _).symm.trans H; rw [hy225]; with_reducible exact H2_) | (have H2_ := (Option.bind_some _ _).symm.trans H; with_reducible exact H2_) | with_reducible exact H | (rw [hy225]; exact H) | exact H
            have Ny225 := Az_ hy225
            clear hy225
            have H' := Az_ H
            clear H
            have p222 : 0 ≤ (x25_2 : Int) := of_decide_eq_true asz_
            have q222 : x25_2 < (x8_2.length : Int) := of_decide_eq_true asz_
            obtain ⟨ad222, e222, hx222_0⟩ := Kd.at_bool (Kd.R_reads' HO_8.out).2.2 x25_2 p222 q222
            (try rw [← Nbq34.out] at hx222_0)
            cases e222
            replace p222 := eq_true p222
            replace q222 := eq_true q222
            have p41 : 0 ≤ (x25_2 : Int) := of_decide_eq_true asz_
            have q41 : (x25_2 : Int) < ((x8_2.length : Int) : Int) := of_decide_eq_true asz_
            obtain ⟨go41, co41, eo41, gb41, gl41, cl41, HG41⟩ := Kd.R_form HO_8.out (by omega)
            (first | cases eo41 | (injection eo41 with ea_ en_ ec_; (first | subst ea_ | (injection ea_ with ea_; subst ea_)); subst ec_; clear en_))
            have GB41 := Az_ gb41
            have GG41 := Az_ HG41
            clear gb41 gl41 HG41
            (first | simp only [add_plain] at hx222_0 | skip)
            obtain ⟨hx41_0, hf41_0⟩ := Kd.R_celln false HO_8.out (x25_2 : Int) p41 q41
            replace p41 := eq_true p41
            replace q41 := eq_true q41
            have HP42 := Kd.R_putg HO_8.out (x25_2 : Int) false
            go_wp2_with (first | ((with_reducible refine gate_store (t := 4) (p := 72) rfl ?_); refine store_event (t := 4) (p := 72) (v := ?vo_w43) (w1 := (wr.setCell ⟨go41, (x25_2 : Int).toNat, none⟩ (.bool false))) ?hg ?ho ?hn ?hr ?_; (case ho => rfl); (case hg => rfl); (case hn => rfl); (case hr => first | (go_simp; done) | (go_simp; rfl)); intro w43 hw; have hg : wr.grownBy w43 (some go41) := (by rw [hw]; exact HP42.2); have hp_ : Kd.R Kd.bool 4 w43 w.heap.size (fun k_ => some k_ ≠ (v212 : Value).ownBlock) (.slice (some ⟨go41, 0, none⟩) x8_2.length co16) y225 := (by rw [hw, Ny225.out]; exact HP42.1); clear HP42; replace HO_8 := Az_ (hp_); replace HO_9 := Az_ (Kd.R_after (v := (.slice (some ⟨go41, 0, none⟩) x8_2.length co16)) (v1 := (.slice (some ⟨go41, 0, none⟩) x8_2.length co16)) (ok := (fun _ => True)) (w48_) hg (.inl rfl)); replace HB := Az_ ((by rw [hw]; exact bsz_ (HB.out) GB41.out : Below w.heap.size w w43)); clear hg hw hp_))
            (try simp only [← hl8_2])
            go_roundg k2
            case measure => have := HJ3.out; have := HK2.out; omega
            case rel => exact ⟨(y225), (wrap64 (x25_2 + 1)), qaz_, H', ⟨w80_⟩, ⟨w55_⟩, ⟨w42_⟩, ⟨w109_⟩⟩
          ·rw [if_neg c33] at H
           exact absurd H (by simp)
         ·rw [if_neg c32] at H
          exact absurd H (by simp)
        ·rw [if_neg c31] at H
         have c31b0 : (a2 == 1) = false := beq_eq_false_iff_ne.mpr c31
         have c31b1 : (a2 != 1) = true := bne_iff_ne.mpr c31
         by_cases c44 : 0 ≤ x25_2
         ·rw [if_pos c44] at H
          have c44b0 := decide_eq_true c44
          clear c44
          by_cases c45 : x25_2 < (x8_2.length : Int)
          ·rw [if_pos c45] at H
           have c45b0 := decide_eq_true c45
           clear c45
           obtain ⟨bq46, hbq46⟩ : ∃ b_ : Bool, b_ = (rdOf false x8_2 x25_2) := ⟨_, rfl⟩
           replace H : (if bq46 = true then (if x25_2 < (t211.length : Int) then (spec_ixBoth.l0 k2 a2 (x8_2.set (x25_2 : Int).toNat (!(rdOf false t211 x25_2))) t211 (t208.length : Int) (wrap64 (x25_2 + 1))) else (none)) else (spec_ixBoth.l0 k2 a2 (x8_2.set (x25_2 : Int).toNat false) t211 (t208.length : Int) (wrap64 (x25_2 + 1)))) = some (r1, r2) := by rw [← hbq46] at H; exact H
           have Nbq46 := Az_ hbq46
           clear hbq46
           by_cases c47 : bq46 = true
           ·subst c47
            rw [if_pos rfl] at H
            by_cases c48 : x25_2 < (t211.length : Int)
            ·rw [if_pos c48] at H
             have c48b0 := decide_eq_true c48
             clear c48
             obtain ⟨y228, hy228⟩ : ∃ y_ : List Bool, y_ = (x8_2.set (x25_2 : Int).toNat (!(rdOf false t211 x25_2))) := ⟨_, rfl⟩
             replace H : (spec_ixBoth.l0 k2 a2 y228 t211 (t208.length : Int) (wrap64 (x25_2 + 1))) = some (r1, r2) := by first | (rw [hy228]; with_reducible exact H) | (have H2_ := (Option.bind_some _ _).symm.trans H; rw [hy228]; with_reducible exact H2_) | (have H2_ := (Option.bind_some _ _).symm.trans H; with_reducible exact H2_) | with_reducible exact H | (rw [hy228]; exact H) | exact H
             have Ny228 := Az_ hy228
             clear hy228
             have H' := Az_ H
             clear H
             have p226 : 0 ≤ (x25_2 : Int) := of_decide_eq_true asz_
             have q226 : x25_2 < (x8_2.length : Int) := of_decide_eq_true asz_
             obtain ⟨ad226, e226, hx226_0⟩ := Kd.at_bool (Kd.R_reads' HO_8.out).2.2 x25_2 p226 q226
             (try rw [← Nbq46.out] at hx226_0)
             cases e226
             replace p226 := eq_true p226
             replace q226 := eq_true q226
             obtain ⟨Ao50, co50, eo50⟩ := Kd.R_slice HO_9.out
             subst eo50
             have p227 : 0 ≤ (x25_2 : Int) := of_decide_eq_true asz_
             have q227 : x25_2 < (t211.length : Int) := of_decide_eq_true asz_
             obtain ⟨ad227, e227, hx227_0⟩ := Kd.at_bool (Kd.R_reads' HO_9.out).2.2 x25_2 p227 q227
             (try rw [← Nbq46.out] at hx227_0)
             cases e227
             replace p227 := eq_true p227
             replace q227 := eq_true q227
             have p49 : 0 ≤ (x25_2 : Int) := of_decide_eq_true asz_
             have q49 : (x25_2 : Int) < ((x8_2.length : Int) : Int) := of_decide_eq_true asz_
             obtain ⟨go49, co49, eo49, gb49, gl49, cl49, HG49⟩ := Kd.R_form HO_8.out (by omega)
             (first | cases eo49 | (injection eo49 with ea_ en_ ec_; (first | subst ea_ | (injection ea_ with ea_; subst ea_)); subst ec_; clear en_))
             have GB49 := Az_ gb49
             have GG49 := Az_ HG49
             clear gb49 gl49 HG49
             (first | simp only [add_plain] at hx226_0 | skip)
             obtain ⟨hx49_0, hf49_0⟩ := Kd.R_celln false HO_8.out (x25_2 : Int) p49 q49
             replace p49 := eq_true p49
             replace q49 := eq_true q49
             have HP51 := Kd.R_putg HO_8.out (x25_2 : Int) (!(rdOf false t211 x25_2))
             go_wp2_with (first | ((with_reducible refine gate_store (t := 4) (p := 42) rfl ?_); refine store_event (t := 4) (p := 42) (v := ?vo_w52) (w1 := (wr.setCell ⟨go49, (x25_2 : Int).toNat, none⟩ (.bool (!(rdOf false t211 x25_2))))) ?hg ?ho ?hn ?hr ?_; (case ho => rfl); (case hg => rfl); (case hn => rfl); (case hr => first | (go_simp; done) | (go_simp; rfl)); intro w52 hw; have hg : wr.grownBy w52 (some go49) := (by rw [hw]; exact HP51.2); have hp_ : Kd.R Kd.bool 4 w52 w.heap.size (fun k_ => some k_ ≠ (.slice (some ad227) t211.length co50 : Value).ownBlock) (.slice (some ⟨go49, 0, none⟩) x8_2.length co16) y228 := (by rw [hw, Ny228.out]; exact HP51.1); clear HP51; replace HO_8 := Az_ (hp_); replace HO_9 := Az_ (Kd.R_after (v := (.slice (some ⟨go49, 0, none⟩) x8_2.length co16)) (v1 := (.slice (some ⟨go49, 0, none⟩) x8_2.length co16)) (ok := (fun _ => True)) (w48_) hg (.inl rfl)); replace HB := Az_ ((by rw [hw]; exact bsz_ (HB.out) GB49.out : Below w.heap.size w w52)); clear hg hw hp_))
             (try simp only [← hl8_2])
             go_roundg k2
             case measure => have := HJ3.out; have := HK2.out; omega
             case rel => exact ⟨(y228), (wrap64 (x25_2 + 1)), qaz_, H', ⟨w80_⟩, ⟨w55_⟩, ⟨w42_⟩, ⟨w109_⟩⟩
            ·rw [if_neg c48] at H
             exact absurd H (by simp)
           ·replace c47 := Bool.eq_false_iff.mpr c47
            subst c47
            rw [if_neg nfz_] at H
            obtain ⟨y229, hy229⟩ : ∃ y_ : List Bool, y_ = (x8_2.set (x25_2 : Int).toNat false) := ⟨_, rfl⟩
            replace H : (spec_ixBoth.l0 k2 a2 y229 t211 (t208.length : Int) (wrap64 (x25_2 + 1))) = some (r1, r2) := by first | (rw [hy229]; with_reducible exact H) | (have H2_ := (Option.bind_some _ _).symm.trans H; rw [hy229]; with_reducible exact H2_) | (have H2_ := (Option.bind_some _ _).symm.trans H; with_reducible exact H2_) | with_reducible exact H | (rw [hy229]; exact H) | exact H
            have Ny229 := Az_ hy229
            clear hy229
            have H' := Az_ H
            clear H
            have p226 : 0 ≤ (x25_2 : Int) := of_decide_eq_true asz_
            have q226 : x25_2 < (x8_2.length : Int) := of_decide_eq_true asz_
            obtain ⟨ad226, e226, hx226_0⟩ := Kd.at_bool (Kd.R_reads' HO_8.out).2.2 x25_2 p226 q226
            (try rw [← Nbq46.out] at hx226_0)
            cases e226
            replace p226 := eq_true p226
            replace q226 := eq_true q226
            have p53 : 0 ≤ (x25_2 : Int) := of_decide_eq_true asz_
            have q53 : (x25_2 : Int) < ((x8_2.length : Int) : Int) := of_decide_eq_true asz_
            obtain ⟨go53, co53, eo53, gb53, gl53, cl53, HG53⟩ := Kd.R_form HO_8.out (by omega)
            (first | cases eo53 | (injection eo53 with ea_ en_ ec_; (first | subst ea_ | (injection ea_ with ea_; subst ea_)); subst ec_; clear en_))
            have GB53 := Az_ gb53
            have GG53 := Az_ HG53
            clear gb53 gl53 HG53
            (first | simp only [add_plain] at hx226_0 | skip)
            obtain ⟨hx53_0, hf53_0⟩ := Kd.R_celln false HO_8.out (x25_2 : Int) p53 q53
            replace p53 := eq_true p53
            replace q53 := eq_true q53
            have HP54 := Kd.R_putg HO_8.out (x25_2 : Int) false
            go_wp2_with (first | ((with_reducible refine gate_store (t := 4) (p := 42) rfl ?_); refine store_event (t := 4) (p := 42) (v := ?vo_w55) (w1 := (wr.setCell ⟨go53, (x25_2 : Int).toNat, none⟩ (.bool false))) ?hg ?ho ?hn ?hr ?_; (case ho => rfl); (case hg => rfl); (case hn => rfl); (case hr => first | (go_simp; done) | (go_simp; rfl)); intro w55 hw; have hg : wr.grownBy w55 (some go53) := (by rw [hw]; exact HP54.2); have hp_ : Kd.R Kd.bool 4 w55 w.heap.size (fun k_ => some k_ ≠ (v212 : Value).ownBlock) (.slice (some ⟨go53, 0, none⟩) x8_2.length co16) y229 := (by rw [hw, Ny229.out]; exact HP54.1); clear HP54; replace HO_8 := Az_ (hp_); replace HO_9 := Az_ (Kd.R_after (v := (.slice (some ⟨go53, 0, none⟩) x8_2.length co16)) (v1 := (.slice (some ⟨go53, 0, none⟩) x8_2.length co16)) (ok := (fun _ => True)) (w48_) hg (.inl rfl)); replace HB := Az_ ((by rw [hw]; exact bsz_ (HB.out) GB53.out : Below w.heap.size w w55)); clear hg hw hp_))
            (try simp only [← hl8_2])
            go_roundg k2
            case measure => have := HJ3.out; have := HK2.out; omega
            case rel => exact ⟨(y229), (wrap64 (x25_2 + 1)), qaz_, H', ⟨w80_⟩, ⟨w55_⟩, ⟨w42_⟩, ⟨w109_⟩⟩
          ·rw [if_neg c45] at H
           exact absurd H (by simp)
         ·rw [if_neg c44] at H
          exact absurd H (by simp)
      ·rw [if_neg c17] at H
       have c17b0 := decide_eq_false c17
       clear c17
       replace H := bqz_ H; obtain ⟨⟨t214, t215⟩, A56, H⟩ := H
       replace H : (some (t214, t215)) = some (r1, r2) := H
       simp only [Option.some.injEq, Prod.mk.injEq] at H
       obtain ⟨rfl, rfl⟩ := H
       (try rw [hl8_2] at c17b0)
       (try rw [hl8_2])
       go_wp2_with (first | ((with_reducible refine gate_callee (f := 132) rfl ?_); refine goesL_ (some 75) rfl rfl Tryz.func132 (w110_) rfl #[.slice Ao16 x8_2.length co16] rfl maz_ ?_; (with_reducible refine (spec_ixOf.calls k2 _ _ x8_2 t214 t215 _ ?side1 ?side2 A56.out).mono ?_); (case side1 => exact ucz_ ((Kd.R_reads' HO_8.out).2.2)); (case side2 => exact (Kd.R_reads' HO_8.out).2.1); rintro e w57 ⟨v216, rfl, ho0, hb⟩; refine ⟨_, rfl, ?_⟩; replace HO_8 := Az_ (Kd.R_below (by exact urz_ HO_8.out) hb); replace HO_9 := Az_ (Kd.R_below (by exact urz_ HO_9.out) hb); have HO217 := Az_ (Kd.R_lower ho0 (below_size (ubz_ HB.out))); replace HB := Az_ (btz_ (ubz_ HB.out) hb); (try clear hb); (try clear ho0)))
       go_ret2
       exact ⟨_, w61_, by (with_reducible repeat (first | apply raz_ | apply rnz_ | apply rdz_)); exact HO217.out, w109_⟩

end Go.Proofs.YtppbpefehpbejaaGreatDoor.P
end

section
namespace Go.Proofs.YtppbpefehpbejaaGreatDoor.P
open Go.RowKit Go.Proofs.YtppbpefehpbejaaGreatDoorW.PrintWords Go.Proofs.YtppbpefehpbejaaGreatDoorW.PrintLast Go.Proofs.YtppbpefehpbejaaGreatDoorW.PrintMore
attribute [local go_sem] max2_int min2_int max_two min_two max_three min_three max_four min_four   -- for this text's walks alone
set_option linter.unusedVariables false
set_option linter.unusedSimpArgs false

attribute [local go_sem high] eqA69
def spec_UnionRanges.f (k : Nat) (l0 : List (S69)) (l1 : List (S69)) : Option ((List (S69)) × Bool) := (spec_ixBoth.f k l0 l1 0).bind fun bt230 => (some (bt230.1, bt230.2))
set_option maxHeartbeats 8000000 in
set_option maxRecDepth 100000 in
theorem spec_UnionRanges.calls (k : Nat) (A0 : Option Addr) (c0 : Nat) (l0 : List (S69)) (A1 : Option Addr) (c1 : Nat) (l1 : List (S69)) (r1 : List (S69)) (r2 : Bool) (w : World) (hr0 : Kd.C k69 w A0 l0.length l0) (hc0 : l0.length ≤ c0) (hr1 : Kd.C k69 w A1 l1.length l1) (hc1 : l1.length ≤ c1) (h : spec_UnionRanges.f k l0 l1 = some (r1, r2)) :
  Calls Tryz.prog 36 #[.slice A0 l0.length c0, .slice A1 l1.length c1] w fun e w' => ∃ v0_ : Value, e = .returned (.tuple #[v0_, .bool r2]) ∧ Kd.R k69 69 w' w.heap.size (fun _ => True) v0_ r1 ∧ Below w.heap.size w w' := by
 have HR0 := Az_ hr0
 have HC0 := Az_ hc0
 clear hr0 hc0
 have HR1 := Az_ hr1
 have HC1 := Az_ hc1
 clear hr1 hc1
 have HB := Az_ (Below.refl w.heap.size w)
 have H : ((spec_ixBoth.f k l0 l1 0).bind fun bt230 => (some (bt230.1, bt230.2))) = some (r1, r2) := h
 clear h
 replace H := bqz_ H; obtain ⟨⟨t230, t231⟩, A3, H⟩ := H
 replace H : (some (t230, t231)) = some (r1, r2) := H
 simp only [Option.some.injEq, Prod.mk.injEq] at H
 obtain ⟨rfl, rfl⟩ := H
 go_enter Tryz.func36, Tryz.ntmps36
 go_wp2_with (first | ((with_reducible refine gate_callee (f := 120) rfl ?_); refine goesL_ (some 8) rfl rfl Tryz.func120 (w110_) rfl #[.slice A0 l0.length c0, .slice A1 l1.length c1, .int .i64 0] rfl maz_ ?_; (with_reducible refine (spec_ixBoth.calls k _ _ l0 _ _ l1 0 t230 t231 _ ?side1 ?side2 ?side3 ?side4 A3.out).mono ?_); (case side1 => exact ucz_ (HR0.out)); (case side2 => exact HC0.out); (case side3 => exact ucz_ (HR1.out)); (case side4 => exact HC1.out); rintro e w4 ⟨v232, rfl, ho0, hb⟩; refine ⟨_, rfl, ?_⟩; have HO233 := Az_ (Kd.R_lower ho0 (below_size (ubz_ HB.out))); replace HB := Az_ (btz_ (ubz_ HB.out) hb); (try clear hb); (try clear ho0)))
 go_ret2
 exact ⟨_, w61_, by (with_reducible repeat (first | apply raz_ | apply rnz_ | apply rdz_)); exact HO233.out, w109_⟩

def spec_CommonRanges.f (k : Nat) (l0 : List (S69)) (l1 : List (S69)) : Option ((List (S69)) × Bool) := (spec_ixBoth.f k l0 l1 1).bind fun bt234 => (some (bt234.1, bt234.2))
set_option maxHeartbeats 8000000 in
set_option maxRecDepth 100000 in
theorem spec_CommonRanges.calls (k : Nat) (A0 : Option Addr) (c0 : Nat) (l0 : List (S69)) (A1 : Option Addr) (c1 : Nat) (l1 : List (S69)) (r1 : List (S69)) (r2 : Bool) (w : World) (hr0 : Kd.C k69 w A0 l0.length l0) (hc0 : l0.length ≤ c0) (hr1 : Kd.C k69 w A1 l1.length l1) (hc1 : l1.length ≤ c1) (h : spec_CommonRanges.f k l0 l1 = some (r1, r2)) :
  Calls Tryz.prog 38 #[.slice A0 l0.length c0, .slice A1 l1.length c1] w fun e w' => ∃ v0_ : Value, e = .returned (.tuple #[v0_, .bool r2]) ∧ Kd.R k69 69 w' w.heap.size (fun _ => True) v0_ r1 ∧ Below w.heap.size w w' := by
 have HR0 := Az_ hr0
 have HC0 := Az_ hc0
 clear hr0 hc0
 have HR1 := Az_ hr1
 have HC1 := Az_ hc1
 clear hr1 hc1
 have HB := Az_ (Below.refl w.heap.size w)
 have H : ((spec_ixBoth.f k l0 l1 1).bind fun bt234 => (some (bt234.1, bt234.2))) = some (r1, r2) := h
 clear h
 replace H := bqz_ H; obtain ⟨⟨t234, t235⟩, A3, H⟩ := H
 replace H : (some (t234, t235)) = some (r1, r2) := H
 simp only [Option.some.injEq, Prod.mk.injEq] at H
 obtain ⟨rfl, rfl⟩ := H
 go_enter Tryz.func38, Tryz.ntmps38
 go_wp2_with (first | ((with_reducible refine gate_callee (f := 120) rfl ?_); refine goesL_ (some 8) rfl rfl Tryz.func120 (w110_) rfl #[.slice A0 l0.length c0, .slice A1 l1.length c1, .int .i64 1] rfl maz_ ?_; (with_reducible refine (spec_ixBoth.calls k _ _ l0 _ _ l1 1 t234 t235 _ ?side1 ?side2 ?side3 ?side4 A3.out).mono ?_); (case side1 => exact ucz_ (HR0.out)); (case side2 => exact HC0.out); (case side3 => exact ucz_ (HR1.out)); (case side4 => exact HC1.out); rintro e w4 ⟨v236, rfl, ho0, hb⟩; refine ⟨_, rfl, ?_⟩; have HO237 := Az_ (Kd.R_lower ho0 (below_size (ubz_ HB.out))); replace HB := Az_ (btz_ (ubz_ HB.out) hb); (try clear hb); (try clear ho0)))
 go_ret2
 exact ⟨_, w61_, by (with_reducible repeat (first | apply raz_ | apply rnz_ | apply rdz_)); exact HO237.out, w109_⟩

def spec_WithoutRanges.f (k : Nat) (l0 : List (S69)) (l1 : List (S69)) : Option ((List (S69)) × Bool) := (spec_ixBoth.f k l0 l1 2).bind fun bt238 => (some (bt238.1, bt238.2))
set_option maxHeartbeats 8000000 in
set_option maxRecDepth 100000 in
theorem spec_WithoutRanges.calls (k : Nat) (A0 : Option Addr) (c0 : Nat) (l0 : List (S69)) (A1 : Option Addr) (c1 : Nat) (l1 : List (S69)) (r1 : List (S69)) (r2 : Bool) (w : World) (hr0 : Kd.C k69 w A0 l0.length l0) (hc0 : l0.length ≤ c0) (hr1 : Kd.C k69 w A1 l1.length l1) (hc1 : l1.length ≤ c1) (h : spec_WithoutRanges.f k l0 l1 = some (r1, r2)) :
  Calls Tryz.prog 40 #[.slice A0 l0.length c0, .slice A1 l1.length c1] w fun e w' => ∃ v0_ : Value, e = .returned (.tuple #[v0_, .bool r2]) ∧ Kd.R k69 69 w' w.heap.size (fun _ => True) v0_ r1 ∧ Below w.heap.size w w' := by
 have HR0 := Az_ hr0
 have HC0 := Az_ hc0
 clear hr0 hc0
 have HR1 := Az_ hr1
 have HC1 := Az_ hc1
 clear hr1 hc1
 have HB := Az_ (Below.refl w.heap.size w)
 have H : ((spec_ixBoth.f k l0 l1 2).bind fun bt238 => (some (bt238.1, bt238.2))) = some (r1, r2) := h
 clear h
 replace H := bqz_ H; obtain ⟨⟨t238, t239⟩, A3, H⟩ := H
 replace H : (some (t238, t239)) = some (r1, r2) := H
 simp only [Option.some.injEq, Prod.mk.injEq] at H
 obtain ⟨rfl, rfl⟩ := H
 go_enter Tryz.func40, Tryz.ntmps40
 go_wp2_with (first | ((with_reducible refine gate_callee (f := 120) rfl ?_); refine goesL_ (some 8) rfl rfl Tryz.func120 (w110_) rfl #[.slice A0 l0.length c0, .slice A1 l1.length c1, .int .i64 2] rfl maz_ ?_; (with_reducible refine (spec_ixBoth.calls k _ _ l0 _ _ l1 2 t238 t239 _ ?side1 ?side2 ?side3 ?side4 A3.out).mono ?_); (case side1 => exact ucz_ (HR0.out)); (case side2 => exact HC0.out); (case side3 => exact ucz_ (HR1.out)); (case side4 => exact HC1.out); rintro e w4 ⟨v240, rfl, ho0, hb⟩; refine ⟨_, rfl, ?_⟩; have HO241 := Az_ (Kd.R_lower ho0 (below_size (ubz_ HB.out))); replace HB := Az_ (btz_ (ubz_ HB.out) hb); (try clear hb); (try clear ho0)))
 go_ret2
 exact ⟨_, w61_, by (with_reducible repeat (first | apply raz_ | apply rnz_ | apply rdz_)); exact HO241.out, w109_⟩

def laws_fRanges.l0 : Nat → List (S69) → List (S69) → Int → Int → Option (Bool)
 | 0, _, _, _, _ => none
 | k + 1, x0, x1, x12, x13 => if x13 < x12 then (if 0 ≤ x13 then (if x13 < (x0.length : Int) then (if x13 < (x1.length : Int) then (if (!(((rd_T69 x0 x13).f0) == ((rd_T69 x1 x13).f0)) || (!(((rd_T69 x0 x13).f1) == ((rd_T69 x1 x13).f1)))) = true then (some false) else (laws_fRanges.l0 k x0 x1 x12 (wrap64 (x13 + 1)))) else (none)) else (none)) else (none)) else (some true)
def laws_fRanges.f (k : Nat) (l0 : List (S69)) (l1 : List (S69)) : Option (Bool) := if (l0.length : Int) = (l1.length : Int) then (laws_fRanges.l0 k l0 l1 (l0.length : Int) 0) else (some false)
set_option maxHeartbeats 8000000 in
set_option maxRecDepth 100000 in
theorem laws_fRanges.calls (k : Nat) (A0 : Option Addr) (c0 : Nat) (l0 : List (S69)) (A1 : Option Addr) (c1 : Nat) (l1 : List (S69)) (r : Bool) (w : World) (hr0 : Kd.C k69 w A0 l0.length l0) (hc0 : l0.length ≤ c0) (hr1 : Kd.C k69 w A1 l1.length l1) (hc1 : l1.length ≤ c1) (h : laws_fRanges.f k l0 l1 = some r) :
  Calls Tryz.prog 41 #[.slice A0 l0.length c0, .slice A1 l1.length c1] w fun e w' => e = .returned (.bool r) ∧ Drawn0 w w' := by
 have hu69 := Tryz.underlying69
 have HR0 := Az_ hr0
 have HC0 := Az_ hc0
 clear hr0 hc0
 have HR1 := Az_ hr1
 have HC1 := Az_ hc1
 clear hr1 hc1
 have H : (if (l0.length : Int) = (l1.length : Int) then (laws_fRanges.l0 k l0 l1 (l0.length : Int) 0) else (some false)) = some r := h
 clear h
 by_cases c3 : (l0.length : Int) = (l1.length : Int)
 ·rw [if_pos c3] at H
  have c3b0 : ((l0.length : Int) == (l1.length : Int)) = true := beq_iff_eq.mpr c3
  have c3b1 : ((l0.length : Int) != (l1.length : Int)) = false := bne_eq_false_iff_eq.mpr c3
  have c3b2 : (l0.length == l1.length) = true := by first | simpa using c3 | (simp at c3 ⊢; omega)
  clear c3
  have H' := Az_ H
  clear H
  go_enter Tryz.func41, Tryz.ntmps41
  go_wp2
  go_loopg [13] k (fun kq v13 w' => ∃ (x13_1 : Int), v13 = .int .i64 x13_1 ∧ Aside0 (laws_fRanges.l0 kq l0 l1 (l0.length : Int) x13_1 = some r) ∧ Aside0 (kq ≤ k) ∧ Drawn0 w w')
  case atStart => exact ⟨(0), qaz_, H', ⟨Nat.le_refl _⟩, w74_⟩
  case round =>
   clear H'
   clear c3b0 c3b1 c3b2
   obtain ⟨x13_1, rfl, HA, HK1, ⟨m1, rfl⟩⟩ := hrel
   cases gk with
   | zero => exact absurd HA.out (by simp [laws_fRanges.l0])
   | succ k1 =>
    have H := HA.out
    clear HA
    simp only [laws_fRanges.l0] at H
    by_cases c4 : x13_1 < (l0.length : Int)
    ·rw [if_pos c4] at H
     have c4b0 := decide_eq_true c4
     clear c4
     by_cases c5 : 0 ≤ x13_1
     ·rw [if_pos c5] at H
      have c5b0 := decide_eq_true c5
      clear c5
      by_cases c6 : x13_1 < (l0.length : Int)
      ·rw [if_pos c6] at H
       have c6b0 := decide_eq_true c6
       clear c6
       by_cases c7 : x13_1 < (l1.length : Int)
       ·rw [if_pos c7] at H
        have c7b0 := decide_eq_true c7
        clear c7
        by_cases c8 : (!(((rd_T69 l0 x13_1).f0) == ((rd_T69 l1 x13_1).f0)) || (!(((rd_T69 l0 x13_1).f1) == ((rd_T69 l1 x13_1).f1)))) = true
        ·rw [if_pos c8] at H
         have c8b0 : (!(((rd_T69 l0 x13_1).f0) == ((rd_T69 l1 x13_1).f0)) || (!(((rd_T69 l0 x13_1).f1) == ((rd_T69 l1 x13_1).f1)))) = true := c8
         clear c8
         obtain rfl := Option.some.inj H
         have p242 : 0 ≤ (x13_1 : Int) := of_decide_eq_true asz_
         have q242 : x13_1 < (l0.length : Int) := of_decide_eq_true asz_
         obtain ⟨ad242, e242, hx242_0, hx242_1⟩ := at_T69 HR0.out x13_1 p242 q242
         cases e242
         replace p242 := eq_true p242
         replace q242 := eq_true q242
         have p243 : 0 ≤ (x13_1 : Int) := of_decide_eq_true asz_
         have q243 : x13_1 < (l1.length : Int) := of_decide_eq_true asz_
         obtain ⟨ad243, e243, hx243_0, hx243_1⟩ := at_T69 HR1.out x13_1 p243 q243
         cases e243
         replace p243 := eq_true p243
         replace q243 := eq_true q243
         go_wp2
         repeat (go_quiet (fail); try go_wp2)
         go_ret
         exact ⟨w77_, w74_⟩
        ·rw [if_neg c8] at H
         have c8b0 : (!(((rd_T69 l0 x13_1).f0) == ((rd_T69 l1 x13_1).f0)) || (!(((rd_T69 l0 x13_1).f1) == ((rd_T69 l1 x13_1).f1)))) = false := by simpa using c8
         clear c8
         have H' := Az_ H
         clear H
         have p242 : 0 ≤ (x13_1 : Int) := of_decide_eq_true asz_
         have q242 : x13_1 < (l0.length : Int) := of_decide_eq_true asz_
         obtain ⟨ad242, e242, hx242_0, hx242_1⟩ := at_T69 HR0.out x13_1 p242 q242
         cases e242
         replace p242 := eq_true p242
         replace q242 := eq_true q242
         have p243 : 0 ≤ (x13_1 : Int) := of_decide_eq_true asz_
         have q243 : x13_1 < (l1.length : Int) := of_decide_eq_true asz_
         obtain ⟨ad243, e243, hx243_0, hx243_1⟩ := at_T69 HR1.out x13_1 p243 q243
         cases e243
         replace p243 := eq_true p243
         replace q243 := eq_true q243
         go_wp2
         repeat (go_quiet (fail); try go_wp2)
         go_roundg k1
         case measure => have := HK1.out; omega
         case rel => exact ⟨(wrap64 (x13_1 + 1)), qaz_, H', ⟨w83_⟩, w74_⟩
       ·rw [if_neg c7] at H
        exact absurd H (by simp)
      ·rw [if_neg c6] at H
       exact absurd H (by simp)
     ·rw [if_neg c5] at H
      exact absurd H (by simp)
    ·rw [if_neg c4] at H
     have c4b0 := decide_eq_false c4
     clear c4
     obtain rfl := Option.some.inj H
     go_wp2
     go_ret
     exact ⟨w77_, w74_⟩
 ·rw [if_neg c3] at H
  have c3b0 : ((l0.length : Int) == (l1.length : Int)) = false := beq_eq_false_iff_ne.mpr c3
  have c3b1 : ((l0.length : Int) != (l1.length : Int)) = true := bne_iff_ne.mpr c3
  have c3b2 : (l0.length == l1.length) = false := by first | simpa using c3 | (simp at c3 ⊢; omega)
  obtain rfl := Option.some.inj H
  go_enter Tryz.func41, Tryz.ntmps41
  go_wp2
  go_ret
  exact ⟨w77_, w74_⟩

def impl_CountIndexed.l0 : Nat → Int → List (S69) → Int → Int → Option (Int × Bool)
 | 0, _, _, _, _ => none
 | k + 1, x4, x10, x11, x12 => if x12 < x11 then (if 0 ≤ x12 then (if x12 < (x10.length : Int) then (impl_CountIndexed.l0 k (wrap64 (x4 + (wrap64 ((wrap64 (((rd_T69 x10 x12).f1) - ((rd_T69 x10 x12).f0))) + 1)))) x10 x11 (wrap64 (x12 + 1))) else (none)) else (none)) else (some (x4, true))
def impl_CountIndexed.f (k : Nat) (l0 : List (S69)) : Option (Int × Bool) := (impl_AreRanges.f k l0).bind fun t244 => (if t244 = true then (impl_CountIndexed.l0 k 0 l0 (l0.length : Int) 0) else (some (0, false)))
set_option maxHeartbeats 8000000 in
set_option maxRecDepth 100000 in
theorem impl_CountIndexed.calls (k : Nat) (A0 : Option Addr) (c0 : Nat) (l0 : List (S69)) (r1 : Int) (r2 : Bool) (w : World) (hr0 : Kd.C k69 w A0 l0.length l0) (hc0 : l0.length ≤ c0) (h : impl_CountIndexed.f k l0 = some (r1, r2)) :
  Calls Tryz.prog 42 #[.slice A0 l0.length c0] w fun e w' => e = .returned (.tuple #[.int .i64 r1, .bool r2]) ∧ Below w.heap.size w w' := by
 have hu69 := Tryz.underlying69
 have HR0 := Az_ hr0
 have HC0 := Az_ hc0
 clear hr0 hc0
 have HB := Az_ (Below.refl w.heap.size w)
 have H : ((impl_AreRanges.f k l0).bind fun t244 => (if t244 = true then (impl_CountIndexed.l0 k 0 l0 (l0.length : Int) 0) else (some (0, false)))) = some (r1, r2) := h
 clear h
 replace H := bqz_ H; obtain ⟨t244, A2, H⟩ := H
 replace H : (if t244 = true then (impl_CountIndexed.l0 k 0 l0 (l0.length : Int) 0) else (some (0, false))) = some (r1, r2) := H
 by_cases c3 : t244 = true
 ·subst c3
  rw [if_pos rfl] at H
  have H' := Az_ H
  clear H
  go_enter Tryz.func42, Tryz.ntmps42
  go_wp2_with (first | ((with_reducible refine gate_callee (f := 43) rfl ?_); refine goesL_ (some 8) rfl rfl Tryz.func43 (w110_) rfl #[.slice A0 l0.length c0] rfl maz_ ?_; (with_reducible refine (impl_AreRanges.calls k _ _ l0 true _ ?side1 ?side2 A2.out).mono ?_); (case side1 => exact ucz_ (HR0.out)); (case side2 => exact HC0.out); rintro e w4 ⟨rfl, hb⟩; refine ⟨_, rfl, ?_⟩; replace HB := Az_ (btz_ (ubz_ HB.out) hb); (try clear hb)))
  go_loopg [4, 12] k (fun kq v4 v12 w' => ∃ (x4_1 : Int) (x12_1 : Int), v4 = .int .i64 x4_1 ∧ v12 = .int .i64 x12_1 ∧ Aside0 (impl_CountIndexed.l0 kq x4_1 l0 (l0.length : Int) x12_1 = some (r1, r2)) ∧ Aside0 (kq ≤ k) ∧ Aside0 (Below w.heap.size w w'))
  case atStart => exact ⟨(0), (0), qaz_, qaz_, H', ⟨Nat.le_refl _⟩, ⟨w109_⟩⟩
  case round =>
   clear H'
   obtain ⟨x4_1, x12_1, rfl, rfl, HA, HK1, HB⟩ := hrel
   cases gk with
   | zero => exact absurd HA.out (by simp [impl_CountIndexed.l0])
   | succ k1 =>
    have H := HA.out
    clear HA
    simp only [impl_CountIndexed.l0] at H
    by_cases c5 : x12_1 < (l0.length : Int)
    ·rw [if_pos c5] at H
     have c5b0 := decide_eq_true c5
     clear c5
     by_cases c6 : 0 ≤ x12_1
     ·rw [if_pos c6] at H
      have c6b0 := decide_eq_true c6
      clear c6
      by_cases c7 : x12_1 < (l0.length : Int)
      ·rw [if_pos c7] at H
       have c7b0 := decide_eq_true c7
       clear c7
       have H' := Az_ H
       clear H
       have p245 : 0 ≤ (x12_1 : Int) := of_decide_eq_true asz_
       have q245 : x12_1 < (l0.length : Int) := of_decide_eq_true asz_
       obtain ⟨ad245, e245, hx245_0, hx245_1⟩ := at_T69 HR0.out x12_1 p245 q245
       cases e245
       replace hx245_0 := (HB.out.cell (World.block_lt_of_cell? w _ hx245_0)).trans hx245_0
       replace hx245_1 := (HB.out.cell (World.block_lt_of_cell? w _ hx245_1)).trans hx245_1
       replace p245 := eq_true p245
       replace q245 := eq_true q245
       go_wp2_with (first | ((with_reducible refine gate_dst (N := 6) rfl ?_); refine box_event ?hg (N := 6) ?hd (cs := #[.int .i64 0, .int .i64 0]) (t := 69) ?hr ?_; (case hd => rfl); (case hg => rfl); (case hr => first | (go_simp; done) | (go_simp; rfl)); intro gb246 hg w8 hbox hb; have BK246 := Az_ (hbox); have GW246 := Az_ ((by rw [hg]; exact (below_size (ubz_ HB.out)) : w.heap.size ≤ gb246)); have GE246 := Az_ ((by rw [hg]; exact (below_size (ubz_ HB.out)) : w.heap.size ≤ gb246)); replace HB := Az_ (btz_ (ubz_ HB.out) hb); clear hb hbox hg; have hcz9_0 : w8.cell? ⟨gb246, 0, none⟩ = some (.int .i64 0) := (blk_cell BK246.out 0).trans rfl; have hcz9_1 : w8.cell? ⟨gb246, 1, none⟩ = some (.int .i64 0) := (blk_cell BK246.out 1).trans rfl; have hfz9_0 := blk_frozen BK246.out 0; have hfz9_1 := blk_frozen BK246.out 1))
       go_roundg k1
       case measure => have := HK1.out; omega
       case rel => exact ⟨(wrap64 (x4_1 + (wrap64 ((wrap64 (((rd_T69 l0 x12_1).f1) - ((rd_T69 l0 x12_1).f0))) + 1)))), (wrap64 (x12_1 + 1)), qaz_, qaz_, H', ⟨w83_⟩, ⟨w40_⟩⟩
      ·rw [if_neg c7] at H
       exact absurd H (by simp)
     ·rw [if_neg c6] at H
      exact absurd H (by simp)
    ·rw [if_neg c5] at H
     have c5b0 := decide_eq_false c5
     clear c5
     simp only [Option.some.injEq, Prod.mk.injEq] at H
     obtain ⟨rfl, rfl⟩ := H
     go_wp2
     go_ret2
     exact ⟨w61_, w109_⟩
 ·replace c3 := Bool.eq_false_iff.mpr c3
  subst c3
  rw [if_neg nfz_] at H
  simp only [Option.some.injEq, Prod.mk.injEq] at H
  obtain ⟨rfl, rfl⟩ := H
  go_enter Tryz.func42, Tryz.ntmps42
  go_wp2_with (first | ((with_reducible refine gate_callee (f := 43) rfl ?_); refine goesL_ (some 8) rfl rfl Tryz.func43 (w110_) rfl #[.slice A0 l0.length c0] rfl maz_ ?_; (with_reducible refine (impl_AreRanges.calls k _ _ l0 false _ ?side1 ?side2 A2.out).mono ?_); (case side1 => exact ucz_ (HR0.out)); (case side2 => exact HC0.out); rintro e w10 ⟨rfl, hb⟩; refine ⟨_, rfl, ?_⟩; replace HB := Az_ (btz_ (ubz_ HB.out) hb); (try clear hb)))
  go_ret2
  exact ⟨w61_, w109_⟩

def spec_l1Cur_one.f (s0_0 : List Int) (s0_1 : Int) (s0_2 : Int) (a1 : Int) : Option (Bool × Int × Int) := (spec_l1Cur_pick.f s0_0 s0_1 s0_2 a1).bind fun bt247 => (some ((bt247.1 == 0), bt247.2.1, bt247.2.2))
set_option maxHeartbeats 8000000 in
set_option maxRecDepth 100000 in
theorem spec_l1Cur_one.calls (g : Nat) (s0_0 : List Int) (s0_1 : Int) (s0_2 : Int) (a1 : Int) (r1 : Bool) (r2 : Int) (r3 : Int) (w0 w : World) (hI : IsS99 w0 w g s0_0 s0_1 s0_2) (hB : Below w0.heap.size w0 w) (h : spec_l1Cur_one.f s0_0 s0_1 s0_2 a1 = some (r1, r2, r3)) :
  Calls Tryz.prog 94 #[.pointer (some ⟨g, 0, none⟩), .int .i64 a1] w fun e w' => e = .returned (.bool r1) ∧ IsS99 w0 w' g s0_0 r2 r3 ∧ Below w0.heap.size w0 w' ∧ KeepBut w w' g none := by
 have HI0 := Az_ hI
 have HK := Az_ (KeepBut.refl w g none)
 have HL := Az_ hB.size
 clear hI
 have HW0 := Az_ hB.size
 have HB := Az_ hB
 clear hB
 have H : ((spec_l1Cur_pick.f s0_0 s0_1 s0_2 a1).bind fun bt247 => (some ((bt247.1 == 0), bt247.2.1, bt247.2.2))) = some (r1, r2, r3) := h
 clear h
 replace H := bqz_ H; obtain ⟨⟨t247, t248, t249⟩, A3, H⟩ := H
 replace H : (some ((t247 == 0), t248, t249)) = some (r1, r2, r3) := H
 simp only [Option.some.injEq, Prod.mk.injEq] at H
 obtain ⟨rfl, rfl, rfl⟩ := H
 go_enter Tryz.func94, Tryz.ntmps94
 go_wp2_with (first | ((with_reducible refine gate_callee (f := 126) rfl ?_); refine goesL_ (some 7) rfl rfl Tryz.func126 (w110_) rfl #[.pointer (some ⟨g, 0, none⟩), .int .i64 a1] rfl maz_ ?_; (with_reducible refine (spec_l1Cur_pick.calls g s0_0 s0_1 s0_2 a1 t247 t248 t249 w0 _ ?side1 ?side2 A3.out).mono ?_); (case side1 => repeat (first | (with_reducible first | exact HI0.out | apply IsS99.alloc | apply IsS99.drewN | apply IsS99.drew | apply IsS99.set_1 | apply IsS99.set_2) | exact HI0.out)); (case side2 => repeat (first | (with_reducible first | exact HB.out | apply baz_ | apply bnz_ | apply bdz_ | refine bsz_ ?_ (IsS99.ge HI0.out)) | exact HB.out)); rintro e w4 ⟨rfl, hi, hb, hk⟩; refine ⟨_, rfl, ?_⟩; replace HK := Az_ (KeepBut.trans (w33_) hk (.inl rfl)); replace HB := Az_ (hb); replace HI0 := Az_ (hi); (try clear hb); (try clear hk); (try clear hi)))
 go_ret
 exact ⟨w61_, w30_, w39_, w33_⟩

end Go.Proofs.YtppbpefehpbejaaGreatDoor.P
end

section
namespace Go.Proofs.YtppbpefehpbejaaGreatDoor.P
open Go.RowKit Go.Proofs.YtppbpefehpbejaaGreatDoorW.PrintWords Go.Proofs.YtppbpefehpbejaaGreatDoorW.PrintLast Go.Proofs.YtppbpefehpbejaaGreatDoorW.PrintMore
attribute [local go_sem] max2_int min2_int max_two min_two max_three min_three max_four min_four   -- for this text's walks alone
set_option linter.unusedVariables false
set_option linter.unusedSimpArgs false

def spec_DrawMergeRanges.l0 : Nat → List (S69) → Int → List Int → Int → Int → Option ((List (S69)))
 | 0, _, _, _, _, _ => none
 | k + 1, x4, x5, x251000, x251001, x251002 => if x5 > 0 then ((spec_l1Cur_pick.f x251000 x251001 x251002 40).bind fun bt254 => ((spec_l1Cur_pick.f x251000 bt254.2.1 bt254.2.2 6).bind fun bt257 => (if x4.length < 8796093022208 then (spec_DrawMergeRanges.l0 k (x4 ++ [(⟨wrap64 (1 + bt254.1), wrap64 ((wrap64 (1 + bt254.1)) + bt257.1)⟩ : S69)]) (wrap64 (x5 - 1)) x251000 bt257.2.1 bt257.2.2) else (none)))) else ((spec_l1Cur_one.f x251000 x251001 x251002 12).bind fun bt263 => (if bt263.1 = true then ((spec_l1Cur_among.f x251000 bt263.2.1 bt263.2.2 (([0, 5, 9] : List Int))).bind fun bt269 => (if x4.length < 8796093022208 then (some (x4 ++ [(⟨bt269.1, 3⟩ : S69)])) else (none))) else (some x4)))
def spec_DrawMergeRanges.f (k : Nat) (l0 : List Int) : Option ((List (S69))) := (spec_l1Cur_pick.f l0 0 0 8).bind fun bt251 => (spec_DrawMergeRanges.l0 k ([] : List (S69)) bt251.1 l0 bt251.2.1 bt251.2.2)
set_option maxHeartbeats 8000000 in
set_option maxRecDepth 100000 in
theorem spec_DrawMergeRanges.calls (k : Nat) (A0 : Option Addr) (c0 : Nat) (l0 : List Int) (r : List (S69)) (w : World) (hr0 : Kd.C (Kd.int .u8) w A0 l0.length l0) (hc0 : l0.length ≤ c0) (h : spec_DrawMergeRanges.f k l0 = some r) :
  Calls Tryz.prog 45 #[.slice A0 l0.length c0] w fun e w' => ∃ v0_ : Value, e = .returned (v0_) ∧ Kd.R k69 69 w' w.heap.size (fun _ => True) v0_ r ∧ Below w.heap.size w w' := by
 have hu99 := Tryz.underlying99
 have hu69 := Tryz.underlying69
 have HR0 := Az_ hr0
 have HC0 := Az_ hc0
 clear hr0 hc0
 have HB := Az_ (Below.refl w.heap.size w)
 have H : ((spec_l1Cur_pick.f l0 0 0 8).bind fun bt251 => (spec_DrawMergeRanges.l0 k ([] : List (S69)) bt251.1 l0 bt251.2.1 bt251.2.2)) = some r := h
 clear h
 replace H := bqz_ H; obtain ⟨⟨t251, t252, t253⟩, A2, H⟩ := H
 replace H : (spec_DrawMergeRanges.l0 k ([] : List (S69)) t251 l0 t252 t253) = some r := H
 have H' := Az_ H
 clear H
 go_enter Tryz.func45, Tryz.ntmps45
 go_wp2_with (first | ((with_reducible refine gate_dst (N := 9) rfl ?_); refine box_event ?hg (N := 9) ?hd (cs := #[.slice A0 l0.length c0, .int .i64 0, .int .u64 0]) (t := 99) ?hr ?_; (case hd => rfl); (case hg => rfl); (case hr => first | (go_simp; done) | (go_simp; rfl)); intro gb250 hg w3 hbox hb; have BK250 := Az_ (hbox); have GW250 := Az_ ((by rw [hg]; exact (below_size (ubz_ HB.out)) : w.heap.size ≤ gb250)); have GE250 := Az_ ((by rw [hg]; exact (below_size (ubz_ HB.out)) : w.heap.size ≤ gb250)); replace HB := Az_ (btz_ (ubz_ HB.out) hb); clear hb hbox hg) | ((with_reducible refine gate_callee (f := 126) rfl ?_); refine goesL_ (some 11) rfl rfl Tryz.func126 (w110_) rfl #[.pointer (some ⟨gb250, 0, none⟩), .int .i64 8] rfl maz_ ?_; have HI250 := Az_ (show IsS99 w w3 gb250 l0 0 0 from ⟨_, _, BK250.out, GE250.out, HR0.out⟩); (with_reducible refine (spec_l1Cur_pick.calls gb250 l0 0 0 8 t251 t252 t253 w _ ?side1 ?side2 A2.out).mono ?_); (case side1 => repeat (first | (with_reducible first | exact HI250.out | apply IsS99.alloc | apply IsS99.drewN | apply IsS99.drew | apply IsS99.set_1 | apply IsS99.set_2) | exact HI250.out)); (case side2 => repeat (first | (with_reducible first | exact HB.out | apply baz_ | apply bnz_ | apply bdz_ | refine bsz_ ?_ (IsS99.ge HI250.out)) | exact HB.out)); rintro e w4 ⟨rfl, hi, hb, hk⟩; refine ⟨_, rfl, ?_⟩; replace HB := Az_ (hb); replace HI250 := Az_ (hi); (try clear hb); (try clear hk); (try clear hi)))
 go_loopg [4, 5] k (fun kq v4 v5 w' => ∃ (x4_1 : List (S69)) (x5_1 : Int) (x251001_1 : Int) (x251002_1 : Int), v5 = .int .i64 x5_1 ∧ Aside0 (spec_DrawMergeRanges.l0 kq x4_1 x5_1 l0 x251001_1 x251002_1 = some r) ∧ Aside0 (kq ≤ k) ∧ Aside0 (Kd.R k69 69 w' w.heap.size (fun _ => True) v4 x4_1) ∧ Aside0 (IsS99 w w' gb250 l0 x251001_1 x251002_1) ∧ Aside0 (Below w.heap.size w w'))
 case atStart => exact ⟨(([] : List (S69))), (t251), (t252), (t253), qaz_, H', ⟨Nat.le_refl _⟩, ⟨w41_⟩, ⟨w26_⟩, ⟨w35_⟩⟩
 case round =>
  clear H'
  obtain ⟨x4_1, x5_1, x251001_1, x251002_1, rfl, HA, HK1, HO_4, HI250, HB⟩ := hrel
  cases gk with
  | zero => exact absurd HA.out (by simp [spec_DrawMergeRanges.l0])
  | succ k1 =>
   have H := HA.out
   clear HA
   simp only [spec_DrawMergeRanges.l0] at H
   by_cases c5 : x5_1 > 0
   ·rw [if_pos c5] at H
    have c5b0 := decide_eq_true c5
    clear c5
    replace H := bqz_ H; obtain ⟨⟨t254, t255, t256⟩, A6, H⟩ := H
    replace H := bqz_ H; obtain ⟨⟨t257, t258, t259⟩, A7, H⟩ := H
    replace H : (if x4_1.length < 8796093022208 then (spec_DrawMergeRanges.l0 k1 (x4_1 ++ [(⟨wrap64 (1 + t254), wrap64 ((wrap64 (1 + t254)) + t257)⟩ : S69)]) (wrap64 (x5_1 - 1)) l0 t258 t259) else (none)) = some r := H
    by_cases c8 : x4_1.length < 8796093022208
    ·rw [if_pos c8] at H
     have LMc8 := Az_ c8
     clear c8
     obtain ⟨y260, hy260⟩ : ∃ y_ : List (S69), y_ = (x4_1 ++ [(⟨wrap64 (1 + t254), wrap64 ((wrap64 (1 + t254)) + t257)⟩ : S69)]) := ⟨_, rfl⟩
     replace H : (spec_DrawMergeRanges.l0 k1 y260 (wrap64 (x5_1 - 1)) l0 t258 t259) = some r := by first | (rw [hy260]; with_reducible exact H) | (have H2_ := (Option.bind_some _ _).symm.trans H; rw [hy260]; with_reducible exact H2_) | (have H2_ := (Option.bind_some _ _).symm.trans H; with_reducible exact H2_) | with_reducible exact H | (rw [hy260]; exact H) | exact H
     have Ny260 := Az_ hy260
     clear hy260
     have H' := Az_ H
     clear H
     go_wp2_with (first | ((with_reducible refine gate_callee (f := 126) rfl ?_); refine goesL_ (some 17) rfl rfl Tryz.func126 (w110_) rfl #[.pointer (some ⟨gb250, 0, none⟩), .int .i64 40] rfl maz_ ?_; (with_reducible refine (spec_l1Cur_pick.calls gb250 l0 x251001_1 x251002_1 40 t254 t255 t256 w _ ?side1 ?side2 A6.out).mono ?_); (case side1 => repeat (first | (with_reducible first | exact HI250.out | apply IsS99.alloc | apply IsS99.drewN | apply IsS99.drew | apply IsS99.set_1 | apply IsS99.set_2) | exact HI250.out)); (case side2 => repeat (first | (with_reducible first | exact HB.out | apply baz_ | apply bnz_ | apply bdz_ | refine bsz_ ?_ (IsS99.ge HI250.out)) | exact HB.out)); rintro e w9 ⟨rfl, hi, hb, hk⟩; refine ⟨_, rfl, ?_⟩; replace HO_4 := Az_ (Kd.R_mono (Kd.R_keep (IsS99.apart (show IsS99 w _ gb250 l0 x251001_1 x251002_1 from w26_) (w105_) (by decide)) hk (fun _ h => h.2)) (fun _ h => h.1)); replace HB := Az_ (hb); replace HI250 := Az_ (hi); (try clear hb); (try clear hk); (try clear hi)) | ((with_reducible refine gate_callee (f := 126) rfl ?_); refine goesL_ (some 23) rfl rfl Tryz.func126 (w110_) rfl #[.pointer (some ⟨gb250, 0, none⟩), .int .i64 6] rfl maz_ ?_; (with_reducible refine (spec_l1Cur_pick.calls gb250 l0 t255 t256 6 t257 t258 t259 w _ ?side1 ?side2 A7.out).mono ?_); (case side1 => repeat (first | (with_reducible first | exact HI250.out | apply IsS99.alloc | apply IsS99.drewN | apply IsS99.drew | apply IsS99.set_1 | apply IsS99.set_2) | exact HI250.out)); (case side2 => repeat (first | (with_reducible first | exact HB.out | apply baz_ | apply bnz_ | apply bdz_ | refine bsz_ ?_ (IsS99.ge HI250.out)) | exact HB.out)); rintro e w10 ⟨rfl, hi, hb, hk⟩; refine ⟨_, rfl, ?_⟩; replace HO_4 := Az_ (Kd.R_mono (Kd.R_keep (IsS99.apart (show IsS99 w _ gb250 l0 t255 t256 from w26_) (w105_) (by decide)) hk (fun _ h => h.2)) (fun _ h => h.1)); replace HB := Az_ (hb); replace HI250 := Az_ (hi); (try clear hb); (try clear hk); (try clear hi)) | ((with_reducible refine gate_builtin (b := .append) (xs := #[.tmp 19, .tmp 26]) rfl ?_); at_builtin; refine Kd.R_append k69 (w0 := w) w.heap.size rfl (.tmp 19) (.tmp 26) 51 69 (.agg #[(.int .i64 0), (.int .i64 0)]) 16 rfl Tryz.underlying51 info69 rfl (by decide) (by omega) u4 x4_1 (⟨wrap64 (1 + t254), wrap64 ((wrap64 (1 + t254)) + t257)⟩ : S69) [.int .i64 (wrap64 (1 + t254)), .int .i64 (wrap64 ((wrap64 (1 + t254)) + t257))] (fun _ => True) (fun _ => False) rfl rfl ?aP (fun _ hk => hk.elim) ?aF ?aO ?aB ?aS ?aL ?_; (case aP => exact k69_mkM _ _ _ (⟨wrap64 (1 + t254), wrap64 ((wrap64 (1 + t254)) + t257)⟩ : S69)); (case aB => exact (w35_)); (case aF => exact (fun _ _ => trivial)); (case aO => exact (w105_)); (case aS => exact (below_size (w35_))); (case aL => have := LMc8.out; omega); intro v261 w11 ho hb hg hat; rw [← Ny260.out] at ho; replace HI250 := Az_ (IsS99.grown (show IsS99 w _ gb250 l0 t258 t259 from w26_) hg (IsS99.own_ne HI250.out HO_4.out (by decide))); replace HB := Az_ (hb); have HO262 := Az_ (ho); clear HO_4; clear ho hb hg hat))
     go_roundg k1
     case measure => have := HK1.out; omega
     case rel => exact ⟨(y260), (wrap64 (x5_1 - 1)), (t258), (t259), qaz_, H', ⟨w83_⟩, ⟨by (with_reducible repeat (first | apply raz_ | apply rnz_ | apply rdz_)); exact HO262.out⟩, ⟨w26_⟩, ⟨w35_⟩⟩
    ·rw [if_neg c8] at H
     exact absurd H (by simp)
   ·rw [if_neg c5] at H
    have c5b0 := decide_eq_false c5
    clear c5
    replace H := bqz_ H; obtain ⟨⟨t263, t264, t265⟩, A12, H⟩ := H
    replace H : (if t263 = true then ((spec_l1Cur_among.f l0 t264 t265 (([0, 5, 9] : List Int))).bind fun bt269 => (if x4_1.length < 8796093022208 then (some (x4_1 ++ [(⟨bt269.1, 3⟩ : S69)])) else (none))) else (some x4_1)) = some r := H
    by_cases c13 : t263 = true
    ·subst c13
     rw [if_pos rfl] at H
     obtain ⟨y266, hy266⟩ : ∃ y_ : List Int, y_ = (([0, 5, 9] : List Int)) := ⟨_, rfl⟩
     replace H : ((spec_l1Cur_among.f l0 t264 t265 y266).bind fun bt269 => (if x4_1.length < 8796093022208 then (some (x4_1 ++ [(⟨bt269.1, 3⟩ : S69)])) else (none))) = some r := by first | (rw [hy266]; with_reducible exact H) | (have H2_ := (Option.bind_some _ _).symm.trans H; rw [hy266]; with_reducible exact H2_) | (have H2_ := (Option.bind_some _ _).symm.trans H; with_reducible exact H2_) | with_reducible exact H | (rw [hy266]; exact H) | exact H
     have Ny266 := Az_ hy266
     clear hy266
     replace H := bqz_ H; obtain ⟨⟨t269, t270, t271⟩, A14, H⟩ := H
     replace H : (if x4_1.length < 8796093022208 then (some (x4_1 ++ [(⟨t269, 3⟩ : S69)])) else (none)) = some r := H
     by_cases c15 : x4_1.length < 8796093022208
     ·rw [if_pos c15] at H
      have LMc15 := Az_ c15
      clear c15
      obtain ⟨y272, hy272⟩ : ∃ y_ : List (S69), y_ = (x4_1 ++ [(⟨t269, 3⟩ : S69)]) := ⟨_, rfl⟩
      replace H : (some y272) = some r := by first | (rw [hy272]; with_reducible exact H) | (have H2_ := (Option.bind_some _ _).symm.trans H; rw [hy272]; with_reducible exact H2_) | (have H2_ := (Option.bind_some _ _).symm.trans H; with_reducible exact H2_) | with_reducible exact H | (rw [hy272]; exact H) | exact H
      have Ny272 := Az_ hy272
      clear hy272
      obtain rfl := Option.some.inj H
      go_wp2_with (first | ((with_reducible refine gate_callee (f := 94) rfl ?_); refine goesL_ (some 29) rfl rfl Tryz.func94 (w110_) rfl #[.pointer (some ⟨gb250, 0, none⟩), .int .i64 12] rfl maz_ ?_; (with_reducible refine (spec_l1Cur_one.calls gb250 l0 x251001_1 x251002_1 12 true t264 t265 w _ ?side1 ?side2 A12.out).mono ?_); (case side1 => repeat (first | (with_reducible first | exact HI250.out | apply IsS99.alloc | apply IsS99.drewN | apply IsS99.drew | apply IsS99.set_1 | apply IsS99.set_2) | exact HI250.out)); (case side2 => repeat (first | (with_reducible first | exact HB.out | apply baz_ | apply bnz_ | apply bdz_ | refine bsz_ ?_ (IsS99.ge HI250.out)) | exact HB.out)); rintro e w16 ⟨rfl, hi, hb, hk⟩; refine ⟨_, rfl, ?_⟩; replace HO_4 := Az_ (Kd.R_mono (Kd.R_keep (IsS99.apart (show IsS99 w _ gb250 l0 x251001_1 x251002_1 from w26_) (w105_) (by decide)) hk (fun _ h => h.2)) (fun _ h => h.1)); replace HB := Az_ (hb); replace HI250 := Az_ (hi); (try clear hb); (try clear hk); (try clear hi)) | ((with_reducible refine gate_dst (N := 32) rfl ?_); refine Kd.R_lit (Kd.int .i64) _ 3 ?hg (N := 32) ?hd (xs := ([0, 5, 9] : List Int)) (inner := [.int .i64 0, .int .i64 5, .int .i64 9]) (ok := fun _ => True) (okp := fun _ => True) ?hr ?hp (fun _ hk => hk) trivial (Below.refl _ _) (Nat.le_refl _) (by simp) ?_; (case hd => rfl); (case hg => rfl); (case hr => first | (go_simp; done) | (go_simp; rfl)); (case hp => exact (Reps.one (show Kd.M (Kd.int .i64) _ _ _ 0 [.int .i64 0] from rfl) (Reps.one (show Kd.M (Kd.int .i64) _ _ _ 5 [.int .i64 5] from rfl) (Reps.one (show Kd.M (Kd.int .i64) _ _ _ 9 [.int .i64 9] from rfl) (Reps.none _ _))))); intro v267 w17 ho18 hb hg_ hnew_; clear hg_ hnew_; (first | rw [← Ny266.out] at ho18 | (simp only [Int.reduceToNat] at ho18; rw [← Ny266.out] at ho18)); replace HO_4 := Az_ (Kd.R_below (w105_) hb); have HO268 := Az_ (Kd.R_lower ho18 (below_size (w35_))); replace HB := Az_ (btz_ (w35_) hb); replace HI250 := Az_ (IsS99.below (w26_) hb); clear hb ho18; obtain ⟨Ao19, co19, eo19⟩ := Kd.R_slice HO268.out; subst eo19) | ((with_reducible refine gate_callee (f := 127) rfl ?_); refine goesL_ (some 33) rfl rfl Tryz.func127 (w110_) rfl #[.pointer (some ⟨gb250, 0, none⟩), .slice Ao19 y266.length co19] rfl maz_ ?_; (with_reducible refine (spec_l1Cur_among.calls gb250 l0 t264 t265 _ _ y266 t269 t270 t271 w _ ?side1 ?side2 ?side3 ?side4 ?side5 A14.out).mono ?_); (case side1 => repeat (first | (with_reducible first | exact HI250.out | apply IsS99.alloc | apply IsS99.drewN | apply IsS99.drew | apply IsS99.set_1 | apply IsS99.set_2) | exact HI250.out)); (case side2 => repeat (first | (with_reducible first | exact HB.out | apply baz_ | apply bnz_ | apply bdz_ | refine bsz_ ?_ (IsS99.ge HI250.out)) | exact HB.out)); (case side3 => exact ucz_ ((Kd.R_reads' HO268.out).2.2)); (case side4 => exact (Kd.R_reads' HO268.out).2.1); (case side5 => exact far_slice (IsS99.own_ne HI250.out HO268.out (by decide))); rintro e w20 ⟨rfl, hi, hb, hk⟩; refine ⟨_, rfl, ?_⟩; replace HO_4 := Az_ (Kd.R_mono (Kd.R_keep (IsS99.apart (show IsS99 w _ gb250 l0 t264 t265 from w26_) (w105_) (by decide)) hk (fun _ h => h.2)) (fun _ h => h.1)); replace HO268 := Az_ (Kd.R_mono (Kd.R_keep (IsS99.apart (show IsS99 w _ gb250 l0 t264 t265 from w26_) (by exact urz_ HO268.out) (by decide)) hk (fun _ h => h.2)) (fun _ h => h.1)); replace HB := Az_ (hb); replace HI250 := Az_ (hi); (try clear hb); (try clear hk); (try clear hi)) | ((with_reducible refine gate_builtin (b := .append) (xs := #[.tmp 30, .tmp 35]) rfl ?_); at_builtin; refine Kd.R_append k69 (w0 := w) w.heap.size rfl (.tmp 30) (.tmp 35) 51 69 (.agg #[(.int .i64 0), (.int .i64 0)]) 16 rfl Tryz.underlying51 info69 rfl (by decide) (by omega) u4 x4_1 (⟨t269, 3⟩ : S69) [.int .i64 t269, .int .i64 3] (fun _ => True) (fun _ => False) rfl rfl ?aP (fun _ hk => hk.elim) ?aF ?aO ?aB ?aS ?aL ?_; (case aP => exact k69_mkM _ _ _ (⟨t269, 3⟩ : S69)); (case aB => exact (w35_)); (case aF => exact (fun _ _ => trivial)); (case aO => exact (w105_)); (case aS => exact (below_size (w35_))); (case aL => have := LMc15.out; omega); intro v273 w21 ho hb hg hat; rw [← Ny272.out] at ho; replace HI250 := Az_ (IsS99.grown (show IsS99 w _ gb250 l0 t270 t271 from w26_) hg (IsS99.own_ne HI250.out HO_4.out (by decide))); replace HO268 := Az_ (Kd.R_over' (by exact urz_ HO268.out) (Kd.R_typed (w105_)) (by decide) hg); replace HB := Az_ (hb); have HO274 := Az_ (ho); clear HO_4; clear ho hb hg hat))
      go_ret
      exact ⟨_, w61_, by (with_reducible repeat (first | apply raz_ | apply rnz_ | apply rdz_)); exact HO274.out, w35_⟩
     ·rw [if_neg c15] at H
      exact absurd H (by simp)
    ·replace c13 := Bool.eq_false_iff.mpr c13
     subst c13
     rw [if_neg nfz_] at H
     obtain rfl := Option.some.inj H
     go_wp2_with (first | ((with_reducible refine gate_callee (f := 94) rfl ?_); refine goesL_ (some 29) rfl rfl Tryz.func94 (w110_) rfl #[.pointer (some ⟨gb250, 0, none⟩), .int .i64 12] rfl maz_ ?_; (with_reducible refine (spec_l1Cur_one.calls gb250 l0 x251001_1 x251002_1 12 false t264 t265 w _ ?side1 ?side2 A12.out).mono ?_); (case side1 => repeat (first | (with_reducible first | exact HI250.out | apply IsS99.alloc | apply IsS99.drewN | apply IsS99.drew | apply IsS99.set_1 | apply IsS99.set_2) | exact HI250.out)); (case side2 => repeat (first | (with_reducible first | exact HB.out | apply baz_ | apply bnz_ | apply bdz_ | refine bsz_ ?_ (IsS99.ge HI250.out)) | exact HB.out)); rintro e w22 ⟨rfl, hi, hb, hk⟩; refine ⟨_, rfl, ?_⟩; replace HO_4 := Az_ (Kd.R_mono (Kd.R_keep (IsS99.apart (show IsS99 w _ gb250 l0 x251001_1 x251002_1 from w26_) (w105_) (by decide)) hk (fun _ h => h.2)) (fun _ h => h.1)); replace HB := Az_ (hb); replace HI250 := Az_ (hi); (try clear hb); (try clear hk); (try clear hi)))
     go_ret
     exact ⟨_, w61_, w70_, w35_⟩

def spec_MergeRanges.l0 : Nat → List (S69) → List (S69) → Int → Int → Option ((List (S69)) × Bool)
 | 0, _, _, _, _ => none
 | k + 1, x0, x9, x10, x11 => if x11 < x10 then (if 0 ≤ x11 then (if x11 < (x9.length : Int) then ((spec_ixRange.f ((rd_T69 x9 x11).f0) ((rd_T69 x9 x11).f1)).bind fun t277 => (if t277 = true then (spec_MergeRanges.l0 k x0 x9 x10 (wrap64 (x11 + 1))) else (some (([] : List (S69)), false)))) else (none)) else (none)) else ((spec_ixMarks.f k x0).bind fun t278 => ((spec_ixOf.f k t278).bind fun bt281 => (some (bt281.1, bt281.2))))
def spec_MergeRanges.f (k : Nat) (l0 : List (S69)) : Option ((List (S69)) × Bool) := if (l0.length : Int) > 100 then (some (([] : List (S69)), false)) else (spec_MergeRanges.l0 k l0 l0 (l0.length : Int) 0)
set_option maxHeartbeats 8000000 in
set_option maxRecDepth 100000 in
theorem spec_MergeRanges.calls (k : Nat) (A0 : Option Addr) (c0 : Nat) (l0 : List (S69)) (r1 : List (S69)) (r2 : Bool) (w : World) (hr0 : Kd.C k69 w A0 l0.length l0) (hc0 : l0.length ≤ c0) (h : spec_MergeRanges.f k l0 = some (r1, r2)) :
  Calls Tryz.prog 47 #[.slice A0 l0.length c0] w fun e w' => ∃ v0_ : Value, e = .returned (.tuple #[v0_, .bool r2]) ∧ Kd.R k69 69 w' w.heap.size (fun _ => True) v0_ r1 ∧ Below w.heap.size w w' := by
 have hu69 := Tryz.underlying69
 have HR0 := Az_ hr0
 have HC0 := Az_ hc0
 clear hr0 hc0
 have HB := Az_ (Below.refl w.heap.size w)
 have H : (if (l0.length : Int) > 100 then (some (([] : List (S69)), false)) else (spec_MergeRanges.l0 k l0 l0 (l0.length : Int) 0)) = some (r1, r2) := h
 clear h
 by_cases c2 : (l0.length : Int) > 100
 ·rw [if_pos c2] at H
  have c2b0 := decide_eq_true c2
  have c2b1 : decide (100 < l0.length) = true := decide_eq_true (by omega)
  clear c2
  simp only [Option.some.injEq, Prod.mk.injEq] at H
  obtain ⟨rfl, rfl⟩ := H
  go_enter Tryz.func47, Tryz.ntmps47
  go_wp2
  go_ret2
  exact ⟨_, w61_, w41_, w109_⟩
 ·rw [if_neg c2] at H
  have c2b0 := decide_eq_false c2
  have c2b1 : decide (100 < l0.length) = false := decide_eq_false (by omega)
  clear c2
  have H' := Az_ H
  clear H
  go_enter Tryz.func47, Tryz.ntmps47
  go_wp2
  go_loopg [11] k (fun kq v11 w' => ∃ (x11_1 : Int), v11 = .int .i64 x11_1 ∧ Aside0 (spec_MergeRanges.l0 kq l0 l0 (l0.length : Int) x11_1 = some (r1, r2)) ∧ Aside0 (kq ≤ k) ∧ Aside0 (Below w.heap.size w w'))
  case atStart => exact ⟨(0), qaz_, H', ⟨Nat.le_refl _⟩, ⟨w109_⟩⟩
  case round =>
   clear H'
   clear c2b0 c2b1
   obtain ⟨x11_1, rfl, HA, HK1, HB⟩ := hrel
   cases gk with
   | zero => exact absurd HA.out (by simp [spec_MergeRanges.l0])
   | succ k1 =>
    have H := HA.out
    clear HA
    simp only [spec_MergeRanges.l0] at H
    by_cases c3 : x11_1 < (l0.length : Int)
    ·rw [if_pos c3] at H
     have c3b0 := decide_eq_true c3
     clear c3
     by_cases c4 : 0 ≤ x11_1
     ·rw [if_pos c4] at H
      have c4b0 := decide_eq_true c4
      clear c4
      by_cases c5 : x11_1 < (l0.length : Int)
      ·rw [if_pos c5] at H
       have c5b0 := decide_eq_true c5
       clear c5
       replace H := bqz_ H; obtain ⟨t277, A6, H⟩ := H
       replace H : (if t277 = true then (spec_MergeRanges.l0 k1 l0 l0 (l0.length : Int) (wrap64 (x11_1 + 1))) else (some (([] : List (S69)), false))) = some (r1, r2) := H
       by_cases c7 : t277 = true
       ·subst c7
        rw [if_pos rfl] at H
        have H' := Az_ H
        clear H
        have p275 : 0 ≤ (x11_1 : Int) := of_decide_eq_true asz_
        have q275 : x11_1 < (l0.length : Int) := of_decide_eq_true asz_
        obtain ⟨ad275, e275, hx275_0, hx275_1⟩ := at_T69 HR0.out x11_1 p275 q275
        cases e275
        replace hx275_0 := (HB.out.cell (World.block_lt_of_cell? w _ hx275_0)).trans hx275_0
        replace hx275_1 := (HB.out.cell (World.block_lt_of_cell? w _ hx275_1)).trans hx275_1
        replace p275 := eq_true p275
        replace q275 := eq_true q275
        go_wp2_with (first | ((with_reducible refine gate_dst (N := 5) rfl ?_); refine box_event ?hg (N := 5) ?hd (cs := #[.int .i64 0, .int .i64 0]) (t := 69) ?hr ?_; (case hd => rfl); (case hg => rfl); (case hr => first | (go_simp; done) | (go_simp; rfl)); intro gb276 hg w8 hbox hb; have BK276 := Az_ (hbox); have GW276 := Az_ ((by rw [hg]; exact (below_size (ubz_ HB.out)) : w.heap.size ≤ gb276)); have GE276 := Az_ ((by rw [hg]; exact (below_size (ubz_ HB.out)) : w.heap.size ≤ gb276)); replace HB := Az_ (btz_ (ubz_ HB.out) hb); clear hb hbox hg; have hcz9_0 : w8.cell? ⟨gb276, 0, none⟩ = some (.int .i64 0) := (blk_cell BK276.out 0).trans rfl; have hcz9_1 : w8.cell? ⟨gb276, 1, none⟩ = some (.int .i64 0) := (blk_cell BK276.out 1).trans rfl; have hfz9_0 := blk_frozen BK276.out 0; have hfz9_1 := blk_frozen BK276.out 1) | ((with_reducible refine gate_callee (f := 131) rfl ?_); refine goesL_ (some 16) rfl rfl Tryz.func131 (w110_) rfl #[.agg #[.int .i64 ((rd_T69 l0 x11_1).f0), .int .i64 ((rd_T69 l0 x11_1).f1)]] rfl maz_ ?_; (with_reducible refine (spec_ixRange.calls ((rd_T69 l0 x11_1).f0) ((rd_T69 l0 x11_1).f1) true _ A6.out).mono ?_); rintro e w10 ⟨rfl, hb⟩; refine ⟨_, rfl, ?_⟩; replace BK276 := Az_ (kbz_ (g := gb276) (o := .cells #[.int .i64 ((rd_T69 l0 x11_1).f0), .int .i64 ((rd_T69 l0 x11_1).f1)] 69 (0, 0)) (w11_) hb); replace HB := Az_ (btz_ (w40_) hb); (try clear hb)))
        go_roundg k1
        case measure => have := HK1.out; omega
        case rel => exact ⟨(wrap64 (x11_1 + 1)), qaz_, H', ⟨w83_⟩, ⟨w40_⟩⟩
       ·replace c7 := Bool.eq_false_iff.mpr c7
        subst c7
        rw [if_neg nfz_] at H
        simp only [Option.some.injEq, Prod.mk.injEq] at H
        obtain ⟨rfl, rfl⟩ := H
        have p275 : 0 ≤ (x11_1 : Int) := of_decide_eq_true asz_
        have q275 : x11_1 < (l0.length : Int) := of_decide_eq_true asz_
        obtain ⟨ad275, e275, hx275_0, hx275_1⟩ := at_T69 HR0.out x11_1 p275 q275
        cases e275
        replace hx275_0 := (HB.out.cell (World.block_lt_of_cell? w _ hx275_0)).trans hx275_0
        replace hx275_1 := (HB.out.cell (World.block_lt_of_cell? w _ hx275_1)).trans hx275_1
        replace p275 := eq_true p275
        replace q275 := eq_true q275
        go_wp2_with (first | ((with_reducible refine gate_dst (N := 5) rfl ?_); refine box_event ?hg (N := 5) ?hd (cs := #[.int .i64 0, .int .i64 0]) (t := 69) ?hr ?_; (case hd => rfl); (case hg => rfl); (case hr => first | (go_simp; done) | (go_simp; rfl)); intro gb276 hg w11 hbox hb; have BK276 := Az_ (hbox); have GW276 := Az_ ((by rw [hg]; exact (below_size (ubz_ HB.out)) : w.heap.size ≤ gb276)); have GE276 := Az_ ((by rw [hg]; exact (below_size (ubz_ HB.out)) : w.heap.size ≤ gb276)); replace HB := Az_ (btz_ (ubz_ HB.out) hb); clear hb hbox hg; have hcz12_0 : w11.cell? ⟨gb276, 0, none⟩ = some (.int .i64 0) := (blk_cell BK276.out 0).trans rfl; have hcz12_1 : w11.cell? ⟨gb276, 1, none⟩ = some (.int .i64 0) := (blk_cell BK276.out 1).trans rfl; have hfz12_0 := blk_frozen BK276.out 0; have hfz12_1 := blk_frozen BK276.out 1) | ((with_reducible refine gate_callee (f := 131) rfl ?_); refine goesL_ (some 16) rfl rfl Tryz.func131 (w110_) rfl #[.agg #[.int .i64 ((rd_T69 l0 x11_1).f0), .int .i64 ((rd_T69 l0 x11_1).f1)]] rfl maz_ ?_; (with_reducible refine (spec_ixRange.calls ((rd_T69 l0 x11_1).f0) ((rd_T69 l0 x11_1).f1) false _ A6.out).mono ?_); rintro e w13 ⟨rfl, hb⟩; refine ⟨_, rfl, ?_⟩; replace BK276 := Az_ (kbz_ (g := gb276) (o := .cells #[.int .i64 ((rd_T69 l0 x11_1).f0), .int .i64 ((rd_T69 l0 x11_1).f1)] 69 (0, 0)) (w11_) hb); replace HB := Az_ (btz_ (w40_) hb); (try clear hb)))
        go_ret2
        exact ⟨_, w61_, w41_, w40_⟩
      ·rw [if_neg c5] at H
       exact absurd H (by simp)
     ·rw [if_neg c4] at H
      exact absurd H (by simp)
    ·rw [if_neg c3] at H
     have c3b0 := decide_eq_false c3
     clear c3
     replace H := bqz_ H; obtain ⟨t278, A14, H⟩ := H
     replace H := bqz_ H; obtain ⟨⟨t281, t282⟩, A15, H⟩ := H
     replace H : (some (t281, t282)) = some (r1, r2) := H
     simp only [Option.some.injEq, Prod.mk.injEq] at H
     obtain ⟨rfl, rfl⟩ := H
     go_wp2_with (first | ((with_reducible refine gate_callee (f := 133) rfl ?_); refine goesL_ (some 20) rfl rfl Tryz.func133 (w110_) rfl #[.slice A0 l0.length c0] rfl maz_ ?_; (with_reducible refine (spec_ixMarks.calls k1 _ _ l0 t278 _ ?side1 ?side2 A14.out).mono ?_); (case side1 => exact ucz_ ((Kd.C_below HR0.out HB.out))); (case side2 => exact HC0.out); rintro e w16 ⟨v279, rfl, ho0, hb⟩; refine ⟨_, rfl, ?_⟩; have HO280 := Az_ (Kd.R_lower ho0 (below_size (ubz_ HB.out))); replace HB := Az_ (btz_ (ubz_ HB.out) hb); (try clear hb); (try clear ho0); obtain ⟨Ao17, co17, eo17⟩ := Kd.R_slice HO280.out; subst eo17) | ((with_reducible refine gate_callee (f := 132) rfl ?_); refine goesL_ (some 21) rfl rfl Tryz.func132 (w110_) rfl #[.slice Ao17 t278.length co17] rfl maz_ ?_; (with_reducible refine (spec_ixOf.calls k1 _ _ t278 t281 t282 _ ?side1 ?side2 A15.out).mono ?_); (case side1 => exact ucz_ ((Kd.R_reads' HO280.out).2.2)); (case side2 => exact (Kd.R_reads' HO280.out).2.1); rintro e w18 ⟨v283, rfl, ho0, hb⟩; refine ⟨_, rfl, ?_⟩; replace HO280 := Az_ (Kd.R_below (by exact urz_ HO280.out) hb); have HO284 := Az_ (Kd.R_lower ho0 (below_size (ubz_ HB.out))); replace HB := Az_ (btz_ (ubz_ HB.out) hb); (try clear hb); (try clear ho0)))
     go_ret2
     exact ⟨_, w61_, by (with_reducible repeat (first | apply raz_ | apply rnz_ | apply rdz_)); exact HO284.out, w109_⟩

def spec_DrawRangesOfPages.l0 : Nat → List Int → Int → Int → List Int → Int → Int → Option (List Int)
 | 0, _, _, _, _, _, _ => none
 | k + 1, x4, x5, x6, x286000, x286001, x286002 => if x6 > 0 then ((spec_l1Cur_among.f x286000 x286001 x286002 (([1, 1, 1, 2, 3, 7] : List Int))).bind fun bt292 => (if x4.length < 17592186044416 then (spec_DrawRangesOfPages.l0 k (x4 ++ [wrap64 (x5 + bt292.1)]) (wrap64 (x5 + bt292.1)) (wrap64 (x6 - 1)) x286000 bt292.2.1 bt292.2.2) else (none))) else ((spec_l1Cur_one.f x286000 x286001 x286002 12).bind fun bt298 => (if bt298.1 = true then ((spec_l1Cur_among.f x286000 bt298.2.1 bt298.2.2 (([0, 1, 2000, 2001] : List Int))).bind fun bt304 => (if x4.length < 17592186044416 then (some (x4 ++ [bt304.1])) else (none))) else (some x4)))
def spec_DrawRangesOfPages.f (k : Nat) (l0 : List Int) : Option (List Int) := (spec_l1Cur_pick.f l0 0 0 12).bind fun bt286 => (spec_DrawRangesOfPages.l0 k ([] : List Int) 0 bt286.1 l0 bt286.2.1 bt286.2.2)
set_option maxHeartbeats 8000000 in
set_option maxRecDepth 100000 in
theorem spec_DrawRangesOfPages.calls (k : Nat) (A0 : Option Addr) (c0 : Nat) (l0 : List Int) (r : List Int) (w : World) (hr0 : Kd.C (Kd.int .u8) w A0 l0.length l0) (hc0 : l0.length ≤ c0) (h : spec_DrawRangesOfPages.f k l0 = some r) :
  Calls Tryz.prog 48 #[.slice A0 l0.length c0] w fun e w' => ∃ v0_ : Value, e = .returned (v0_) ∧ Kd.R (Kd.int .i64) 3 w' w.heap.size (fun _ => True) v0_ r ∧ Below w.heap.size w w' := by
 have hu99 := Tryz.underlying99
 have HR0 := Az_ hr0
 have HC0 := Az_ hc0
 clear hr0 hc0
 have HB := Az_ (Below.refl w.heap.size w)
 have H : ((spec_l1Cur_pick.f l0 0 0 12).bind fun bt286 => (spec_DrawRangesOfPages.l0 k ([] : List Int) 0 bt286.1 l0 bt286.2.1 bt286.2.2)) = some r := h
 clear h
 replace H := bqz_ H; obtain ⟨⟨t286, t287, t288⟩, A2, H⟩ := H
 replace H : (spec_DrawRangesOfPages.l0 k ([] : List Int) 0 t286 l0 t287 t288) = some r := H
 have H' := Az_ H
 clear H
 go_enter Tryz.func48, Tryz.ntmps48
 go_wp2_with (first | ((with_reducible refine gate_dst (N := 9) rfl ?_); refine box_event ?hg (N := 9) ?hd (cs := #[.slice A0 l0.length c0, .int .i64 0, .int .u64 0]) (t := 99) ?hr ?_; (case hd => rfl); (case hg => rfl); (case hr => first | (go_simp; done) | (go_simp; rfl)); intro gb285 hg w3 hbox hb; have BK285 := Az_ (hbox); have GW285 := Az_ ((by rw [hg]; exact (below_size (ubz_ HB.out)) : w.heap.size ≤ gb285)); have GE285 := Az_ ((by rw [hg]; exact (below_size (ubz_ HB.out)) : w.heap.size ≤ gb285)); replace HB := Az_ (btz_ (ubz_ HB.out) hb); clear hb hbox hg) | ((with_reducible refine gate_callee (f := 126) rfl ?_); refine goesL_ (some 11) rfl rfl Tryz.func126 (w110_) rfl #[.pointer (some ⟨gb285, 0, none⟩), .int .i64 12] rfl maz_ ?_; have HI285 := Az_ (show IsS99 w w3 gb285 l0 0 0 from ⟨_, _, BK285.out, GE285.out, HR0.out⟩); (with_reducible refine (spec_l1Cur_pick.calls gb285 l0 0 0 12 t286 t287 t288 w _ ?side1 ?side2 A2.out).mono ?_); (case side1 => repeat (first | (with_reducible first | exact HI285.out | apply IsS99.alloc | apply IsS99.drewN | apply IsS99.drew | apply IsS99.set_1 | apply IsS99.set_2) | exact HI285.out)); (case side2 => repeat (first | (with_reducible first | exact HB.out | apply baz_ | apply bnz_ | apply bdz_ | refine bsz_ ?_ (IsS99.ge HI285.out)) | exact HB.out)); rintro e w4 ⟨rfl, hi, hb, hk⟩; refine ⟨_, rfl, ?_⟩; replace HB := Az_ (hb); replace HI285 := Az_ (hi); (try clear hb); (try clear hk); (try clear hi)))
 go_loopg [4, 5, 6] k (fun kq v4 v5 v6 w' => ∃ (x4_1 : List Int) (x5_1 : Int) (x6_1 : Int) (x286001_1 : Int) (x286002_1 : Int), v5 = .int .i64 x5_1 ∧ v6 = .int .i64 x6_1 ∧ Aside0 (spec_DrawRangesOfPages.l0 kq x4_1 x5_1 x6_1 l0 x286001_1 x286002_1 = some r) ∧ Aside0 (kq ≤ k) ∧ Aside0 (Kd.R (Kd.int .i64) 3 w' w.heap.size (fun _ => True) v4 x4_1) ∧ Aside0 (IsS99 w w' gb285 l0 x286001_1 x286002_1) ∧ Aside0 (Below w.heap.size w w'))
 case atStart => exact ⟨(([] : List Int)), (0), (t286), (t287), (t288), qaz_, qaz_, H', ⟨Nat.le_refl _⟩, ⟨w41_⟩, ⟨w27_⟩, ⟨w36_⟩⟩
 case round =>
  clear H'
  obtain ⟨x4_1, x5_1, x6_1, x286001_1, x286002_1, rfl, rfl, HA, HK1, HO_4, HI285, HB⟩ := hrel
  cases gk with
  | zero => exact absurd HA.out (by simp [spec_DrawRangesOfPages.l0])
  | succ k1 =>
   have H := HA.out
   clear HA
   simp only [spec_DrawRangesOfPages.l0] at H
   by_cases c5 : x6_1 > 0
   ·rw [if_pos c5] at H
    have c5b0 := decide_eq_true c5
    clear c5
    obtain ⟨y289, hy289⟩ : ∃ y_ : List Int, y_ = (([1, 1, 1, 2, 3, 7] : List Int)) := ⟨_, rfl⟩
    replace H : ((spec_l1Cur_among.f l0 x286001_1 x286002_1 y289).bind fun bt292 => (if x4_1.length < 17592186044416 then (spec_DrawRangesOfPages.l0 k1 (x4_1 ++ [wrap64 (x5_1 + bt292.1)]) (wrap64 (x5_1 + bt292.1)) (wrap64 (x6_1 - 1)) l0 bt292.2.1 bt292.2.2) else (none))) = some r := by first | (rw [hy289]; with_reducible exact H) | (have H2_ := (Option.bind_some _ _).symm.trans H; rw [hy289]; with_reducible exact H2_) | (have H2_ := (Option.bind_some _ _).symm.trans H; with_reducible exact H2_) | with_reducible exact H | (rw [hy289]; exact H) | exact H
    have Ny289 := Az_ hy289
    clear hy289
    replace H := bqz_ H; obtain ⟨⟨t292, t293, t294⟩, A6, H⟩ := H
    replace H : (if x4_1.length < 17592186044416 then (spec_DrawRangesOfPages.l0 k1 (x4_1 ++ [wrap64 (x5_1 + t292)]) (wrap64 (x5_1 + t292)) (wrap64 (x6_1 - 1)) l0 t293 t294) else (none)) = some r := H
    by_cases c7 : x4_1.length < 17592186044416
    ·rw [if_pos c7] at H
     have LMc7 := Az_ c7
     clear c7
     obtain ⟨y295, hy295⟩ : ∃ y_ : List Int, y_ = (x4_1 ++ [wrap64 (x5_1 + t292)]) := ⟨_, rfl⟩
     replace H : (spec_DrawRangesOfPages.l0 k1 y295 (wrap64 (x5_1 + t292)) (wrap64 (x6_1 - 1)) l0 t293 t294) = some r := by first | (rw [hy295]; with_reducible exact H) | (have H2_ := (Option.bind_some _ _).symm.trans H; rw [hy295]; with_reducible exact H2_) | (have H2_ := (Option.bind_some _ _).symm.trans H; with_reducible exact H2_) | with_reducible exact H | (rw [hy295]; exact H) | exact H
     have Ny295 := Az_ hy295
     clear hy295
     have H' := Az_ H
     clear H
     go_wp2_with (first | ((with_reducible refine gate_dst (N := 18) rfl ?_); refine Kd.R_lit (Kd.int .i64) _ 3 ?hg (N := 18) ?hd (xs := ([1, 1, 1, 2, 3, 7] : List Int)) (inner := [.int .i64 1, .int .i64 1, .int .i64 1, .int .i64 2, .int .i64 3, .int .i64 7]) (ok := fun _ => True) (okp := fun _ => True) ?hr ?hp (fun _ hk => hk) trivial (Below.refl _ _) (Nat.le_refl _) (by simp) ?_; (case hd => rfl); (case hg => rfl); (case hr => first | (go_simp; done) | (go_simp; rfl)); (case hp => exact (Reps.one (show Kd.M (Kd.int .i64) _ _ _ 1 [.int .i64 1] from rfl) (Reps.one (show Kd.M (Kd.int .i64) _ _ _ 1 [.int .i64 1] from rfl) (Reps.one (show Kd.M (Kd.int .i64) _ _ _ 1 [.int .i64 1] from rfl) (Reps.one (show Kd.M (Kd.int .i64) _ _ _ 2 [.int .i64 2] from rfl) (Reps.one (show Kd.M (Kd.int .i64) _ _ _ 3 [.int .i64 3] from rfl) (Reps.one (show Kd.M (Kd.int .i64) _ _ _ 7 [.int .i64 7] from rfl) (Reps.none _ _)))))))); intro v290 w8 ho9 hb hg_ hnew_; clear hg_ hnew_; (first | rw [← Ny289.out] at ho9 | (simp only [Int.reduceToNat] at ho9; rw [← Ny289.out] at ho9)); have HO291 := Az_ (Kd.R_lower (Kd.R_new' ho9 (Kd.R_lt (w105_))) (below_size (w36_))); replace HO_4 := Az_ (rez_ (w105_) (Kd.R_base ho9) hb); replace HB := Az_ (btz_ (w36_) hb); replace HI285 := Az_ (IsS99.below (w27_) hb); clear hb ho9; obtain ⟨Ao10, co10, eo10⟩ := Kd.R_slice HO291.out; subst eo10) | ((with_reducible refine gate_callee (f := 127) rfl ?_); refine goesL_ (some 19) rfl rfl Tryz.func127 (w110_) rfl #[.pointer (some ⟨gb285, 0, none⟩), .slice Ao10 y289.length co10] rfl maz_ ?_; (with_reducible refine (spec_l1Cur_among.calls gb285 l0 x286001_1 x286002_1 _ _ y289 t292 t293 t294 w _ ?side1 ?side2 ?side3 ?side4 ?side5 A6.out).mono ?_); (case side1 => repeat (first | (with_reducible first | exact HI285.out | apply IsS99.alloc | apply IsS99.drewN | apply IsS99.drew | apply IsS99.set_1 | apply IsS99.set_2) | exact HI285.out)); (case side2 => repeat (first | (with_reducible first | exact HB.out | apply baz_ | apply bnz_ | apply bdz_ | refine bsz_ ?_ (IsS99.ge HI285.out)) | exact HB.out)); (case side3 => exact ucz_ ((Kd.R_reads' HO291.out).2.2)); (case side4 => exact (Kd.R_reads' HO291.out).2.1); (case side5 => exact far_slice (IsS99.own_ne HI285.out HO291.out (by decide))); rintro e w11 ⟨rfl, hi, hb, hk⟩; refine ⟨_, rfl, ?_⟩; replace HO_4 := Az_ (Kd.R_mono (Kd.R_keep (IsS99.apart (show IsS99 w _ gb285 l0 x286001_1 x286002_1 from w27_) (w105_) (by decide)) hk (fun _ h => h.2)) (fun _ h => h.1)); replace HO291 := Az_ (Kd.R_mono (Kd.R_keep (IsS99.apart (show IsS99 w _ gb285 l0 x286001_1 x286002_1 from w27_) (by exact urz_ HO291.out) (by decide)) hk (fun _ h => h.2)) (fun _ h => h.1)); replace HB := Az_ (hb); replace HI285 := Az_ (hi); (try clear hb); (try clear hk); (try clear hi)) | ((with_reducible refine gate_builtin (b := .append) (xs := #[.tmp 21, .tmp 23]) rfl ?_); at_builtin; refine Kd.R_append (Kd.int .i64) (w0 := w) w.heap.size rfl (.tmp 21) (.tmp 23) 24 3 (.int .i64 0) 8 rfl Tryz.underlying24 info3 rfl (by decide) (by omega) u4 x4_1 (wrap64 (x5_1 + t292)) [.int .i64 (wrap64 (x5_1 + t292))] (fun k_ => some k_ ≠ (.slice Ao10 y289.length co10 : Value).ownBlock) (fun _ => False) rfl rfl ?aP (fun _ hk => hk.elim) ?aF ?aO ?aB ?aS ?aL ?_; (case aP => exact rfl); (case aB => exact (w36_)); (case aF => exact (fun k_ hk => Kd.fresh' (Kd.R_lt (by exact urz_ HO291.out)) k_ hk)); (case aO => exact (by (with_reducible repeat (first | apply raz_ | apply rnz_ | apply rdz_)); exact Kd.R_mono HO_4.out (fun _ hk => hk.2))); (case aS => exact (below_size (w36_))); (case aL => have := LMc7.out; omega); intro v296 w12 ho hb hg hat; rw [← Ny295.out] at ho; replace HI285 := Az_ (IsS99.grown (show IsS99 w _ gb285 l0 t293 t294 from w27_) hg (IsS99.own_ne HI285.out HO_4.out (by decide))); replace HO291 := Az_ (Kd.R_after (ok := (fun _ => True)) (by exact urz_ HO291.out) hg hat); replace HB := Az_ (hb); have HO297 := Az_ (ho); clear HO_4; clear ho hb hg hat))
     go_roundg k1
     case measure => have := HK1.out; omega
     case rel => exact ⟨(y295), (wrap64 (x5_1 + t292)), (wrap64 (x6_1 - 1)), (t293), (t294), qaz_, qaz_, H', ⟨w83_⟩, ⟨by (with_reducible repeat (first | apply raz_ | apply rnz_ | apply rdz_)); exact Kd.R_mono HO297.out (fun _ hk => trivial)⟩, ⟨w27_⟩, ⟨w36_⟩⟩
    ·rw [if_neg c7] at H
     exact absurd H (by simp)
   ·rw [if_neg c5] at H
    have c5b0 := decide_eq_false c5
    clear c5
    replace H := bqz_ H; obtain ⟨⟨t298, t299, t300⟩, A13, H⟩ := H
    replace H : (if t298 = true then ((spec_l1Cur_among.f l0 t299 t300 (([0, 1, 2000, 2001] : List Int))).bind fun bt304 => (if x4_1.length < 17592186044416 then (some (x4_1 ++ [bt304.1])) else (none))) else (some x4_1)) = some r := H
    by_cases c14 : t298 = true
    ·subst c14
     rw [if_pos rfl] at H
     obtain ⟨y301, hy301⟩ : ∃ y_ : List Int, y_ = (([0, 1, 2000, 2001] : List Int)) := ⟨_, rfl⟩
     replace H : ((spec_l1Cur_among.f l0 t299 t300 y301).bind fun bt304 => (if x4_1.length < 17592186044416 then (some (x4_1 ++ [bt304.1])) else (none))) = some r := by first | (rw [hy301]; with_reducible exact H) | (have H2_ := (Option.bind_some _ _).symm.trans H; rw [hy301]; with_reducible exact H2_) | (have H2_ := (Option.bind_some _ _).symm.trans H; with_reducible exact H2_) | with_reducible exact H | (rw [hy301]; exact H) | exact H
     have Ny301 := Az_ hy301
     clear hy301
     replace H := bqz_ H; obtain ⟨⟨t304, t305, t306⟩, A15, H⟩ := H
     replace H : (if x4_1.length < 17592186044416 then (some (x4_1 ++ [t304])) else (none)) = some r := H
     by_cases c16 : x4_1.length < 17592186044416
     ·rw [if_pos c16] at H
      have LMc16 := Az_ c16
      clear c16
      obtain ⟨y307, hy307⟩ : ∃ y_ : List Int, y_ = (x4_1 ++ [t304]) := ⟨_, rfl⟩
      replace H : (some y307) = some r := by first | (rw [hy307]; with_reducible exact H) | (have H2_ := (Option.bind_some _ _).symm.trans H; rw [hy307]; with_reducible exact H2_) | (have H2_ := (Option.bind_some _ _).symm.trans H; with_reducible exact H2_) | with_reducible exact H | (rw [hy307]; exact H) | exact H
      have Ny307 := Az_ hy307
      clear hy307
      obtain rfl := Option.some.inj H
      go_wp2_with (first | ((with_reducible refine gate_callee (f := 94) rfl ?_); refine goesL_ (some 26) rfl rfl Tryz.func94 (w110_) rfl #[.pointer (some ⟨gb285, 0, none⟩), .int .i64 12] rfl maz_ ?_; (with_reducible refine (spec_l1Cur_one.calls gb285 l0 x286001_1 x286002_1 12 true t299 t300 w _ ?side1 ?side2 A13.out).mono ?_); (case side1 => repeat (first | (with_reducible first | exact HI285.out | apply IsS99.alloc | apply IsS99.drewN | apply IsS99.drew | apply IsS99.set_1 | apply IsS99.set_2) | exact HI285.out)); (case side2 => repeat (first | (with_reducible first | exact HB.out | apply baz_ | apply bnz_ | apply bdz_ | refine bsz_ ?_ (IsS99.ge HI285.out)) | exact HB.out)); rintro e w17 ⟨rfl, hi, hb, hk⟩; refine ⟨_, rfl, ?_⟩; replace HO_4 := Az_ (Kd.R_mono (Kd.R_keep (IsS99.apart (show IsS99 w _ gb285 l0 x286001_1 x286002_1 from w27_) (w105_) (by decide)) hk (fun _ h => h.2)) (fun _ h => h.1)); replace HB := Az_ (hb); replace HI285 := Az_ (hi); (try clear hb); (try clear hk); (try clear hi)) | ((with_reducible refine gate_dst (N := 29) rfl ?_); refine Kd.R_lit (Kd.int .i64) _ 3 ?hg (N := 29) ?hd (xs := ([0, 1, 2000, 2001] : List Int)) (inner := [.int .i64 0, .int .i64 1, .int .i64 2000, .int .i64 2001]) (ok := fun _ => True) (okp := fun _ => True) ?hr ?hp (fun _ hk => hk) trivial (Below.refl _ _) (Nat.le_refl _) (by simp) ?_; (case hd => rfl); (case hg => rfl); (case hr => first | (go_simp; done) | (go_simp; rfl)); (case hp => exact (Reps.one (show Kd.M (Kd.int .i64) _ _ _ 0 [.int .i64 0] from rfl) (Reps.one (show Kd.M (Kd.int .i64) _ _ _ 1 [.int .i64 1] from rfl) (Reps.one (show Kd.M (Kd.int .i64) _ _ _ 2000 [.int .i64 2000] from rfl) (Reps.one (show Kd.M (Kd.int .i64) _ _ _ 2001 [.int .i64 2001] from rfl) (Reps.none _ _)))))); intro v302 w18 ho19 hb hg_ hnew_; clear hg_ hnew_; (first | rw [← Ny301.out] at ho19 | (simp only [Int.reduceToNat] at ho19; rw [← Ny301.out] at ho19)); have HO303 := Az_ (Kd.R_lower (Kd.R_new' ho19 (Kd.R_lt (w105_))) (below_size (w36_))); replace HO_4 := Az_ (rez_ (w105_) (Kd.R_base ho19) hb); replace HB := Az_ (btz_ (w36_) hb); replace HI285 := Az_ (IsS99.below (w27_) hb); clear hb ho19; obtain ⟨Ao20, co20, eo20⟩ := Kd.R_slice HO303.out; subst eo20) | ((with_reducible refine gate_callee (f := 127) rfl ?_); refine goesL_ (some 30) rfl rfl Tryz.func127 (w110_) rfl #[.pointer (some ⟨gb285, 0, none⟩), .slice Ao20 y301.length co20] rfl maz_ ?_; (with_reducible refine (spec_l1Cur_among.calls gb285 l0 t299 t300 _ _ y301 t304 t305 t306 w _ ?side1 ?side2 ?side3 ?side4 ?side5 A15.out).mono ?_); (case side1 => repeat (first | (with_reducible first | exact HI285.out | apply IsS99.alloc | apply IsS99.drewN | apply IsS99.drew | apply IsS99.set_1 | apply IsS99.set_2) | exact HI285.out)); (case side2 => repeat (first | (with_reducible first | exact HB.out | apply baz_ | apply bnz_ | apply bdz_ | refine bsz_ ?_ (IsS99.ge HI285.out)) | exact HB.out)); (case side3 => exact ucz_ ((Kd.R_reads' HO303.out).2.2)); (case side4 => exact (Kd.R_reads' HO303.out).2.1); (case side5 => exact far_slice (IsS99.own_ne HI285.out HO303.out (by decide))); rintro e w21 ⟨rfl, hi, hb, hk⟩; refine ⟨_, rfl, ?_⟩; replace HO_4 := Az_ (Kd.R_mono (Kd.R_keep (IsS99.apart (show IsS99 w _ gb285 l0 t299 t300 from w27_) (w105_) (by decide)) hk (fun _ h => h.2)) (fun _ h => h.1)); replace HO303 := Az_ (Kd.R_mono (Kd.R_keep (IsS99.apart (show IsS99 w _ gb285 l0 t299 t300 from w27_) (by exact urz_ HO303.out) (by decide)) hk (fun _ h => h.2)) (fun _ h => h.1)); replace HB := Az_ (hb); replace HI285 := Az_ (hi); (try clear hb); (try clear hk); (try clear hi)) | ((with_reducible refine gate_builtin (b := .append) (xs := #[.tmp 27, .tmp 31]) rfl ?_); at_builtin; refine Kd.R_append (Kd.int .i64) (w0 := w) w.heap.size rfl (.tmp 27) (.tmp 31) 24 3 (.int .i64 0) 8 rfl Tryz.underlying24 info3 rfl (by decide) (by omega) u4 x4_1 t304 [.int .i64 t304] (fun k_ => some k_ ≠ (.slice Ao20 y301.length co20 : Value).ownBlock) (fun _ => False) rfl rfl ?aP (fun _ hk => hk.elim) ?aF ?aO ?aB ?aS ?aL ?_; (case aP => exact rfl); (case aB => exact (w36_)); (case aF => exact (fun k_ hk => Kd.fresh' (Kd.R_lt (by exact urz_ HO303.out)) k_ hk)); (case aO => exact (by (with_reducible repeat (first | apply raz_ | apply rnz_ | apply rdz_)); exact Kd.R_mono HO_4.out (fun _ hk => hk.2))); (case aS => exact (below_size (w36_))); (case aL => have := LMc16.out; omega); intro v308 w22 ho hb hg hat; rw [← Ny307.out] at ho; replace HI285 := Az_ (IsS99.grown (show IsS99 w _ gb285 l0 t305 t306 from w27_) hg (IsS99.own_ne HI285.out HO_4.out (by decide))); replace HO303 := Az_ (Kd.R_after (ok := (fun _ => True)) (by exact urz_ HO303.out) hg hat); replace HB := Az_ (hb); have HO309 := Az_ (ho); clear HO_4; clear ho hb hg hat))
      go_ret
      exact ⟨_, w61_, by (with_reducible repeat (first | apply raz_ | apply rnz_ | apply rdz_)); exact Kd.R_mono HO309.out (fun _ hk => trivial), w36_⟩
     ·rw [if_neg c16] at H
      exact absurd H (by simp)
    ·replace c14 := Bool.eq_false_iff.mpr c14
     subst c14
     rw [if_neg nfz_] at H
     obtain rfl := Option.some.inj H
     go_wp2_with (first | ((with_reducible refine gate_callee (f := 94) rfl ?_); refine goesL_ (some 26) rfl rfl Tryz.func94 (w110_) rfl #[.pointer (some ⟨gb285, 0, none⟩), .int .i64 12] rfl maz_ ?_; (with_reducible refine (spec_l1Cur_one.calls gb285 l0 x286001_1 x286002_1 12 false t299 t300 w _ ?side1 ?side2 A13.out).mono ?_); (case side1 => repeat (first | (with_reducible first | exact HI285.out | apply IsS99.alloc | apply IsS99.drewN | apply IsS99.drew | apply IsS99.set_1 | apply IsS99.set_2) | exact HI285.out)); (case side2 => repeat (first | (with_reducible first | exact HB.out | apply baz_ | apply bnz_ | apply bdz_ | refine bsz_ ?_ (IsS99.ge HI285.out)) | exact HB.out)); rintro e w23 ⟨rfl, hi, hb, hk⟩; refine ⟨_, rfl, ?_⟩; replace HO_4 := Az_ (Kd.R_mono (Kd.R_keep (IsS99.apart (show IsS99 w _ gb285 l0 x286001_1 x286002_1 from w27_) (w105_) (by decide)) hk (fun _ h => h.2)) (fun _ h => h.1)); replace HB := Az_ (hb); replace HI285 := Az_ (hi); (try clear hb); (try clear hk); (try clear hi)))
     go_ret
     exact ⟨_, w61_, w70_, w36_⟩

end Go.Proofs.YtppbpefehpbejaaGreatDoor.P
end

section
namespace Go.Proofs.YtppbpefehpbejaaGreatDoor.P
open Go.RowKit Go.Proofs.YtppbpefehpbejaaGreatDoorW.PrintWords Go.Proofs.YtppbpefehpbejaaGreatDoorW.PrintLast Go.Proofs.YtppbpefehpbejaaGreatDoorW.PrintMore
attribute [local go_sem] max2_int min2_int max_two min_two max_three min_three max_four min_four   -- for this text's walks alone
set_option linter.unusedVariables false
set_option linter.unusedSimpArgs false

def spec_l1Rising.l0 : Nat → List Int → Int → Int → List Int → Int → Int → Option (Bool)
 | 0, _, _, _, _, _, _ => none
 | k + 1, x0, x1, x2, x9, x10, x11 => if x11 < x10 then (if 0 ≤ x11 then (if x11 < (x9.length : Int) then ((spec_l1In.f (rd x9 x11) x1 x2).bind fun t311 => (if t311 = true then (if x11 > 0 then (if 0 ≤ (wrap64 (x11 - 1)) then (if (wrap64 (x11 - 1)) < (x0.length : Int) then (if (rd x0 (wrap64 (x11 - 1))) ≥ (rd x9 x11) then (some false) else (spec_l1Rising.l0 k x0 x1 x2 x9 x10 (wrap64 (x11 + 1)))) else (none)) else (none)) else (spec_l1Rising.l0 k x0 x1 x2 x9 x10 (wrap64 (x11 + 1)))) else (some false))) else (none)) else (none)) else (some true)
def spec_l1Rising.f (k : Nat) (l0 : List Int) (a1 : Int) (a2 : Int) : Option (Bool) := spec_l1Rising.l0 k l0 a1 a2 l0 (l0.length : Int) 0
set_option maxHeartbeats 8000000 in
set_option maxRecDepth 100000 in
theorem spec_l1Rising.calls (k : Nat) (A0 : Option Addr) (c0 : Nat) (l0 : List Int) (a1 : Int) (a2 : Int) (r : Bool) (w : World) (hr0 : Kd.C (Kd.int .i64) w A0 l0.length l0) (hc0 : l0.length ≤ c0) (h : spec_l1Rising.f k l0 a1 a2 = some r) :
  Calls Tryz.prog 134 #[.slice A0 l0.length c0, .int .i64 a1, .int .i64 a2] w fun e w' => e = .returned (.bool r) ∧ Drawn0 w w' := by
 have HR0 := Az_ hr0
 have HC0 := Az_ hc0
 clear hr0 hc0
 have H : (spec_l1Rising.l0 k l0 a1 a2 l0 (l0.length : Int) 0) = some r := h
 clear h
 have H' := Az_ H
 clear H
 go_enter Tryz.func134, Tryz.ntmps134
 go_wp2
 go_loopg [11] k (fun kq v11 w' => ∃ (x11_1 : Int), v11 = .int .i64 x11_1 ∧ Aside0 (spec_l1Rising.l0 kq l0 a1 a2 l0 (l0.length : Int) x11_1 = some r) ∧ Aside0 (kq ≤ k) ∧ Drawn0 w w')
 case atStart => exact ⟨(0), qaz_, H', ⟨Nat.le_refl _⟩, w74_⟩
 case round =>
  clear H'
  obtain ⟨x11_1, rfl, HA, HK1, ⟨m1, rfl⟩⟩ := hrel
  cases gk with
  | zero => exact absurd HA.out (by simp [spec_l1Rising.l0])
  | succ k1 =>
   have H := HA.out
   clear HA
   simp only [spec_l1Rising.l0] at H
   by_cases c4 : x11_1 < (l0.length : Int)
   ·rw [if_pos c4] at H
    have c4b0 := decide_eq_true c4
    clear c4
    by_cases c5 : 0 ≤ x11_1
    ·rw [if_pos c5] at H
     have c5b0 := decide_eq_true c5
     clear c5
     by_cases c6 : x11_1 < (l0.length : Int)
     ·rw [if_pos c6] at H
      have c6b0 := decide_eq_true c6
      clear c6
      replace H := bqz_ H; obtain ⟨t311, A7, H⟩ := H
      replace H : (if t311 = true then (if x11_1 > 0 then (if 0 ≤ (wrap64 (x11_1 - 1)) then (if (wrap64 (x11_1 - 1)) < (l0.length : Int) then (if (rd l0 (wrap64 (x11_1 - 1))) ≥ (rd l0 x11_1) then (some false) else (spec_l1Rising.l0 k1 l0 a1 a2 l0 (l0.length : Int) (wrap64 (x11_1 + 1)))) else (none)) else (none)) else (spec_l1Rising.l0 k1 l0 a1 a2 l0 (l0.length : Int) (wrap64 (x11_1 + 1)))) else (some false)) = some r := H
      by_cases c8 : t311 = true
      ·subst c8
       rw [if_pos rfl] at H
       by_cases c9 : x11_1 > 0
       ·rw [if_pos c9] at H
        have c9b0 := decide_eq_true c9
        clear c9
        obtain ⟨ji10, hji10⟩ : ∃ j_ : Int, (wrap64 (x11_1 - 1)) = j_ := ⟨_, rfl⟩
        replace H : (if 0 ≤ (ji10) then (if (ji10) < (l0.length : Int) then (if (rd l0 (ji10)) ≥ (rd l0 x11_1) then (some false) else (spec_l1Rising.l0 k1 l0 a1 a2 l0 (l0.length : Int) (wrap64 (x11_1 + 1)))) else (none)) else (none)) = some r := by first | (rw [hji10] at H; exact H) | (simp only [hji10] at H ⊢; exact H)
        (try rw [hji10] at A7)
        have hji10w : (IntKind.i64.wrap (x11_1 - 1)) = ji10 := (i64_w _).trans hji10
        by_cases c11 : 0 ≤ (ji10)
        ·rw [if_pos c11] at H
         have c11b0 := decide_eq_true c11
         clear c11
         by_cases c12 : (ji10) < (l0.length : Int)
         ·rw [if_pos c12] at H
          have c12b0 := decide_eq_true c12
          clear c12
          by_cases c13 : (rd l0 (ji10)) ≥ (rd l0 x11_1)
          ·rw [if_pos c13] at H
           have c13b0 := decide_eq_true c13
           clear c13
           obtain rfl := Option.some.inj H
           have p310 : 0 ≤ (x11_1 : Int) := of_decide_eq_true asz_
           have q310 : x11_1 < (l0.length : Int) := of_decide_eq_true asz_
           obtain ⟨ad310, e310, hx310_0⟩ := Kd.at_int HR0.out x11_1 p310 q310
           cases e310
           replace p310 := eq_true p310
           replace q310 := eq_true q310
           go_wp2_with (first | ((with_reducible refine gate_callee (f := 159) rfl ?_); refine goesL_ (some 19) rfl rfl Tryz.func159 (w110_) rfl #[.int .i64 (rd l0 x11_1), .int .i64 a1, .int .i64 a2] rfl maz_ ?_; (with_reducible refine (spec_l1In.calls (rd l0 x11_1) a1 a2 true _ A7.out).mono ?_); rintro e w' ⟨rfl, ⟨nd, rfl⟩⟩; refine ⟨_, rfl, ?_⟩; have p312 : 0 ≤ ((ji10) : Int) := of_decide_eq_true asz_; have q312 : (ji10) < (l0.length : Int) := of_decide_eq_true asz_; obtain ⟨ad312, e312, hx312_0⟩ := Kd.at_int HR0.out (ji10) p312 q312; obtain rfl : ad310 = ad312 := (by injection e312); replace p312 := eq_true p312; replace q312 := eq_true q312))
           go_ret
           exact ⟨by first | rfl | (simp; done) | (simp only [← hji10] <;> (first | rfl | simp)) | (simp [*]; done), w74_⟩
          ·rw [if_neg c13] at H
           have c13b0 := decide_eq_false c13
           clear c13
           have H' := Az_ H
           clear H
           have p310 : 0 ≤ (x11_1 : Int) := of_decide_eq_true asz_
           have q310 : x11_1 < (l0.length : Int) := of_decide_eq_true asz_
           obtain ⟨ad310, e310, hx310_0⟩ := Kd.at_int HR0.out x11_1 p310 q310
           cases e310
           replace p310 := eq_true p310
           replace q310 := eq_true q310
           go_wp2_with (first | ((with_reducible refine gate_callee (f := 159) rfl ?_); refine goesL_ (some 19) rfl rfl Tryz.func159 (w110_) rfl #[.int .i64 (rd l0 x11_1), .int .i64 a1, .int .i64 a2] rfl maz_ ?_; (with_reducible refine (spec_l1In.calls (rd l0 x11_1) a1 a2 true _ A7.out).mono ?_); rintro e w' ⟨rfl, ⟨nd, rfl⟩⟩; refine ⟨_, rfl, ?_⟩; have p312 : 0 ≤ ((ji10) : Int) := of_decide_eq_true asz_; have q312 : (ji10) < (l0.length : Int) := of_decide_eq_true asz_; obtain ⟨ad312, e312, hx312_0⟩ := Kd.at_int HR0.out (ji10) p312 q312; obtain rfl : ad310 = ad312 := (by injection e312); replace p312 := eq_true p312; replace q312 := eq_true q312))
           go_roundg k1
           case measure => have := HK1.out; omega
           case rel => exact ⟨(wrap64 (x11_1 + 1)), qaz_, H', ⟨w83_⟩, w74_⟩
         ·rw [if_neg c12] at H
          exact absurd H (by simp)
        ·rw [if_neg c11] at H
         exact absurd H (by simp)
       ·rw [if_neg c9] at H
        have c9b0 := decide_eq_false c9
        clear c9
        have H' := Az_ H
        clear H
        have p310 : 0 ≤ (x11_1 : Int) := of_decide_eq_true asz_
        have q310 : x11_1 < (l0.length : Int) := of_decide_eq_true asz_
        obtain ⟨ad310, e310, hx310_0⟩ := Kd.at_int HR0.out x11_1 p310 q310
        cases e310
        replace p310 := eq_true p310
        replace q310 := eq_true q310
        go_wp2_with (first | ((with_reducible refine gate_callee (f := 159) rfl ?_); refine goesL_ (some 19) rfl rfl Tryz.func159 (w110_) rfl #[.int .i64 (rd l0 x11_1), .int .i64 a1, .int .i64 a2] rfl maz_ ?_; (with_reducible refine (spec_l1In.calls (rd l0 x11_1) a1 a2 true _ A7.out).mono ?_); rintro e w' ⟨rfl, ⟨nd, rfl⟩⟩; refine ⟨_, rfl, ?_⟩))
        go_roundg k1
        case measure => have := HK1.out; omega
        case rel => exact ⟨(wrap64 (x11_1 + 1)), qaz_, H', ⟨w83_⟩, w74_⟩
      ·replace c8 := Bool.eq_false_iff.mpr c8
       subst c8
       rw [if_neg nfz_] at H
       obtain rfl := Option.some.inj H
       have p310 : 0 ≤ (x11_1 : Int) := of_decide_eq_true asz_
       have q310 : x11_1 < (l0.length : Int) := of_decide_eq_true asz_
       obtain ⟨ad310, e310, hx310_0⟩ := Kd.at_int HR0.out x11_1 p310 q310
       cases e310
       replace p310 := eq_true p310
       replace q310 := eq_true q310
       go_wp2_with (first | ((with_reducible refine gate_callee (f := 159) rfl ?_); refine goesL_ (some 19) rfl rfl Tryz.func159 (w110_) rfl #[.int .i64 (rd l0 x11_1), .int .i64 a1, .int .i64 a2] rfl maz_ ?_; (with_reducible refine (spec_l1In.calls (rd l0 x11_1) a1 a2 false _ A7.out).mono ?_); rintro e w' ⟨rfl, ⟨nd, rfl⟩⟩; refine ⟨_, rfl, ?_⟩))
       go_ret
       exact ⟨w77_, w74_⟩
     ·rw [if_neg c6] at H
      exact absurd H (by simp)
    ·rw [if_neg c5] at H
     exact absurd H (by simp)
   ·rw [if_neg c4] at H
    have c4b0 := decide_eq_false c4
    clear c4
    obtain rfl := Option.some.inj H
    go_wp2
    go_ret
    exact ⟨w77_, w74_⟩

mutual
def spec_RangesOfPages.j0 : Nat → List Int → Bool → Option ((List (S69)) × Bool)
 | 0, _, _ => none
 | k + 1, x0, x14 => if x14 = true then (some (([] : List (S69)), false)) else (if 2002 ≤ 281474976710656 then (spec_RangesOfPages.l0 k (List.replicate 2002 false) x0 (x0.length : Int) 0) else (none))
def spec_RangesOfPages.l0 : Nat → List Bool → List Int → Int → Int → Option ((List (S69)) × Bool)
 | 0, _, _, _, _ => none
 | k + 1, x4, x16, x17, x18 => if x18 < x17 then (if 0 ≤ x18 then (if x18 < (x16.length : Int) then (if 0 ≤ (rd x16 x18) then (if (rd x16 x18) < (x4.length : Int) then (spec_RangesOfPages.l0 k (x4.set ((rd x16 x18) : Int).toNat true) x16 x17 (wrap64 (x18 + 1))) else (none)) else (none)) else (none)) else (none)) else ((spec_ixOf.f k x4).bind fun bt319 => (some (bt319.1, bt319.2)))
end
def spec_RangesOfPages.f (k : Nat) (l0 : List Int) : Option ((List (S69)) × Bool) := if (l0.length : Int) > 2000 then (spec_RangesOfPages.j0 k l0 true) else ((spec_l1Rising.f k l0 1 2000).bind fun t313 => (spec_RangesOfPages.j0 k l0 (!t313)))
set_option maxHeartbeats 8000000 in
set_option maxRecDepth 100000 in
theorem spec_RangesOfPages.calls (k : Nat) (A0 : Option Addr) (c0 : Nat) (l0 : List Int) (r1 : List (S69)) (r2 : Bool) (w : World) (hr0 : Kd.C (Kd.int .i64) w A0 l0.length l0) (hc0 : l0.length ≤ c0) (h : spec_RangesOfPages.f k l0 = some (r1, r2)) :
  Calls Tryz.prog 50 #[.slice A0 l0.length c0] w fun e w' => ∃ v0_ : Value, e = .returned (.tuple #[v0_, .bool r2]) ∧ Kd.R k69 69 w' w.heap.size (fun _ => True) v0_ r1 ∧ Below w.heap.size w w' := by
 have HR0 := Az_ hr0
 have HC0 := Az_ hc0
 clear hr0 hc0
 have HB := Az_ (Below.refl w.heap.size w)
 have H : (if (l0.length : Int) > 2000 then (j0 k l0 true) else ((spec_l1Rising.f k l0 1 2000).bind fun t313 => (j0 k l0 (!t313)))) = some (r1, r2) := h
 clear h
 have HC2 := Az_ H
 clear H
 go_enter Tryz.func50, Tryz.ntmps50
 go_upto_region 1 with (fail)
 go_cut [14] (fun v14 wc => ∃ (kq : Nat) (x14_1 : Bool), v14 = .bool x14_1 ∧ Aside0 (j0 kq l0 x14_1 = some (r1, r2)) ∧ Aside0 (kq ≤ k) ∧ Aside0 (Below w.heap.size w wc))
 case first =>
  have H := HC2.out
  clear HC2
  by_cases c3 : (l0.length : Int) > 2000
  ·rw [if_pos c3] at H
   have c3b0 := decide_eq_true c3
   have c3b1 : decide (2000 < l0.length) = true := decide_eq_true (by omega)
   clear c3
   (first | rw [c3b0] | (simp only [i64_w, i32_w]; rw [c3b0]) | skip)
   have H' := Az_ H
   clear H
   go_wp2
   go_meet
   case rel => exact ⟨_, (true), qaz_, H', ⟨w81_⟩, ⟨w109_⟩⟩
  ·rw [if_neg c3] at H
   have c3b0 := decide_eq_false c3
   have c3b1 : decide (2000 < l0.length) = false := decide_eq_false (by omega)
   clear c3
   (first | rw [c3b0] | (simp only [i64_w, i32_w]; rw [c3b0]) | skip)
   replace H := bqz_ H; obtain ⟨t313, A4, H⟩ := H
   replace H : (j0 k l0 (!t313)) = some (r1, r2) := H
   have H' := Az_ H
   clear H
   go_wp2_with (first | (go_at_call 134; (with_reducible refine (spec_l1Rising.calls k _ _ l0 1 2000 t313 _ ?side1 ?side2 A4.out).mono ?_); (case side1 => exact ucz_ ((Kd.C_below HR0.out HB.out))); (case side2 => first | exact HC0.out | (rw [List.length_take]; have := HC0.out; omega)); rintro e w' ⟨rfl, ⟨nd, rfl⟩⟩))
   go_meet
   case rel => exact ⟨_, (!t313), qaz_, H', ⟨w81_⟩, ⟨w109_⟩⟩
 case rest =>
  clear HC2
  obtain ⟨kq, x14_1, rfl, HA, HJ1, HB⟩ := hcut
  cases kq with
  | zero => exact absurd HA.out (by simp [j0])
  | succ kj1 =>
   have H := HA.out
   clear HA
   simp only [j0] at H
   by_cases c5 : x14_1 = true
   ·subst c5
    rw [if_pos rfl] at H
    simp only [Option.some.injEq, Prod.mk.injEq] at H
    obtain ⟨rfl, rfl⟩ := H
    go_wp2
    go_ret2
    exact ⟨_, w61_, w41_, w109_⟩
   ·replace c5 := Bool.eq_false_iff.mpr c5
    subst c5
    rw [if_neg nfz_] at H
    by_cases c6 : 2002 ≤ 281474976710656
    ·rw [if_pos c6] at H
     have c6b0 := eq_true c6
     have c6b1 := decide_eq_true c6
     clear c6
     obtain ⟨y314, hy314⟩ : ∃ y_ : List Bool, y_ = (List.replicate 2002 false) := ⟨_, rfl⟩
     replace H : (spec_RangesOfPages.l0 kj1 y314 l0 (l0.length : Int) 0) = some (r1, r2) := by first | (rw [hy314]; with_reducible exact H) | (have H2_ := (Option.bind_some _ _).symm.trans H; rw [hy314]; with_reducible exact H2_) | (have H2_ := (Option.bind_some _ _).symm.trans H; with_reducible exact H2_) | with_reducible exact H | (rw [hy314]; exact H) | exact H
     have Ny314 := Az_ hy314
     clear hy314
     have H' := Az_ H
     clear H
     go_wp2_with (first | ((with_reducible refine gate_dst (N := 15) rfl ?_); refine Kd.R_make Kd.bool _ 4 rfl (N := 15) rfl 135 _ _ rfl 2002 rfl rfl Tryz.underlying135 (.bool false) 1 info4 rfl (by decide) (by omega) false (ok := fun _ => True) (okp := fun _ => True) rfl (fun _ hk => hk) trivial (by omega) (by omega) (Below.refl _ _) (Nat.le_refl _) ?_; intro v315 w7 ho8 hb hg_ hnew_; clear hg_ hnew_; (first | rw [← Ny314.out] at ho8 | (simp only [Int.reduceToNat] at ho8; rw [← Ny314.out] at ho8)); have HO316 := Az_ (Kd.R_lower ho8 (below_size (ubz_ HB.out))); replace HB := Az_ (btz_ (ubz_ HB.out) hb); clear hb ho8))
     go_loopg [18] kj1 (fun kq v18 w' => ∃ (x4_2 : List Bool) (x18_2 : Int), v18 = .int .i64 x18_2 ∧ Aside0 (spec_RangesOfPages.l0 kq x4_2 l0 (l0.length : Int) x18_2 = some (r1, r2)) ∧ Aside0 (kq ≤ kj1) ∧ Aside0 (Kd.R Kd.bool 4 w' w.heap.size (fun _ => True) v315 x4_2) ∧ Aside0 (Below w.heap.size w w'))
     case atStart => exact ⟨(y314), (0), qaz_, H', ⟨Nat.le_refl _⟩, ⟨by (with_reducible repeat (first | apply raz_ | apply rnz_ | apply rdz_)); exact HO316.out⟩, ⟨w109_⟩⟩
     case round =>
      clear H'
      clear c6b0 c6b1
      obtain ⟨x4_2, x18_2, rfl, HA, HK2, HO_4, HB⟩ := hrel
      cases gk with
      | zero => exact absurd HA.out (by simp [spec_RangesOfPages.l0])
      | succ k2 =>
       have H := HA.out
       clear HA
       simp only [spec_RangesOfPages.l0] at H
       by_cases c9 : x18_2 < (l0.length : Int)
       ·rw [if_pos c9] at H
        have c9b0 := decide_eq_true c9
        clear c9
        by_cases c10 : 0 ≤ x18_2
        ·rw [if_pos c10] at H
         have c10b0 := decide_eq_true c10
         clear c10
         by_cases c11 : x18_2 < (l0.length : Int)
         ·rw [if_pos c11] at H
          have c11b0 := decide_eq_true c11
          clear c11
          by_cases c12 : 0 ≤ (rd l0 x18_2)
          ·rw [if_pos c12] at H
           have c12b0 := decide_eq_true c12
           clear c12
           by_cases c13 : (rd l0 x18_2) < (x4_2.length : Int)
           ·rw [if_pos c13] at H
            have c13b0 := decide_eq_true c13
            clear c13
            obtain ⟨y318, hy318⟩ : ∃ y_ : List Bool, y_ = (x4_2.set ((rd l0 x18_2) : Int).toNat true) := ⟨_, rfl⟩
            replace H : (spec_RangesOfPages.l0 k2 y318 l0 (l0.length : Int) (wrap64 (x18_2 + 1))) = some (r1, r2) := by first | (rw [hy318]; with_reducible exact H) | (have H2_ := (Option.bind_some _ _).symm.trans H; rw [hy318]; with_reducible exact H2_) | (have H2_ := (Option.bind_some _ _).symm.trans H; with_reducible exact H2_) | with_reducible exact H | (rw [hy318]; exact H) | exact H
            have Ny318 := Az_ hy318
            clear hy318
            have H' := Az_ H
            clear H
            have p317 : 0 ≤ (x18_2 : Int) := of_decide_eq_true asz_
            have q317 : x18_2 < (l0.length : Int) := of_decide_eq_true asz_
            obtain ⟨ad317, e317, hx317_0⟩ := Kd.at_int HR0.out x18_2 p317 q317
            cases e317
            replace hx317_0 := (HB.out.cell (World.block_lt_of_cell? w _ hx317_0)).trans hx317_0
            replace p317 := eq_true p317
            replace q317 := eq_true q317
            have p14 : 0 ≤ ((rd l0 x18_2) : Int) := of_decide_eq_true asz_
            have q14 : ((rd l0 x18_2) : Int) < ((x4_2.length : Int) : Int) := of_decide_eq_true asz_
            obtain ⟨go14, co14, eo14, gb14, gl14, cl14, HG14⟩ := Kd.R_form HO_4.out (by omega)
            (first | cases eo14 | (injection eo14 with ea_ en_ ec_; (first | subst ea_ | (injection ea_ with ea_; subst ea_)); subst ec_; clear en_))
            have GB14 := Az_ gb14
            have GG14 := Az_ HG14
            clear gb14 gl14 HG14
            obtain ⟨hx14_0, hf14_0⟩ := Kd.R_celln false HO_4.out ((rd l0 x18_2) : Int) p14 q14
            replace p14 := eq_true p14
            replace q14 := eq_true q14
            have HP15 := Kd.R_putg HO_4.out ((rd l0 x18_2) : Int) true
            go_wp2_with (first | ((with_reducible refine gate_store (t := 4) (p := 24) rfl ?_); refine store_event (t := 4) (p := 24) (v := ?vo_w16) (w1 := (wr.setCell ⟨go14, ((rd l0 x18_2) : Int).toNat, none⟩ (.bool true))) ?hg ?ho ?hn ?hr ?_; (case ho => rfl); (case hg => rfl); (case hn => rfl); (case hr => first | (go_simp; done) | (go_simp; rfl)); intro w16 hw; have hg : wr.grownBy w16 (some go14) := (by rw [hw]; exact HP15.2); have hp_ : Kd.R Kd.bool 4 w16 w.heap.size (fun _ => True) (.slice (some ⟨go14, 0, none⟩) x4_2.length co14) y318 := (by rw [hw, Ny318.out]; exact HP15.1); clear HP15; replace HO_4 := Az_ (hp_); replace HB := Az_ ((by rw [hw]; exact bsz_ (HB.out) GB14.out : Below w.heap.size w w16)); clear hg hw hp_))
            go_roundg k2
            case measure => have := HJ1.out; have := HK2.out; omega
            case rel => exact ⟨(y318), (wrap64 (x18_2 + 1)), qaz_, H', ⟨by have := HJ1.out; have := HK2.out; omega⟩, ⟨w70_⟩, ⟨w109_⟩⟩
           ·rw [if_neg c13] at H
            exact absurd H (by simp)
          ·rw [if_neg c12] at H
           exact absurd H (by simp)
         ·rw [if_neg c11] at H
          exact absurd H (by simp)
        ·rw [if_neg c10] at H
         exact absurd H (by simp)
       ·rw [if_neg c9] at H
        have c9b0 := decide_eq_false c9
        clear c9
        replace H := bqz_ H; obtain ⟨⟨t319, t320⟩, A17, H⟩ := H
        replace H : (some (t319, t320)) = some (r1, r2) := H
        simp only [Option.some.injEq, Prod.mk.injEq] at H
        obtain ⟨rfl, rfl⟩ := H
        obtain ⟨Ao18, co18, eo18⟩ := Kd.R_slice HO_4.out
        subst eo18
        go_wp2_with (first | ((with_reducible refine gate_callee (f := 132) rfl ?_); refine goesL_ (some 27) rfl rfl Tryz.func132 (w110_) rfl #[.slice Ao18 x4_2.length co18] rfl maz_ ?_; (with_reducible refine (spec_ixOf.calls k2 _ _ x4_2 t319 t320 _ ?side1 ?side2 A17.out).mono ?_); (case side1 => exact ucz_ ((Kd.R_reads' HO_4.out).2.2)); (case side2 => exact (Kd.R_reads' HO_4.out).2.1); rintro e w19 ⟨v321, rfl, ho0, hb⟩; refine ⟨_, rfl, ?_⟩; replace HO_4 := Az_ (Kd.R_below (w105_) hb); have HO322 := Az_ (Kd.R_lower ho0 (below_size (ubz_ HB.out))); replace HB := Az_ (btz_ (ubz_ HB.out) hb); (try clear hb); (try clear ho0)))
        go_ret2
        exact ⟨_, w61_, by (with_reducible repeat (first | apply raz_ | apply rnz_ | apply rdz_)); exact HO322.out, w109_⟩
    ·rw [if_neg c6] at H
     exact absurd H (by simp)

def spec_DrawAreRanges.f (k : Nat) (l0 : List Int) : Option ((List (S69))) := (spec_l1Cur_ranges.f k l0 0 0).bind fun bt324 => (some bt324.1)
set_option maxHeartbeats 8000000 in
set_option maxRecDepth 100000 in
theorem spec_DrawAreRanges.calls (k : Nat) (A0 : Option Addr) (c0 : Nat) (l0 : List Int) (r : List (S69)) (w : World) (hr0 : Kd.C (Kd.int .u8) w A0 l0.length l0) (hc0 : l0.length ≤ c0) (h : spec_DrawAreRanges.f k l0 = some r) :
  Calls Tryz.prog 135 #[.slice A0 l0.length c0] w fun e w' => ∃ v0_ : Value, e = .returned (v0_) ∧ Kd.R k69 69 w' w.heap.size (fun _ => True) v0_ r ∧ Below w.heap.size w w' := by
 have hu99 := Tryz.underlying99
 have HR0 := Az_ hr0
 have HC0 := Az_ hc0
 clear hr0 hc0
 have HB := Az_ (Below.refl w.heap.size w)
 have H : ((spec_l1Cur_ranges.f k l0 0 0).bind fun bt324 => (some bt324.1)) = some r := h
 clear h
 replace H := bqz_ H; obtain ⟨⟨t324, t327, t328⟩, A2, H⟩ := H
 replace H : (some t324) = some r := H
 obtain rfl := Option.some.inj H
 go_enter Tryz.func135, Tryz.ntmps135
 go_wp2_with (first | ((with_reducible refine gate_dst (N := 6) rfl ?_); refine box_event ?hg (N := 6) ?hd (cs := #[.slice A0 l0.length c0, .int .i64 0, .int .u64 0]) (t := 99) ?hr ?_; (case hd => rfl); (case hg => rfl); (case hr => first | (go_simp; done) | (go_simp; rfl)); intro gb323 hg w3 hbox hb; have BK323 := Az_ (hbox); have GW323 := Az_ ((by rw [hg]; exact (below_size (ubz_ HB.out)) : w.heap.size ≤ gb323)); have GE323 := Az_ ((by rw [hg]; exact (below_size (ubz_ HB.out)) : w.heap.size ≤ gb323)); replace HB := Az_ (btz_ (ubz_ HB.out) hb); clear hb hbox hg) | ((with_reducible refine gate_callee (f := 117) rfl ?_); refine goesL_ (some 8) rfl rfl Tryz.func117 (w110_) rfl #[.pointer (some ⟨gb323, 0, none⟩)] rfl maz_ ?_; have HI323 := Az_ (show IsS99 w w3 gb323 l0 0 0 from ⟨_, _, BK323.out, GE323.out, HR0.out⟩); (with_reducible refine (spec_l1Cur_ranges.calls k gb323 l0 0 0 t324 t327 t328 w _ ?side1 ?side2 A2.out).mono ?_); (case side1 => repeat (first | (with_reducible first | exact HI323.out | apply IsS99.alloc | apply IsS99.drewN | apply IsS99.drew | apply IsS99.set_1 | apply IsS99.set_2) | exact HI323.out)); (case side2 => repeat (first | (with_reducible first | exact HB.out | apply baz_ | apply bnz_ | apply bdz_ | refine bsz_ ?_ (IsS99.ge HI323.out)) | exact HB.out)); rintro e w4 ⟨v325, rfl, ho0, hi, hb, hk⟩; refine ⟨_, rfl, ?_⟩; have HO326 := Az_ (Kd.R_lower ho0 (below_size (w37_))); replace HB := Az_ (hb); replace HI323 := Az_ (hi); (try clear hb); (try clear hk); (try clear hi); (try clear ho0)))
 go_ret
 exact ⟨_, w61_, by (with_reducible repeat (first | apply raz_ | apply rnz_ | apply rdz_)); exact HO326.out, w37_⟩

def spec_DrawPagesOfRanges.f (k : Nat) (l0 : List Int) : Option ((List (S69))) := (spec_DrawAreRanges.f k l0).bind fun t329 => (some t329)
set_option maxHeartbeats 8000000 in
set_option maxRecDepth 100000 in
theorem spec_DrawPagesOfRanges.calls (k : Nat) (A0 : Option Addr) (c0 : Nat) (l0 : List Int) (r : List (S69)) (w : World) (hr0 : Kd.C (Kd.int .u8) w A0 l0.length l0) (hc0 : l0.length ≤ c0) (h : spec_DrawPagesOfRanges.f k l0 = some r) :
  Calls Tryz.prog 51 #[.slice A0 l0.length c0] w fun e w' => ∃ v0_ : Value, e = .returned (v0_) ∧ Kd.R k69 69 w' w.heap.size (fun _ => True) v0_ r ∧ Below w.heap.size w w' := by
 have HR0 := Az_ hr0
 have HC0 := Az_ hc0
 clear hr0 hc0
 have HB := Az_ (Below.refl w.heap.size w)
 have H : ((spec_DrawAreRanges.f k l0).bind fun t329 => (some t329)) = some r := h
 clear h
 replace H := bqz_ H; obtain ⟨t329, A2, H⟩ := H
 replace H : (some t329) = some r := H
 obtain rfl := Option.some.inj H
 go_enter Tryz.func51, Tryz.ntmps51
 go_wp2_with (first | ((with_reducible refine gate_callee (f := 135) rfl ?_); refine goesL_ (some 4) rfl rfl Tryz.func135 (w110_) rfl #[.slice A0 l0.length c0] rfl maz_ ?_; (with_reducible refine (spec_DrawAreRanges.calls k _ _ l0 t329 _ ?side1 ?side2 A2.out).mono ?_); (case side1 => exact ucz_ (HR0.out)); (case side2 => exact HC0.out); rintro e w3 ⟨v330, rfl, ho0, hb⟩; refine ⟨_, rfl, ?_⟩; have HO331 := Az_ (Kd.R_lower ho0 (below_size (ubz_ HB.out))); replace HB := Az_ (btz_ (ubz_ HB.out) hb); (try clear hb); (try clear ho0)))
 go_ret
 exact ⟨_, w61_, by (with_reducible repeat (first | apply raz_ | apply rnz_ | apply rdz_)); exact HO331.out, w109_⟩

end Go.Proofs.YtppbpefehpbejaaGreatDoor.P
end

section
namespace Go.Proofs.YtppbpefehpbejaaGreatDoor.P
open Go.RowKit Go.Proofs.YtppbpefehpbejaaGreatDoorW.PrintWords Go.Proofs.YtppbpefehpbejaaGreatDoorW.PrintLast Go.Proofs.YtppbpefehpbejaaGreatDoorW.PrintMore
attribute [local go_sem] max2_int min2_int max_two min_two max_three min_three max_four min_four   -- for this text's walks alone
set_option linter.unusedVariables false
set_option linter.unusedSimpArgs false

mutual
def spec_PagesOfRanges.l0 : Nat → List Int → List (S69) → Int → Int → Option (List Int × Bool)
 | 0, _, _, _, _ => none
 | k + 1, x4, x11, x12, x13 => if x13 < x12 then (if 0 ≤ x13 then (if x13 < (x11.length : Int) then (spec_PagesOfRanges.l1 k x4 ((rd_T69 x11 x13).f0) x11 x12 x13 ((rd_T69 x11 x13).f0) ((rd_T69 x11 x13).f1)) else (none)) else (none)) else (some (x4, true))
def spec_PagesOfRanges.l1 : Nat → List Int → Int → List (S69) → Int → Int → Int → Int → Option (List Int × Bool)
 | 0, _, _, _, _, _, _, _ => none
 | k + 1, x4, x7, x11, x12, x13, x335000, x335001 => if x7 ≤ x335001 then (if x4.length < 17592186044416 then (spec_PagesOfRanges.l1 k (x4 ++ [x7]) (wrap64 (x7 + 1)) x11 x12 x13 x335000 x335001) else (none)) else (spec_PagesOfRanges.l0 k x4 x11 x12 (wrap64 (x13 + 1)))
end
def spec_PagesOfRanges.f (k : Nat) (l0 : List (S69)) : Option (List Int × Bool) := (spec_ixGood.f k l0).bind fun t332 => (if t332 = true then (spec_PagesOfRanges.l0 k ([] : List Int) l0 (l0.length : Int) 0) else (some (([] : List Int), false)))
set_option maxHeartbeats 8000000 in
set_option maxRecDepth 100000 in
theorem spec_PagesOfRanges.calls (k : Nat) (A0 : Option Addr) (c0 : Nat) (l0 : List (S69)) (r1 : List Int) (r2 : Bool) (w : World) (hr0 : Kd.C k69 w A0 l0.length l0) (hc0 : l0.length ≤ c0) (h : spec_PagesOfRanges.f k l0 = some (r1, r2)) :
  Calls Tryz.prog 53 #[.slice A0 l0.length c0] w fun e w' => ∃ v0_ : Value, e = .returned (.tuple #[v0_, .bool r2]) ∧ Kd.R (Kd.int .i64) 3 w' w.heap.size (fun _ => True) v0_ r1 ∧ Below w.heap.size w w' := by
 have hu69 := Tryz.underlying69
 have HR0 := Az_ hr0
 have HC0 := Az_ hc0
 clear hr0 hc0
 have HB := Az_ (Below.refl w.heap.size w)
 have H : ((spec_ixGood.f k l0).bind fun t332 => (if t332 = true then (spec_PagesOfRanges.l0 k ([] : List Int) l0 (l0.length : Int) 0) else (some (([] : List Int), false)))) = some (r1, r2) := h
 clear h
 replace H := bqz_ H; obtain ⟨t332, A2, H⟩ := H
 replace H : (if t332 = true then (spec_PagesOfRanges.l0 k ([] : List Int) l0 (l0.length : Int) 0) else (some (([] : List Int), false))) = some (r1, r2) := H
 by_cases c3 : t332 = true
 ·subst c3
  rw [if_pos rfl] at H
  have H' := Az_ H
  clear H
  go_enter Tryz.func53, Tryz.ntmps53
  go_wp2_with (first | ((with_reducible refine gate_callee (f := 136) rfl ?_); refine goesL_ (some 9) rfl rfl Tryz.func136 (w110_) rfl #[.slice A0 l0.length c0] rfl maz_ ?_; (with_reducible refine (spec_ixGood.calls k _ _ l0 true _ ?side1 ?side2 A2.out).mono ?_); (case side1 => exact ucz_ (HR0.out)); (case side2 => exact HC0.out); rintro e w4 ⟨rfl, hb⟩; refine ⟨_, rfl, ?_⟩; replace HB := Az_ (btz_ (ubz_ HB.out) hb); (try clear hb)))
  go_loopg [4, 13] k (fun kq v4 v13 w' => ∃ (x4_1 : List Int) (x13_1 : Int), v13 = .int .i64 x13_1 ∧ Aside0 (spec_PagesOfRanges.l0 kq x4_1 l0 (l0.length : Int) x13_1 = some (r1, r2)) ∧ Aside0 (kq ≤ k) ∧ Aside0 (Kd.R (Kd.int .i64) 3 w' w.heap.size (fun _ => True) v4 x4_1) ∧ Aside0 (Below w.heap.size w w'))
  case atStart => exact ⟨(([] : List Int)), (0), qaz_, H', ⟨Nat.le_refl _⟩, ⟨w41_⟩, ⟨w109_⟩⟩
  case round =>
   clear H'
   obtain ⟨x4_1, x13_1, rfl, HA, HK1, HO_4, HB⟩ := hrel
   cases gk with
   | zero => exact absurd HA.out (by simp [spec_PagesOfRanges.l0])
   | succ k1 =>
    have H := HA.out
    clear HA
    simp only [spec_PagesOfRanges.l0] at H
    by_cases c5 : x13_1 < (l0.length : Int)
    ·rw [if_pos c5] at H
     have c5b0 := decide_eq_true c5
     clear c5
     by_cases c6 : 0 ≤ x13_1
     ·rw [if_pos c6] at H
      have c6b0 := decide_eq_true c6
      clear c6
      by_cases c7 : x13_1 < (l0.length : Int)
      ·rw [if_pos c7] at H
       have c7b0 := decide_eq_true c7
       clear c7
       have H' := Az_ H
       clear H
       have p333 : 0 ≤ (x13_1 : Int) := of_decide_eq_true asz_
       have q333 : x13_1 < (l0.length : Int) := of_decide_eq_true asz_
       obtain ⟨ad333, e333, hx333_0, hx333_1⟩ := at_T69 HR0.out x13_1 p333 q333
       cases e333
       replace hx333_0 := (HB.out.cell (World.block_lt_of_cell? w _ hx333_0)).trans hx333_0
       replace hx333_1 := (HB.out.cell (World.block_lt_of_cell? w _ hx333_1)).trans hx333_1
       replace p333 := eq_true p333
       replace q333 := eq_true q333
       go_wp2_with (first | ((with_reducible refine gate_dst (N := 6) rfl ?_); refine box_event ?hg (N := 6) ?hd (cs := #[.int .i64 0, .int .i64 0]) (t := 69) ?hr ?_; (case hd => rfl); (case hg => rfl); (case hr => first | (go_simp; done) | (go_simp; rfl)); intro gb334 hg w8 hbox hb; replace HO_4 := Az_ (Kd.R_below (w105_) hb); have BK334 := Az_ (hbox); have GW334 := Az_ ((by rw [hg]; exact (below_size (ubz_ HB.out)) : w.heap.size ≤ gb334)); have GE334 := Az_ ((by rw [hg]; exact (below_size (ubz_ HB.out)) : w.heap.size ≤ gb334)); replace HB := Az_ (btz_ (ubz_ HB.out) hb); clear hb hbox hg; have hcz9_0 : w8.cell? ⟨gb334, 0, none⟩ = some (.int .i64 0) := (blk_cell BK334.out 0).trans rfl; have hcz9_1 : w8.cell? ⟨gb334, 1, none⟩ = some (.int .i64 0) := (blk_cell BK334.out 1).trans rfl; have hfz9_0 := blk_frozen BK334.out 0; have hfz9_1 := blk_frozen BK334.out 1))
       go_loopg [4, 7] k1 (fun kq v4 v7 w' => ∃ (x4_2 : List Int) (x7_2 : Int), v7 = .int .i64 x7_2 ∧ Aside0 (spec_PagesOfRanges.l1 kq x4_2 x7_2 l0 (l0.length : Int) x13_1 ((rd_T69 l0 x13_1).f0) ((rd_T69 l0 x13_1).f1) = some (r1, r2)) ∧ Aside0 (kq ≤ k1) ∧ Aside0 (Kd.R (Kd.int .i64) 3 w' w.heap.size (fun _ => True) v4 x4_2) ∧ Aside0 (w'.heap[gb334]? = some (.cells #[.int .i64 ((rd_T69 l0 x13_1).f0), .int .i64 ((rd_T69 l0 x13_1).f1)] 69 (0, 0))) ∧ Aside0 (Below w.heap.size w w'))
       case atStart => exact ⟨(x4_1), ((rd_T69 l0 x13_1).f0), qaz_, H', ⟨Nat.le_refl _⟩, ⟨by (with_reducible repeat (first | apply raz_ | apply rnz_ | apply rdz_)); exact Kd.R_mono (Kd.R_far (p := ⟨gb334, 1, none⟩) (Kd.R_far (p := ⟨gb334, 0, none⟩) (Kd.R_types HO_4.out BK334.out (by decide)) (fun _ hk => hk.2) (.int .i64 ((rd_T69 l0 x13_1).f0))) (fun _ hk => hk.2) (.int .i64 ((rd_T69 l0 x13_1).f1))) (fun _ hk => trivial)⟩, ⟨by (with_reducible repeat (first | refine knz_ ?_ _ | refine kdz_ ?_ | refine kaz_ ?_ _)); refine blk_put (cs := #[.int .i64 ((rd_T69 l0 x13_1).f0), .int .i64 0]) ?_ 1 _ rfl; (with_reducible repeat (first | refine knz_ ?_ _ | refine kdz_ ?_ | refine kaz_ ?_ _)); refine blk_put (cs := #[.int .i64 0, .int .i64 0]) ?_ 0 _ rfl; (with_reducible repeat (first | refine knz_ ?_ _ | refine kdz_ ?_ | refine kaz_ ?_ _)); exact BK334.out⟩, ⟨w40_⟩⟩
       case round =>
        clear H'
        clear c5b0 c6b0 c7b0 hcz9_0 hcz9_1 hfz9_0 hfz9_1 hx333_0 hx333_1 p333 q333
        obtain ⟨x4_2, x7_2, rfl, HA, HK2, HO_4, BK334, HB⟩ := hrel
        cases gk with
        | zero => exact absurd HA.out (by simp [spec_PagesOfRanges.l1])
        | succ k2 =>
         have H := HA.out
         clear HA
         simp only [spec_PagesOfRanges.l1] at H
         by_cases c10 : x7_2 ≤ ((rd_T69 l0 x13_1).f1)
         ·rw [if_pos c10] at H
          have c10b0 := decide_eq_true c10
          clear c10
          by_cases c11 : x4_2.length < 17592186044416
          ·rw [if_pos c11] at H
           have LMc11 := Az_ c11
           clear c11
           obtain ⟨y335, hy335⟩ : ∃ y_ : List Int, y_ = (x4_2 ++ [x7_2]) := ⟨_, rfl⟩
           replace H : (spec_PagesOfRanges.l1 k2 y335 (wrap64 (x7_2 + 1)) l0 (l0.length : Int) x13_1 ((rd_T69 l0 x13_1).f0) ((rd_T69 l0 x13_1).f1)) = some (r1, r2) := by first | (rw [hy335]; with_reducible exact H) | (have H2_ := (Option.bind_some _ _).symm.trans H; rw [hy335]; with_reducible exact H2_) | (have H2_ := (Option.bind_some _ _).symm.trans H; with_reducible exact H2_) | with_reducible exact H | (rw [hy335]; exact H) | exact H
           have Ny335 := Az_ hy335
           clear hy335
           have H' := Az_ H
           clear H
           have hcz12_0 : wr.cell? ⟨gb334, 0, none⟩ = some (.int .i64 ((rd_T69 l0 x13_1).f0)) := (blk_cell BK334.out 0).trans rfl
           have hcz12_1 : wr.cell? ⟨gb334, 1, none⟩ = some (.int .i64 ((rd_T69 l0 x13_1).f1)) := (blk_cell BK334.out 1).trans rfl
           have hfz12_0 := blk_frozen BK334.out 0
           have hfz12_1 := blk_frozen BK334.out 1
           go_wp2_with (first | ((with_reducible refine gate_builtin (b := .append) (xs := #[.tmp 25, .tmp 27]) rfl ?_); at_builtin; refine Kd.R_append (Kd.int .i64) (w0 := w) w.heap.size rfl (.tmp 25) (.tmp 27) 24 3 (.int .i64 0) 8 rfl Tryz.underlying24 info3 rfl (by decide) (by omega) u4 x4_2 x7_2 [.int .i64 x7_2] (fun _ => True) (fun _ => False) rfl rfl ?aP (fun _ hk => hk.elim) ?aF ?aO ?aB ?aS ?aL ?_; (case aP => exact rfl); (case aB => exact (w40_)); (case aF => exact (fun _ _ => trivial)); (case aO => exact (w105_)); (case aS => exact (below_size (w40_))); (case aL => have := LMc11.out; omega); intro v336 w13 ho hb hg hat; rw [← Ny335.out] at ho; replace BK334 := Az_ (blk_grown (g := gb334) (o := .cells #[.int .i64 ((rd_T69 l0 x13_1).f0), .int .i64 ((rd_T69 l0 x13_1).f1)] 69 (0, 0)) (by exact ukz_ BK334.out) hg (Kd.R_ne HO_4.out BK334.out (by decide))); replace HB := Az_ (hb); have HO337 := Az_ (ho); clear HO_4; clear ho hb hg hat))
           go_roundg k2
           case measure => have := HK1.out; have := HK2.out; omega
           case rel => exact ⟨(y335), (wrap64 (x7_2 + 1)), qaz_, H', ⟨w79_⟩, ⟨by (with_reducible repeat (first | apply raz_ | apply rnz_ | apply rdz_)); exact HO337.out⟩, ⟨by (with_reducible repeat (first | refine knz_ ?_ _ | refine kdz_ ?_ | refine kaz_ ?_ _)); exact BK334.out⟩, ⟨w40_⟩⟩
          ·rw [if_neg c11] at H
           exact absurd H (by simp)
         ·rw [if_neg c10] at H
          have c10b0 := decide_eq_false c10
          clear c10
          have H' := Az_ H
          clear H
          have hcz14_0 : wr.cell? ⟨gb334, 0, none⟩ = some (.int .i64 ((rd_T69 l0 x13_1).f0)) := (blk_cell BK334.out 0).trans rfl
          have hcz14_1 : wr.cell? ⟨gb334, 1, none⟩ = some (.int .i64 ((rd_T69 l0 x13_1).f1)) := (blk_cell BK334.out 1).trans rfl
          have hfz14_0 := blk_frozen BK334.out 0
          have hfz14_1 := blk_frozen BK334.out 1
          go_wp2
          go_roundg k2
          case measure => have := HK1.out; have := HK2.out; omega
          case rel => exact ⟨(x4_2), (wrap64 (x13_1 + 1)), qaz_, H', ⟨w79_⟩, ⟨w70_⟩, ⟨w40_⟩⟩
      ·rw [if_neg c7] at H
       exact absurd H (by simp)
     ·rw [if_neg c6] at H
      exact absurd H (by simp)
    ·rw [if_neg c5] at H
     have c5b0 := decide_eq_false c5
     clear c5
     simp only [Option.some.injEq, Prod.mk.injEq] at H
     obtain ⟨rfl, rfl⟩ := H
     go_wp2
     go_ret2
     exact ⟨_, w61_, w70_, w109_⟩
 ·replace c3 := Bool.eq_false_iff.mpr c3
  subst c3
  rw [if_neg nfz_] at H
  simp only [Option.some.injEq, Prod.mk.injEq] at H
  obtain ⟨rfl, rfl⟩ := H
  go_enter Tryz.func53, Tryz.ntmps53
  go_wp2_with (first | ((with_reducible refine gate_callee (f := 136) rfl ?_); refine goesL_ (some 9) rfl rfl Tryz.func136 (w110_) rfl #[.slice A0 l0.length c0] rfl maz_ ?_; (with_reducible refine (spec_ixGood.calls k _ _ l0 false _ ?side1 ?side2 A2.out).mono ?_); (case side1 => exact ucz_ (HR0.out)); (case side2 => exact HC0.out); rintro e w15 ⟨rfl, hb⟩; refine ⟨_, rfl, ?_⟩; replace HB := Az_ (btz_ (ubz_ HB.out) hb); (try clear hb)))
  go_ret2
  exact ⟨_, w61_, w41_, w109_⟩

end Go.Proofs.YtppbpefehpbejaaGreatDoor.P
end
