/- Lean functions with the answers of the program's Go functions, and for each the proof that the Go code comes to these answers; no condition. -/
import Derived.Test.YtodacdcbeleleaaDoorZbh21
import Derived.Test.YtodacdcbeleleaaDoorZbh22
import Derived.Test.YtodacdcbeleleaaDoorZbh23
section
namespace Go.Proofs.YtodacdcbeleleaaDoor.P
open Go.RowKit Go.Proofs.YtodacdcbeleleaaDoorW.PrintWords Go.Proofs.YtodacdcbeleleaaDoorW.PrintLast Go.Proofs.YtodacdcbeleleaaDoorW.PrintMore
attribute [local go_sem] max2_int min2_int max_two min_two max_three min_three max_four min_four   -- for this text's walks alone
set_option linter.unusedVariables false
set_option linter.unusedSimpArgs false

def spec_pzFits.f (k : Nat) (a0_0 : Int) (a0_1 : Int) (a0_2 : Int) (a1_0 : Int) (a1_1 : Int) : Option (Bool) := (spec_pzValue.f k a0_0 a0_1 a1_0 a1_1).bind fun t418 => (some (t418 == a0_2))
def spec_pzFits.T1 : Bool × List (List Nat × List Nat) := (true, [([], []), ([0], [0]), ([], []), ([2], [2]), ([], []), ([1, 3, 4], [1, 3, 4]), ([], []), ([6], [6]), ([5, 7], [5, 7]), ([8, 5, 0, 1, 2, 3, 4, 5, 6, 7, 8], [8])])
def spec_pzFits.B1 : List Nat := [0, 1, 0, 4, 0, 31, 0, 64, 255, 511]
theorem spec_pzFits.tab1 : rtab .any (opsOf Tryd.f62 1) = spec_pzFits.T1 := by kernel_rfl
theorem spec_pzFits.bits1 : waitsOk spec_pzFits.T1.2 spec_pzFits.B1 = true := by kernel_rfl
set_option maxHeartbeats 8000000 in
set_option maxRecDepth 100000 in
theorem spec_pzFits.calls (k : Nat) (a0_0 : Int) (a0_1 : Int) (a0_2 : Int) (a1_0 : Int) (a1_1 : Int) (r : Bool) (w : World) (h : spec_pzFits.f k a0_0 a0_1 a0_2 a1_0 a1_1 = some r) :
  Calls Tryd.prog 62 #[.agg #[.int .i64 a0_0, .int .i64 a0_1, .int .i64 a0_2], .agg #[.int .i64 a1_0, .int .i64 a1_1]] w fun e w' => e = .returned (.bool r) ∧ Below w.heap.size w w' := by
 have hu40 := Tryd.underlying40
 have hu25 := Tryd.underlying25
 have HB := Az_ (Below.refl w.heap.size w)
 have H : ((spec_pzValue.f k a0_0 a0_1 a1_0 a1_1).bind fun t418 => (some (t418 == a0_2))) = some r := h
 clear h
 replace H := bqz_ H; obtain ⟨t418, A3, H⟩ := H
 replace H : (some (t418 == a0_2)) = some r := H
 obtain rfl := Option.some.inj H
 go_enter Tryd.func62, Tryd.ntmps62
 try go_wp2_with (first | ((with_reducible refine gate_dst (N := 2) rfl ?_); refine bxe_ (N := 2) (cs := #[.int .i64 a0_0, .int .i64 a0_1, .int .i64 a0_2]) (t := 40) ?_; intro gb416 hg w4 BK416 hb; have GW416 := gez_ hg (ubz_ HB.out); have GE416 := GW416; replace HB := Az_ (btz_ (ubz_ HB.out) hb); clear hb hg) | ((with_reducible refine gate_dst (N := 3) rfl ?_); refine bxe_ (N := 3) (cs := #[.int .i64 a1_0, .int .i64 a1_1]) (t := 25) ?_; intro gb417 hg w5 BK417 hb; obtain ⟨NB416_417, NB417_416⟩ := nez_ BK416 hg; have GW417 : Aside0 (w.heap.size ≤ gb417) := gez_ hg (w129_); have GE417 := GW417; replace HB := Az_ (btz_ (w129_) hb); replace BK416 := Az_ (ukbz_ BK416.out hb); clear hb hg))
 replace BK416 := Az_ (kdz_ BK416.out)
 replace BK417 := Az_ (kdz_ BK417.out)
 replace HB := Az_ (bdz_ HB.out)
 refine start_ (n := 10) (S := fun w' => w'.cell? ⟨gb416, 0, none⟩ = some (.int .i64 a0_0) ∧ w'.cell? ⟨gb416, 1, none⟩ = some (.int .i64 a0_1) ∧ w'.cell? ⟨gb416, 2, none⟩ = some (.int .i64 a0_2) ∧ w'.cell? ⟨gb417, 0, none⟩ = some (.int .i64 a1_0) ∧ w'.cell? ⟨gb417, 1, none⟩ = some (.int .i64 a1_1)) (ds := []) #[false, false, false, false, false, false, false, false, false, false] (w204_) rfl rfl ⟨(blk_cell BK416.out 0).trans rfl, (blk_cell BK416.out 1).trans rfl, (blk_cell BK416.out 2).trans rfl, (blk_cell BK417.out 0).trans rfl, (blk_cell BK417.out 1).trans rfl⟩ (fun hHeld => ?_); refine with_tabW spec_pzFits.tab1 spec_pzFits.bits1 (fun HT_ HW_ => ?_)
 generalize w5.drew = w6 at BK416 BK417 HB hHeld ⊢
 refine pz_ 0 5 [1,9] ?_
 refine pz_ 2 7 [1,1,1,7] ?_
 refine pz_ 6 11 [1,1,1,3,1,3] ?_
 refine take_ (i := 1) (N := some 6) (v := ?_) (a' := ?_) (mz_ [3,3,1,3]) rfl rfl (take_ofW HT_.out HW_.out (w204_)) (fun _ _ _ h => h) (Or.inl ⟨by rfl, ?_⟩) hHeld ?_ ?_
 rotate_left
 ·rintro w' ⟨s0, s1, s2, s3, s4⟩
  go_simp
  with_reducible rfl
 rotate_left
 ·simp only [Act.put, usz_, utz_, uvz_, i64_w, i32_w]
  rfl
 refine take_ (i := 3) (N := some 8) (v := ?_) (a' := ?_) (mz_ [4,2,1,3]) rfl rfl (take_ofW HT_.out HW_.out (w204_)) (fun _ _ _ h => h) (Or.inl ⟨by rfl, ?_⟩) hHeld ?_ ?_
 rotate_left
 ·rintro w' ⟨s0, s1, s2, s3, s4⟩
  go_simp
  with_reducible rfl
 rotate_left
 ·simp only [Act.put, usz_, utz_, uvz_, i64_w, i32_w]
  rfl
 refine take_ (i := 4) (N := some 9) (v := ?_) (a' := ?_) (mz_ [5,1,1,3]) rfl rfl (take_ofW HT_.out HW_.out (w204_)) (fun _ _ _ h => h) (Or.inl ⟨by rfl, ?_⟩) hHeld ?_ ?_
 rotate_left
 ·rintro w' ⟨s0, s1, s2, s3, s4⟩
  go_simp
  with_reducible rfl
 rotate_left
 ·simp only [Act.put, usz_, utz_, uvz_, i64_w, i32_w]
  rfl
 refine take_ (i := 7) (N := some 12) (v := ?_) (a' := ?_) (mz_ [5,1,2,2]) rfl rfl (take_ofW HT_.out HW_.out (w204_)) (fun _ _ _ h => h) (Or.inl ⟨by rfl, ?_⟩) hHeld ?_ ?_
 rotate_left
 ·rintro w' ⟨s0, s1, s2, s3, s4⟩
  go_simp
  with_reducible rfl
 rotate_left
 ·simp only [Act.put, usz_, utz_, uvz_, i64_w, i32_w]
  rfl
 refine one_ (i := 5) (N := some 10) (mz_ [8,2]) rfl rfl (one_of HT_.out (w204_)) (by decide) (fun K hK => ?_)
 refine goes_ Tryd.func67 (w204_) rfl #[.int .i64 a0_0, .int .i64 a0_1, .agg #[.int .i64 a1_0, .int .i64 a1_1]] (by rfl) rfl rfl maz_ ?_
 with_reducible refine (spec_pzValue.calls k a0_0 a0_1 a1_0 a1_1 t418 _ A3.out).mono ?_
 rintro e w7 ⟨rfl, hb⟩
 refine ⟨_, rfl, ?_⟩
 have n2_ := Az_ (btz_ (w129_) hb)
 clear HB
 replace BK416 := Az_ (ukbz_ BK416.out hb)
 replace BK417 := Az_ (ukbz_ BK417.out hb)
 have HB := n2_
 clear n2_
 clear hb
 refine hK.out _ _ ⟨(blk_cell BK416.out 0).trans rfl, (blk_cell BK416.out 1).trans rfl, (blk_cell BK416.out 2).trans rfl, (blk_cell BK417.out 0).trans rfl, (blk_cell BK417.out 1).trans rfl⟩ (fun hHeld => ?_)
 clear hK K
 refine nz_ 10 ?_
 refine pz_ 8 13 [9,1] ?_
 refine pz_ 9 4 [10] ?_
 refine done_ (done_of HT_.out (w204_)) ?_
 try go_wp2
 go_ret
 exact ⟨w166_, w129_⟩

mutual
def spec_pzAll.l0 : Nat → List (S40) → List (S25) → Int → Option ((List (S25)))
 | 0, _, _, _ => none
 | k + 1, x0, x3, x4 => if x4 ≤ 40 then (spec_pzAll.l1 k x0 x3 x4 1) else (some x3)
def spec_pzAll.l1 : Nat → List (S40) → List (S25) → Int → Int → Option ((List (S25)))
 | 0, _, _, _, _ => none
 | k + 1, x0, x3, x4, x5 => if x5 ≤ (wrap64 (Int.tdiv x4 2)) then (spec_pzAll.l2 k x0 x3 x4 x5 true x0 (x0.length : Int) 0 x4 x5) else (spec_pzAll.l0 k x0 x3 (wrap64 (x4 + 1)))
def spec_pzAll.l2 : Nat → List (S40) → List (S25) → Int → Int → Bool → List (S40) → Int → Int → Int → Int → Option ((List (S25)))
 | 0, _, _, _, _, _, _, _, _, _, _ => none
 | k + 1, x0, x3, x4, x5, x7, x23, x24, x25, x420000, x420001 => if x25 < x24 then (if 0 ≤ x25 then (if x25 < (x23.length : Int) then (if x7 = true then ((spec_pzFits.f k ((rd_T40 x23 x25).f0) ((rd_T40 x23 x25).f1) ((rd_T40 x23 x25).f2) x420000 x420001).bind fun t422 => (spec_pzAll.l2 k x0 x3 x4 x5 t422 x23 x24 (wrap64 (x25 + 1)) x420000 x420001)) else (spec_pzAll.l2 k x0 x3 x4 x5 false x23 x24 (wrap64 (x25 + 1)) x420000 x420001)) else (none)) else (none)) else (if x7 = true then (if x3.length < 8796093022208 then (spec_pzAll.l1 k x0 (x3 ++ [(⟨x420000, x420001⟩ : S25)]) x4 (wrap64 (x5 + 1))) else (none)) else (spec_pzAll.l1 k x0 x3 x4 (wrap64 (x5 + 1))))
end
def spec_pzAll.f (k : Nat) (l0 : List (S40)) : Option ((List (S25))) := spec_pzAll.l0 k l0 ([] : List (S25)) 2
set_option maxHeartbeats 8000000 in
set_option maxRecDepth 100000 in
theorem spec_pzAll.calls (k : Nat) (A0 : Option Addr) (c0 : Nat) (l0 : List (S40)) (r : List (S25)) (w : World) (hr0 : Kd.C k40 w A0 l0.length l0) (hc0 : l0.length ≤ c0) (h : spec_pzAll.f k l0 = some r) :
  Calls Tryd.prog 72 #[.slice A0 l0.length c0] w fun e w' => ∃ v0_ : Value, e = .returned (v0_) ∧ Kd.R k25 25 w' w.heap.size (fun _ => True) v0_ r ∧ Below w.heap.size w w' := by
 have hu25 := Tryd.underlying25
 have hu40 := Tryd.underlying40
 have HR0 := Az_ hr0
 have HC0 := Az_ hc0
 clear hr0 hc0
 have HB := Az_ (Below.refl w.heap.size w)
 have H : (spec_pzAll.l0 k l0 ([] : List (S25)) 2) = some r := h
 clear h
 have H' := Az_ H
 clear H
 go_enter Tryd.func72, Tryd.ntmps72
 go_wp2
 go_loopg [3, 4] k (fun kq v3 v4 w' => ∃ (x3_1 : List (S25)) (x4_1 : Int), v4 = .int .i64 x4_1 ∧ Aside0 (spec_pzAll.l0 kq l0 x3_1 x4_1 = some r) ∧ Aside0 (kq ≤ k) ∧ Aside0 (Kd.R k25 25 w' w.heap.size (fun _ => True) v3 x3_1) ∧ Aside0 (Below w.heap.size w w'))
 case atStart => exact ⟨(([] : List (S25))), (2), qaz_, H', ⟨Nat.le_refl _⟩, ⟨w130_⟩, ⟨w203_⟩⟩
 case round =>
  clear H'
  obtain ⟨x3_1, x4_1, rfl, HA, HK1, HO_3, HB⟩ := hrel
  cases gk with
  | zero => exact absurd HA.out (by simp [spec_pzAll.l0])
  | succ k1 =>
   have H := HA.out
   clear HA
   simp only [spec_pzAll.l0] at H
   by_cases c2 : x4_1 ≤ 40
   ·rw [if_pos c2] at H
    have c2b0 := decide_eq_true c2
    clear c2
    have H' := Az_ H
    clear H
    go_wp2
    go_loopg [3, 5] k1 (fun kq v3 v5 w' => ∃ (x3_2 : List (S25)) (x5_2 : Int), v5 = .int .i64 x5_2 ∧ Aside0 (spec_pzAll.l1 kq l0 x3_2 x4_1 x5_2 = some r) ∧ Aside0 (kq ≤ k1) ∧ Aside0 (Kd.R k25 25 w' w.heap.size (fun _ => True) v3 x3_2) ∧ Aside0 (Below w.heap.size w w'))
    case atStart => exact ⟨(x3_1), (1), qaz_, H', ⟨Nat.le_refl _⟩, ⟨w167_⟩, ⟨w203_⟩⟩
    case round =>
     clear H'
     clear c2b0
     obtain ⟨x3_2, x5_2, rfl, HA, HK2, HO_3, HB⟩ := hrel
     cases gk with
     | zero => exact absurd HA.out (by simp [spec_pzAll.l1])
     | succ k2 =>
      have H := HA.out
      clear HA
      simp only [spec_pzAll.l1] at H
      by_cases c3 : x5_2 ≤ (wrap64 (Int.tdiv x4_1 2)); rotate_left
      ·rw [if_neg c3] at H
       have c3b0 := decide_eq_false c3
       clear c3
       have H' := Az_ H
       clear H
       go_wp2
       go_roundg k2
       case measure => have := HK1.out; have := HK2.out; omega
       case rel => exact ⟨(x3_2), (wrap64 (x4_1 + 1)), qaz_, H', ⟨by have := HK1.out; have := HK2.out; omega⟩, ⟨w167_⟩, ⟨w203_⟩⟩
      rw [if_pos c3] at H
      have c3b0 := decide_eq_true c3
      clear c3
      have H' := Az_ H
      clear H
      go_wp2_with (((with_reducible refine gate_dst (N := 6) rfl ?_); refine bxe_ (N := 6) (cs := #[.int .i64 0, .int .i64 0]) (t := 25) ?_; intro gb419 hg w4 BK419 hb; have GW419 := gez_ hg (ubz_ HB.out); have GE419 := GW419; replace HO_3 := Az_ (Kd.R_below (Kd.R_elderB (by exact urz_ HO_3.out) gb419 (Nat.le_of_eq hg.symm)) hb); replace HB := Az_ (btz_ (ubz_ HB.out) hb); clear hb hg; have hcz5_0 := cz_ (x := .int .i64 0) BK419 0; have hcz5_1 := cz_ (x := .int .i64 0) BK419 1; have hfz5_0 := blk_frozen BK419.out 0; have hfz5_1 := blk_frozen BK419.out 1))
      go_loopg [7, 25] k2 (fun kq v7 v25 w' => ∃ (x7_3 : Bool) (x25_3 : Int), v7 = .bool x7_3 ∧ v25 = .int .i64 x25_3 ∧ Aside0 (spec_pzAll.l2 kq l0 x3_2 x4_1 x5_2 x7_3 l0 (l0.length : Int) x25_3 x4_1 x5_2 = some r) ∧ Aside0 (kq ≤ k2) ∧ Aside0 (Kd.R k25 25 w' w.heap.size (fun k_ => k_ ≠ gb419) u3 x3_2) ∧ Aside0 (w'.heap[gb419]? = some (.cells #[.int .i64 x4_1, .int .i64 x5_2] 25 (0, 0))) ∧ Aside0 (Below w.heap.size w w'))
      case atStart => exact ⟨(true), (0), qaz_, qaz_, H', ⟨Nat.le_refl _⟩, ⟨by (with_reducible repeat (first | apply raz_ | apply rnz_ | apply rdz_)); exact Kd.R_mono (Kd.R_far (p := ⟨gb419, 1, none⟩) (Kd.R_far (p := ⟨gb419, 0, none⟩) (Kd.R_mono HO_3.out (fun k_ hk => (⟨hk, hk.2⟩ : _ ∧ k_ ≠ gb419))) (fun _ hk => hk.2) (.int .i64 x4_1)) (fun _ hk => hk.2) (.int .i64 x5_2)) (fun _ hk => hk.1.2)⟩, ⟨by (with_reducible repeat (first | refine knz_ ?_ _ | refine kdz_ ?_ | refine kaz_ ?_ _)); refine blk_put (cs := #[.int .i64 x4_1, .int .i64 0]) ?_ 1 _ rfl; (with_reducible repeat (first | refine knz_ ?_ _ | refine kdz_ ?_ | refine kaz_ ?_ _)); refine blk_put (cs := #[.int .i64 0, .int .i64 0]) ?_ 0 _ rfl; (with_reducible repeat (first | refine knz_ ?_ _ | refine kdz_ ?_ | refine kaz_ ?_ _)); exact BK419.out⟩, ⟨w129_⟩⟩
      case round =>
       clear H'
       clear c3b0 hcz5_0 hcz5_1 hfz5_0 hfz5_1
       obtain ⟨x7_3, x25_3, rfl, rfl, HA, HK3, HO_3, BK419, HB⟩ := hrel
       cases gk with
       | zero => exact absurd HA.out (by simp [spec_pzAll.l2])
       | succ k3 =>
        have H := HA.out
        clear HA
        simp only [spec_pzAll.l2] at H
        by_cases c6 : x25_3 < (l0.length : Int); rotate_left
        ·rw [if_neg c6] at H
         have c6b0 := decide_eq_false c6
         clear c6
         by_cases c19 : x7_3 = true; rotate_left
         ·replace c19 := Bool.eq_false_iff.mpr c19
          subst c19
          rw [if_neg nfz_] at H
          have H' := Az_ H
          clear H
          go_wp2
          go_roundg k3
          case measure => have := HK1.out; have := HK2.out; have := HK3.out; omega
          case rel => exact ⟨(x3_2), (wrap64 (x5_2 + 1)), qaz_, H', ⟨w169_⟩, ⟨by (with_reducible repeat (first | apply raz_ | apply rnz_ | apply rdz_)); exact Kd.R_mono HO_3.out (fun _ hk => trivial)⟩, ⟨w129_⟩⟩
         subst c19
         rw [if_pos rfl] at H
         by_cases c20 : x3_2.length < 8796093022208; rotate_left
         ·rw [if_neg c20] at H
          exact absurd H (by simp)
         rw [if_pos c20] at H
         have LMc20 := Az_ c20
         clear c20
         obtain ⟨y423, hy423⟩ : ∃ y_ : List (S25), y_ = (x3_2 ++ [(⟨x4_1, x5_2⟩ : S25)]) := ⟨_, rfl⟩
         replace H : (spec_pzAll.l1 k3 l0 y423 x4_1 (wrap64 (x5_2 + 1))) = some r := by first | (rw [hy423]; with_reducible exact H) | (have H2_ := (Option.bind_some _ _).symm.trans H; rw [hy423]; with_reducible exact H2_) | (have H2_ := (Option.bind_some _ _).symm.trans H; with_reducible exact H2_) | with_reducible exact H | (rw [hy423]; exact H) | exact H
         have Ny423 := Az_ hy423
         clear hy423
         have H' := Az_ H
         clear H
         have hcz21_0 := cz_ (x := .int .i64 x4_1) BK419 0
         have hcz21_1 := cz_ (x := .int .i64 x5_2) BK419 1
         have hfz21_0 := blk_frozen BK419.out 0
         have hfz21_1 := blk_frozen BK419.out 1
         go_wp2_with (((with_reducible refine gate_builtin (b := .append) (xs := #[.tmp 37, .tmp 39]) rfl ?_); at_builtin; refine Kd.R_append k25 (w0 := w) w.heap.size rfl (.tmp 37) (.tmp 39) 46 25 (.agg #[(.int .i64 0), (.int .i64 0)]) 16 rfl Tryd.underlying46 info25 rfl (by decide) (by omega) u3 x3_2 (⟨x4_1, x5_2⟩ : S25) [.int .i64 x4_1, .int .i64 x5_2] (fun k_ => k_ ≠ gb419) (fun _ => False) rfl rfl ?aP (fun _ hk => hk.elim) ?aF ?aO ?aB ?aS ?aL ?_; (case aP => exact k25_mkM _ _ _ (⟨x4_1, x5_2⟩ : S25)); (case aB => exact (w129_)); (case aF => exact (fun k_ hk => Kd.freshB (g := gb419) (o := .cells #[.int .i64 x4_1, .int .i64 x5_2] 25 (0, 0)) (by exact ukz_ BK419.out) k_ hk)); (case aO => exact (by exact urz_ HO_3.out)); (case aS => exact (below_size (w129_))); (case aL => have := LMc20.out; omega); intro v424 w22 ho hb hg hat; rw [← Ny423.out] at ho; replace BK419 := Az_ (blk_grown (g := gb419) (o := .cells #[.int .i64 x4_1, .int .i64 x5_2] 25 (0, 0)) (by exact ukz_ BK419.out) hg (Kd.R_away HO_3.out (fun _ hk => hk))); replace HB := Az_ (hb); have HO425 := Az_ (ho); clear HO_3; clear ho hb hg hat))
         go_roundg k3
         case measure => have := HK1.out; have := HK2.out; have := HK3.out; omega
         case rel => exact ⟨(y423), (wrap64 (x5_2 + 1)), qaz_, H', ⟨w169_⟩, ⟨by (with_reducible repeat (first | apply raz_ | apply rnz_ | apply rdz_)); exact Kd.R_mono HO425.out (fun _ hk => trivial)⟩, ⟨w129_⟩⟩
        rw [if_pos c6] at H
        have c6b0 := decide_eq_true c6
        clear c6
        by_cases c7 : 0 ≤ x25_3; rotate_left
        ·rw [if_neg c7] at H
         exact absurd H (by simp)
        rw [if_pos c7] at H
        have c7b0 := decide_eq_true c7
        clear c7
        by_cases c8 : x25_3 < (l0.length : Int); rotate_left
        ·rw [if_neg c8] at H
         exact absurd H (by simp)
        rw [if_pos c8] at H
        have c8b0 := decide_eq_true c8
        clear c8
        by_cases c9 : x7_3 = true; rotate_left
        ·replace c9 := Bool.eq_false_iff.mpr c9
         subst c9
         rw [if_neg nfz_] at H
         have H' := Az_ H
         clear H
         have p420 : 0 ≤ (x25_3 : Int) := od_
         have q420 : x25_3 < (l0.length : Int) := od_
         obtain ⟨ad420, e420, hx420_0, hx420_1, hx420_2⟩ := at_T40 HR0.out x25_3 p420 q420
         cases e420
         replace hx420_0 := hbz_ HB.out hx420_0
         replace hx420_1 := hbz_ HB.out hx420_1
         replace hx420_2 := hbz_ HB.out hx420_2
         replace p420 := eq_true p420
         replace q420 := eq_true q420
         go_wp2_with (((with_reducible refine gate_dst (N := 9) rfl ?_); refine bxe_ (N := 9) (cs := #[.int .i64 0, .int .i64 0, .int .i64 0]) (t := 40) ?_; intro gb421 hg w16 BK421 hb; obtain ⟨NB419_421, NB421_419⟩ := nez_ BK419 hg; have GW421 : Aside0 (w.heap.size ≤ gb421) := gez_ hg (w129_); have GE421 := GW421; replace HO_3 := Az_ (Kd.R_below (by exact urz_ HO_3.out) hb); replace HB := Az_ (btz_ (w129_) hb); replace BK419 := Az_ (ukbz_ BK419.out hb); clear hb hg; have hnb17 := NB421_419.out; have hnc17 := NB419_421.out; have hcz18_0 := cz_ (x := .int .i64 0) BK421 0; have hcz18_1 := cz_ (x := .int .i64 0) BK421 1; have hcz18_2 := cz_ (x := .int .i64 0) BK421 2; have hfz18_0 := blk_frozen BK421.out 0; have hfz18_1 := blk_frozen BK421.out 1; have hfz18_2 := blk_frozen BK421.out 2))
         go_roundg k3
         case measure => have := HK1.out; have := HK2.out; have := HK3.out; omega
         case rel => exact ⟨(false), (wrap64 (x25_3 + 1)), qaz_, qaz_, H', ⟨w169_⟩, ⟨by (with_reducible repeat (first | apply raz_ | apply rnz_ | apply rdz_)); exact Kd.R_mono (Kd.R_far (p := ⟨gb421, 2, none⟩) (Kd.R_far (p := ⟨gb421, 1, none⟩) (Kd.R_far (p := ⟨gb421, 0, none⟩) (Kd.R_types HO_3.out BK421.out (by decide)) (fun _ hk => hk.2) (.int .i64 ((rd_T40 l0 x25_3).f0))) (fun _ hk => hk.2) (.int .i64 ((rd_T40 l0 x25_3).f1))) (fun _ hk => hk.2) (.int .i64 ((rd_T40 l0 x25_3).f2))) (fun _ hk => hk.1)⟩, ⟨w10_⟩, ⟨w129_⟩⟩
        subst c9
        rw [if_pos rfl] at H
        replace H := bqz_ H; obtain ⟨t422, A10, H⟩ := H
        replace H : (spec_pzAll.l2 k3 l0 x3_2 x4_1 x5_2 t422 l0 (l0.length : Int) (wrap64 (x25_3 + 1)) x4_1 x5_2) = some r := H
        have H' := Az_ H
        clear H
        have p420 : 0 ≤ (x25_3 : Int) := od_
        have q420 : x25_3 < (l0.length : Int) := od_
        obtain ⟨ad420, e420, hx420_0, hx420_1, hx420_2⟩ := at_T40 HR0.out x25_3 p420 q420
        cases e420
        replace hx420_0 := hbz_ HB.out hx420_0
        replace hx420_1 := hbz_ HB.out hx420_1
        replace hx420_2 := hbz_ HB.out hx420_2
        replace p420 := eq_true p420
        replace q420 := eq_true q420
        go_wp2_with (first | ((with_reducible refine gate_dst (N := 9) rfl ?_); refine bxe_ (N := 9) (cs := #[.int .i64 0, .int .i64 0, .int .i64 0]) (t := 40) ?_; intro gb421 hg w11 BK421 hb; obtain ⟨NB419_421, NB421_419⟩ := nez_ BK419 hg; have GW421 : Aside0 (w.heap.size ≤ gb421) := gez_ hg (w129_); have GE421 := GW421; replace HO_3 := Az_ (Kd.R_below (by exact urz_ HO_3.out) hb); replace HB := Az_ (btz_ (w129_) hb); replace BK419 := Az_ (ukbz_ BK419.out hb); clear hb hg; have hnb12 := NB421_419.out; have hnc12 := NB419_421.out; have hcz13_0 := cz_ (x := .int .i64 0) BK421 0; have hcz13_1 := cz_ (x := .int .i64 0) BK421 1; have hcz13_2 := cz_ (x := .int .i64 0) BK421 2; have hfz13_0 := blk_frozen BK421.out 0; have hfz13_1 := blk_frozen BK421.out 1; have hfz13_2 := blk_frozen BK421.out 2; have hcz14_0 := cz_ (x := .int .i64 x4_1) BK419 0; have hcz14_1 := cz_ (x := .int .i64 x5_2) BK419 1; have hfz14_0 := blk_frozen BK419.out 0; have hfz14_1 := blk_frozen BK419.out 1) | (go_at_call 62; (with_reducible refine (spec_pzFits.calls k3 ((rd_T40 l0 x25_3).f0) ((rd_T40 l0 x25_3).f1) ((rd_T40 l0 x25_3).f2) x4_1 x5_2 t422 _ A10.out).mono ?_); rintro e w15 ⟨rfl, hb⟩; replace HO_3 := Az_ (Kd.R_below (by (with_reducible repeat (first | apply raz_ | apply rnz_ | apply rdz_)); exact (Kd.R_mono (Kd.R_far (p := ⟨gb421, 2, none⟩) (Kd.R_far (p := ⟨gb421, 1, none⟩) (Kd.R_far (p := ⟨gb421, 0, none⟩) (Kd.R_types HO_3.out BK421.out (by decide)) (fun _ hk => hk.2) (.int .i64 ((rd_T40 l0 x25_3).f0))) (fun _ hk => hk.2) (.int .i64 ((rd_T40 l0 x25_3).f1))) (fun _ hk => hk.2) (.int .i64 ((rd_T40 l0 x25_3).f2))) (fun _ h_ => h_.1))) hb); replace BK419 := Az_ (kbz_ (g := gb419) (o := .cells #[.int .i64 x4_1, .int .i64 x5_2] 25 (0, 0)) (w10_) hb); replace BK421 := Az_ (kbz_ (g := gb421) (o := .cells #[.int .i64 ((rd_T40 l0 x25_3).f0), .int .i64 ((rd_T40 l0 x25_3).f1), .int .i64 ((rd_T40 l0 x25_3).f2)] 40 (0, 0)) (by (with_reducible repeat (first | refine knz_ ?_ _ | refine kdz_ ?_ | refine kaz_ ?_ _)); refine blk_put (cs := #[.int .i64 ((rd_T40 l0 x25_3).f0), .int .i64 ((rd_T40 l0 x25_3).f1), .int .i64 0]) ?_ 2 _ rfl; (with_reducible repeat (first | refine knz_ ?_ _ | refine kdz_ ?_ | refine kaz_ ?_ _)); refine blk_put (cs := #[.int .i64 ((rd_T40 l0 x25_3).f0), .int .i64 0, .int .i64 0]) ?_ 1 _ rfl; (with_reducible repeat (first | refine knz_ ?_ _ | refine kdz_ ?_ | refine kaz_ ?_ _)); refine blk_put (cs := #[.int .i64 0, .int .i64 0, .int .i64 0]) ?_ 0 _ rfl; (with_reducible repeat (first | refine knz_ ?_ _ | refine kdz_ ?_ | refine kaz_ ?_ _)); exact BK421.out) hb); replace HB := Az_ (btz_ (w129_) hb); (try clear hb)))
        go_roundg k3
        case measure => have := HK1.out; have := HK2.out; have := HK3.out; omega
        case rel => exact ⟨(t422), (wrap64 (x25_3 + 1)), qaz_, qaz_, H', ⟨w169_⟩, ⟨w167_⟩, ⟨by (with_reducible repeat (first | refine knz_ ?_ _ | refine kdz_ ?_ | refine kaz_ ?_ _)); exact BK419.out⟩, ⟨w129_⟩⟩
   ·rw [if_neg c2] at H
    have c2b0 := decide_eq_false c2
    clear c2
    obtain rfl := Option.some.inj H
    go_wp2
    go_ret
    exact ⟨_, w166_, w167_, w203_⟩

def spec_pzSolved.f (k : Nat) (l0 : List (S40)) : Option (Bool) := (spec_pzAll.f k l0).bind fun t426 => (some ((t426.length : Int) == 1))
set_option maxHeartbeats 8000000 in
set_option maxRecDepth 100000 in
theorem spec_pzSolved.calls (k : Nat) (A0 : Option Addr) (c0 : Nat) (l0 : List (S40)) (r : Bool) (w : World) (hr0 : Kd.C k40 w A0 l0.length l0) (hc0 : l0.length ≤ c0) (h : spec_pzSolved.f k l0 = some r) :
  Calls Tryd.prog 58 #[.slice A0 l0.length c0] w fun e w' => e = .returned (.bool r) ∧ Below w.heap.size w w' := by
 have HR0 := Az_ hr0
 have HC0 := Az_ hc0
 clear hr0 hc0
 have HB := Az_ (Below.refl w.heap.size w)
 have H : ((spec_pzAll.f k l0).bind fun t426 => (some ((t426.length : Int) == 1))) = some r := h
 clear h
 replace H := bqz_ H; obtain ⟨t426, A2, H⟩ := H
 replace H : (some ((t426.length : Int) == 1)) = some r := H
 obtain rfl := Option.some.inj H
 go_enter Tryd.func58, Tryd.ntmps58
 go_wp2_with (((with_reducible refine gate_callee (f := 72) rfl ?_); refine goesL_ (some 4) rfl rfl Tryd.func72 (w204_) rfl #[.slice A0 l0.length c0] rfl maz_ ?_; (with_reducible refine (spec_pzAll.calls k _ _ l0 t426 _ ?side1 ?side2 A2.out).mono ?_); (case side1 => exact ucz_ (HR0.out)); (case side2 => exact HC0.out); rintro e w3 ⟨v427, rfl, ho0, hb⟩; refine ⟨_, rfl, ?_⟩; have HO428 := Az_ (Kd.R_lower ho0 (below_size (ubz_ HB.out))); replace HB := Az_ (btz_ (ubz_ HB.out) hb); (try clear hb); (try clear ho0); obtain ⟨Ao4, co4, eo4⟩ := Kd.R_slice HO428.out; subst eo4))
 go_ret
 exact ⟨w166_, w203_⟩


def spec_pzWithout.f (l0 : List (S40)) (a1 : Int) : Option ((List (S40))) := (some (([] : List (S40)) : List (S40))).bind fun y429 => (if 0 ≤ a1 then (if a1 ≤ (l0.length : Int) then ((some (l0.take (a1 : Int).toNat : List (S40))).bind fun y432 => (if y429.length + y432.length < 5864062014805 then ((some (y429 ++ y432 : List (S40))).bind fun y436 => (if 0 ≤ (wrap64 (a1 + 1)) then (if (wrap64 (a1 + 1)) ≤ (l0.length : Int) then ((some (l0.drop ((wrap64 (a1 + 1)) : Int).toNat : List (S40))).bind fun y439 => (if y436.length + y439.length < 5864062014805 then (some (y436 ++ y439)) else (none))) else (none)) else (none))) else (none))) else (none)) else (none))
def spec_pzWithout.T1 : Bool × List (List Nat × List Nat) := (true, [([], []), ([], []), ([], []), ([1, 2], [1, 2]), ([0, 3], [0, 3]), ([], []), ([], []), ([6], [6]), ([5, 7], [5, 7]), ([4, 8, 4], [4, 8]), ([9, 9, 0, 1, 2, 3, 4, 5, 6, 7, 8, 9], [9])])
def spec_pzWithout.B1 : List Nat := [0, 0, 0, 6, 15, 0, 0, 64, 224, 511, 1023]
theorem spec_pzWithout.tab1 : rtab .any (opsOf Tryd.f59 1) = spec_pzWithout.T1 := by kernel_rfl
theorem spec_pzWithout.bits1 : waitsOk spec_pzWithout.T1.2 spec_pzWithout.B1 = true := by kernel_rfl
set_option maxHeartbeats 8000000 in
set_option maxRecDepth 100000 in
theorem spec_pzWithout.calls (A0 : Option Addr) (c0 : Nat) (l0 : List (S40)) (a1 : Int) (r : List (S40)) (w : World) (hr0 : Kd.C k40 w A0 l0.length l0) (hc0 : l0.length ≤ c0) (h : spec_pzWithout.f l0 a1 = some r) :
  Calls Tryd.prog 59 #[.slice A0 l0.length c0, .int .i64 a1] w fun e w' => ∃ v0_ : Value, e = .returned (v0_) ∧ Kd.R k40 40 w' w.heap.size (fun _ => True) v0_ r ∧ Below w.heap.size w w' := by
 have HR0 := Az_ hr0
 have HC0 := Az_ hc0
 clear hr0 hc0
 have HB := Az_ (Below.refl w.heap.size w)
 have H : ((some (([] : List (S40)) : List (S40))).bind fun y429 => (if 0 ≤ a1 then (if a1 ≤ (l0.length : Int) then ((some (l0.take (a1 : Int).toNat : List (S40))).bind fun y432 => (if y429.length + y432.length < 5864062014805 then ((some (y429 ++ y432 : List (S40))).bind fun y436 => (if 0 ≤ (wrap64 (a1 + 1)) then (if (wrap64 (a1 + 1)) ≤ (l0.length : Int) then ((some (l0.drop ((wrap64 (a1 + 1)) : Int).toNat : List (S40))).bind fun y439 => (if y436.length + y439.length < 5864062014805 then (some (y436 ++ y439)) else (none))) else (none)) else (none))) else (none))) else (none)) else (none))) = some r := h
 clear h
 obtain ⟨y429, hy429⟩ : ∃ y_ : List (S40), y_ = (([] : List (S40))) := ⟨_, rfl⟩
 replace H : (if 0 ≤ a1 then (if a1 ≤ (l0.length : Int) then ((some (l0.take (a1 : Int).toNat : List (S40))).bind fun y432 => (if y429.length + y432.length < 5864062014805 then ((some (y429 ++ y432 : List (S40))).bind fun y436 => (if 0 ≤ (wrap64 (a1 + 1)) then (if (wrap64 (a1 + 1)) ≤ (l0.length : Int) then ((some (l0.drop ((wrap64 (a1 + 1)) : Int).toNat : List (S40))).bind fun y439 => (if y436.length + y439.length < 5864062014805 then (some (y436 ++ y439)) else (none))) else (none)) else (none))) else (none))) else (none)) else (none)) = some r := by first | (rw [hy429]; with_reducible exact H) | (have H2_ := (Option.bind_some _ _).symm.trans H; rw [hy429]; with_reducible exact H2_) | (have H2_ := (Option.bind_some _ _).symm.trans H; with_reducible exact H2_) | with_reducible exact H | (rw [hy429]; exact H) | exact H
 have Ny429 := Az_ hy429
 clear hy429
 by_cases c3 : 0 ≤ a1
 ·rw [if_pos c3] at H
  have c3b0 := eq_true c3
  have c3b1 := decide_eq_true c3
  clear c3
  by_cases c4 : a1 ≤ (l0.length : Int); rotate_left
  ·rw [if_neg c4] at H
   exact absurd H (by simp)
  rw [if_pos c4] at H
  have c4b0 := eq_true c4
  have c4b1 := decide_eq_true c4
  clear c4
  obtain ⟨y432, hy432⟩ : ∃ y_ : List (S40), y_ = (l0.take (a1 : Int).toNat) := ⟨_, rfl⟩
  replace H : (if y429.length + y432.length < 5864062014805 then ((some (y429 ++ y432 : List (S40))).bind fun y436 => (if 0 ≤ (wrap64 (a1 + 1)) then (if (wrap64 (a1 + 1)) ≤ (l0.length : Int) then ((some (l0.drop ((wrap64 (a1 + 1)) : Int).toNat : List (S40))).bind fun y439 => (if y436.length + y439.length < 5864062014805 then (some (y436 ++ y439)) else (none))) else (none)) else (none))) else (none)) = some r := by first | (rw [hy432]; with_reducible exact H) | (have H2_ := (Option.bind_some _ _).symm.trans H; rw [hy432]; with_reducible exact H2_) | (have H2_ := (Option.bind_some _ _).symm.trans H; with_reducible exact H2_) | with_reducible exact H | (rw [hy432]; exact H) | exact H
  have Ny432 := Az_ hy432
  clear hy432
  by_cases c5 : y429.length + y432.length < 5864062014805; rotate_left
  ·rw [if_neg c5] at H
   exact absurd H (by simp)
  rw [if_pos c5] at H
  have LMc5 := Az_ c5
  clear c5
  obtain ⟨y436, hy436⟩ : ∃ y_ : List (S40), y_ = (y429 ++ y432) := ⟨_, rfl⟩
  replace H : (if 0 ≤ (wrap64 (a1 + 1)) then (if (wrap64 (a1 + 1)) ≤ (l0.length : Int) then ((some (l0.drop ((wrap64 (a1 + 1)) : Int).toNat : List (S40))).bind fun y439 => (if y436.length + y439.length < 5864062014805 then (some (y436 ++ y439)) else (none))) else (none)) else (none)) = some r := by first | (rw [hy436]; with_reducible exact H) | (have H2_ := (Option.bind_some _ _).symm.trans H; rw [hy436]; with_reducible exact H2_) | (have H2_ := (Option.bind_some _ _).symm.trans H; with_reducible exact H2_) | with_reducible exact H | (rw [hy436]; exact H) | exact H
  have Ny436 := Az_ hy436
  clear hy436
  obtain ⟨ji6, hji6⟩ : ∃ j_ : Int, (wrap64 (a1 + 1)) = j_ := ⟨_, rfl⟩
  replace H : (if 0 ≤ (ji6) then (if (ji6) ≤ (l0.length : Int) then ((some (l0.drop ((ji6) : Int).toNat : List (S40))).bind fun y439 => (if y436.length + y439.length < 5864062014805 then (some (y436 ++ y439)) else (none))) else (none)) else (none)) = some r := by first | (rw [hji6] at H; exact H) | (simp only [hji6] at H ⊢; exact H)
  have hji6w : (IntKind.i64.wrap (a1 + 1)) = ji6 := (i64_w _).trans hji6
  by_cases c7 : 0 ≤ (ji6); rotate_left
  ·rw [if_neg c7] at H
   exact absurd H (by simp)
  rw [if_pos c7] at H
  have c7b0 := eq_true c7
  have c7b1 := decide_eq_true c7
  clear c7
  by_cases c8 : (ji6) ≤ (l0.length : Int); rotate_left
  ·rw [if_neg c8] at H
   exact absurd H (by simp)
  rw [if_pos c8] at H
  have c8b0 := eq_true c8
  have c8b1 := decide_eq_true c8
  clear c8
  obtain ⟨y439, hy439⟩ : ∃ y_ : List (S40), y_ = (l0.drop ((ji6) : Int).toNat) := ⟨_, rfl⟩
  replace H : (if y436.length + y439.length < 5864062014805 then (some (y436 ++ y439)) else (none)) = some r := by first | (rw [hy439]; with_reducible exact H) | (have H2_ := (Option.bind_some _ _).symm.trans H; rw [hy439]; with_reducible exact H2_) | (have H2_ := (Option.bind_some _ _).symm.trans H; with_reducible exact H2_) | with_reducible exact H | (rw [hy439]; exact H) | exact H
  have Ny439 := Az_ hy439
  clear hy439
  by_cases c9 : y436.length + y439.length < 5864062014805; rotate_left
  ·rw [if_neg c9] at H
   exact absurd H (by simp)
  rw [if_pos c9] at H
  have LMc9 := Az_ c9
  clear c9
  obtain ⟨y443, hy443⟩ : ∃ y_ : List (S40), y_ = (y436 ++ y439) := ⟨_, rfl⟩
  replace H : (some y443) = some r := by first | (rw [hy443]; with_reducible exact H) | (have H2_ := (Option.bind_some _ _).symm.trans H; rw [hy443]; with_reducible exact H2_) | (have H2_ := (Option.bind_some _ _).symm.trans H; with_reducible exact H2_) | with_reducible exact H | (rw [hy443]; exact H) | exact H
  have Ny443 := Az_ hy443
  clear hy443
  obtain rfl := Option.some.inj H
  go_enter Tryd.func59, Tryd.ntmps59
  try go_wp2
  replace HB := Az_ (bdz_ HB.out)
  have q11 : (a1 : Int) ≤ ((l0.length : Int) : Int) := od_
  obtain ⟨i011, hi011, _, hsz11, _⟩ := info_parts info40
  have hroom11 : l0.length ≤ c0 := HC0.out
  have hC11 : Kd.C k40 _ A0 l0.length l0 := HR0.out
  have hcut11 := cut_to (P := Tryd.prog) 28 40 .i64 Tryd.underlying28 hi011 A0 l0.length c0 a1 (od_) q11 hroom11
  have hr11 := Kd.C_take (m := (a1 : Int).toNat) hC11 (by omega)
  have hy11 : y432.length = (a1 : Int).toNat := (by rw [Ny432.out, List.length_take]; omega)
  rw [← Ny432.out] at hr11
  rw [← hy11] at hcut11
  have HR435 := Az_ hr11
  have HC435 := Az_ (show y432.length ≤ c0 from by omega)
  clear hr11 hC11 hroom11 hi011 hsz11
  have KY11 := Az_ hy11
  clear hy11
  replace q11 := eq_true q11
  have q12 : ((ji6) : Int) ≤ ((l0.length : Int) : Int) := od_
  obtain ⟨i012, hi012, _, hsz12, _⟩ := info_parts info40
  have hroom12 : l0.length ≤ c0 := HC0.out
  have hC12 : Kd.C k40 _ A0 l0.length l0 := HR0.out
  have q012 : (0 : Int) ≤ ((ji6) : Int) := od_
  have hcut12 := cut_from (P := Tryd.prog) 28 40 .i64 Tryd.underlying28 hi012 3 hsz12 A0 l0.length c0 (ji6) q012 q12
  have hr12 := Kd.C_drop (m := ((ji6) : Int).toNat) (c := c0) hC12 (by omega) hroom12
  obtain ⟨A12, hA12⟩ : ∃ A1, A1 = (if c0 = ((ji6) : Int).toNat then A0 else (A0 : Option Addr).map (·.add (((ji6) : Int).toNat * 3))) := ⟨_, rfl⟩
  obtain ⟨c12, hc12⟩ : ∃ c1, c1 = c0 - ((ji6) : Int).toNat := ⟨_, rfl⟩
  have hy12 : y439.length = l0.length - ((ji6) : Int).toNat := (by rw [Ny439.out, List.length_drop] <;> omega)
  rw [show (l0).drop ((ji6) : Int).toNat = y439 from Ny439.out.symm] at hr12
  replace hr12 : Kd.C k40 _ A12 y439.length y439 := (by rw [hA12]; exact hr12)
  rw [← hy12, ← hA12, ← hc12] at hcut12
  have HR442 := Az_ hr12
  have HC442 := Az_ (show y439.length ≤ c12 from by rw [hy12, hc12]; exact Nat.sub_le_sub_right hroom12 _)
  clear hr12 hC12 hroom12 hi012 hsz12 hc12
  have KY12 := Az_ hy12
  have KA12 := Az_ hA12
  clear hy12 hA12
  replace q12 := eq_true q12
  refine start_ (n := 11) (S := fun w' => True) (ds := []) #[false, false, false, false, false, false, false, false, false, false, false] (w204_) rfl rfl trivial (fun hHeld => ?_); refine with_tabW spec_pzWithout.tab1 spec_pzWithout.bits1 (fun HT_ HW_ => ?_)
  generalize w.drew = w10 at HB HR435 HR442 hHeld ⊢
  refine pz_ 1 6 [0,1,1,9] ?_
  refine pz_ 2 7 [0,1,2,8] ?_
  refine pz_ 3 8 [0,1,3,7] ?_
  refine pz_ 5 10 [0,1,3,1,1,5] ?_
  refine pz_ 6 11 [0,1,3,1,2,4] ?_
  refine pz_ 7 12 [0,1,3,1,3,3] ?_
  refine pz_ 8 13 [0,1,3,1,4,2] ?_
  refine one_ (i := 0) (N := some 5) (mz_ [4,1,4,2]) rfl rfl (one_of HT_.out (w204_)) (by decide) (fun K hK => ?_)
  refine Kd.R_lit_step k40 _ 40 ?hg (N := 5) ?hd (xs := ([] : List (S40))) (inner := []) (ok := fun _ => True) (okp := fun _ => True) ?hr ?hp (fun _ hk => hk) trivial (Below.refl _ _) (Nat.le_refl _) (by simp) ?_; (case hd => rfl); (case hg => rfl); (case hr => first | (go_simp; done) | (go_simp; rfl)); (case hp => exact (Reps.none _ _))
  intro v430 w13 ho14 hb hg_ hnew_
  clear hg_ hnew_
  (first | rw [← Ny429.out] at ho14 | (simp only [Int.reduceToNat] at ho14; rw [← Ny429.out] at ho14))
  have HO431 := Az_ (Kd.R_lower ho14 (below_size (ubz_ HB.out)))
  replace HB := Az_ (btz_ (ubz_ HB.out) hb)
  refine hK.out _ _ trivial (fun hHeld => ?_)
  clear hK K
  refine nz_ 5 ?_
  refine one_ (i := 4) (N := some 9) (mz_ [9,2]) rfl rfl (one_of HT_.out (w204_)) (by decide) (fun K hK => ?_)
  refine Kd.R_append_rows_step k40 (w0 := w) w.heap.size (by rfl) (.tmp 5) (.tmp 8) 28 40 (.agg #[(.int .i64 0), (.int .i64 0), (.int .i64 0)]) 24 rfl Tryd.underlying28 info40 rfl (by decide) (by omega) v430 y429 y432 _ _ _ (fun _ => True) (fun _ => False) rfl rfl ?aO ?aR (fun _ _ h => h) (fun _ h => h.elim) ?aF ?aB ?aS ?aL ?_
  (case aR => repeat (first | exact (Kd.C_below HR435.out HB.out) | (with_reducible refine Kd.C_alloc ?_ _) | (with_reducible refine Kd.C_drewN ?_ _) | (with_reducible refine Kd.C_drew ?_)))
  (case aB => exact (ubz_ HB.out))
  (case aF => exact (fun _ _ => trivial))
  (case aO => exact (by exact urz_ HO431.out))
  (case aS => exact (below_size (ubz_ HB.out)))
  (case aL => have := LMc5.out; omega)
  intro v437 w15 ho hb hg hat
  rw [← Ny436.out] at ho
  replace HB := Az_ (hb)
  have HO438 := Az_ (ho)
  clear HO431
  refine hK.out _ _ trivial (fun hHeld => ?_)
  clear hK K
  refine nz_ 9 ?_
  refine one_ (i := 9) (N := some 14) (mz_ [10,1]) rfl rfl (one_of HT_.out (w204_)) (by decide) (fun K hK => ?_)
  refine Kd.R_append_rows_step k40 (w0 := w) w.heap.size (by rfl) (.tmp 9) (.tmp 13) 28 40 (.agg #[(.int .i64 0), (.int .i64 0), (.int .i64 0)]) 24 rfl Tryd.underlying28 info40 rfl (by decide) (by omega) v437 y436 y439 _ _ _ (fun _ => True) (fun _ => False) rfl rfl ?aO ?aR (fun _ _ h => h) (fun _ h => h.elim) ?aF ?aB ?aS ?aL ?_
  (case aR => repeat (first | exact (Kd.C_below HR442.out HB.out) | (with_reducible refine Kd.C_alloc ?_ _) | (with_reducible refine Kd.C_drewN ?_ _) | (with_reducible refine Kd.C_drew ?_)))
  (case aB => exact (ubz_ HB.out))
  (case aF => exact (fun _ _ => trivial))
  (case aO => exact (by exact urz_ HO438.out))
  (case aS => exact (below_size (ubz_ HB.out)))
  (case aL => have := LMc9.out; omega)
  intro v444 w16 ho hb hg hat
  rw [← Ny443.out] at ho
  replace HB := Az_ (hb)
  have HO445 := Az_ (ho)
  clear HO438
  refine hK.out _ _ trivial (fun hHeld => ?_)
  clear hK K
  refine nz_ 14 ?_
  refine pz_ 10 4 [11] ?_
  refine done_ (done_of HT_.out (w204_)) ?_
  try go_wp2
  go_ret
  exact ⟨_, by first | rfl | (simp [errW_none, errW_some] <;> rfl) | (simp only [← hji6]; first | rfl | (simp [errW_none, errW_some] <;> rfl)) | (simp [*, errW_none, errW_some] <;> rfl), by (with_reducible repeat (first | apply raz_ | apply rnz_ | apply rdz_)); exact HO445.out, w203_⟩
 ·rw [if_neg c3] at H
  exact absurd H (by simp)


mutual
def spec_HarderPuzzle.j0 : Nat → Bool → List (S40) → Option ((List (S40)) × Bool)
 | 0, _, _ => none
 | k + 1, x15, x447000 => if x15 = true then (some (([] : List (S40)), false)) else ((some (([] : List (S40)) : List (S40))).bind fun y450 => (if y450.length + x447000.length < 5864062014805 then (spec_HarderPuzzle.l0 k (y450 ++ x447000) 0) else (none)))
def spec_HarderPuzzle.l0 : Nat → List (S40) → Int → Option ((List (S40)) × Bool)
 | 0, _, _ => none
 | k + 1, x4, x5 => if x5 < (x4.length : Int) then ((spec_pzWithout.f x4 x5).bind fun t456 => ((spec_pzSolved.f k t456).bind fun t459 => (if t459 = true then (spec_HarderPuzzle.l0 k t456 x5) else (spec_HarderPuzzle.l0 k x4 (wrap64 (x5 + 1)))))) else (some (x4, true))
end
def spec_HarderPuzzle.f (k : Nat) (l0_0 : List (S40)) : Option ((List (S40)) × Bool) := (spec_pzGood.f k l0_0).bind fun t448 => (if t448 = true then ((spec_pzSolved.f k l0_0).bind fun t449 => (spec_HarderPuzzle.j0 k (!t449) l0_0)) else (spec_HarderPuzzle.j0 k true l0_0))
set_option maxHeartbeats 8000000 in
set_option maxRecDepth 100000 in
theorem spec_HarderPuzzle.calls (k : Nat) (A0_0 : Option Addr) (c0_0 : Nat) (l0_0 : List (S40)) (r1 : List (S40)) (r2 : Bool) (w : World) (hr0_0 : Kd.C k40 w A0_0 l0_0.length l0_0) (hc0_0 : l0_0.length ≤ c0_0) (h : spec_HarderPuzzle.f k l0_0 = some (r1, r2)) :
  Calls Tryd.prog 18 #[.agg #[.slice A0_0 l0_0.length c0_0]] w fun e w' => ∃ v0_ : Value, e = .returned (.tuple #[.agg #[v0_], .bool r2]) ∧ Kd.R k40 40 w' w.heap.size (fun _ => True) v0_ r1 ∧ Below w.heap.size w w' := by
 have hu30 := Tryd.underlying30
 have HR0_0 := Az_ hr0_0
 have HC0_0 := Az_ hc0_0
 clear hr0_0 hc0_0
 have HB := Az_ (Below.refl w.heap.size w)
 have H : ((spec_pzGood.f k l0_0).bind fun t448 => (if t448 = true then ((spec_pzSolved.f k l0_0).bind fun t449 => (j0 k (!t449) l0_0)) else (j0 k true l0_0))) = some (r1, r2) := h
 clear h
 have HC2 := Az_ H
 clear H
 go_enter Tryd.func18, Tryd.ntmps18
 go_upto_region 1 with (first | ((with_reducible refine gate_dst (N := 1) rfl ?_); refine bxe_ (N := 1) (cs := #[.slice A0_0 l0_0.length c0_0]) (t := 30) ?_; intro gb446 hg w3 BK446 hb; have GW446 := gez_ hg (ubz_ HB.out); have GE446 := GW446; replace HB := Az_ (btz_ (ubz_ HB.out) hb); clear hb hg) | ((with_reducible refine gate_dst (N := 2) rfl ?_); refine bxe_ (N := 2) (cs := #[.slice none 0 0]) (t := 30) ?_; intro gb447 hg w4 BK447 hb; obtain ⟨NB446_447, NB447_446⟩ := nez_ BK446 hg; have GW447 : Aside0 (w.heap.size ≤ gb447) := gez_ hg (w129_); have GE447 := GW447; replace HB := Az_ (btz_ (w129_) hb); replace BK446 := Az_ (ukbz_ BK446.out hb); clear hb hg))
 (try simp only [Act.put, List.setIfInBounds_toArray, List.set_cons_zero, List.set_cons_succ])
 go_cut [15] (fun v15 wc => ∃ (kq : Nat) (x15_1 : Bool), v15 = .bool x15_1 ∧ Aside0 (j0 kq x15_1 l0_0 = some (r1, r2)) ∧ Aside0 (kq ≤ k) ∧ Aside0 (wc.heap[gb446]? = some (.cells #[(.slice A0_0 l0_0.length c0_0)] 30 (0, 0))) ∧ Aside0 (wc.heap[gb447]? = some (.cells #[(.slice none 0 0)] 30 (0, 0))) ∧ Aside0 (Below w.heap.size w wc))
 case first =>
  have H := HC2.out
  clear HC2
  replace H := bqz_ H; obtain ⟨t448, A5, H⟩ := H
  replace H : (if t448 = true then ((spec_pzSolved.f k l0_0).bind fun t449 => (j0 k (!t449) l0_0)) else (j0 k true l0_0)) = some (r1, r2) := H
  by_cases c6 : t448 = true; rotate_left
  ·replace c6 := Bool.eq_false_iff.mpr c6
   subst c6
   rw [if_neg nfz_] at H
   have H' := Az_ H
   clear H
   have hnb13 := NB446_447.out
   have hnc13 := NB447_446.out
   have hcz14_0 := cz_ (x := .slice A0_0 l0_0.length c0_0) BK446 0
   have hfz14_0 := blk_frozen BK446.out 0
   go_wp2_with (((with_reducible refine gate_callee (f := 57) rfl ?_); refine goesL_ (some 8) rfl rfl Tryd.func57 (w204_) rfl #[.agg #[.slice A0_0 l0_0.length c0_0]] rfl maz_ ?_; (with_reducible refine (spec_pzGood.calls k _ _ l0_0 false _ ?side1 ?side2 A5.out).mono ?_); (case side1 => exact ucz_ ((Kd.C_below HR0_0.out HB.out))); (case side2 => exact HC0_0.out); rintro e w15 ⟨rfl, hb⟩; refine ⟨_, rfl, ?_⟩; have n2_ := Az_ (btz_ (w129_) hb); clear HB; replace BK446 := Az_ (ukbz_ BK446.out hb); replace BK447 := Az_ (ukbz_ BK447.out hb); have HB := n2_; clear n2_; (try clear hb)))
   go_meet
   case rel => exact ⟨_, (true), qaz_, H', ⟨w173_⟩, ⟨w158_⟩, ⟨w159_⟩, ⟨w129_⟩⟩
  subst c6
  rw [if_pos rfl] at H
  replace H := bqz_ H; obtain ⟨t449, A7, H⟩ := H
  replace H : (j0 k (!t449) l0_0) = some (r1, r2) := H
  have H' := Az_ H
  clear H
  have hnb8 := NB446_447.out
  have hnc8 := NB447_446.out
  have hcz9_0 := cz_ (x := .slice A0_0 l0_0.length c0_0) BK446 0
  have hfz9_0 := blk_frozen BK446.out 0
  go_wp2_with (first | ((with_reducible refine gate_callee (f := 57) rfl ?_); refine goesL_ (some 8) rfl rfl Tryd.func57 (w204_) rfl #[.agg #[.slice A0_0 l0_0.length c0_0]] rfl maz_ ?_; (with_reducible refine (spec_pzGood.calls k _ _ l0_0 true _ ?side1 ?side2 A5.out).mono ?_); (case side1 => exact ucz_ ((Kd.C_below HR0_0.out HB.out))); (case side2 => exact HC0_0.out); rintro e w10 ⟨rfl, hb⟩; refine ⟨_, rfl, ?_⟩; have n2_ := Az_ (btz_ (w129_) hb); clear HB; replace BK446 := Az_ (ukbz_ BK446.out hb); replace BK447 := Az_ (ukbz_ BK447.out hb); have HB := n2_; clear n2_; (try clear hb); have hcz11_0 := cz_ (x := .slice A0_0 l0_0.length c0_0) BK446 0; have hfz11_0 := blk_frozen BK446.out 0) | (go_at_call 58; (with_reducible refine (spec_pzSolved.calls k _ _ l0_0 t449 _ ?side1 ?side2 A7.out).mono ?_); (case side1 => exact ucz_ ((Kd.C_below HR0_0.out HB.out))); (case side2 => exact HC0_0.out); rintro e w12 ⟨rfl, hb⟩; have n2_ := Az_ (btz_ (w129_) hb); clear HB; replace BK446 := Az_ (ukbz_ BK446.out hb); replace BK447 := Az_ (ukbz_ BK447.out hb); have HB := n2_; clear n2_; (try clear hb)))
  go_meet
  case rel => exact ⟨_, (!t449), qaz_, H', ⟨w173_⟩, ⟨w158_⟩, ⟨w159_⟩, ⟨w129_⟩⟩
 case rest =>
  clear HC2
  obtain ⟨kq, x15_1, rfl, HA, HJ1, BK446, BK447, HB⟩ := hcut
  cases kq with
  | zero => exact absurd HA.out (by simp [j0])
  | succ kj1 =>
   have H := HA.out
   clear HA
   simp only [j0] at H
   by_cases c16 : x15_1 = true
   ·subst c16
    rw [if_pos rfl] at H
    simp only [Option.some.injEq, Prod.mk.injEq] at H
    obtain ⟨rfl, rfl⟩ := H
    have hnb17 := NB447_446.out
    have hnc17 := NB446_447.out
    have hcz18_0 := cz_ (x := .slice none 0 0) BK447 0
    have hfz18_0 := blk_frozen BK447.out 0
    go_wp2
    refine bodyPost_ret (results_ct rfl _ _ gb447 30 #[.slice none 0 0] (0, 0) _ rfl (w44_) Tryd.underlying30 rfl (w204_)) rfl ?_
    exact ⟨_, w166_, w130_, w129_⟩
   ·replace c16 := Bool.eq_false_iff.mpr c16
    subst c16
    rw [if_neg nfz_] at H
    obtain ⟨y450, hy450⟩ : ∃ y_ : List (S40), y_ = (([] : List (S40))) := ⟨_, rfl⟩
    replace H : (if y450.length + l0_0.length < 5864062014805 then (spec_HarderPuzzle.l0 kj1 (y450 ++ l0_0) 0) else (none)) = some (r1, r2) := by first | (rw [hy450]; with_reducible exact H) | (have H2_ := (Option.bind_some _ _).symm.trans H; rw [hy450]; with_reducible exact H2_) | (have H2_ := (Option.bind_some _ _).symm.trans H; with_reducible exact H2_) | with_reducible exact H | (rw [hy450]; exact H) | exact H
    have Ny450 := Az_ hy450
    clear hy450
    by_cases c19 : y450.length + l0_0.length < 5864062014805
    ·rw [if_pos c19] at H
     have LMc19 := Az_ c19
     clear c19
     obtain ⟨y453, hy453⟩ : ∃ y_ : List (S40), y_ = (y450 ++ l0_0) := ⟨_, rfl⟩
     replace H : (spec_HarderPuzzle.l0 kj1 y453 0) = some (r1, r2) := by first | (rw [hy453]; with_reducible exact H) | (have H2_ := (Option.bind_some _ _).symm.trans H; rw [hy453]; with_reducible exact H2_) | (have H2_ := (Option.bind_some _ _).symm.trans H; with_reducible exact H2_) | with_reducible exact H | (rw [hy453]; exact H) | exact H
     have Ny453 := Az_ hy453
     clear hy453
     have H' := Az_ H
     clear H
     go_wp2_with (first | ((with_reducible refine gate_dst (N := 17) rfl ?_); refine Kd.R_lit k40 _ 40 ?hg (N := 17) ?hd (xs := ([] : List (S40))) (inner := []) (ok := fun _ => True) (okp := fun _ => True) ?hr ?hp (fun _ hk => hk) trivial (Below.refl _ _) (Nat.le_refl _) (by simp) ?_; (case hd => rfl); (case hg => rfl); (case hr => first | (go_simp; done) | (go_simp; rfl)); (case hp => exact (Reps.none _ _)); intro v451 w20 ho21 hb hg_ hnew_; clear hg_ hnew_; (first | rw [← Ny450.out] at ho21 | (simp only [Int.reduceToNat] at ho21; rw [← Ny450.out] at ho21)); have n0_ := Az_ (Kd.R_lower ho21 (below_size (w129_))); have n3_ := Az_ (btz_ (w129_) hb); clear HB; have HO452 := n0_; replace BK446 := Az_ (ukbz_ BK446.out hb); replace BK447 := Az_ (ukbz_ BK447.out hb); have HB := n3_; clear n0_ n3_; clear hb ho21; have hnb22 := NB446_447.out; have hnc22 := NB447_446.out; have hcz23_0 := cz_ (x := .slice A0_0 l0_0.length c0_0) BK446 0; have hfz23_0 := blk_frozen BK446.out 0) | ((with_reducible refine gate_builtin (b := .append) (xs := #[.tmp 17, .tmp 19]) rfl ?_); at_builtin; refine Kd.R_append_rows k40 (w0 := w) w.heap.size rfl (.tmp 17) (.tmp 19) 28 40 (.agg #[(.int .i64 0), (.int .i64 0), (.int .i64 0)]) 24 rfl Tryd.underlying28 info40 rfl (by decide) (by omega) v451 y450 l0_0 _ _ _ (fun _ => True) (fun _ => False) rfl rfl ?aO ?aR (fun _ _ h => h) (fun _ h => h.elim) ?aF ?aB ?aS ?aL ?_; (case aR => repeat (first | exact (Kd.C_below HR0_0.out HB.out) | (with_reducible refine Kd.C_alloc ?_ _) | (with_reducible refine Kd.C_drewN ?_ _) | (with_reducible refine Kd.C_drew ?_))); (case aB => exact (w129_)); (case aF => exact (fun _ _ => trivial)); (case aO => exact (by exact urz_ HO452.out)); (case aS => exact (below_size (w129_))); (case aL => have := LMc19.out; omega); intro v454 w24 ho hb hg hat; rw [← Ny453.out] at ho; replace BK446 := Az_ (blk_grown (g := gb446) (o := .cells #[.slice A0_0 l0_0.length c0_0] 30 (0, 0)) (by exact ukz_ BK446.out) hg (Kd.R_ne HO452.out BK446.out (by decide))); replace BK447 := Az_ (blk_grown (g := gb447) (o := .cells #[.slice none 0 0] 30 (0, 0)) (by exact ukz_ BK447.out) hg (Kd.R_ne HO452.out BK447.out (by decide))); replace HB := Az_ (hb); have HO455 := Az_ (ho); clear HO452; clear ho hb hg hat))
     go_loopg [4, 5] kj1 (fun kq v4 v5 w' => ∃ (x4_2 : List (S40)) (x5_2 : Int), v5 = .int .i64 x5_2 ∧ Aside0 (spec_HarderPuzzle.l0 kq x4_2 x5_2 = some (r1, r2)) ∧ Aside0 (kq ≤ kj1) ∧ Aside0 (Kd.R k40 40 w' w.heap.size (fun _ => True) v4 x4_2) ∧ Aside0 (w'.heap[gb446]? = some (.cells #[(.slice A0_0 l0_0.length c0_0)] 30 (0, 0))) ∧ Aside0 (w'.heap[gb447]? = some (.cells #[(.slice none 0 0)] 30 (0, 0))) ∧ Aside0 (Below w.heap.size w w'))
     case atStart => exact ⟨(y453), (0), qaz_, H', ⟨Nat.le_refl _⟩, ⟨by (with_reducible repeat (first | apply raz_ | apply rnz_ | apply rdz_)); exact HO455.out⟩, ⟨w158_⟩, ⟨w159_⟩, ⟨w129_⟩⟩
     case round =>
      clear H'
      clear hcz23_0 hfz23_0
      obtain ⟨x4_2, x5_2, rfl, HA, HK2, HO_4, BK446, BK447, HB⟩ := hrel
      cases gk with
      | zero => exact absurd HA.out (by simp [spec_HarderPuzzle.l0])
      | succ k2 =>
       have H := HA.out
       clear HA
       simp only [spec_HarderPuzzle.l0] at H
       by_cases c25 : x5_2 < (x4_2.length : Int); rotate_left
       ·rw [if_neg c25] at H
        have c25b0 := decide_eq_false c25
        clear c25
        simp only [Option.some.injEq, Prod.mk.injEq] at H
        obtain ⟨rfl, rfl⟩ := H
        obtain ⟨Ao37, co37, eo37⟩ := Kd.R_slice HO_4.out
        subst eo37
        have hnb38 := NB447_446.out
        have hnc38 := NB446_447.out
        have hcz39_0 := cz_ (x := .slice none 0 0) BK447 0
        have hfz39_0 := blk_frozen BK447.out 0
        go_wp2
        refine bodyPost_ret (results_ct rfl _ _ gb447 30 #[.slice Ao37 x4_2.length co37] (0, 0) _ rfl (w44_) Tryd.underlying30 rfl (w204_)) rfl ?_
        exact ⟨_, w166_, by (with_reducible repeat (first | apply raz_ | apply rnz_ | apply rdz_)); exact Kd.R_mono (Kd.R_far (p := ⟨gb447, 0, none⟩) (Kd.R_types HO_4.out BK447.out (by decide)) (fun _ hk => hk.2) (.slice Ao37 x4_2.length co37)) (fun _ hk => trivial), w129_⟩
       rw [if_pos c25] at H
       have c25b0 := decide_eq_true c25
       clear c25
       replace H := bqz_ H; obtain ⟨t456, A26, H⟩ := H
       replace H := bqz_ H; obtain ⟨t459, A27, H⟩ := H
       replace H : (if t459 = true then (spec_HarderPuzzle.l0 k2 t456 x5_2) else (spec_HarderPuzzle.l0 k2 x4_2 (wrap64 (x5_2 + 1)))) = some (r1, r2) := H
       by_cases c28 : t459 = true
       ·subst c28
        rw [if_pos rfl] at H
        have H' := Az_ H
        clear H
        obtain ⟨Ao29, co29, eo29⟩ := Kd.R_slice HO_4.out
        subst eo29
        go_wp2_with (first | ((with_reducible refine gate_callee (f := 59) rfl ?_); refine goesL_ (some 27) rfl rfl Tryd.func59 (w204_) rfl #[.slice Ao29 x4_2.length co29, .int .i64 x5_2] rfl maz_ ?_; (with_reducible refine (spec_pzWithout.calls _ _ x4_2 x5_2 t456 _ ?side1 ?side2 A26.out).mono ?_); (case side1 => exact ucz_ ((Kd.R_reads' HO_4.out).2.2)); (case side2 => exact (Kd.R_reads' HO_4.out).2.1); rintro e w30 ⟨v457, rfl, ho0, hb⟩; refine ⟨_, rfl, ?_⟩; have n0_ := Az_ (rez_ (w202_) (Kd.R_base ho0) hb); have n1_ := Az_ (Kd.R_lower (Kd.R_new' ho0 (Kd.R_lt (w202_))) (below_size (w129_))); have n4_ := Az_ (btz_ (w129_) hb); clear HO_4; clear HB; have HO_4 := n0_; have HO458 := n1_; replace BK446 := Az_ (ukbz_ BK446.out hb); replace BK447 := Az_ (ukbz_ BK447.out hb); have HB := n4_; clear n0_ n1_ n4_; (try clear hb); (try clear ho0); obtain ⟨Ao31, co31, eo31⟩ := Kd.R_slice HO458.out; subst eo31) | ((with_reducible refine gate_callee (f := 58) rfl ?_); refine goesL_ (some 29) rfl rfl Tryd.func58 (w204_) rfl #[.slice Ao31 t456.length co31] rfl maz_ ?_; (with_reducible refine (spec_pzSolved.calls k2 _ _ t456 true _ ?side1 ?side2 A27.out).mono ?_); (case side1 => exact ucz_ ((Kd.R_reads' HO458.out).2.2)); (case side2 => exact (Kd.R_reads' HO458.out).2.1); rintro e w32 ⟨rfl, hb⟩; refine ⟨_, rfl, ?_⟩; have n0_ := Az_ (Kd.R_below (w202_) hb); have n1_ := Az_ (Kd.R_below (by exact urz_ HO458.out) hb); have n4_ := Az_ (btz_ (w129_) hb); clear HO_4; clear HO458; clear HB; have HO_4 := n0_; have HO458 := n1_; replace BK446 := Az_ (ukbz_ BK446.out hb); replace BK447 := Az_ (ukbz_ BK447.out hb); have HB := n4_; clear n0_ n1_ n4_; (try clear hb)))
        go_roundg k2
        case measure => have := HJ1.out; have := HK2.out; omega
        case rel => exact ⟨(t456), (x5_2), qaz_, H', ⟨by have := HJ1.out; have := HK2.out; omega⟩, ⟨by (with_reducible repeat (first | apply raz_ | apply rnz_ | apply rdz_)); exact Kd.R_mono HO458.out (fun _ hk => trivial)⟩, ⟨w158_⟩, ⟨w159_⟩, ⟨w129_⟩⟩
       replace c28 := Bool.eq_false_iff.mpr c28
       subst c28
       rw [if_neg nfz_] at H
       have H' := Az_ H
       clear H
       obtain ⟨Ao33, co33, eo33⟩ := Kd.R_slice HO_4.out
       subst eo33
       go_wp2_with (first | ((with_reducible refine gate_callee (f := 59) rfl ?_); refine goesL_ (some 27) rfl rfl Tryd.func59 (w204_) rfl #[.slice Ao33 x4_2.length co33, .int .i64 x5_2] rfl maz_ ?_; (with_reducible refine (spec_pzWithout.calls _ _ x4_2 x5_2 t456 _ ?side1 ?side2 A26.out).mono ?_); (case side1 => exact ucz_ ((Kd.R_reads' HO_4.out).2.2)); (case side2 => exact (Kd.R_reads' HO_4.out).2.1); rintro e w34 ⟨v457, rfl, ho0, hb⟩; refine ⟨_, rfl, ?_⟩; have n0_ := Az_ (rez_ (w202_) (Kd.R_base ho0) hb); have n1_ := Az_ (Kd.R_lower (Kd.R_new' ho0 (Kd.R_lt (w202_))) (below_size (w129_))); have n4_ := Az_ (btz_ (w129_) hb); clear HO_4; clear HB; have HO_4 := n0_; have HO458 := n1_; replace BK446 := Az_ (ukbz_ BK446.out hb); replace BK447 := Az_ (ukbz_ BK447.out hb); have HB := n4_; clear n0_ n1_ n4_; (try clear hb); (try clear ho0); obtain ⟨Ao35, co35, eo35⟩ := Kd.R_slice HO458.out; subst eo35) | ((with_reducible refine gate_callee (f := 58) rfl ?_); refine goesL_ (some 29) rfl rfl Tryd.func58 (w204_) rfl #[.slice Ao35 t456.length co35] rfl maz_ ?_; (with_reducible refine (spec_pzSolved.calls k2 _ _ t456 false _ ?side1 ?side2 A27.out).mono ?_); (case side1 => exact ucz_ ((Kd.R_reads' HO458.out).2.2)); (case side2 => exact (Kd.R_reads' HO458.out).2.1); rintro e w36 ⟨rfl, hb⟩; refine ⟨_, rfl, ?_⟩; have n0_ := Az_ (Kd.R_below (w202_) hb); have n1_ := Az_ (Kd.R_below (by exact urz_ HO458.out) hb); have n4_ := Az_ (btz_ (w129_) hb); clear HO_4; clear HO458; clear HB; have HO_4 := n0_; have HO458 := n1_; replace BK446 := Az_ (ukbz_ BK446.out hb); replace BK447 := Az_ (ukbz_ BK447.out hb); have HB := n4_; clear n0_ n1_ n4_; (try clear hb)))
       go_roundg k2
       case measure => have := HJ1.out; have := HK2.out; omega
       case rel => exact ⟨(x4_2), (wrap64 (x5_2 + 1)), qaz_, H', ⟨by have := HJ1.out; have := HK2.out; omega⟩, ⟨w143_⟩, ⟨w158_⟩, ⟨w159_⟩, ⟨w129_⟩⟩
    ·rw [if_neg c19] at H
     exact absurd H (by simp)

def impl_NeedlessClues.l0 : Nat → List (S25) → List Int → Int → Int → List (S40) → Option (List Int × Bool)
 | 0, _, _, _, _, _ => none
 | k + 1, x4, x6, x18, x19, x461000 => if x19 < x18 then ((impl_without.f x461000 x19).bind fun t468 => ((impl_solutions.f t468).bind fun t471 => (if (t471.length : Int) = (x4.length : Int) then (if x6.length < 17592186044416 then (impl_NeedlessClues.l0 k x4 (x6 ++ [x19]) x18 (wrap64 (x19 + 1)) x461000) else (none)) else (impl_NeedlessClues.l0 k x4 x6 x18 (wrap64 (x19 + 1)) x461000)))) else (some (x6, true))
def impl_NeedlessClues.f (k : Nat) (l0_0 : List (S40)) : Option (List Int × Bool) := (impl_Solutions.f l0_0).bind fun bt461 => (if bt461.2 = true then (impl_NeedlessClues.l0 k bt461.1 (([] : List Int)) (l0_0.length : Int) 0 l0_0) else (some (([] : List Int), false)))
set_option maxHeartbeats 8000000 in
set_option maxRecDepth 100000 in
theorem impl_NeedlessClues.calls (k : Nat) (A0_0 : Option Addr) (c0_0 : Nat) (l0_0 : List (S40)) (r1 : List Int) (r2 : Bool) (w : World) (hr0_0 : Kd.C k40 w A0_0 l0_0.length l0_0) (hc0_0 : l0_0.length ≤ c0_0) (h : impl_NeedlessClues.f k l0_0 = some (r1, r2)) :
  Calls Tryd.prog 21 #[.agg #[.slice A0_0 l0_0.length c0_0]] w fun e w' => ∃ v0_ : Value, e = .returned (.tuple #[v0_, .bool r2]) ∧ Kd.R (Kd.int .i64) 3 w' w.heap.size (fun _ => True) v0_ r1 ∧ Below w.heap.size w w' := by
 have hu30 := Tryd.underlying30
 have HR0_0 := Az_ hr0_0
 have HC0_0 := Az_ hc0_0
 clear hr0_0 hc0_0
 have HB := Az_ (Below.refl w.heap.size w)
 have H : ((impl_Solutions.f l0_0).bind fun bt461 => (if bt461.2 = true then (impl_NeedlessClues.l0 k bt461.1 (([] : List Int)) (l0_0.length : Int) 0 l0_0) else (some (([] : List Int), false)))) = some (r1, r2) := h
 clear h
 replace H := bqz_ H; obtain ⟨⟨t461, t464⟩, A2, H⟩ := H
 replace H : (if t464 = true then (impl_NeedlessClues.l0 k t461 (([] : List Int)) (l0_0.length : Int) 0 l0_0) else (some (([] : List Int), false))) = some (r1, r2) := H
 by_cases c3 : t464 = true
 ·subst c3
  rw [if_pos rfl] at H
  obtain ⟨y465, hy465⟩ : ∃ y_ : List Int, y_ = (([] : List Int)) := ⟨_, rfl⟩
  replace H : (impl_NeedlessClues.l0 k t461 y465 (l0_0.length : Int) 0 l0_0) = some (r1, r2) := by first | (rw [hy465]; with_reducible exact H) | (have H2_ := (Option.bind_some _ _).symm.trans H; rw [hy465]; with_reducible exact H2_) | (have H2_ := (Option.bind_some _ _).symm.trans H; with_reducible exact H2_) | with_reducible exact H | (rw [hy465]; exact H) | exact H
  have Ny465 := Az_ hy465
  clear hy465
  have H' := Az_ H
  clear H
  go_enter Tryd.func21, Tryd.ntmps21
  go_wp2_with (first | ((with_reducible refine gate_dst (N := 1) rfl ?_); refine bxe_ (N := 1) (cs := #[.slice A0_0 l0_0.length c0_0]) (t := 30) ?_; intro gb460 hg w4 BK460 hb; have GW460 := gez_ hg (ubz_ HB.out); have GE460 := GW460; replace HB := Az_ (btz_ (ubz_ HB.out) hb); clear hb hg; have hcz5_0 := cz_ (x := .slice A0_0 l0_0.length c0_0) BK460 0; have hfz5_0 := blk_frozen BK460.out 0) | ((with_reducible refine gate_callee (f := 20) rfl ?_); refine goesL_ (some 10) rfl rfl Tryd.func20 (w204_) rfl #[.agg #[.slice A0_0 l0_0.length c0_0]] rfl maz_ ?_; (with_reducible refine (impl_Solutions.calls _ _ l0_0 t461 true _ ?side1 ?side2 A2.out).mono ?_); (case side1 => exact ucz_ ((Kd.C_below HR0_0.out HB.out))); (case side2 => exact HC0_0.out); rintro e w6 ⟨v462, rfl, ho0, hb⟩; refine ⟨_, rfl, ?_⟩; have n0_ := Az_ (Kd.R_lower ho0 (below_size (w129_))); have n2_ := Az_ (btz_ (w129_) hb); clear HB; have HO463 := n0_; replace BK460 := Az_ (ukbz_ BK460.out hb); have HB := n2_; clear n0_ n2_; (try clear hb); (try clear ho0)) | ((with_reducible refine gate_dst (N := 15) rfl ?_); refine Kd.R_lit (Kd.int .i64) _ 3 ?hg (N := 15) ?hd (xs := ([] : List Int)) (inner := []) (ok := fun _ => True) (okp := fun _ => True) ?hr ?hp (fun _ hk => hk) trivial (Below.refl _ _) (Nat.le_refl _) (by simp) ?_; (case hd => rfl); (case hg => rfl); (case hr => first | (go_simp; done) | (go_simp; rfl)); (case hp => exact (Reps.none _ _)); intro v466 w7 ho8 hb hg_ hnew_; clear hg_ hnew_; (first | rw [← Ny465.out] at ho8 | (simp only [Int.reduceToNat] at ho8; rw [← Ny465.out] at ho8)); have n0_ := Az_ (Kd.R_below (by exact urz_ HO463.out) hb); have n1_ := Az_ (Kd.R_lower ho8 (below_size (w129_))); have n3_ := Az_ (btz_ (w129_) hb); clear HO463; clear HB; have HO463 := n0_; have HO467 := n1_; replace BK460 := Az_ (ukbz_ BK460.out hb); have HB := n3_; clear n0_ n1_ n3_; clear hb ho8; have hcz9_0 := cz_ (x := .slice A0_0 l0_0.length c0_0) BK460 0; have hfz9_0 := blk_frozen BK460.out 0))
  go_loopg [6, 19] k (fun kq v6 v19 w' => ∃ (x6_1 : List Int) (x19_1 : Int), v19 = .int .i64 x19_1 ∧ Aside0 (impl_NeedlessClues.l0 kq t461 x6_1 (l0_0.length : Int) x19_1 l0_0 = some (r1, r2)) ∧ Aside0 (kq ≤ k) ∧ Aside0 (Kd.R k25 25 w' w.heap.size (fun _ => True) v462 t461) ∧ Aside0 (Kd.R (Kd.int .i64) 3 w' w.heap.size (fun _ => True) v6 x6_1) ∧ Aside0 (w'.heap[gb460]? = some (.cells #[(.slice A0_0 l0_0.length c0_0)] 30 (0, 0))) ∧ Aside0 (Below w.heap.size w w'))
  case atStart => exact ⟨(y465), (0), qaz_, H', ⟨Nat.le_refl _⟩, ⟨by (with_reducible repeat (first | apply raz_ | apply rnz_ | apply rdz_)); exact HO463.out⟩, ⟨by (with_reducible repeat (first | apply raz_ | apply rnz_ | apply rdz_)); exact HO467.out⟩, ⟨w160_⟩, ⟨w129_⟩⟩
  case round =>
   clear H'
   clear hcz5_0 hcz9_0 hfz5_0 hfz9_0
   obtain ⟨x6_1, x19_1, rfl, HA, HK1, HO_4, HO_6, BK460, HB⟩ := hrel
   cases gk with
   | zero => exact absurd HA.out (by simp [impl_NeedlessClues.l0])
   | succ k1 =>
    have H := HA.out
    clear HA
    simp only [impl_NeedlessClues.l0] at H
    by_cases c10 : x19_1 < (l0_0.length : Int); rotate_left
    ·rw [if_neg c10] at H
     have c10b0 := decide_eq_false c10
     clear c10
     simp only [Option.some.injEq, Prod.mk.injEq] at H
     obtain ⟨rfl, rfl⟩ := H
     go_wp2
     go_ret2
     exact ⟨_, w166_, by (with_reducible repeat (first | apply raz_ | apply rnz_ | apply rdz_)); exact HO_6.out, w129_⟩
    rw [if_pos c10] at H
    have c10b0 := decide_eq_true c10
    clear c10
    replace H := bqz_ H; obtain ⟨t468, A11, H⟩ := H
    replace H := bqz_ H; obtain ⟨t471, A12, H⟩ := H
    replace H : (if (t471.length : Int) = (t461.length : Int) then (if x6_1.length < 17592186044416 then (impl_NeedlessClues.l0 k1 t461 (x6_1 ++ [x19_1]) (l0_0.length : Int) (wrap64 (x19_1 + 1)) l0_0) else (none)) else (impl_NeedlessClues.l0 k1 t461 x6_1 (l0_0.length : Int) (wrap64 (x19_1 + 1)) l0_0)) = some (r1, r2) := H
    by_cases c13 : (t471.length : Int) = (t461.length : Int); rotate_left
    ·rw [if_neg c13] at H
     have c13b0 : ((t471.length : Int) == (t461.length : Int)) = false := beq_eq_false_iff_ne.mpr c13
     have c13b1 : ((t471.length : Int) != (t461.length : Int)) = true := bne_iff_ne.mpr c13
     have c13b2 : (t471.length == t461.length) = false := by first | simpa using c13 | (simp at c13 ⊢; omega)
     have H' := Az_ H
     clear H
     have hcz22_0 := cz_ (x := .slice A0_0 l0_0.length c0_0) BK460 0
     have hfz22_0 := blk_frozen BK460.out 0
     go_wp2_with (first | ((with_reducible refine gate_callee (f := 55) rfl ?_); refine goesL_ (some 25) rfl rfl Tryd.func55 (w204_) rfl #[.slice A0_0 l0_0.length c0_0, .int .i64 x19_1] rfl maz_ ?_; (with_reducible refine (impl_without.calls _ _ l0_0 x19_1 t468 _ ?side1 ?side2 A11.out).mono ?_); (case side1 => exact ucz_ ((Kd.C_below HR0_0.out HB.out))); (case side2 => exact HC0_0.out); rintro e w23 ⟨v469, rfl, ho0, hb⟩; refine ⟨_, rfl, ?_⟩; have n0_ := Az_ (Kd.R_below (w202_) hb); have n1_ := Az_ (Kd.R_below (w201_) hb); have n2_ := Az_ (Kd.R_lower ho0 (below_size (w129_))); have n4_ := Az_ (btz_ (w129_) hb); clear HO_4; clear HO_6; clear HB; have HO_4 := n0_; have HO_6 := n1_; have HO470 := n2_; replace BK460 := Az_ (ukbz_ BK460.out hb); have HB := n4_; clear n0_ n1_ n2_ n4_; (try clear hb); (try clear ho0); obtain ⟨Ao24, co24, eo24⟩ := Kd.R_slice HO470.out; subst eo24) | ((with_reducible refine gate_callee (f := 56) rfl ?_); refine goesL_ (some 26) rfl rfl Tryd.func56 (w204_) rfl #[.slice Ao24 t468.length co24] rfl maz_ ?_; (with_reducible refine (impl_solutions.calls _ _ t468 t471 _ ?side1 ?side2 A12.out).mono ?_); (case side1 => exact ucz_ ((Kd.R_reads' HO470.out).2.2)); (case side2 => exact (Kd.R_reads' HO470.out).2.1); rintro e w25 ⟨v472, rfl, ho0, hb⟩; refine ⟨_, rfl, ?_⟩; have n0_ := Az_ (rez_ (w202_) (Kd.R_base ho0) hb); have n1_ := Az_ (Kd.R_below (w201_) hb); have n2_ := Az_ (Kd.R_below (by exact urz_ HO470.out) hb); have n3_ := Az_ (Kd.R_lower (Kd.R_new' ho0 (Kd.R_lt (w202_))) (below_size (w129_))); have n5_ := Az_ (btz_ (w129_) hb); clear HO_4; clear HO_6; clear HO470; clear HB; have HO_4 := n0_; have HO_6 := n1_; have HO470 := n2_; have HO473 := n3_; replace BK460 := Az_ (ukbz_ BK460.out hb); have HB := n5_; clear n0_ n1_ n2_ n3_ n5_; (try clear hb); (try clear ho0); obtain ⟨Ao26, co26, eo26⟩ := Kd.R_slice HO473.out; subst eo26; obtain ⟨Ao27, co27, eo27⟩ := Kd.R_slice HO_4.out; subst eo27))
     go_roundg k1
     case measure => have := HK1.out; omega
     case rel => exact ⟨(x6_1), (wrap64 (x19_1 + 1)), qaz_, H', ⟨w177_⟩, ⟨w143_⟩, ⟨by (with_reducible repeat (first | apply raz_ | apply rnz_ | apply rdz_)); exact HO_6.out⟩, ⟨w160_⟩, ⟨w129_⟩⟩
    rw [if_pos c13] at H
    have c13b0 : ((t471.length : Int) == (t461.length : Int)) = true := beq_iff_eq.mpr c13
    have c13b1 : ((t471.length : Int) != (t461.length : Int)) = false := bne_eq_false_iff_eq.mpr c13
    have c13b2 : (t471.length == t461.length) = true := by first | simpa using c13 | (simp at c13 ⊢; omega)
    clear c13
    by_cases c14 : x6_1.length < 17592186044416; rotate_left
    ·rw [if_neg c14] at H
     exact absurd H (by simp)
    rw [if_pos c14] at H
    have LMc14 := Az_ c14
    clear c14
    obtain ⟨y474, hy474⟩ : ∃ y_ : List Int, y_ = (x6_1 ++ [x19_1]) := ⟨_, rfl⟩
    replace H : (impl_NeedlessClues.l0 k1 t461 y474 (l0_0.length : Int) (wrap64 (x19_1 + 1)) l0_0) = some (r1, r2) := by first | (rw [hy474]; with_reducible exact H) | (have H2_ := (Option.bind_some _ _).symm.trans H; rw [hy474]; with_reducible exact H2_) | (have H2_ := (Option.bind_some _ _).symm.trans H; with_reducible exact H2_) | with_reducible exact H | (rw [hy474]; exact H) | exact H
    have Ny474 := Az_ hy474
    clear hy474
    have H' := Az_ H
    clear H
    have hcz15_0 := cz_ (x := .slice A0_0 l0_0.length c0_0) BK460 0
    have hfz15_0 := blk_frozen BK460.out 0
    go_wp2_with (first | ((with_reducible refine gate_callee (f := 55) rfl ?_); refine goesL_ (some 25) rfl rfl Tryd.func55 (w204_) rfl #[.slice A0_0 l0_0.length c0_0, .int .i64 x19_1] rfl maz_ ?_; (with_reducible refine (impl_without.calls _ _ l0_0 x19_1 t468 _ ?side1 ?side2 A11.out).mono ?_); (case side1 => exact ucz_ ((Kd.C_below HR0_0.out HB.out))); (case side2 => exact HC0_0.out); rintro e w16 ⟨v469, rfl, ho0, hb⟩; refine ⟨_, rfl, ?_⟩; have n0_ := Az_ (Kd.R_below (w202_) hb); have n1_ := Az_ (Kd.R_below (w201_) hb); have n2_ := Az_ (Kd.R_lower ho0 (below_size (w129_))); have n4_ := Az_ (btz_ (w129_) hb); clear HO_4; clear HO_6; clear HB; have HO_4 := n0_; have HO_6 := n1_; have HO470 := n2_; replace BK460 := Az_ (ukbz_ BK460.out hb); have HB := n4_; clear n0_ n1_ n2_ n4_; (try clear hb); (try clear ho0); obtain ⟨Ao17, co17, eo17⟩ := Kd.R_slice HO470.out; subst eo17) | ((with_reducible refine gate_callee (f := 56) rfl ?_); refine goesL_ (some 26) rfl rfl Tryd.func56 (w204_) rfl #[.slice Ao17 t468.length co17] rfl maz_ ?_; (with_reducible refine (impl_solutions.calls _ _ t468 t471 _ ?side1 ?side2 A12.out).mono ?_); (case side1 => exact ucz_ ((Kd.R_reads' HO470.out).2.2)); (case side2 => exact (Kd.R_reads' HO470.out).2.1); rintro e w18 ⟨v472, rfl, ho0, hb⟩; refine ⟨_, rfl, ?_⟩; have n0_ := Az_ (rez_ (w202_) (Kd.R_base ho0) hb); have n1_ := Az_ (Kd.R_below (w201_) hb); have n2_ := Az_ (Kd.R_below (by exact urz_ HO470.out) hb); have n3_ := Az_ (Kd.R_lower (Kd.R_new' ho0 (Kd.R_lt (w202_))) (below_size (w129_))); have n5_ := Az_ (btz_ (w129_) hb); clear HO_4; clear HO_6; clear HO470; clear HB; have HO_4 := n0_; have HO_6 := n1_; have HO470 := n2_; have HO473 := n3_; replace BK460 := Az_ (ukbz_ BK460.out hb); have HB := n5_; clear n0_ n1_ n2_ n3_ n5_; (try clear hb); (try clear ho0); obtain ⟨Ao19, co19, eo19⟩ := Kd.R_slice HO473.out; subst eo19; obtain ⟨Ao20, co20, eo20⟩ := Kd.R_slice HO_4.out; subst eo20) | ((with_reducible refine gate_builtin (b := .append) (xs := #[.tmp 31, .tmp 33]) rfl ?_); at_builtin; refine Kd.R_append (Kd.int .i64) (w0 := w) w.heap.size rfl (.tmp 31) (.tmp 33) 49 3 (.int .i64 0) 8 rfl Tryd.underlying49 info3 rfl (by decide) (by omega) u6 x6_1 x19_1 [.int .i64 x19_1] (fun _ => True) (fun _ => False) rfl rfl ?aP (fun _ hk => hk.elim) ?aF ?aO ?aB ?aS ?aL ?_; (case aP => exact rfl); (case aB => exact (w129_)); (case aF => exact (fun _ _ => trivial)); (case aO => exact (w201_)); (case aS => exact (below_size (w129_))); (case aL => have := LMc14.out; omega); intro v475 w21 ho hb hg hat; rw [← Ny474.out] at ho; replace HO_4 := Az_ (Kd.R_over' (w202_) (Kd.R_typed (w201_)) (by decide) hg); replace BK460 := Az_ (blk_grown (g := gb460) (o := .cells #[.slice A0_0 l0_0.length c0_0] 30 (0, 0)) (by exact ukz_ BK460.out) hg (Kd.R_ne HO_6.out BK460.out (by decide))); replace HO470 := Az_ (Kd.R_over' (by exact urz_ HO470.out) (Kd.R_typed (w201_)) (by decide) hg); replace HO473 := Az_ (Kd.R_over' (by exact urz_ HO473.out) (Kd.R_typed (w201_)) (by decide) hg); replace HB := Az_ (hb); have HO476 := Az_ (ho); clear HO_6; clear ho hb hg hat))
    go_roundg k1
    case measure => have := HK1.out; omega
    case rel => exact ⟨(y474), (wrap64 (x19_1 + 1)), qaz_, H', ⟨w177_⟩, ⟨w143_⟩, ⟨by (with_reducible repeat (first | apply raz_ | apply rnz_ | apply rdz_)); exact HO476.out⟩, ⟨w160_⟩, ⟨w129_⟩⟩
 ·replace c3 := Bool.eq_false_iff.mpr c3
  subst c3
  rw [if_neg nfz_] at H
  simp only [Option.some.injEq, Prod.mk.injEq] at H
  obtain ⟨rfl, rfl⟩ := H
  go_enter Tryd.func21, Tryd.ntmps21
  go_wp2_with (first | ((with_reducible refine gate_dst (N := 1) rfl ?_); refine bxe_ (N := 1) (cs := #[.slice A0_0 l0_0.length c0_0]) (t := 30) ?_; intro gb460 hg w28 BK460 hb; have GW460 := gez_ hg (ubz_ HB.out); have GE460 := GW460; replace HB := Az_ (btz_ (ubz_ HB.out) hb); clear hb hg; have hcz29_0 := cz_ (x := .slice A0_0 l0_0.length c0_0) BK460 0; have hfz29_0 := blk_frozen BK460.out 0) | ((with_reducible refine gate_callee (f := 20) rfl ?_); refine goesL_ (some 10) rfl rfl Tryd.func20 (w204_) rfl #[.agg #[.slice A0_0 l0_0.length c0_0]] rfl maz_ ?_; (with_reducible refine (impl_Solutions.calls _ _ l0_0 t461 false _ ?side1 ?side2 A2.out).mono ?_); (case side1 => exact ucz_ ((Kd.C_below HR0_0.out HB.out))); (case side2 => exact HC0_0.out); rintro e w30 ⟨v462, rfl, ho0, hb⟩; refine ⟨_, rfl, ?_⟩; have n0_ := Az_ (Kd.R_lower ho0 (below_size (w129_))); have n2_ := Az_ (btz_ (w129_) hb); clear HB; have HO463 := n0_; replace BK460 := Az_ (ukbz_ BK460.out hb); have HB := n2_; clear n0_ n2_; (try clear hb); (try clear ho0)))
  go_ret2
  exact ⟨_, w166_, w130_, w129_⟩


theorem eqA25 (d : Nat) (w : World) (x0 y0 : Int) (x1 y1 : Int) :
    (Op.equalIn (d + 2) 25 (.agg #[.int .i64 x0, .int .i64 x1]) (.agg #[.int .i64 y0, .int .i64 y1])).run Tryd.prog w = .ok (x0 == y0 && (x1 == y1)) w := by
  refine eqA_of Tryd.underlying25 (w204_) ?_
  refine eqf_cons (by rfl) (by go_simp; rfl) (by go_simp; rfl) (by go_simp) ?_
  exact eqf_last (by rfl) (by go_simp; rfl) (by go_simp; rfl) (by go_simp)

attribute [local go_sem high] eqA25
def laws_xBooks.l0 : Nat → List (S25) → List (S25) → Int → Int → Option (Bool)
 | 0, _, _, _, _ => none
 | k + 1, x0, x1, x12, x13 => if x13 < x12 then (if 0 ≤ x13 then (if x13 < (x0.length : Int) then (if x13 < (x1.length : Int) then (if (!(((rd_T25 x0 x13).f0) == ((rd_T25 x1 x13).f0)) || (!(((rd_T25 x0 x13).f1) == ((rd_T25 x1 x13).f1)))) = true then (some false) else (laws_xBooks.l0 k x0 x1 x12 (wrap64 (x13 + 1)))) else (none)) else (none)) else (none)) else (some true)
def laws_xBooks.f (k : Nat) (l0 : List (S25)) (l1 : List (S25)) : Option (Bool) := if (l0.length : Int) = (l1.length : Int) then (laws_xBooks.l0 k l0 l1 (l0.length : Int) 0) else (some false)
set_option maxHeartbeats 8000000 in
set_option maxRecDepth 100000 in
theorem laws_xBooks.calls (k : Nat) (A0 : Option Addr) (c0 : Nat) (l0 : List (S25)) (A1 : Option Addr) (c1 : Nat) (l1 : List (S25)) (r : Bool) (w : World) (hr0 : Kd.C k25 w A0 l0.length l0) (hc0 : l0.length ≤ c0) (hr1 : Kd.C k25 w A1 l1.length l1) (hc1 : l1.length ≤ c1) (h : laws_xBooks.f k l0 l1 = some r) :
  Calls Tryd.prog 22 #[.slice A0 l0.length c0, .slice A1 l1.length c1] w fun e w' => e = .returned (.bool r) ∧ Drawn0 w w' := by
 have hu25 := Tryd.underlying25
 have HR0 := Az_ hr0
 have HC0 := Az_ hc0
 clear hr0 hc0
 have HR1 := Az_ hr1
 have HC1 := Az_ hc1
 clear hr1 hc1
 have H : (if (l0.length : Int) = (l1.length : Int) then (laws_xBooks.l0 k l0 l1 (l0.length : Int) 0) else (some false)) = some r := h
 clear h
 by_cases c3 : (l0.length : Int) = (l1.length : Int)
 ·rw [if_pos c3] at H
  have c3b0 : ((l0.length : Int) == (l1.length : Int)) = true := beq_iff_eq.mpr c3
  have c3b1 : ((l0.length : Int) != (l1.length : Int)) = false := bne_eq_false_iff_eq.mpr c3
  have c3b2 : (l0.length == l1.length) = true := by first | simpa using c3 | (simp at c3 ⊢; omega)
  clear c3
  have H' := Az_ H
  clear H
  go_enter Tryd.func22, Tryd.ntmps22
  go_wp2
  go_loopg [13] k (fun kq v13 w' => ∃ (x13_1 : Int), v13 = .int .i64 x13_1 ∧ Aside0 (laws_xBooks.l0 kq l0 l1 (l0.length : Int) x13_1 = some r) ∧ Aside0 (kq ≤ k) ∧ Drawn0 w w')
  case atStart => exact ⟨(0), qaz_, H', ⟨Nat.le_refl _⟩, w168_⟩
  case round =>
   clear H'
   clear c3b0 c3b1 c3b2
   obtain ⟨x13_1, rfl, HA, HK1, ⟨m1, rfl⟩⟩ := hrel
   cases gk with
   | zero => exact absurd HA.out (by simp [laws_xBooks.l0])
   | succ k1 =>
    have H := HA.out
    clear HA
    simp only [laws_xBooks.l0] at H
    by_cases c4 : x13_1 < (l0.length : Int); rotate_left
    ·rw [if_neg c4] at H
     have c4b0 := decide_eq_false c4
     clear c4
     obtain rfl := Option.some.inj H
     go_wp2
     go_ret
     exact ⟨w171_, w168_⟩
    rw [if_pos c4] at H
    have c4b0 := decide_eq_true c4
    clear c4
    by_cases c5 : 0 ≤ x13_1; rotate_left
    ·rw [if_neg c5] at H
     exact absurd H (by simp)
    rw [if_pos c5] at H
    have c5b0 := decide_eq_true c5
    clear c5
    by_cases c6 : x13_1 < (l0.length : Int); rotate_left
    ·rw [if_neg c6] at H
     exact absurd H (by simp)
    rw [if_pos c6] at H
    have c6b0 := decide_eq_true c6
    clear c6
    by_cases c7 : x13_1 < (l1.length : Int); rotate_left
    ·rw [if_neg c7] at H
     exact absurd H (by simp)
    rw [if_pos c7] at H
    have c7b0 := decide_eq_true c7
    clear c7
    by_cases c8 : (!(((rd_T25 l0 x13_1).f0) == ((rd_T25 l1 x13_1).f0)) || (!(((rd_T25 l0 x13_1).f1) == ((rd_T25 l1 x13_1).f1)))) = true
    ·rw [if_pos c8] at H
     have c8b0 : (!(((rd_T25 l0 x13_1).f0) == ((rd_T25 l1 x13_1).f0)) || (!(((rd_T25 l0 x13_1).f1) == ((rd_T25 l1 x13_1).f1)))) = true := c8
     clear c8
     obtain rfl := Option.some.inj H
     have p477 : 0 ≤ (x13_1 : Int) := od_
     have q477 : x13_1 < (l0.length : Int) := od_
     obtain ⟨ad477, e477, hx477_0, hx477_1⟩ := at_T25 HR0.out x13_1 p477 q477
     cases e477
     replace p477 := eq_true p477
     replace q477 := eq_true q477
     have p478 : 0 ≤ (x13_1 : Int) := od_
     have q478 : x13_1 < (l1.length : Int) := od_
     obtain ⟨ad478, e478, hx478_0, hx478_1⟩ := at_T25 HR1.out x13_1 p478 q478
     cases e478
     replace p478 := eq_true p478
     replace q478 := eq_true q478
     go_wp2
     repeat (go_quiet (fail); try go_wp2)
     go_ret
     exact ⟨w171_, w168_⟩
    rw [if_neg c8] at H
    have c8b0 : (!(((rd_T25 l0 x13_1).f0) == ((rd_T25 l1 x13_1).f0)) || (!(((rd_T25 l0 x13_1).f1) == ((rd_T25 l1 x13_1).f1)))) = false := by simpa using c8
    clear c8
    have H' := Az_ H
    clear H
    have p477 : 0 ≤ (x13_1 : Int) := od_
    have q477 : x13_1 < (l0.length : Int) := od_
    obtain ⟨ad477, e477, hx477_0, hx477_1⟩ := at_T25 HR0.out x13_1 p477 q477
    cases e477
    replace p477 := eq_true p477
    replace q477 := eq_true q477
    have p478 : 0 ≤ (x13_1 : Int) := od_
    have q478 : x13_1 < (l1.length : Int) := od_
    obtain ⟨ad478, e478, hx478_0, hx478_1⟩ := at_T25 HR1.out x13_1 p478 q478
    cases e478
    replace p478 := eq_true p478
    replace q478 := eq_true q478
    go_wp2
    repeat (go_quiet (fail); try go_wp2)
    go_roundg k1
    case measure => have := HK1.out; omega
    case rel => exact ⟨(wrap64 (x13_1 + 1)), qaz_, H', ⟨w177_⟩, w168_⟩
 ·rw [if_neg c3] at H
  have c3b0 : ((l0.length : Int) == (l1.length : Int)) = false := beq_eq_false_iff_ne.mpr c3
  have c3b1 : ((l0.length : Int) != (l1.length : Int)) = true := bne_iff_ne.mpr c3
  have c3b2 : (l0.length == l1.length) = false := by first | simpa using c3 | (simp at c3 ⊢; omega)
  obtain rfl := Option.some.inj H
  go_enter Tryd.func22, Tryd.ntmps22
  go_wp2
  go_ret
  exact ⟨w171_, w168_⟩

def spec_DrawAddClue.f (k : Nat) (l0 : List Int) : Option ((List (S40)) × Int × Int × Int) := (spec_l1Cur_puzzle.f k l0 0 0).bind fun bt482 => ((spec_l1Cur_clue.f k l0 bt482.2.1 bt482.2.2).bind fun bt487 => (some (bt482.1, bt487.1, bt487.2.1, bt487.2.2.1)))
set_option maxHeartbeats 8000000 in
set_option maxRecDepth 100000 in
theorem spec_DrawAddClue.calls (k : Nat) (A0 : Option Addr) (c0 : Nat) (l0 : List Int) (r1 : List (S40)) (r2 : Int) (r3 : Int) (r4 : Int) (w : World) (hr0 : Kd.C (Kd.int .u8) w A0 l0.length l0) (hc0 : l0.length ≤ c0) (h : spec_DrawAddClue.f k l0 = some (r1, r2, r3, r4)) :
  Calls Tryd.prog 23 #[.slice A0 l0.length c0] w fun e w' => ∃ v0_ : Value, e = .returned (.tuple #[.agg #[v0_], .agg #[.int .i64 r2, .int .i64 r3, .int .i64 r4]]) ∧ Kd.R k40 40 w' w.heap.size (fun _ => True) v0_ r1 ∧ Below w.heap.size w w' := by
 have hu30 := Tryd.underlying30
 have hu40 := Tryd.underlying40
 have hu67 := Tryd.underlying67
 have HR0 := Az_ hr0
 have HC0 := Az_ hc0
 clear hr0 hc0
 have HB := Az_ (Below.refl w.heap.size w)
 have H : ((spec_l1Cur_puzzle.f k l0 0 0).bind fun bt482 => ((spec_l1Cur_clue.f k l0 bt482.2.1 bt482.2.2).bind fun bt487 => (some (bt482.1, bt487.1, bt487.2.1, bt487.2.2.1)))) = some (r1, r2, r3, r4) := h
 clear h
 replace H := bqz_ H; obtain ⟨⟨t482, t485, t486⟩, A2, H⟩ := H
 replace H := bqz_ H; obtain ⟨⟨t487, t488, t489, t490, t491⟩, A3, H⟩ := H
 replace H : (some (t482, t487, t488, t489)) = some (r1, r2, r3, r4) := H
 simp only [Option.some.injEq, Prod.mk.injEq] at H
 obtain ⟨rfl, rfl, rfl, rfl⟩ := H
 go_enter Tryd.func23, Tryd.ntmps23
 go_wp2_with (first | ((with_reducible refine gate_dst (N := 2) rfl ?_); refine bxe_ (N := 2) (cs := #[.slice none 0 0]) (t := 30) ?_; intro gb479 hg w4 BK479 hb; have GW479 := gez_ hg (ubz_ HB.out); have GE479 := GW479; replace HB := Az_ (btz_ (ubz_ HB.out) hb); clear hb hg) | ((with_reducible refine gate_dst (N := 3) rfl ?_); refine bxe_ (N := 3) (cs := #[.int .i64 0, .int .i64 0, .int .i64 0]) (t := 40) ?_; intro gb480 hg w5 BK480 hb; obtain ⟨NB479_480, NB480_479⟩ := nez_ BK479 hg; have GW480 : Aside0 (w.heap.size ≤ gb480) := gez_ hg (w129_); have GE480 := GW480; replace HB := Az_ (btz_ (w129_) hb); replace BK479 := Az_ (ukbz_ BK479.out hb); clear hb hg) | ((with_reducible refine gate_dst (N := 7) rfl ?_); refine bxe_ (N := 7) (cs := #[.slice A0 l0.length c0, .int .i64 0, .int .u64 0]) (t := 67) ?_; intro gb481 hg w6 BK481 hb; obtain ⟨NB479_481, NB481_479⟩ := nez_ BK479 hg; obtain ⟨NB480_481, NB481_480⟩ := nez_ BK480 hg; have GW481 : Aside0 (w.heap.size ≤ gb481) := gez_ hg (w129_); have GE481 := GW481; replace HB := Az_ (btz_ (w129_) hb); replace BK479 := Az_ (ukbz_ BK479.out hb); replace BK480 := Az_ (ukbz_ BK480.out hb); clear hb hg) | ((with_reducible refine gate_callee (f := 53) rfl ?_); refine goesL_ (some 9) rfl rfl Tryd.func53 (w204_) rfl #[.pointer (some ⟨gb481, 0, none⟩)] rfl maz_ ?_; have HI481 := Az_ (show IsS67 w w6 gb481 l0 0 0 from ⟨_, _, BK481.out, GE481.out, HR0.out⟩); (with_reducible refine (spec_l1Cur_puzzle.calls k gb481 l0 0 0 t482 t485 t486 w _ ?side1 ?side2 A2.out).mono ?_); (case side1 => repeat (first | (with_reducible first | exact HI481.out | apply IsS67.alloc | apply IsS67.drewN | apply IsS67.drew | apply IsS67.set_1 | apply IsS67.set_2 | refine IsS67.far ?_ NB481_479.out _ | refine IsS67.far ?_ NB481_480.out _) | exact HI481.out)); (case side2 => repeat (first | (with_reducible first | exact HB.out | apply baz_ | apply bnz_ | apply bdz_ | refine bsz_ ?_ (IsS67.ge HI481.out) | refine bsz_ ?_ GE479.out | refine bsz_ ?_ GE480.out) | exact HB.out)); rintro e w7 ⟨v483, rfl, ho0, hi, hb, hk⟩; refine ⟨_, rfl, ?_⟩; replace BK479 := Az_ (KeepBut.blk hk (g' := gb479) (o := .cells #[.slice none 0 0] 30 (0, 0)) (by exact ukz_ BK479.out) NB479_481.out (by simp)); have HO484 := Az_ (Kd.R_lower (Kd.R_newB ho0 (g := gb480) (o := .cells #[.int .i64 0, .int .i64 0, .int .i64 0] 40 (0, 0)) (by exact ukz_ BK480.out)) (below_size (w105_))); replace BK480 := Az_ (KeepBut.blk hk (g' := gb480) (o := .cells #[.int .i64 0, .int .i64 0, .int .i64 0] 40 (0, 0)) (by exact ukz_ BK480.out) NB480_481.out (by simp)); replace HB := Az_ (hb); replace HI481 := Az_ (hi); (try clear hb); (try clear hk); (try clear hi); (try clear ho0)) | ((with_reducible refine gate_callee (f := 60) rfl ?_); refine goesL_ (some 11) rfl rfl Tryd.func60 (w204_) rfl #[.pointer (some ⟨gb481, 0, none⟩)] rfl maz_ ?_; (with_reducible refine (spec_l1Cur_clue.calls k gb481 l0 t485 t486 t487 t488 t489 t490 t491 w _ ?side1 ?side2 A3.out).mono ?_); (case side1 => repeat (first | (with_reducible first | exact HI481.out | apply IsS67.alloc | apply IsS67.drewN | apply IsS67.drew | apply IsS67.set_1 | apply IsS67.set_2 | refine IsS67.far ?_ NB481_479.out _ | refine IsS67.far ?_ NB481_480.out _) | exact HI481.out)); (case side2 => repeat (first | (with_reducible first | exact HB.out | apply baz_ | apply bnz_ | apply bdz_ | refine bsz_ ?_ (IsS67.ge HI481.out) | refine bsz_ ?_ GE479.out | refine bsz_ ?_ GE480.out) | exact HB.out)); rintro e w8 ⟨rfl, hi, hb, hk⟩; refine ⟨_, rfl, ?_⟩; replace BK479 := Az_ (KeepBut.blk hk (g' := gb479) (o := .cells #[.slice none 0 0] 30 (0, 0)) (by exact ukz_ BK479.out) NB479_481.out (by simp)); replace BK480 := Az_ (KeepBut.blk hk (g' := gb480) (o := .cells #[.int .i64 0, .int .i64 0, .int .i64 0] 40 (0, 0)) (by exact ukz_ BK480.out) NB480_481.out (by simp)); replace HO484 := Az_ (Kd.R_mono (Kd.R_keep (IsS67.apart (show IsS67 w _ gb481 l0 t485 t486 from by repeat (first | (with_reducible first | exact HI481.out | apply IsS67.alloc | apply IsS67.drewN | apply IsS67.drew | apply IsS67.set_1 | apply IsS67.set_2 | refine IsS67.far ?_ NB481_479.out _ | refine IsS67.far ?_ NB481_480.out _) | exact HI481.out)) (by exact urz_ HO484.out) (by decide)) hk (fun _ h => h.2)) (fun _ h => h.1)); replace HB := Az_ (hb); replace HI481 := Az_ (hi); (try clear hb); (try clear hk); (try clear hi); obtain ⟨Ao9, co9, eo9⟩ := Kd.R_slice HO484.out; subst eo9; have hnb10 := NB479_480.out; have hnc10 := NB480_479.out; have hnb11 := NB479_481.out; have hnc11 := NB481_479.out; have hcz12_0 := cz_ (x := .slice none 0 0) BK479 0; have hfz12_0 := blk_frozen BK479.out 0; have hnb13 := NB480_481.out; have hnc13 := NB481_480.out; have hcz14_0 := cz_ (x := .int .i64 0) BK480 0; have hcz14_1 := cz_ (x := .int .i64 0) BK480 1; have hcz14_2 := cz_ (x := .int .i64 0) BK480 2; have hfz14_0 := blk_frozen BK480.out 0; have hfz14_1 := blk_frozen BK480.out 1; have hfz14_2 := blk_frozen BK480.out 2))
 refine bodyPost_ret (results_cc rfl _ _ gb479 gb480 30 40 #[.slice Ao9 t482.length co9] #[.int .i64 t487, .int .i64 t488, .int .i64 t489] (0, 0) (0, 0) _ _ rfl (by (with_reducible repeat (first | refine knz_ ?_ _ | refine kdz_ ?_ | refine kaz_ ?_ _)); refine blk_far ?_ NB479_480.out _; (with_reducible repeat (first | refine knz_ ?_ _ | refine kdz_ ?_ | refine kaz_ ?_ _)); refine blk_far ?_ NB479_480.out _; (with_reducible repeat (first | refine knz_ ?_ _ | refine kdz_ ?_ | refine kaz_ ?_ _)); refine blk_far ?_ NB479_480.out _; (with_reducible repeat (first | refine knz_ ?_ _ | refine kdz_ ?_ | refine kaz_ ?_ _)); refine blk_put (cs := #[.slice none 0 0]) ?_ 0 _ rfl; (with_reducible repeat (first | refine knz_ ?_ _ | refine kdz_ ?_ | refine kaz_ ?_ _)); exact BK479.out) Tryd.underlying30 rfl (w204_) rfl (by (with_reducible repeat (first | refine knz_ ?_ _ | refine kdz_ ?_ | refine kaz_ ?_ _)); refine blk_put (cs := #[.int .i64 t487, .int .i64 t488, .int .i64 0]) ?_ 2 _ rfl; (with_reducible repeat (first | refine knz_ ?_ _ | refine kdz_ ?_ | refine kaz_ ?_ _)); refine blk_put (cs := #[.int .i64 t487, .int .i64 0, .int .i64 0]) ?_ 1 _ rfl; (with_reducible repeat (first | refine knz_ ?_ _ | refine kdz_ ?_ | refine kaz_ ?_ _)); refine blk_put (cs := #[.int .i64 0, .int .i64 0, .int .i64 0]) ?_ 0 _ rfl; (with_reducible repeat (first | refine knz_ ?_ _ | refine kdz_ ?_ | refine kaz_ ?_ _)); refine blk_far ?_ NB480_479.out _; (with_reducible repeat (first | refine knz_ ?_ _ | refine kdz_ ?_ | refine kaz_ ?_ _)); exact BK480.out) Tryd.underlying40 rfl (w204_)) rfl ?_
 exact ⟨_, w166_, by (with_reducible repeat (first | apply raz_ | apply rnz_ | apply rdz_)); exact Kd.R_mono (Kd.R_far (p := ⟨gb480, 2, none⟩) (Kd.R_far (p := ⟨gb480, 1, none⟩) (Kd.R_far (p := ⟨gb480, 0, none⟩) (Kd.R_far (p := ⟨gb479, 0, none⟩) (Kd.R_mono (Kd.R_types HO484.out BK479.out (by decide)) (fun k_ hk => (⟨hk, hk.1.2⟩ : _ ∧ k_ ≠ gb480))) (fun _ hk => hk.1.2) (.slice Ao9 t482.length co9)) (fun _ hk => hk.2) (.int .i64 t487)) (fun _ hk => hk.2) (.int .i64 t488)) (fun _ hk => hk.2) (.int .i64 t489)) (fun _ hk => trivial), w105_⟩


def impl_AddClue.f (k : Nat) (l0_0 : List (S40)) (a1_0 : Int) (a1_1 : Int) (a1_2 : Int) : Option ((List (S40)) × Bool) := (impl_IsPuzzle.f l0_0).bind fun t495 => (if t495 = true then ((impl_IsClue.f k a1_0 a1_1 a1_2).bind fun t496 => (if t496 = true then (if (l0_0.length : Int) = 6 then (some (([] : List (S40)), false)) else ((clone_Clue.f l0_0).bind fun t497 => ((some (([(⟨a1_0, a1_1, a1_2⟩ : S40)] : List (S40)) : List (S40))).bind fun y500 => (if t497.length + y500.length < 5864062014805 then (some ((t497 ++ y500), true)) else (none))))) else (some (([] : List (S40)), false)))) else (some (([] : List (S40)), false)))
def impl_AddClue.T3 : Bool × List (List Nat × List Nat) := (true, [([], []), ([0], [0]), ([1], [1]), ([], []), ([3], [3]), ([2, 4, 2], [2, 4]), ([5], [5]), ([6, 5, 0, 1, 2, 3, 4, 5, 6], [6]), ([7, 0, 1, 2, 3, 4, 5, 6, 7], [])])
def impl_AddClue.B3 : List Nat := [0, 1, 3, 0, 8, 31, 63, 127, 255]
theorem impl_AddClue.tab3 : rtab .any (opsOf Tryd.f24 3) = impl_AddClue.T3 := by kernel_rfl
theorem impl_AddClue.bits3 : waitsOk impl_AddClue.T3.2 impl_AddClue.B3 = true := by kernel_rfl
set_option maxHeartbeats 8000000 in
set_option maxRecDepth 100000 in
theorem impl_AddClue.calls (k : Nat) (A0_0 : Option Addr) (c0_0 : Nat) (l0_0 : List (S40)) (a1_0 : Int) (a1_1 : Int) (a1_2 : Int) (r1 : List (S40)) (r2 : Bool) (w : World) (hr0_0 : Kd.C k40 w A0_0 l0_0.length l0_0) (hc0_0 : l0_0.length ≤ c0_0) (h : impl_AddClue.f k l0_0 a1_0 a1_1 a1_2 = some (r1, r2)) :
  Calls Tryd.prog 24 #[.agg #[.slice A0_0 l0_0.length c0_0], .agg #[.int .i64 a1_0, .int .i64 a1_1, .int .i64 a1_2]] w fun e w' => ∃ v0_ : Value, e = .returned (.tuple #[.agg #[v0_], .bool r2]) ∧ Kd.R k40 40 w' w.heap.size (fun _ => True) v0_ r1 ∧ Below w.heap.size w w' := by
 have hu30 := Tryd.underlying30
 have hu40 := Tryd.underlying40
 have HR0_0 := Az_ hr0_0
 have HC0_0 := Az_ hc0_0
 clear hr0_0 hc0_0
 have HB := Az_ (Below.refl w.heap.size w)
 have H : ((impl_IsPuzzle.f l0_0).bind fun t495 => (if t495 = true then ((impl_IsClue.f k a1_0 a1_1 a1_2).bind fun t496 => (if t496 = true then (if (l0_0.length : Int) = 6 then (some (([] : List (S40)), false)) else ((clone_Clue.f l0_0).bind fun t497 => ((some (([(⟨a1_0, a1_1, a1_2⟩ : S40)] : List (S40)) : List (S40))).bind fun y500 => (if t497.length + y500.length < 5864062014805 then (some ((t497 ++ y500), true)) else (none))))) else (some (([] : List (S40)), false)))) else (some (([] : List (S40)), false)))) = some (r1, r2) := h
 clear h
 replace H := bqz_ H; obtain ⟨t495, A3, H⟩ := H
 replace H : (if t495 = true then ((impl_IsClue.f k a1_0 a1_1 a1_2).bind fun t496 => (if t496 = true then (if (l0_0.length : Int) = 6 then (some (([] : List (S40)), false)) else ((clone_Clue.f l0_0).bind fun t497 => ((some (([(⟨a1_0, a1_1, a1_2⟩ : S40)] : List (S40)) : List (S40))).bind fun y500 => (if t497.length + y500.length < 5864062014805 then (some ((t497 ++ y500), true)) else (none))))) else (some (([] : List (S40)), false)))) else (some (([] : List (S40)), false))) = some (r1, r2) := H
 by_cases c4 : t495 = true
 ·subst c4
  rw [if_pos rfl] at H
  replace H := bqz_ H; obtain ⟨t496, A5, H⟩ := H
  replace H : (if t496 = true then (if (l0_0.length : Int) = 6 then (some (([] : List (S40)), false)) else ((clone_Clue.f l0_0).bind fun t497 => ((some (([(⟨a1_0, a1_1, a1_2⟩ : S40)] : List (S40)) : List (S40))).bind fun y500 => (if t497.length + y500.length < 5864062014805 then (some ((t497 ++ y500), true)) else (none))))) else (some (([] : List (S40)), false))) = some (r1, r2) := H
  by_cases c6 : t496 = true; rotate_left
  ·replace c6 := Bool.eq_false_iff.mpr c6
   subst c6
   rw [if_neg nfz_] at H
   simp only [Option.some.injEq, Prod.mk.injEq] at H
   obtain ⟨rfl, rfl⟩ := H
   go_enter Tryd.func24, Tryd.ntmps24
   go_wp2_with (first | ((with_reducible refine gate_dst (N := 2) rfl ?_); (try (refine gate_guard (by rfl) ?_; dsimp only)); refine bxe_ (N := 2) (cs := #[.slice A0_0 l0_0.length c0_0]) (t := 30) ?_; intro gb492 hg w42 BK492 hb; have GW492 := gez_ hg (ubz_ HB.out); have GE492 := GW492; replace HB := Az_ (btz_ (ubz_ HB.out) hb); clear hb hg) | ((with_reducible refine gate_dst (N := 3) rfl ?_); (try (refine gate_guard (by rfl) ?_; dsimp only)); refine bxe_ (N := 3) (cs := #[.int .i64 a1_0, .int .i64 a1_1, .int .i64 a1_2]) (t := 40) ?_; intro gb493 hg w43 BK493 hb; obtain ⟨NB492_493, NB493_492⟩ := nez_ BK492 hg; have GW493 : Aside0 (w.heap.size ≤ gb493) := gez_ hg (w129_); have GE493 := GW493; replace HB := Az_ (btz_ (w129_) hb); replace BK492 := Az_ (ukbz_ BK492.out hb); clear hb hg) | ((with_reducible refine gate_dst (N := 4) rfl ?_); (try (refine gate_guard (by rfl) ?_; dsimp only)); refine bxe_ (N := 4) (cs := #[.slice none 0 0]) (t := 30) ?_; intro gb494 hg w44 BK494 hb; obtain ⟨NB492_494, NB494_492⟩ := nez_ BK492 hg; obtain ⟨NB493_494, NB494_493⟩ := nez_ BK493 hg; have GW494 : Aside0 (w.heap.size ≤ gb494) := gez_ hg (w129_); have GE494 := GW494; replace HB := Az_ (btz_ (w129_) hb); replace BK492 := Az_ (ukbz_ BK492.out hb); replace BK493 := Az_ (ukbz_ BK493.out hb); clear hb hg; have hnb45 := NB492_493.out; have hnc45 := NB493_492.out; have hnb46 := NB492_494.out; have hnc46 := NB494_492.out; have hcz47_0 := cz_ (x := .slice A0_0 l0_0.length c0_0) BK492 0; have hfz47_0 := blk_frozen BK492.out 0) | ((with_reducible refine gate_callee (f := 15) rfl ?_); refine goesL_ (some 7) rfl rfl Tryd.func15 (w204_) rfl #[.agg #[.slice A0_0 l0_0.length c0_0]] rfl maz_ ?_; (with_reducible refine (impl_IsPuzzle.calls _ _ l0_0 true _ ?side1 ?side2 A3.out).mono ?_); (case side1 => exact ucz_ ((Kd.C_below HR0_0.out HB.out))); (case side2 => exact HC0_0.out); rintro e w48 ⟨rfl, hb⟩; refine ⟨_, rfl, ?_⟩; have n3_ := Az_ (btz_ (w129_) hb); clear HB; replace BK492 := Az_ (ukbz_ BK492.out hb); replace BK493 := Az_ (ukbz_ BK493.out hb); replace BK494 := Az_ (ukbz_ BK494.out hb); have HB := n3_; clear n3_; (try clear hb); have hnb49 := NB493_494.out; have hnc49 := NB494_493.out; have hcz50_0 := cz_ (x := .int .i64 a1_0) BK493 0; have hcz50_1 := cz_ (x := .int .i64 a1_1) BK493 1; have hcz50_2 := cz_ (x := .int .i64 a1_2) BK493 2; have hfz50_0 := blk_frozen BK493.out 0; have hfz50_1 := blk_frozen BK493.out 1; have hfz50_2 := blk_frozen BK493.out 2) | (go_at_call 33; (with_reducible refine (impl_IsClue.calls k a1_0 a1_1 a1_2 false _ A5.out).mono ?_); rintro e w51 ⟨rfl, hb⟩; have n3_ := Az_ (btz_ (w129_) hb); clear HB; replace BK492 := Az_ (ukbz_ BK492.out hb); replace BK493 := Az_ (ukbz_ BK493.out hb); replace BK494 := Az_ (ukbz_ BK494.out hb); have HB := n3_; clear n3_; (try clear hb); have hcz52_0 := cz_ (x := .slice none 0 0) BK494 0; have hfz52_0 := blk_frozen BK494.out 0))
   refine bodyPost_ret (results_ct rfl _ _ gb494 30 #[.slice none 0 0] (0, 0) _ rfl (w45_) Tryd.underlying30 rfl (w204_)) rfl ?_
   exact ⟨_, w166_, w130_, w129_⟩
  subst c6
  rw [if_pos rfl] at H
  by_cases c7 : (l0_0.length : Int) = 6
  ·rw [if_pos c7] at H
   have c7b0 : ((l0_0.length : Int) == 6) = true := beq_iff_eq.mpr c7
   have c7b1 : ((l0_0.length : Int) != 6) = false := bne_eq_false_iff_eq.mpr c7
   clear c7
   simp only [Option.some.injEq, Prod.mk.injEq] at H
   obtain ⟨rfl, rfl⟩ := H
   go_enter Tryd.func24, Tryd.ntmps24
   go_wp2_with (first | ((with_reducible refine gate_dst (N := 2) rfl ?_); (try (refine gate_guard (by rfl) ?_; dsimp only)); refine bxe_ (N := 2) (cs := #[.slice A0_0 l0_0.length c0_0]) (t := 30) ?_; intro gb492 hg w8 BK492 hb; have GW492 := gez_ hg (ubz_ HB.out); have GE492 := GW492; replace HB := Az_ (btz_ (ubz_ HB.out) hb); clear hb hg) | ((with_reducible refine gate_dst (N := 3) rfl ?_); (try (refine gate_guard (by rfl) ?_; dsimp only)); refine bxe_ (N := 3) (cs := #[.int .i64 a1_0, .int .i64 a1_1, .int .i64 a1_2]) (t := 40) ?_; intro gb493 hg w9 BK493 hb; obtain ⟨NB492_493, NB493_492⟩ := nez_ BK492 hg; have GW493 : Aside0 (w.heap.size ≤ gb493) := gez_ hg (w129_); have GE493 := GW493; replace HB := Az_ (btz_ (w129_) hb); replace BK492 := Az_ (ukbz_ BK492.out hb); clear hb hg) | ((with_reducible refine gate_dst (N := 4) rfl ?_); (try (refine gate_guard (by rfl) ?_; dsimp only)); refine bxe_ (N := 4) (cs := #[.slice none 0 0]) (t := 30) ?_; intro gb494 hg w10 BK494 hb; obtain ⟨NB492_494, NB494_492⟩ := nez_ BK492 hg; obtain ⟨NB493_494, NB494_493⟩ := nez_ BK493 hg; have GW494 : Aside0 (w.heap.size ≤ gb494) := gez_ hg (w129_); have GE494 := GW494; replace HB := Az_ (btz_ (w129_) hb); replace BK492 := Az_ (ukbz_ BK492.out hb); replace BK493 := Az_ (ukbz_ BK493.out hb); clear hb hg; have hnb11 := NB492_493.out; have hnc11 := NB493_492.out; have hnb12 := NB492_494.out; have hnc12 := NB494_492.out; have hcz13_0 := cz_ (x := .slice A0_0 l0_0.length c0_0) BK492 0; have hfz13_0 := blk_frozen BK492.out 0) | ((with_reducible refine gate_callee (f := 15) rfl ?_); refine goesL_ (some 7) rfl rfl Tryd.func15 (w204_) rfl #[.agg #[.slice A0_0 l0_0.length c0_0]] rfl maz_ ?_; (with_reducible refine (impl_IsPuzzle.calls _ _ l0_0 true _ ?side1 ?side2 A3.out).mono ?_); (case side1 => exact ucz_ ((Kd.C_below HR0_0.out HB.out))); (case side2 => exact HC0_0.out); rintro e w14 ⟨rfl, hb⟩; refine ⟨_, rfl, ?_⟩; have n3_ := Az_ (btz_ (w129_) hb); clear HB; replace BK492 := Az_ (ukbz_ BK492.out hb); replace BK493 := Az_ (ukbz_ BK493.out hb); replace BK494 := Az_ (ukbz_ BK494.out hb); have HB := n3_; clear n3_; (try clear hb); have hnb15 := NB493_494.out; have hnc15 := NB494_493.out; have hcz16_0 := cz_ (x := .int .i64 a1_0) BK493 0; have hcz16_1 := cz_ (x := .int .i64 a1_1) BK493 1; have hcz16_2 := cz_ (x := .int .i64 a1_2) BK493 2; have hfz16_0 := blk_frozen BK493.out 0; have hfz16_1 := blk_frozen BK493.out 1; have hfz16_2 := blk_frozen BK493.out 2) | (go_at_call 33; (with_reducible refine (impl_IsClue.calls k a1_0 a1_1 a1_2 true _ A5.out).mono ?_); rintro e w17 ⟨rfl, hb⟩; have n3_ := Az_ (btz_ (w129_) hb); clear HB; replace BK492 := Az_ (ukbz_ BK492.out hb); replace BK493 := Az_ (ukbz_ BK493.out hb); replace BK494 := Az_ (ukbz_ BK494.out hb); have HB := n3_; clear n3_; (try clear hb); have hcz18_0 := cz_ (x := .slice A0_0 l0_0.length c0_0) BK492 0; have hfz18_0 := blk_frozen BK492.out 0; have hcz19_0 := cz_ (x := .slice none 0 0) BK494 0; have hfz19_0 := blk_frozen BK494.out 0))
   refine bodyPost_ret (results_ct rfl _ _ gb494 30 #[.slice none 0 0] (0, 0) _ rfl (w45_) Tryd.underlying30 rfl (w204_)) rfl ?_
   exact ⟨_, w166_, w130_, w129_⟩
  rw [if_neg c7] at H
  have c7b0 : ((l0_0.length : Int) == 6) = false := beq_eq_false_iff_ne.mpr c7
  have c7b1 : ((l0_0.length : Int) != 6) = true := bne_iff_ne.mpr c7
  replace H := bqz_ H; obtain ⟨t497, A20, H⟩ := H
  replace H : ((some (([(⟨a1_0, a1_1, a1_2⟩ : S40)] : List (S40)) : List (S40))).bind fun y500 => (if t497.length + y500.length < 5864062014805 then (some ((t497 ++ y500), true)) else (none))) = some (r1, r2) := H
  obtain ⟨y500, hy500⟩ : ∃ y_ : List (S40), y_ = (([(⟨a1_0, a1_1, a1_2⟩ : S40)] : List (S40))) := ⟨_, rfl⟩
  replace H : (if t497.length + y500.length < 5864062014805 then (some ((t497 ++ y500), true)) else (none)) = some (r1, r2) := by first | (rw [hy500]; with_reducible exact H) | (have H2_ := (Option.bind_some _ _).symm.trans H; rw [hy500]; with_reducible exact H2_) | (have H2_ := (Option.bind_some _ _).symm.trans H; with_reducible exact H2_) | with_reducible exact H | (rw [hy500]; exact H) | exact H
  have Ny500 := Az_ hy500
  clear hy500
  by_cases c21 : t497.length + y500.length < 5864062014805; rotate_left
  ·rw [if_neg c21] at H
   exact absurd H (by simp)
  rw [if_pos c21] at H
  have LMc21 := Az_ c21
  clear c21
  obtain ⟨y503, hy503⟩ : ∃ y_ : List (S40), y_ = (t497 ++ y500) := ⟨_, rfl⟩
  replace H : (some (y503, true)) = some (r1, r2) := by first | (rw [hy503]; with_reducible exact H) | (have H2_ := (Option.bind_some _ _).symm.trans H; rw [hy503]; with_reducible exact H2_) | (have H2_ := (Option.bind_some _ _).symm.trans H; with_reducible exact H2_) | with_reducible exact H | (rw [hy503]; exact H) | exact H
  have Ny503 := Az_ hy503
  clear hy503
  simp only [Option.some.injEq, Prod.mk.injEq] at H
  obtain ⟨rfl, rfl⟩ := H
  go_enter Tryd.func24, Tryd.ntmps24
  try go_wp2_with (first | ((with_reducible refine gate_dst (N := 2) rfl ?_); (try (refine gate_guard (by rfl) ?_; dsimp only)); refine bxe_ (N := 2) (cs := #[.slice A0_0 l0_0.length c0_0]) (t := 30) ?_; intro gb492 hg w22 BK492 hb; have GW492 := gez_ hg (ubz_ HB.out); have GE492 := GW492; replace HB := Az_ (btz_ (ubz_ HB.out) hb); clear hb hg) | ((with_reducible refine gate_dst (N := 3) rfl ?_); (try (refine gate_guard (by rfl) ?_; dsimp only)); refine bxe_ (N := 3) (cs := #[.int .i64 a1_0, .int .i64 a1_1, .int .i64 a1_2]) (t := 40) ?_; intro gb493 hg w23 BK493 hb; obtain ⟨NB492_493, NB493_492⟩ := nez_ BK492 hg; have GW493 : Aside0 (w.heap.size ≤ gb493) := gez_ hg (w129_); have GE493 := GW493; replace HB := Az_ (btz_ (w129_) hb); replace BK492 := Az_ (ukbz_ BK492.out hb); clear hb hg) | ((with_reducible refine gate_dst (N := 4) rfl ?_); (try (refine gate_guard (by rfl) ?_; dsimp only)); refine bxe_ (N := 4) (cs := #[.slice none 0 0]) (t := 30) ?_; intro gb494 hg w24 BK494 hb; obtain ⟨NB492_494, NB494_492⟩ := nez_ BK492 hg; obtain ⟨NB493_494, NB494_493⟩ := nez_ BK493 hg; have GW494 : Aside0 (w.heap.size ≤ gb494) := gez_ hg (w129_); have GE494 := GW494; replace HB := Az_ (btz_ (w129_) hb); replace BK492 := Az_ (ukbz_ BK492.out hb); replace BK493 := Az_ (ukbz_ BK493.out hb); clear hb hg; have hnb25 := NB492_493.out; have hnc25 := NB493_492.out; have hnb26 := NB492_494.out; have hnc26 := NB494_492.out; have hcz27_0 := cz_ (x := .slice A0_0 l0_0.length c0_0) BK492 0; have hfz27_0 := blk_frozen BK492.out 0) | ((with_reducible refine gate_callee (f := 15) rfl ?_); refine goesL_ (some 7) rfl rfl Tryd.func15 (w204_) rfl #[.agg #[.slice A0_0 l0_0.length c0_0]] rfl maz_ ?_; (with_reducible refine (impl_IsPuzzle.calls _ _ l0_0 true _ ?side1 ?side2 A3.out).mono ?_); (case side1 => exact ucz_ ((Kd.C_below HR0_0.out HB.out))); (case side2 => exact HC0_0.out); rintro e w28 ⟨rfl, hb⟩; refine ⟨_, rfl, ?_⟩; have n3_ := Az_ (btz_ (w129_) hb); clear HB; replace BK492 := Az_ (ukbz_ BK492.out hb); replace BK493 := Az_ (ukbz_ BK493.out hb); replace BK494 := Az_ (ukbz_ BK494.out hb); have HB := n3_; clear n3_; (try clear hb); have hnb29 := NB493_494.out; have hnc29 := NB494_493.out; have hcz30_0 := cz_ (x := .int .i64 a1_0) BK493 0; have hcz30_1 := cz_ (x := .int .i64 a1_1) BK493 1; have hcz30_2 := cz_ (x := .int .i64 a1_2) BK493 2; have hfz30_0 := blk_frozen BK493.out 0; have hfz30_1 := blk_frozen BK493.out 1; have hfz30_2 := blk_frozen BK493.out 2) | (go_at_call 33; (with_reducible refine (impl_IsClue.calls k a1_0 a1_1 a1_2 true _ A5.out).mono ?_); rintro e w31 ⟨rfl, hb⟩; have n3_ := Az_ (btz_ (w129_) hb); clear HB; replace BK492 := Az_ (ukbz_ BK492.out hb); replace BK493 := Az_ (ukbz_ BK493.out hb); replace BK494 := Az_ (ukbz_ BK494.out hb); have HB := n3_; clear n3_; (try clear hb); have hcz32_0 := cz_ (x := .slice A0_0 l0_0.length c0_0) BK492 0; have hfz32_0 := blk_frozen BK492.out 0))
  replace BK492 := Az_ (kdz_ BK492.out)
  replace BK493 := Az_ (kdz_ BK493.out)
  replace BK494 := Az_ (kdz_ BK494.out)
  replace HB := Az_ (bdz_ HB.out)
  refine start_ (n := 9) (S := fun w' => w'.cell? ⟨gb492, 0, none⟩ = some (.slice A0_0 l0_0.length c0_0) ∧ w'.cell? ⟨gb493, 0, none⟩ = some (.int .i64 a1_0) ∧ w'.cell? ⟨gb493, 1, none⟩ = some (.int .i64 a1_1) ∧ w'.cell? ⟨gb493, 2, none⟩ = some (.int .i64 a1_2)) (ds := []) #[false, false, false, false, false, false, false, false, false] (w204_) rfl rfl ⟨(blk_cell BK492.out 0).trans rfl, (blk_cell BK493.out 0).trans rfl, (blk_cell BK493.out 1).trans rfl, (blk_cell BK493.out 2).trans rfl⟩ (fun hHeld => ?_); refine with_tabW impl_AddClue.tab3 impl_AddClue.bits3 (fun HT_ HW_ => ?_)
  generalize w31.drew = w33 at BK492 BK493 BK494 HB hHeld ⊢
  refine pz_ 0 21 [1,8] ?_
  refine tz4_ 1 22 [2,7] ?_
  refine tz4_ 3 24 [2,1,1,5] ?_
  refine join_ (σ := Value × Value) 4 #[true, true, true, true, true, false, false, false, false] (fun s_ => [(23, s_.1), (25, s_.2)]) (fun s_ w' => (w'.cell? ⟨gb492, 0, none⟩ = some (.slice A0_0 l0_0.length c0_0) ∧ w'.cell? ⟨gb493, 0, none⟩ = some (.int .i64 a1_0) ∧ w'.cell? ⟨gb493, 1, none⟩ = some (.int .i64 a1_1) ∧ w'.cell? ⟨gb493, 2, none⟩ = some (.int .i64 a1_2)) ∧ (Kd.R k40 40 w' w.heap.size (fun k_ => some k_ ≠ (s_.2 : Value).ownBlock ∧ k_ ≠ gb493) s_.1 t497) ∧ (Kd.R k40 40 w' w.heap.size (fun k_ => some k_ ≠ (s_.1 : Value).ownBlock ∧ k_ ≠ gb493) s_.2 y500) ∧ (w'.heap[gb492]? = some (.cells #[.slice A0_0 l0_0.length c0_0] 30 (0, 0))) ∧ (w'.heap[gb493]? = some (.cells #[.int .i64 a1_0, .int .i64 a1_1, .int .i64 a1_2] 40 (0, 0))) ∧ (w'.heap[gb494]? = some (.cells #[.slice none 0 0] 30 (0, 0))) ∧ (Below w.heap.size w w')) ?_ ?_
  rotate_left
  ·intro hCont
   refine two_ (i := 2) (j := 4) (Ni := some 23) (Nj := some 25) (mz_ [4,5]) #[true, true, false, true, true, false, false, false, false] rfl rfl rfl rfl (two_of HT_.out (w204_)) (by decide) (by decide) (fun K hK => ?_) (fun K hK => ?_)
   ·skip
    refine goes_ Tryd.func54 (w204_) rfl #[.slice A0_0 l0_0.length c0_0] (by rfl) rfl rfl maz_ ?_
    with_reducible refine (clone_Clue.calls _ _ l0_0 t497 _ ?side1 ?side2 A20.out).mono ?_
    (case side1 => repeat (first | exact (Kd.C_below HR0_0.out HB.out) | (with_reducible refine Kd.C_alloc ?_ _) | (with_reducible refine Kd.C_drewN ?_ _) | (with_reducible refine Kd.C_drew ?_)))
    (case side2 => exact HC0_0.out)
    rintro e w34 ⟨v498, rfl, ho0, hb⟩
    refine ⟨_, rfl, ?_⟩
    have n0_ := Az_ (Kd.R_lower (Kd.R_newB ho0 (g := gb493) (o := .cells #[.int .i64 a1_0, .int .i64 a1_1, .int .i64 a1_2] 40 (0, 0)) (w187_)) (below_size (w129_)))
    have n4_ := Az_ (btz_ (w129_) hb)
    clear HB
    have HO499 := n0_
    replace BK492 := Az_ (ukbz_ BK492.out hb)
    replace BK493 := Az_ (ukbz_ BK493.out hb)
    replace BK494 := Az_ (ukbz_ BK494.out hb)
    have HB := n4_
    clear n0_ n4_
    clear hb
    clear ho0
    refine hK.out _ _ ⟨(blk_cell BK492.out 0).trans rfl, (blk_cell BK493.out 0).trans rfl, (blk_cell BK493.out 1).trans rfl, (blk_cell BK493.out 2).trans rfl⟩ (fun hHeld => ?_)
    clear hK K
    refine nz_ 23 ?_
    refine one_ (i := 4) (N := some 25) (mz_ [5,4]) rfl rfl (one_of HT_.out (w204_)) (by decide) (fun K hK => ?_)
    refine Kd.R_lit_step k40 _ 40 ?hg (N := 25) ?hd (xs := ([(⟨a1_0, a1_1, a1_2⟩ : S40)] : List (S40))) (inner := [.int .i64 a1_0, .int .i64 a1_1, .int .i64 a1_2]) (ok := fun _ => True) (okp := fun _ => True) ?hr ?hp (fun _ hk => hk) trivial (Below.refl _ _) (Nat.le_refl _) (by simp) ?_; (case hd => rfl); (case hg => rfl); (case hr => first | (go_simp; done) | (go_simp; rfl)); (case hp => exact (Reps.c3 (show Kd.M k40 _ _ _ (⟨a1_0, a1_1, a1_2⟩ : S40) [.int .i64 a1_0, .int .i64 a1_1, .int .i64 a1_2] from (k40_mkM _ _ _ (⟨a1_0, a1_1, a1_2⟩ : S40) )) (Reps.none _ _)))
    intro v501 w35 ho36 hb hg_ hnew_
    clear hg_ hnew_
    (first | rw [← Ny500.out] at ho36 | (simp only [Int.reduceToNat] at ho36; rw [← Ny500.out] at ho36))
    have n0_ := Az_ (rez_ (by exact urz_ HO499.out) (Kd.R_base ho36) hb)
    have n1_ := Az_ (Kd.R_lower (Kd.R_newB (Kd.R_new' ho36 (Kd.R_lt (by exact urz_ HO499.out))) (g := gb493) (o := .cells #[.int .i64 a1_0, .int .i64 a1_1, .int .i64 a1_2] 40 (0, 0)) (w187_)) (below_size (w129_)))
    have n5_ := Az_ (btz_ (w129_) hb)
    clear HO499 HB
    have HO499 := n0_
    have HO502 := n1_
    replace BK492 := Az_ (ukbz_ BK492.out hb)
    replace BK493 := Az_ (ukbz_ BK493.out hb)
    replace BK494 := Az_ (ukbz_ BK494.out hb)
    have HB := n5_
    clear n0_ n1_ n5_ hb ho36
    refine hK.out _ _ ⟨(blk_cell BK492.out 0).trans rfl, (blk_cell BK493.out 0).trans rfl, (blk_cell BK493.out 1).trans rfl, (blk_cell BK493.out 2).trans rfl⟩ (fun hHeld => ?_)
    clear hK K
    refine nz_ 25 ?_
    exact norm_ (w165_) (hCont (v498, v501) _ ⟨hHeld, (by (with_reducible repeat (first | apply raz_ | apply rnz_ | apply rdz_)); exact Kd.R_mono HO499.out (fun _ hk => ⟨hk.2, hk.1.2⟩)), (by (with_reducible repeat (first | apply raz_ | apply rnz_ | apply rdz_)); exact Kd.R_mono HO502.out (fun _ hk => ⟨hk.1.2, hk.2⟩)), (by exact ukz_ BK492.out), (w187_), (by exact ukz_ BK494.out), (w129_)⟩)
   ·skip
    refine Kd.R_lit_step k40 _ 40 ?hg (N := 25) ?hd (xs := ([(⟨a1_0, a1_1, a1_2⟩ : S40)] : List (S40))) (inner := [.int .i64 a1_0, .int .i64 a1_1, .int .i64 a1_2]) (ok := fun _ => True) (okp := fun _ => True) ?hr ?hp (fun _ hk => hk) trivial (Below.refl _ _) (Nat.le_refl _) (by simp) ?_; (case hd => rfl); (case hg => rfl); (case hr => first | (go_simp; done) | (go_simp; rfl)); (case hp => exact (Reps.c3 (show Kd.M k40 _ _ _ (⟨a1_0, a1_1, a1_2⟩ : S40) [.int .i64 a1_0, .int .i64 a1_1, .int .i64 a1_2] from (k40_mkM _ _ _ (⟨a1_0, a1_1, a1_2⟩ : S40) )) (Reps.none _ _)))
    intro v501 w34 ho35 hb hg_ hnew_
    clear hg_ hnew_
    (first | rw [← Ny500.out] at ho35 | (simp only [Int.reduceToNat] at ho35; rw [← Ny500.out] at ho35))
    have n0_ := Az_ (Kd.R_lower (Kd.R_newB ho35 (g := gb493) (o := .cells #[.int .i64 a1_0, .int .i64 a1_1, .int .i64 a1_2] 40 (0, 0)) (w187_)) (below_size (w129_)))
    have n4_ := Az_ (btz_ (w129_) hb)
    clear HB
    have HO502 := n0_
    replace BK492 := Az_ (ukbz_ BK492.out hb)
    replace BK493 := Az_ (ukbz_ BK493.out hb)
    replace BK494 := Az_ (ukbz_ BK494.out hb)
    have HB := n4_
    clear n0_ n4_ hb ho35
    refine hK.out _ _ ⟨(blk_cell BK492.out 0).trans rfl, (blk_cell BK493.out 0).trans rfl, (blk_cell BK493.out 1).trans rfl, (blk_cell BK493.out 2).trans rfl⟩ (fun hHeld => ?_)
    clear hK K
    refine nz_ 25 ?_
    refine one_ (i := 2) (N := some 23) (mz_ [5,4]) rfl rfl (one_of HT_.out (w204_)) (by decide) (fun K hK => ?_)
    refine goes_ Tryd.func54 (w204_) rfl #[.slice A0_0 l0_0.length c0_0] (by rfl) rfl rfl maz_ ?_
    with_reducible refine (clone_Clue.calls _ _ l0_0 t497 _ ?side1 ?side2 A20.out).mono ?_
    (case side1 => repeat (first | exact (Kd.C_below HR0_0.out HB.out) | (with_reducible refine Kd.C_alloc ?_ _) | (with_reducible refine Kd.C_drewN ?_ _) | (with_reducible refine Kd.C_drew ?_)))
    (case side2 => exact HC0_0.out)
    rintro e w36 ⟨v498, rfl, ho0, hb⟩
    refine ⟨_, rfl, ?_⟩
    have n0_ := Az_ (rez_ (by exact urz_ HO502.out) (Kd.R_base ho0) hb)
    have n1_ := Az_ (Kd.R_lower (Kd.R_newB (Kd.R_new' ho0 (Kd.R_lt (by exact urz_ HO502.out))) (g := gb493) (o := .cells #[.int .i64 a1_0, .int .i64 a1_1, .int .i64 a1_2] 40 (0, 0)) (w187_)) (below_size (w129_)))
    have n5_ := Az_ (btz_ (w129_) hb)
    clear HO502 HB
    have HO502 := n0_
    have HO499 := n1_
    replace BK492 := Az_ (ukbz_ BK492.out hb)
    replace BK493 := Az_ (ukbz_ BK493.out hb)
    replace BK494 := Az_ (ukbz_ BK494.out hb)
    have HB := n5_
    clear n0_ n1_ n5_
    clear hb
    clear ho0
    refine hK.out _ _ ⟨(blk_cell BK492.out 0).trans rfl, (blk_cell BK493.out 0).trans rfl, (blk_cell BK493.out 1).trans rfl, (blk_cell BK493.out 2).trans rfl⟩ (fun hHeld => ?_)
    clear hK K
    refine nz_ 23 ?_
    exact norm_ (w165_) (hCont (v498, v501) _ ⟨hHeld, (by (with_reducible repeat (first | apply raz_ | apply rnz_ | apply rdz_)); exact Kd.R_mono HO499.out (fun _ hk => ⟨hk.1.2, hk.2⟩)), (by (with_reducible repeat (first | apply raz_ | apply rnz_ | apply rdz_)); exact Kd.R_mono HO502.out (fun _ hk => ⟨hk.2, hk.1.2⟩)), (by exact ukz_ BK492.out), (w187_), (by exact ukz_ BK494.out), (w129_)⟩)
  rintro ⟨v498, v501⟩ w37 ⟨hS_, h0_, h1_, h2_, h3_, h4_, h5_⟩
  have n0_ : Aside0 (Kd.R k40 40 w37 w.heap.size (fun k_ => some k_ ≠ (v501 : Value).ownBlock ∧ k_ ≠ gb493) v498 t497) := ⟨h0_⟩
  have n1_ : Aside0 (Kd.R k40 40 w37 w.heap.size (fun k_ => some k_ ≠ (v498 : Value).ownBlock ∧ k_ ≠ gb493) v501 y500) := ⟨h1_⟩
  have n2_ : Aside0 (w37.heap[gb492]? = some (.cells #[.slice A0_0 l0_0.length c0_0] 30 (0, 0))) := ⟨h2_⟩
  have n3_ : Aside0 (w37.heap[gb493]? = some (.cells #[.int .i64 a1_0, .int .i64 a1_1, .int .i64 a1_2] 40 (0, 0))) := ⟨h3_⟩
  have n4_ : Aside0 (w37.heap[gb494]? = some (.cells #[.slice none 0 0] 30 (0, 0))) := ⟨h4_⟩
  have n5_ : Aside0 (Below w.heap.size w w37) := ⟨h5_⟩
  clear BK492 BK493 BK494 HB h0_ h1_ h2_ h3_ h4_ h5_
  have HO499 := n0_
  have HO502 := n1_
  have BK492 := n2_
  have BK493 := n3_
  have BK494 := n4_
  have HB := n5_
  clear n0_ n1_ n2_ n3_ n4_ n5_
  have hHeld : w37.cell? ⟨gb492, 0, none⟩ = some (.slice A0_0 l0_0.length c0_0) ∧ w37.cell? ⟨gb493, 0, none⟩ = some (.int .i64 a1_0) ∧ w37.cell? ⟨gb493, 1, none⟩ = some (.int .i64 a1_1) ∧ w37.cell? ⟨gb493, 2, none⟩ = some (.int .i64 a1_2) := hS_
  obtain ⟨Ao39, co39, eo39⟩ := Kd.R_slice HO502.out
  (first | subst eo39 | (injection eo39 with f1_ f2_ f3_; have f4_ := f1_.symm; have f5_ := f3_.symm; clear f1_ f2_ f3_; subst f4_; subst f5_))
  refine norm_ (a' := ?_) ?_ ?_
  rotate_left
  ·simp only [putAll, Act.put, List.setIfInBounds_toArray, List.set_cons_zero, List.set_cons_succ]
   rfl
  refine one_ (i := 5) (N := some 26) (mz_ [6,3]) rfl rfl (one_of HT_.out (w204_)) (by decide) (fun K hK => ?_)
  refine Kd.R_append_rows_step k40 (w0 := w) w.heap.size (by rfl) (.tmp 23) (.tmp 25) 28 40 (.agg #[(.int .i64 0), (.int .i64 0), (.int .i64 0)]) 24 rfl Tryd.underlying28 info40 rfl (by decide) (by omega) v498 t497 y500 _ _ _ (fun k_ => some k_ ≠ (.slice Ao39 y500.length co39 : Value).ownBlock ∧ k_ ≠ gb493) (fun _ => False) rfl rfl ?aO ?aR (fun _ _ h => h) (fun _ h => h.elim) ?aF ?aB ?aS ?aL ?_
  (case aR => repeat (first | exact (Kd.R_reads' HO502.out).2.2 | (with_reducible refine Kd.C_alloc ?_ _) | (with_reducible refine Kd.C_drewN ?_ _) | (with_reducible refine Kd.C_drew ?_)))
  (case aB => exact (w129_))
  (case aF => exact (fun k_ hk => ⟨Kd.fresh' (Kd.R_lt (by exact urz_ HO502.out)) k_ hk, Kd.freshB (g := gb493) (o := .cells #[.int .i64 a1_0, .int .i64 a1_1, .int .i64 a1_2] 40 (0, 0)) (w187_) k_ hk⟩))
  (case aO => exact (by exact urz_ HO499.out))
  (case aS => exact (below_size (w129_)))
  (case aL => have := LMc21.out; omega)
  intro v504 w38 ho hb hg hat
  rw [← Ny503.out] at ho
  replace BK492 := Az_ (blk_grown (g := gb492) (o := .cells #[.slice A0_0 l0_0.length c0_0] 30 (0, 0)) (by exact ukz_ BK492.out) hg (Kd.R_ne HO499.out BK492.out (by decide)))
  replace BK493 := Az_ (blk_grown (g := gb493) (o := .cells #[.int .i64 a1_0, .int .i64 a1_1, .int .i64 a1_2] 40 (0, 0)) (w187_) hg (Kd.R_away HO499.out (fun _ hk => hk.2)))
  replace BK494 := Az_ (blk_grown (g := gb494) (o := .cells #[.slice none 0 0] 30 (0, 0)) (by exact ukz_ BK494.out) hg (Kd.R_ne HO499.out BK494.out (by decide)))
  replace HO502 := Az_ (Kd.R_after (ok := (fun k_ => k_ ≠ gb493)) (by (with_reducible repeat (first | apply raz_ | apply rnz_ | apply rdz_)); exact Kd.R_mono HO502.out (fun _ hk => ⟨hk.2, hk.1⟩)) hg hat)
  replace HB := Az_ (hb)
  have HO505 := Az_ (ho)
  clear HO499
  obtain ⟨Ao40, co40, eo40⟩ := Kd.R_slice HO505.out
  (first | subst eo40 | (injection eo40 with f1_ f2_ f3_; have f4_ := f1_.symm; have f5_ := f3_.symm; clear f1_ f2_ f3_; subst f4_; subst f5_))
  refine hK.out _ _ ⟨(blk_cell BK492.out 0).trans rfl, (blk_cell BK493.out 0).trans rfl, (blk_cell BK493.out 1).trans rfl, (blk_cell BK493.out 2).trans rfl⟩ (fun hHeld => ?_)
  clear hK K
  refine nz_ 26 ?_
  refine pz_ 6 27 [7,2] ?_
  refine one_ (i := 7) (N := none) (mz_ [8,1]) rfl rfl (one_of HT_.out (w204_)) (by decide) (fun K hK => ?_)
  have hs41 : w38.cell? ⟨gb494, 0, none⟩ = some (.slice none 0 0) := (blk_cell BK494.out 0).trans rfl
  have hfs41 := blk_frozen BK494.out 0
  have hns41_0 := NB492_494.out
  have hns41_1 := NB493_494.out
  have hms41_0 := NB494_492.out
  have hms41_1 := NB494_493.out
  refine skip_ (w1 := ?_) (by rfl) rfl ?_ ?_
  rotate_left
  ·go_simp
   rfl
  refine hK.out _ _ ⟨((cell_far (p := ⟨gb494, _, none⟩) NB492_494.out _).trans (hHeld.1)), ((cell_far (p := ⟨gb494, _, none⟩) NB493_494.out _).trans (hHeld.2.1)), ((cell_far (p := ⟨gb494, _, none⟩) NB493_494.out _).trans (hHeld.2.2.1)), ((cell_far (p := ⟨gb494, _, none⟩) NB493_494.out _).trans (hHeld.2.2.2))⟩ (fun hHeld => ?_)
  clear hK K
  refine pz_ 8 5 [9] ?_
  refine done_ (done_of HT_.out (w204_)) ?_
  try go_wp2
  refine bodyPost_ret (results_ct rfl _ _ gb494 30 #[.slice Ao40 y503.length co40] (0, 0) _ rfl (w45_) Tryd.underlying30 rfl (w204_)) rfl ?_
  exact ⟨_, w166_, by (with_reducible repeat (first | apply raz_ | apply rnz_ | apply rdz_)); exact Kd.R_mono (Kd.R_far (p := ⟨gb494, 0, none⟩) (Kd.R_types HO505.out BK494.out (by decide)) (fun _ hk => hk.2) (.slice Ao40 y503.length co40)) (fun _ hk => trivial), w129_⟩
 ·replace c4 := Bool.eq_false_iff.mpr c4
  subst c4
  rw [if_neg nfz_] at H
  simp only [Option.some.injEq, Prod.mk.injEq] at H
  obtain ⟨rfl, rfl⟩ := H
  go_enter Tryd.func24, Tryd.ntmps24
  go_wp2_with (first | ((with_reducible refine gate_dst (N := 2) rfl ?_); (try (refine gate_guard (by rfl) ?_; dsimp only)); refine bxe_ (N := 2) (cs := #[.slice A0_0 l0_0.length c0_0]) (t := 30) ?_; intro gb492 hg w53 BK492 hb; have GW492 := gez_ hg (ubz_ HB.out); have GE492 := GW492; replace HB := Az_ (btz_ (ubz_ HB.out) hb); clear hb hg) | ((with_reducible refine gate_dst (N := 3) rfl ?_); (try (refine gate_guard (by rfl) ?_; dsimp only)); refine bxe_ (N := 3) (cs := #[.int .i64 a1_0, .int .i64 a1_1, .int .i64 a1_2]) (t := 40) ?_; intro gb493 hg w54 BK493 hb; obtain ⟨NB492_493, NB493_492⟩ := nez_ BK492 hg; have GW493 : Aside0 (w.heap.size ≤ gb493) := gez_ hg (w129_); have GE493 := GW493; replace HB := Az_ (btz_ (w129_) hb); replace BK492 := Az_ (ukbz_ BK492.out hb); clear hb hg) | ((with_reducible refine gate_dst (N := 4) rfl ?_); (try (refine gate_guard (by rfl) ?_; dsimp only)); refine bxe_ (N := 4) (cs := #[.slice none 0 0]) (t := 30) ?_; intro gb494 hg w55 BK494 hb; obtain ⟨NB492_494, NB494_492⟩ := nez_ BK492 hg; obtain ⟨NB493_494, NB494_493⟩ := nez_ BK493 hg; have GW494 : Aside0 (w.heap.size ≤ gb494) := gez_ hg (w129_); have GE494 := GW494; replace HB := Az_ (btz_ (w129_) hb); replace BK492 := Az_ (ukbz_ BK492.out hb); replace BK493 := Az_ (ukbz_ BK493.out hb); clear hb hg; have hnb56 := NB492_493.out; have hnc56 := NB493_492.out; have hnb57 := NB492_494.out; have hnc57 := NB494_492.out; have hcz58_0 := cz_ (x := .slice A0_0 l0_0.length c0_0) BK492 0; have hfz58_0 := blk_frozen BK492.out 0) | ((with_reducible refine gate_callee (f := 15) rfl ?_); refine goesL_ (some 7) rfl rfl Tryd.func15 (w204_) rfl #[.agg #[.slice A0_0 l0_0.length c0_0]] rfl maz_ ?_; (with_reducible refine (impl_IsPuzzle.calls _ _ l0_0 false _ ?side1 ?side2 A3.out).mono ?_); (case side1 => exact ucz_ ((Kd.C_below HR0_0.out HB.out))); (case side2 => exact HC0_0.out); rintro e w59 ⟨rfl, hb⟩; refine ⟨_, rfl, ?_⟩; have n3_ := Az_ (btz_ (w129_) hb); clear HB; replace BK492 := Az_ (ukbz_ BK492.out hb); replace BK493 := Az_ (ukbz_ BK493.out hb); replace BK494 := Az_ (ukbz_ BK494.out hb); have HB := n3_; clear n3_; (try clear hb); have hnb60 := NB494_493.out; have hnc60 := NB493_494.out; have hcz61_0 := cz_ (x := .slice none 0 0) BK494 0; have hfz61_0 := blk_frozen BK494.out 0))
  refine bodyPost_ret (results_ct rfl _ _ gb494 30 #[.slice none 0 0] (0, 0) _ rfl (w45_) Tryd.underlying30 rfl (w204_)) rfl ?_
  exact ⟨_, w166_, w130_, w129_⟩


def spec_AddClue.f (k : Nat) (l0_0 : List (S40)) (a1_0 : Int) (a1_1 : Int) (a1_2 : Int) : Option ((List (S40)) × Bool) := (spec_pzGood.f k l0_0).bind fun t509 => (if t509 = true then ((spec_pzClue.f k a1_0 a1_1 a1_2).bind fun t510 => (if t510 = true then (if (l0_0.length : Int) = 6 then (some (([] : List (S40)), false)) else ((some (([] : List (S40)) : List (S40))).bind fun y511 => (if y511.length + l0_0.length < 5864062014805 then ((some (y511 ++ l0_0 : List (S40))).bind fun y514 => ((some (([(⟨a1_0, a1_1, a1_2⟩ : S40)] : List (S40)) : List (S40))).bind fun y517 => (if y514.length + y517.length < 5864062014805 then (some ((y514 ++ y517), true)) else (none)))) else (none)))) else (some (([] : List (S40)), false)))) else (some (([] : List (S40)), false)))
def spec_AddClue.T3 : Bool × List (List Nat × List Nat) := (true, [([], []), ([], []), ([1], [1]), ([0, 2], [0, 2]), ([], []), ([4], [4]), ([3, 5, 3], [3, 5]), ([6], [6]), ([7, 6, 0, 1, 2, 3, 4, 5, 6, 7], [7]), ([8, 0, 1, 2, 3, 4, 5, 6, 7, 8], [])])
def spec_AddClue.B3 : List Nat := [0, 0, 2, 7, 0, 16, 63, 127, 255, 511]
theorem spec_AddClue.tab3 : rtab .any (opsOf Tryd.f25 3) = spec_AddClue.T3 := by kernel_rfl
theorem spec_AddClue.bits3 : waitsOk spec_AddClue.T3.2 spec_AddClue.B3 = true := by kernel_rfl
set_option maxHeartbeats 8000000 in
set_option maxRecDepth 100000 in
theorem spec_AddClue.calls (k : Nat) (A0_0 : Option Addr) (c0_0 : Nat) (l0_0 : List (S40)) (a1_0 : Int) (a1_1 : Int) (a1_2 : Int) (r1 : List (S40)) (r2 : Bool) (w : World) (hr0_0 : Kd.C k40 w A0_0 l0_0.length l0_0) (hc0_0 : l0_0.length ≤ c0_0) (h : spec_AddClue.f k l0_0 a1_0 a1_1 a1_2 = some (r1, r2)) :
  Calls Tryd.prog 25 #[.agg #[.slice A0_0 l0_0.length c0_0], .agg #[.int .i64 a1_0, .int .i64 a1_1, .int .i64 a1_2]] w fun e w' => ∃ v0_ : Value, e = .returned (.tuple #[.agg #[v0_], .bool r2]) ∧ Kd.R k40 40 w' w.heap.size (fun _ => True) v0_ r1 ∧ Below w.heap.size w w' := by
 have hu30 := Tryd.underlying30
 have hu40 := Tryd.underlying40
 have HR0_0 := Az_ hr0_0
 have HC0_0 := Az_ hc0_0
 clear hr0_0 hc0_0
 have HB := Az_ (Below.refl w.heap.size w)
 have H : ((spec_pzGood.f k l0_0).bind fun t509 => (if t509 = true then ((spec_pzClue.f k a1_0 a1_1 a1_2).bind fun t510 => (if t510 = true then (if (l0_0.length : Int) = 6 then (some (([] : List (S40)), false)) else ((some (([] : List (S40)) : List (S40))).bind fun y511 => (if y511.length + l0_0.length < 5864062014805 then ((some (y511 ++ l0_0 : List (S40))).bind fun y514 => ((some (([(⟨a1_0, a1_1, a1_2⟩ : S40)] : List (S40)) : List (S40))).bind fun y517 => (if y514.length + y517.length < 5864062014805 then (some ((y514 ++ y517), true)) else (none)))) else (none)))) else (some (([] : List (S40)), false)))) else (some (([] : List (S40)), false)))) = some (r1, r2) := h
 clear h
 replace H := bqz_ H; obtain ⟨t509, A3, H⟩ := H
 replace H : (if t509 = true then ((spec_pzClue.f k a1_0 a1_1 a1_2).bind fun t510 => (if t510 = true then (if (l0_0.length : Int) = 6 then (some (([] : List (S40)), false)) else ((some (([] : List (S40)) : List (S40))).bind fun y511 => (if y511.length + l0_0.length < 5864062014805 then ((some (y511 ++ l0_0 : List (S40))).bind fun y514 => ((some (([(⟨a1_0, a1_1, a1_2⟩ : S40)] : List (S40)) : List (S40))).bind fun y517 => (if y514.length + y517.length < 5864062014805 then (some ((y514 ++ y517), true)) else (none)))) else (none)))) else (some (([] : List (S40)), false)))) else (some (([] : List (S40)), false))) = some (r1, r2) := H
 by_cases c4 : t509 = true
 ·subst c4
  rw [if_pos rfl] at H
  replace H := bqz_ H; obtain ⟨t510, A5, H⟩ := H
  replace H : (if t510 = true then (if (l0_0.length : Int) = 6 then (some (([] : List (S40)), false)) else ((some (([] : List (S40)) : List (S40))).bind fun y511 => (if y511.length + l0_0.length < 5864062014805 then ((some (y511 ++ l0_0 : List (S40))).bind fun y514 => ((some (([(⟨a1_0, a1_1, a1_2⟩ : S40)] : List (S40)) : List (S40))).bind fun y517 => (if y514.length + y517.length < 5864062014805 then (some ((y514 ++ y517), true)) else (none)))) else (none)))) else (some (([] : List (S40)), false))) = some (r1, r2) := H
  by_cases c6 : t510 = true; rotate_left
  ·replace c6 := Bool.eq_false_iff.mpr c6
   subst c6
   rw [if_neg nfz_] at H
   simp only [Option.some.injEq, Prod.mk.injEq] at H
   obtain ⟨rfl, rfl⟩ := H
   go_enter Tryd.func25, Tryd.ntmps25
   go_wp2_with (first | ((with_reducible refine gate_dst (N := 2) rfl ?_); (try (refine gate_guard (by rfl) ?_; dsimp only)); refine bxe_ (N := 2) (cs := #[.slice A0_0 l0_0.length c0_0]) (t := 30) ?_; intro gb506 hg w44 BK506 hb; have GW506 := gez_ hg (ubz_ HB.out); have GE506 := GW506; replace HB := Az_ (btz_ (ubz_ HB.out) hb); clear hb hg) | ((with_reducible refine gate_dst (N := 3) rfl ?_); (try (refine gate_guard (by rfl) ?_; dsimp only)); refine bxe_ (N := 3) (cs := #[.int .i64 a1_0, .int .i64 a1_1, .int .i64 a1_2]) (t := 40) ?_; intro gb507 hg w45 BK507 hb; obtain ⟨NB506_507, NB507_506⟩ := nez_ BK506 hg; have GW507 : Aside0 (w.heap.size ≤ gb507) := gez_ hg (w129_); have GE507 := GW507; replace HB := Az_ (btz_ (w129_) hb); replace BK506 := Az_ (ukbz_ BK506.out hb); clear hb hg) | ((with_reducible refine gate_dst (N := 4) rfl ?_); (try (refine gate_guard (by rfl) ?_; dsimp only)); refine bxe_ (N := 4) (cs := #[.slice none 0 0]) (t := 30) ?_; intro gb508 hg w46 BK508 hb; obtain ⟨NB506_508, NB508_506⟩ := nez_ BK506 hg; obtain ⟨NB507_508, NB508_507⟩ := nez_ BK507 hg; have GW508 : Aside0 (w.heap.size ≤ gb508) := gez_ hg (w129_); have GE508 := GW508; replace HB := Az_ (btz_ (w129_) hb); replace BK506 := Az_ (ukbz_ BK506.out hb); replace BK507 := Az_ (ukbz_ BK507.out hb); clear hb hg; have hnb47 := NB506_507.out; have hnc47 := NB507_506.out; have hnb48 := NB506_508.out; have hnc48 := NB508_506.out; have hcz49_0 := cz_ (x := .slice A0_0 l0_0.length c0_0) BK506 0; have hfz49_0 := blk_frozen BK506.out 0) | ((with_reducible refine gate_callee (f := 57) rfl ?_); refine goesL_ (some 7) rfl rfl Tryd.func57 (w204_) rfl #[.agg #[.slice A0_0 l0_0.length c0_0]] rfl maz_ ?_; (with_reducible refine (spec_pzGood.calls k _ _ l0_0 true _ ?side1 ?side2 A3.out).mono ?_); (case side1 => exact ucz_ ((Kd.C_below HR0_0.out HB.out))); (case side2 => exact HC0_0.out); rintro e w50 ⟨rfl, hb⟩; refine ⟨_, rfl, ?_⟩; have n3_ := Az_ (btz_ (w129_) hb); clear HB; replace BK506 := Az_ (ukbz_ BK506.out hb); replace BK507 := Az_ (ukbz_ BK507.out hb); replace BK508 := Az_ (ukbz_ BK508.out hb); have HB := n3_; clear n3_; (try clear hb); have hnb51 := NB507_508.out; have hnc51 := NB508_507.out; have hcz52_0 := cz_ (x := .int .i64 a1_0) BK507 0; have hcz52_1 := cz_ (x := .int .i64 a1_1) BK507 1; have hcz52_2 := cz_ (x := .int .i64 a1_2) BK507 2; have hfz52_0 := blk_frozen BK507.out 0; have hfz52_1 := blk_frozen BK507.out 1; have hfz52_2 := blk_frozen BK507.out 2) | (go_at_call 61; (with_reducible refine (spec_pzClue.calls k a1_0 a1_1 a1_2 false _ A5.out).mono ?_); rintro e w53 ⟨rfl, hb⟩; have n3_ := Az_ (btz_ (w129_) hb); clear HB; replace BK506 := Az_ (ukbz_ BK506.out hb); replace BK507 := Az_ (ukbz_ BK507.out hb); replace BK508 := Az_ (ukbz_ BK508.out hb); have HB := n3_; clear n3_; (try clear hb); have hcz54_0 := cz_ (x := .slice none 0 0) BK508 0; have hfz54_0 := blk_frozen BK508.out 0))
   refine bodyPost_ret (results_ct rfl _ _ gb508 30 #[.slice none 0 0] (0, 0) _ rfl (w46_) Tryd.underlying30 rfl (w204_)) rfl ?_
   exact ⟨_, w166_, w130_, w129_⟩
  subst c6
  rw [if_pos rfl] at H
  by_cases c7 : (l0_0.length : Int) = 6
  ·rw [if_pos c7] at H
   have c7b0 : ((l0_0.length : Int) == 6) = true := beq_iff_eq.mpr c7
   have c7b1 : ((l0_0.length : Int) != 6) = false := bne_eq_false_iff_eq.mpr c7
   clear c7
   simp only [Option.some.injEq, Prod.mk.injEq] at H
   obtain ⟨rfl, rfl⟩ := H
   go_enter Tryd.func25, Tryd.ntmps25
   go_wp2_with (first | ((with_reducible refine gate_dst (N := 2) rfl ?_); (try (refine gate_guard (by rfl) ?_; dsimp only)); refine bxe_ (N := 2) (cs := #[.slice A0_0 l0_0.length c0_0]) (t := 30) ?_; intro gb506 hg w8 BK506 hb; have GW506 := gez_ hg (ubz_ HB.out); have GE506 := GW506; replace HB := Az_ (btz_ (ubz_ HB.out) hb); clear hb hg) | ((with_reducible refine gate_dst (N := 3) rfl ?_); (try (refine gate_guard (by rfl) ?_; dsimp only)); refine bxe_ (N := 3) (cs := #[.int .i64 a1_0, .int .i64 a1_1, .int .i64 a1_2]) (t := 40) ?_; intro gb507 hg w9 BK507 hb; obtain ⟨NB506_507, NB507_506⟩ := nez_ BK506 hg; have GW507 : Aside0 (w.heap.size ≤ gb507) := gez_ hg (w129_); have GE507 := GW507; replace HB := Az_ (btz_ (w129_) hb); replace BK506 := Az_ (ukbz_ BK506.out hb); clear hb hg) | ((with_reducible refine gate_dst (N := 4) rfl ?_); (try (refine gate_guard (by rfl) ?_; dsimp only)); refine bxe_ (N := 4) (cs := #[.slice none 0 0]) (t := 30) ?_; intro gb508 hg w10 BK508 hb; obtain ⟨NB506_508, NB508_506⟩ := nez_ BK506 hg; obtain ⟨NB507_508, NB508_507⟩ := nez_ BK507 hg; have GW508 : Aside0 (w.heap.size ≤ gb508) := gez_ hg (w129_); have GE508 := GW508; replace HB := Az_ (btz_ (w129_) hb); replace BK506 := Az_ (ukbz_ BK506.out hb); replace BK507 := Az_ (ukbz_ BK507.out hb); clear hb hg; have hnb11 := NB506_507.out; have hnc11 := NB507_506.out; have hnb12 := NB506_508.out; have hnc12 := NB508_506.out; have hcz13_0 := cz_ (x := .slice A0_0 l0_0.length c0_0) BK506 0; have hfz13_0 := blk_frozen BK506.out 0) | ((with_reducible refine gate_callee (f := 57) rfl ?_); refine goesL_ (some 7) rfl rfl Tryd.func57 (w204_) rfl #[.agg #[.slice A0_0 l0_0.length c0_0]] rfl maz_ ?_; (with_reducible refine (spec_pzGood.calls k _ _ l0_0 true _ ?side1 ?side2 A3.out).mono ?_); (case side1 => exact ucz_ ((Kd.C_below HR0_0.out HB.out))); (case side2 => exact HC0_0.out); rintro e w14 ⟨rfl, hb⟩; refine ⟨_, rfl, ?_⟩; have n3_ := Az_ (btz_ (w129_) hb); clear HB; replace BK506 := Az_ (ukbz_ BK506.out hb); replace BK507 := Az_ (ukbz_ BK507.out hb); replace BK508 := Az_ (ukbz_ BK508.out hb); have HB := n3_; clear n3_; (try clear hb); have hnb15 := NB507_508.out; have hnc15 := NB508_507.out; have hcz16_0 := cz_ (x := .int .i64 a1_0) BK507 0; have hcz16_1 := cz_ (x := .int .i64 a1_1) BK507 1; have hcz16_2 := cz_ (x := .int .i64 a1_2) BK507 2; have hfz16_0 := blk_frozen BK507.out 0; have hfz16_1 := blk_frozen BK507.out 1; have hfz16_2 := blk_frozen BK507.out 2) | (go_at_call 61; (with_reducible refine (spec_pzClue.calls k a1_0 a1_1 a1_2 true _ A5.out).mono ?_); rintro e w17 ⟨rfl, hb⟩; have n3_ := Az_ (btz_ (w129_) hb); clear HB; replace BK506 := Az_ (ukbz_ BK506.out hb); replace BK507 := Az_ (ukbz_ BK507.out hb); replace BK508 := Az_ (ukbz_ BK508.out hb); have HB := n3_; clear n3_; (try clear hb); have hcz18_0 := cz_ (x := .slice A0_0 l0_0.length c0_0) BK506 0; have hfz18_0 := blk_frozen BK506.out 0; have hcz19_0 := cz_ (x := .slice none 0 0) BK508 0; have hfz19_0 := blk_frozen BK508.out 0))
   refine bodyPost_ret (results_ct rfl _ _ gb508 30 #[.slice none 0 0] (0, 0) _ rfl (w46_) Tryd.underlying30 rfl (w204_)) rfl ?_
   exact ⟨_, w166_, w130_, w129_⟩
  rw [if_neg c7] at H
  have c7b0 : ((l0_0.length : Int) == 6) = false := beq_eq_false_iff_ne.mpr c7
  have c7b1 : ((l0_0.length : Int) != 6) = true := bne_iff_ne.mpr c7
  obtain ⟨y511, hy511⟩ : ∃ y_ : List (S40), y_ = (([] : List (S40))) := ⟨_, rfl⟩
  replace H : (if y511.length + l0_0.length < 5864062014805 then ((some (y511 ++ l0_0 : List (S40))).bind fun y514 => ((some (([(⟨a1_0, a1_1, a1_2⟩ : S40)] : List (S40)) : List (S40))).bind fun y517 => (if y514.length + y517.length < 5864062014805 then (some ((y514 ++ y517), true)) else (none)))) else (none)) = some (r1, r2) := by first | (rw [hy511]; with_reducible exact H) | (have H2_ := (Option.bind_some _ _).symm.trans H; rw [hy511]; with_reducible exact H2_) | (have H2_ := (Option.bind_some _ _).symm.trans H; with_reducible exact H2_) | with_reducible exact H | (rw [hy511]; exact H) | exact H
  have Ny511 := Az_ hy511
  clear hy511
  by_cases c20 : y511.length + l0_0.length < 5864062014805; rotate_left
  ·rw [if_neg c20] at H
   exact absurd H (by simp)
  rw [if_pos c20] at H
  have LMc20 := Az_ c20
  clear c20
  obtain ⟨y514, hy514⟩ : ∃ y_ : List (S40), y_ = (y511 ++ l0_0) := ⟨_, rfl⟩
  replace H : ((some (([(⟨a1_0, a1_1, a1_2⟩ : S40)] : List (S40)) : List (S40))).bind fun y517 => (if y514.length + y517.length < 5864062014805 then (some ((y514 ++ y517), true)) else (none))) = some (r1, r2) := by first | (rw [hy514]; with_reducible exact H) | (have H2_ := (Option.bind_some _ _).symm.trans H; rw [hy514]; with_reducible exact H2_) | (have H2_ := (Option.bind_some _ _).symm.trans H; with_reducible exact H2_) | with_reducible exact H | (rw [hy514]; exact H) | exact H
  have Ny514 := Az_ hy514
  clear hy514
  obtain ⟨y517, hy517⟩ : ∃ y_ : List (S40), y_ = (([(⟨a1_0, a1_1, a1_2⟩ : S40)] : List (S40))) := ⟨_, rfl⟩
  replace H : (if y514.length + y517.length < 5864062014805 then (some ((y514 ++ y517), true)) else (none)) = some (r1, r2) := by first | (rw [hy517]; with_reducible exact H) | (have H2_ := (Option.bind_some _ _).symm.trans H; rw [hy517]; with_reducible exact H2_) | (have H2_ := (Option.bind_some _ _).symm.trans H; with_reducible exact H2_) | with_reducible exact H | (rw [hy517]; exact H) | exact H
  have Ny517 := Az_ hy517
  clear hy517
  by_cases c21 : y514.length + y517.length < 5864062014805; rotate_left
  ·rw [if_neg c21] at H
   exact absurd H (by simp)
  rw [if_pos c21] at H
  have LMc21 := Az_ c21
  clear c21
  obtain ⟨y520, hy520⟩ : ∃ y_ : List (S40), y_ = (y514 ++ y517) := ⟨_, rfl⟩
  replace H : (some (y520, true)) = some (r1, r2) := by first | (rw [hy520]; with_reducible exact H) | (have H2_ := (Option.bind_some _ _).symm.trans H; rw [hy520]; with_reducible exact H2_) | (have H2_ := (Option.bind_some _ _).symm.trans H; with_reducible exact H2_) | with_reducible exact H | (rw [hy520]; exact H) | exact H
  have Ny520 := Az_ hy520
  clear hy520
  simp only [Option.some.injEq, Prod.mk.injEq] at H
  obtain ⟨rfl, rfl⟩ := H
  go_enter Tryd.func25, Tryd.ntmps25
  try go_wp2_with (first | ((with_reducible refine gate_dst (N := 2) rfl ?_); (try (refine gate_guard (by rfl) ?_; dsimp only)); refine bxe_ (N := 2) (cs := #[.slice A0_0 l0_0.length c0_0]) (t := 30) ?_; intro gb506 hg w22 BK506 hb; have GW506 := gez_ hg (ubz_ HB.out); have GE506 := GW506; replace HB := Az_ (btz_ (ubz_ HB.out) hb); clear hb hg) | ((with_reducible refine gate_dst (N := 3) rfl ?_); (try (refine gate_guard (by rfl) ?_; dsimp only)); refine bxe_ (N := 3) (cs := #[.int .i64 a1_0, .int .i64 a1_1, .int .i64 a1_2]) (t := 40) ?_; intro gb507 hg w23 BK507 hb; obtain ⟨NB506_507, NB507_506⟩ := nez_ BK506 hg; have GW507 : Aside0 (w.heap.size ≤ gb507) := gez_ hg (w129_); have GE507 := GW507; replace HB := Az_ (btz_ (w129_) hb); replace BK506 := Az_ (ukbz_ BK506.out hb); clear hb hg) | ((with_reducible refine gate_dst (N := 4) rfl ?_); (try (refine gate_guard (by rfl) ?_; dsimp only)); refine bxe_ (N := 4) (cs := #[.slice none 0 0]) (t := 30) ?_; intro gb508 hg w24 BK508 hb; obtain ⟨NB506_508, NB508_506⟩ := nez_ BK506 hg; obtain ⟨NB507_508, NB508_507⟩ := nez_ BK507 hg; have GW508 : Aside0 (w.heap.size ≤ gb508) := gez_ hg (w129_); have GE508 := GW508; replace HB := Az_ (btz_ (w129_) hb); replace BK506 := Az_ (ukbz_ BK506.out hb); replace BK507 := Az_ (ukbz_ BK507.out hb); clear hb hg; have hnb25 := NB506_507.out; have hnc25 := NB507_506.out; have hnb26 := NB506_508.out; have hnc26 := NB508_506.out; have hcz27_0 := cz_ (x := .slice A0_0 l0_0.length c0_0) BK506 0; have hfz27_0 := blk_frozen BK506.out 0) | ((with_reducible refine gate_callee (f := 57) rfl ?_); refine goesL_ (some 7) rfl rfl Tryd.func57 (w204_) rfl #[.agg #[.slice A0_0 l0_0.length c0_0]] rfl maz_ ?_; (with_reducible refine (spec_pzGood.calls k _ _ l0_0 true _ ?side1 ?side2 A3.out).mono ?_); (case side1 => exact ucz_ ((Kd.C_below HR0_0.out HB.out))); (case side2 => exact HC0_0.out); rintro e w28 ⟨rfl, hb⟩; refine ⟨_, rfl, ?_⟩; have n3_ := Az_ (btz_ (w129_) hb); clear HB; replace BK506 := Az_ (ukbz_ BK506.out hb); replace BK507 := Az_ (ukbz_ BK507.out hb); replace BK508 := Az_ (ukbz_ BK508.out hb); have HB := n3_; clear n3_; (try clear hb); have hnb29 := NB507_508.out; have hnc29 := NB508_507.out; have hcz30_0 := cz_ (x := .int .i64 a1_0) BK507 0; have hcz30_1 := cz_ (x := .int .i64 a1_1) BK507 1; have hcz30_2 := cz_ (x := .int .i64 a1_2) BK507 2; have hfz30_0 := blk_frozen BK507.out 0; have hfz30_1 := blk_frozen BK507.out 1; have hfz30_2 := blk_frozen BK507.out 2) | (go_at_call 61; (with_reducible refine (spec_pzClue.calls k a1_0 a1_1 a1_2 true _ A5.out).mono ?_); rintro e w31 ⟨rfl, hb⟩; have n3_ := Az_ (btz_ (w129_) hb); clear HB; replace BK506 := Az_ (ukbz_ BK506.out hb); replace BK507 := Az_ (ukbz_ BK507.out hb); replace BK508 := Az_ (ukbz_ BK508.out hb); have HB := n3_; clear n3_; (try clear hb); have hcz32_0 := cz_ (x := .slice A0_0 l0_0.length c0_0) BK506 0; have hfz32_0 := blk_frozen BK506.out 0))
  replace BK506 := Az_ (kdz_ BK506.out)
  replace BK507 := Az_ (kdz_ BK507.out)
  replace BK508 := Az_ (kdz_ BK508.out)
  replace HB := Az_ (bdz_ HB.out)
  refine start_ (n := 10) (S := fun w' => w'.cell? ⟨gb506, 0, none⟩ = some (.slice A0_0 l0_0.length c0_0) ∧ w'.cell? ⟨gb507, 0, none⟩ = some (.int .i64 a1_0) ∧ w'.cell? ⟨gb507, 1, none⟩ = some (.int .i64 a1_1) ∧ w'.cell? ⟨gb507, 2, none⟩ = some (.int .i64 a1_2)) (ds := []) #[false, false, false, false, false, false, false, false, false, false] (w204_) rfl rfl ⟨(blk_cell BK506.out 0).trans rfl, (blk_cell BK507.out 0).trans rfl, (blk_cell BK507.out 1).trans rfl, (blk_cell BK507.out 2).trans rfl⟩ (fun hHeld => ?_); refine with_tabW spec_AddClue.tab3 spec_AddClue.bits3 (fun HT_ HW_ => ?_)
  generalize w31.drew = w33 at BK506 BK507 BK508 HB hHeld ⊢
  refine pz_ 1 22 [0,1,1,8] ?_
  refine tz4_ 2 23 [0,1,2,7] ?_
  refine tz4_ 4 25 [0,1,2,1,1,5] ?_
  refine join_ (σ := Value × Value × Value) 4 #[true, true, true, true, true, true, false, false, false, false] (fun s_ => [(21, s_.1), (24, s_.2.1), (26, s_.2.2)]) (fun s_ w' => (w'.cell? ⟨gb506, 0, none⟩ = some (.slice A0_0 l0_0.length c0_0) ∧ w'.cell? ⟨gb507, 0, none⟩ = some (.int .i64 a1_0) ∧ w'.cell? ⟨gb507, 1, none⟩ = some (.int .i64 a1_1) ∧ w'.cell? ⟨gb507, 2, none⟩ = some (.int .i64 a1_2)) ∧ (Kd.R k40 40 w' w.heap.size (fun k_ => some k_ ≠ (s_.2.2 : Value).ownBlock ∧ k_ ≠ gb507) s_.2.1 y514) ∧ (Kd.R k40 40 w' w.heap.size (fun k_ => some k_ ≠ (s_.2.1 : Value).ownBlock ∧ k_ ≠ gb507) s_.2.2 y517) ∧ (w'.heap[gb506]? = some (.cells #[.slice A0_0 l0_0.length c0_0] 30 (0, 0))) ∧ (w'.heap[gb507]? = some (.cells #[.int .i64 a1_0, .int .i64 a1_1, .int .i64 a1_2] 40 (0, 0))) ∧ (w'.heap[gb508]? = some (.cells #[.slice none 0 0] 30 (0, 0))) ∧ (Below w.heap.size w w')) ?_ ?_
  rotate_left
  ·intro hCont
   refine two_ (i := 0) (j := 5) (Ni := some 21) (Nj := some 26) (mz_ [3,1,1,5]) #[false, true, true, false, true, true, false, false, false, false] rfl rfl rfl rfl (two_of HT_.out (w204_)) (by decide) (by decide) (fun K hK => ?_) (fun K hK => ?_)
   ·skip
    refine Kd.R_lit_step k40 _ 40 ?hg (N := 21) ?hd (xs := ([] : List (S40))) (inner := []) (ok := fun _ => True) (okp := fun _ => True) ?hr ?hp (fun _ hk => hk) trivial (Below.refl _ _) (Nat.le_refl _) (by simp) ?_; (case hd => rfl); (case hg => rfl); (case hr => first | (go_simp; done) | (go_simp; rfl)); (case hp => exact (Reps.none _ _))
    intro v512 w34 ho35 hb hg_ hnew_
    clear hg_ hnew_
    (first | rw [← Ny511.out] at ho35 | (simp only [Int.reduceToNat] at ho35; rw [← Ny511.out] at ho35))
    have n0_ := Az_ (Kd.R_lower (Kd.R_newB ho35 (g := gb507) (o := .cells #[.int .i64 a1_0, .int .i64 a1_1, .int .i64 a1_2] 40 (0, 0)) (w188_)) (below_size (w129_)))
    have n4_ := Az_ (btz_ (w129_) hb)
    clear HB
    have HO513 := n0_
    replace BK506 := Az_ (ukbz_ BK506.out hb)
    replace BK507 := Az_ (ukbz_ BK507.out hb)
    replace BK508 := Az_ (ukbz_ BK508.out hb)
    have HB := n4_
    clear n0_ n4_ hb ho35
    refine hK.out _ _ ⟨(blk_cell BK506.out 0).trans rfl, (blk_cell BK507.out 0).trans rfl, (blk_cell BK507.out 1).trans rfl, (blk_cell BK507.out 2).trans rfl⟩ (fun hHeld => ?_)
    clear hK K
    refine nz_ 21 ?_
    refine two_ (i := 3) (j := 5) (Ni := some 24) (Nj := some 26) (mz_ [5,5]) #[true, true, true, false, true, true, false, false, false, false] rfl rfl rfl rfl (two_of HT_.out (w204_)) (by decide) (by decide) (fun K hK => ?_) (fun K hK => ?_)
    ·skip
     refine Kd.R_append_rows_step k40 (w0 := w) w.heap.size (by rfl) (.tmp 21) (.tmp 23) 28 40 (.agg #[(.int .i64 0), (.int .i64 0), (.int .i64 0)]) 24 rfl Tryd.underlying28 info40 rfl (by decide) (by omega) v512 y511 l0_0 _ _ _ (fun k_ => k_ ≠ gb507) (fun _ => False) rfl rfl ?aO ?aR (fun _ _ h => h) (fun _ h => h.elim) ?aF ?aB ?aS ?aL ?_
     (case aR => repeat (first | exact (Kd.C_below HR0_0.out HB.out) | (with_reducible refine Kd.C_alloc ?_ _) | (with_reducible refine Kd.C_drewN ?_ _) | (with_reducible refine Kd.C_drew ?_)))
     (case aB => exact (w129_))
     (case aF => exact (fun k_ hk => Kd.freshB (g := gb507) (o := .cells #[.int .i64 a1_0, .int .i64 a1_1, .int .i64 a1_2] 40 (0, 0)) (w188_) k_ hk))
     (case aO => exact (by (with_reducible repeat (first | apply raz_ | apply rnz_ | apply rdz_)); exact Kd.R_mono HO513.out (fun _ hk => hk.2)))
     (case aS => exact (below_size (w129_)))
     (case aL => have := LMc20.out; omega)
     intro v515 w36 ho hb hg hat
     rw [← Ny514.out] at ho
     replace BK506 := Az_ (blk_grown (g := gb506) (o := .cells #[.slice A0_0 l0_0.length c0_0] 30 (0, 0)) (by exact ukz_ BK506.out) hg (Kd.R_ne HO513.out BK506.out (by decide)))
     replace BK507 := Az_ (blk_grown (g := gb507) (o := .cells #[.int .i64 a1_0, .int .i64 a1_1, .int .i64 a1_2] 40 (0, 0)) (w188_) hg (Kd.R_away HO513.out (fun _ hk => hk.2)))
     replace BK508 := Az_ (blk_grown (g := gb508) (o := .cells #[.slice none 0 0] 30 (0, 0)) (by exact ukz_ BK508.out) hg (Kd.R_ne HO513.out BK508.out (by decide)))
     replace HB := Az_ (hb)
     have HO516 := Az_ (ho)
     clear HO513
     refine hK.out _ _ ⟨(blk_cell BK506.out 0).trans rfl, (blk_cell BK507.out 0).trans rfl, (blk_cell BK507.out 1).trans rfl, (blk_cell BK507.out 2).trans rfl⟩ (fun hHeld => ?_)
     clear hK K
     refine nz_ 24 ?_
     refine one_ (i := 5) (N := some 26) (mz_ [6,4]) rfl rfl (one_of HT_.out (w204_)) (by decide) (fun K hK => ?_)
     refine Kd.R_lit_step k40 _ 40 ?hg (N := 26) ?hd (xs := ([(⟨a1_0, a1_1, a1_2⟩ : S40)] : List (S40))) (inner := [.int .i64 a1_0, .int .i64 a1_1, .int .i64 a1_2]) (ok := fun _ => True) (okp := fun _ => True) ?hr ?hp (fun _ hk => hk) trivial (Below.refl _ _) (Nat.le_refl _) (by simp) ?_; (case hd => rfl); (case hg => rfl); (case hr => first | (go_simp; done) | (go_simp; rfl)); (case hp => exact (Reps.c3 (show Kd.M k40 _ _ _ (⟨a1_0, a1_1, a1_2⟩ : S40) [.int .i64 a1_0, .int .i64 a1_1, .int .i64 a1_2] from (k40_mkM _ _ _ (⟨a1_0, a1_1, a1_2⟩ : S40) )) (Reps.none _ _)))
     intro v518 w37 ho38 hb hg_ hnew_
     clear hg_ hnew_
     (first | rw [← Ny517.out] at ho38 | (simp only [Int.reduceToNat] at ho38; rw [← Ny517.out] at ho38))
     have n0_ := Az_ (rez_ (by exact urz_ HO516.out) (Kd.R_base ho38) hb)
     have n1_ := Az_ (Kd.R_lower (Kd.R_newB (Kd.R_new' ho38 (Kd.R_lt (by exact urz_ HO516.out))) (g := gb507) (o := .cells #[.int .i64 a1_0, .int .i64 a1_1, .int .i64 a1_2] 40 (0, 0)) (w188_)) (below_size (w129_)))
     have n5_ := Az_ (btz_ (w129_) hb)
     clear HO516 HB
     have HO516 := n0_
     have HO519 := n1_
     replace BK506 := Az_ (ukbz_ BK506.out hb)
     replace BK507 := Az_ (ukbz_ BK507.out hb)
     replace BK508 := Az_ (ukbz_ BK508.out hb)
     have HB := n5_
     clear n0_ n1_ n5_ hb ho38
     refine hK.out _ _ ⟨(blk_cell BK506.out 0).trans rfl, (blk_cell BK507.out 0).trans rfl, (blk_cell BK507.out 1).trans rfl, (blk_cell BK507.out 2).trans rfl⟩ (fun hHeld => ?_)
     clear hK K
     refine nz_ 26 ?_
     exact norm_ (w165_) (hCont (v512, v515, v518) _ ⟨hHeld, (by (with_reducible repeat (first | apply raz_ | apply rnz_ | apply rdz_)); exact Kd.R_mono HO516.out (fun _ hk => ⟨hk.2, hk.1⟩)), (w137_), (by exact ukz_ BK506.out), (w188_), (by exact ukz_ BK508.out), (w129_)⟩)
    ·skip
     refine Kd.R_lit_step k40 _ 40 ?hg (N := 26) ?hd (xs := ([(⟨a1_0, a1_1, a1_2⟩ : S40)] : List (S40))) (inner := [.int .i64 a1_0, .int .i64 a1_1, .int .i64 a1_2]) (ok := fun _ => True) (okp := fun _ => True) ?hr ?hp (fun _ hk => hk) trivial (Below.refl _ _) (Nat.le_refl _) (by simp) ?_; (case hd => rfl); (case hg => rfl); (case hr => first | (go_simp; done) | (go_simp; rfl)); (case hp => exact (Reps.c3 (show Kd.M k40 _ _ _ (⟨a1_0, a1_1, a1_2⟩ : S40) [.int .i64 a1_0, .int .i64 a1_1, .int .i64 a1_2] from (k40_mkM _ _ _ (⟨a1_0, a1_1, a1_2⟩ : S40) )) (Reps.none _ _)))
     intro v518 w36 ho37 hb hg_ hnew_
     clear hg_ hnew_
     (first | rw [← Ny517.out] at ho37 | (simp only [Int.reduceToNat] at ho37; rw [← Ny517.out] at ho37))
     have n0_ := Az_ (rez_ (by exact urz_ HO513.out) (Kd.R_base ho37) hb)
     have n1_ := Az_ (Kd.R_lower (Kd.R_newB (Kd.R_new' ho37 (Kd.R_lt (by exact urz_ HO513.out))) (g := gb507) (o := .cells #[.int .i64 a1_0, .int .i64 a1_1, .int .i64 a1_2] 40 (0, 0)) (w188_)) (below_size (w129_)))
     have n5_ := Az_ (btz_ (w129_) hb)
     clear HO513 HB
     have HO513 := n0_
     have HO519 := n1_
     replace BK506 := Az_ (ukbz_ BK506.out hb)
     replace BK507 := Az_ (ukbz_ BK507.out hb)
     replace BK508 := Az_ (ukbz_ BK508.out hb)
     have HB := n5_
     clear n0_ n1_ n5_ hb ho37
     refine hK.out _ _ ⟨(blk_cell BK506.out 0).trans rfl, (blk_cell BK507.out 0).trans rfl, (blk_cell BK507.out 1).trans rfl, (blk_cell BK507.out 2).trans rfl⟩ (fun hHeld => ?_)
     clear hK K
     refine nz_ 26 ?_
     refine one_ (i := 3) (N := some 24) (mz_ [6,4]) rfl rfl (one_of HT_.out (w204_)) (by decide) (fun K hK => ?_)
     refine Kd.R_append_rows_step k40 (w0 := w) w.heap.size (by rfl) (.tmp 21) (.tmp 23) 28 40 (.agg #[(.int .i64 0), (.int .i64 0), (.int .i64 0)]) 24 rfl Tryd.underlying28 info40 rfl (by decide) (by omega) v512 y511 l0_0 _ _ _ (fun k_ => some k_ ≠ (v518 : Value).ownBlock ∧ k_ ≠ gb507) (fun _ => False) rfl rfl ?aO ?aR (fun _ _ h => h) (fun _ h => h.elim) ?aF ?aB ?aS ?aL ?_
     (case aR => repeat (first | exact (Kd.C_below HR0_0.out HB.out) | (with_reducible refine Kd.C_alloc ?_ _) | (with_reducible refine Kd.C_drewN ?_ _) | (with_reducible refine Kd.C_drew ?_)))
     (case aB => exact (w129_))
     (case aF => exact (fun k_ hk => ⟨Kd.fresh' (Kd.R_lt (by exact urz_ HO519.out)) k_ hk, Kd.freshB (g := gb507) (o := .cells #[.int .i64 a1_0, .int .i64 a1_1, .int .i64 a1_2] 40 (0, 0)) (w188_) k_ hk⟩))
     (case aO => exact (by (with_reducible repeat (first | apply raz_ | apply rnz_ | apply rdz_)); exact Kd.R_mono HO513.out (fun _ hk => ⟨hk.2, hk.1.2⟩)))
     (case aS => exact (below_size (w129_)))
     (case aL => have := LMc20.out; omega)
     intro v515 w38 ho hb hg hat
     rw [← Ny514.out] at ho
     replace BK506 := Az_ (blk_grown (g := gb506) (o := .cells #[.slice A0_0 l0_0.length c0_0] 30 (0, 0)) (by exact ukz_ BK506.out) hg (Kd.R_ne HO513.out BK506.out (by decide)))
     replace BK507 := Az_ (blk_grown (g := gb507) (o := .cells #[.int .i64 a1_0, .int .i64 a1_1, .int .i64 a1_2] 40 (0, 0)) (w188_) hg (Kd.R_away HO513.out (fun _ hk => hk.1.2)))
     replace BK508 := Az_ (blk_grown (g := gb508) (o := .cells #[.slice none 0 0] 30 (0, 0)) (by exact ukz_ BK508.out) hg (Kd.R_ne HO513.out BK508.out (by decide)))
     replace HO519 := Az_ (Kd.R_after (ok := (fun k_ => k_ ≠ gb507)) (by (with_reducible repeat (first | apply raz_ | apply rnz_ | apply rdz_)); exact Kd.R_mono HO519.out (fun _ hk => ⟨hk.2, hk.1.2⟩)) hg hat)
     replace HB := Az_ (hb)
     have HO516 := Az_ (ho)
     clear HO513
     refine hK.out _ _ ⟨(blk_cell BK506.out 0).trans rfl, (blk_cell BK507.out 0).trans rfl, (blk_cell BK507.out 1).trans rfl, (blk_cell BK507.out 2).trans rfl⟩ (fun hHeld => ?_)
     clear hK K
     refine nz_ 24 ?_
     exact norm_ (w165_) (hCont (v512, v515, v518) _ ⟨hHeld, (by exact urz_ HO516.out), (w139_), (by exact ukz_ BK506.out), (w188_), (by exact ukz_ BK508.out), (w129_)⟩)
   ·skip
    refine Kd.R_lit_step k40 _ 40 ?hg (N := 26) ?hd (xs := ([(⟨a1_0, a1_1, a1_2⟩ : S40)] : List (S40))) (inner := [.int .i64 a1_0, .int .i64 a1_1, .int .i64 a1_2]) (ok := fun _ => True) (okp := fun _ => True) ?hr ?hp (fun _ hk => hk) trivial (Below.refl _ _) (Nat.le_refl _) (by simp) ?_; (case hd => rfl); (case hg => rfl); (case hr => first | (go_simp; done) | (go_simp; rfl)); (case hp => exact (Reps.c3 (show Kd.M k40 _ _ _ (⟨a1_0, a1_1, a1_2⟩ : S40) [.int .i64 a1_0, .int .i64 a1_1, .int .i64 a1_2] from (k40_mkM _ _ _ (⟨a1_0, a1_1, a1_2⟩ : S40) )) (Reps.none _ _)))
    intro v518 w34 ho35 hb hg_ hnew_
    clear hg_ hnew_
    (first | rw [← Ny517.out] at ho35 | (simp only [Int.reduceToNat] at ho35; rw [← Ny517.out] at ho35))
    have n0_ := Az_ (Kd.R_lower (Kd.R_newB ho35 (g := gb507) (o := .cells #[.int .i64 a1_0, .int .i64 a1_1, .int .i64 a1_2] 40 (0, 0)) (w188_)) (below_size (w129_)))
    have n4_ := Az_ (btz_ (w129_) hb)
    clear HB
    have HO519 := n0_
    replace BK506 := Az_ (ukbz_ BK506.out hb)
    replace BK507 := Az_ (ukbz_ BK507.out hb)
    replace BK508 := Az_ (ukbz_ BK508.out hb)
    have HB := n4_
    clear n0_ n4_ hb ho35
    refine hK.out _ _ ⟨(blk_cell BK506.out 0).trans rfl, (blk_cell BK507.out 0).trans rfl, (blk_cell BK507.out 1).trans rfl, (blk_cell BK507.out 2).trans rfl⟩ (fun hHeld => ?_)
    clear hK K
    refine nz_ 26 ?_
    refine one_ (i := 0) (N := some 21) (mz_ [3,1,2,4]) rfl rfl (one_of HT_.out (w204_)) (by decide) (fun K hK => ?_)
    refine Kd.R_lit_step k40 _ 40 ?hg (N := 21) ?hd (xs := ([] : List (S40))) (inner := []) (ok := fun _ => True) (okp := fun _ => True) ?hr ?hp (fun _ hk => hk) trivial (Below.refl _ _) (Nat.le_refl _) (by simp) ?_; (case hd => rfl); (case hg => rfl); (case hr => first | (go_simp; done) | (go_simp; rfl)); (case hp => exact (Reps.none _ _))
    intro v512 w36 ho37 hb hg_ hnew_
    clear hg_ hnew_
    (first | rw [← Ny511.out] at ho37 | (simp only [Int.reduceToNat] at ho37; rw [← Ny511.out] at ho37))
    have n0_ := Az_ (rez_ (by exact urz_ HO519.out) (Kd.R_base ho37) hb)
    have n1_ := Az_ (Kd.R_lower (Kd.R_newB (Kd.R_new' ho37 (Kd.R_lt (by exact urz_ HO519.out))) (g := gb507) (o := .cells #[.int .i64 a1_0, .int .i64 a1_1, .int .i64 a1_2] 40 (0, 0)) (w188_)) (below_size (w129_)))
    have n5_ := Az_ (btz_ (w129_) hb)
    clear HO519 HB
    have HO519 := n0_
    have HO513 := n1_
    replace BK506 := Az_ (ukbz_ BK506.out hb)
    replace BK507 := Az_ (ukbz_ BK507.out hb)
    replace BK508 := Az_ (ukbz_ BK508.out hb)
    have HB := n5_
    clear n0_ n1_ n5_ hb ho37
    refine hK.out _ _ ⟨(blk_cell BK506.out 0).trans rfl, (blk_cell BK507.out 0).trans rfl, (blk_cell BK507.out 1).trans rfl, (blk_cell BK507.out 2).trans rfl⟩ (fun hHeld => ?_)
    clear hK K
    refine nz_ 21 ?_
    refine one_ (i := 3) (N := some 24) (mz_ [6,4]) rfl rfl (one_of HT_.out (w204_)) (by decide) (fun K hK => ?_)
    refine Kd.R_append_rows_step k40 (w0 := w) w.heap.size (by rfl) (.tmp 21) (.tmp 23) 28 40 (.agg #[(.int .i64 0), (.int .i64 0), (.int .i64 0)]) 24 rfl Tryd.underlying28 info40 rfl (by decide) (by omega) v512 y511 l0_0 _ _ _ (fun k_ => some k_ ≠ (v518 : Value).ownBlock ∧ k_ ≠ gb507) (fun _ => False) rfl rfl ?aO ?aR (fun _ _ h => h) (fun _ h => h.elim) ?aF ?aB ?aS ?aL ?_
    (case aR => repeat (first | exact (Kd.C_below HR0_0.out HB.out) | (with_reducible refine Kd.C_alloc ?_ _) | (with_reducible refine Kd.C_drewN ?_ _) | (with_reducible refine Kd.C_drew ?_)))
    (case aB => exact (w129_))
    (case aF => exact (fun k_ hk => ⟨Kd.fresh' (Kd.R_lt (by exact urz_ HO519.out)) k_ hk, Kd.freshB (g := gb507) (o := .cells #[.int .i64 a1_0, .int .i64 a1_1, .int .i64 a1_2] 40 (0, 0)) (w188_) k_ hk⟩))
    (case aO => exact (by (with_reducible repeat (first | apply raz_ | apply rnz_ | apply rdz_)); exact Kd.R_mono HO513.out (fun _ hk => ⟨hk.1.2, hk.2⟩)))
    (case aS => exact (below_size (w129_)))
    (case aL => have := LMc20.out; omega)
    intro v515 w38 ho hb hg hat
    rw [← Ny514.out] at ho
    replace BK506 := Az_ (blk_grown (g := gb506) (o := .cells #[.slice A0_0 l0_0.length c0_0] 30 (0, 0)) (by exact ukz_ BK506.out) hg (Kd.R_ne HO513.out BK506.out (by decide)))
    replace BK507 := Az_ (blk_grown (g := gb507) (o := .cells #[.int .i64 a1_0, .int .i64 a1_1, .int .i64 a1_2] 40 (0, 0)) (w188_) hg (Kd.R_away HO513.out (fun _ hk => hk.2)))
    replace BK508 := Az_ (blk_grown (g := gb508) (o := .cells #[.slice none 0 0] 30 (0, 0)) (by exact ukz_ BK508.out) hg (Kd.R_ne HO513.out BK508.out (by decide)))
    replace HO519 := Az_ (Kd.R_after (ok := (fun k_ => k_ ≠ gb507)) (w137_) hg hat)
    replace HB := Az_ (hb)
    have HO516 := Az_ (ho)
    clear HO513
    refine hK.out _ _ ⟨(blk_cell BK506.out 0).trans rfl, (blk_cell BK507.out 0).trans rfl, (blk_cell BK507.out 1).trans rfl, (blk_cell BK507.out 2).trans rfl⟩ (fun hHeld => ?_)
    clear hK K
    refine nz_ 24 ?_
    exact norm_ (w165_) (hCont (v512, v515, v518) _ ⟨hHeld, (by exact urz_ HO516.out), (w139_), (by exact ukz_ BK506.out), (w188_), (by exact ukz_ BK508.out), (w129_)⟩)
  rintro ⟨v512, v515, v518⟩ w39 ⟨hS_, h0_, h1_, h2_, h3_, h4_, h5_⟩
  have n0_ : Aside0 (Kd.R k40 40 w39 w.heap.size (fun k_ => some k_ ≠ (v518 : Value).ownBlock ∧ k_ ≠ gb507) v515 y514) := ⟨h0_⟩
  have n1_ : Aside0 (Kd.R k40 40 w39 w.heap.size (fun k_ => some k_ ≠ (v515 : Value).ownBlock ∧ k_ ≠ gb507) v518 y517) := ⟨h1_⟩
  have n2_ : Aside0 (w39.heap[gb506]? = some (.cells #[.slice A0_0 l0_0.length c0_0] 30 (0, 0))) := ⟨h2_⟩
  have n3_ : Aside0 (w39.heap[gb507]? = some (.cells #[.int .i64 a1_0, .int .i64 a1_1, .int .i64 a1_2] 40 (0, 0))) := ⟨h3_⟩
  have n4_ : Aside0 (w39.heap[gb508]? = some (.cells #[.slice none 0 0] 30 (0, 0))) := ⟨h4_⟩
  have n5_ : Aside0 (Below w.heap.size w w39) := ⟨h5_⟩
  clear BK506 BK507 BK508 HB h0_ h1_ h2_ h3_ h4_ h5_
  have HO516 := n0_
  have HO519 := n1_
  have BK506 := n2_
  have BK507 := n3_
  have BK508 := n4_
  have HB := n5_
  clear n0_ n1_ n2_ n3_ n4_ n5_
  have hHeld : w39.cell? ⟨gb506, 0, none⟩ = some (.slice A0_0 l0_0.length c0_0) ∧ w39.cell? ⟨gb507, 0, none⟩ = some (.int .i64 a1_0) ∧ w39.cell? ⟨gb507, 1, none⟩ = some (.int .i64 a1_1) ∧ w39.cell? ⟨gb507, 2, none⟩ = some (.int .i64 a1_2) := hS_
  obtain ⟨Ao41, co41, eo41⟩ := Kd.R_slice HO519.out
  (first | subst eo41 | (injection eo41 with f1_ f2_ f3_; have f4_ := f1_.symm; have f5_ := f3_.symm; clear f1_ f2_ f3_; subst f4_; subst f5_))
  refine norm_ (a' := ?_) ?_ ?_
  rotate_left
  ·simp only [putAll, Act.put, List.setIfInBounds_toArray, List.set_cons_zero, List.set_cons_succ]
   rfl
  refine one_ (i := 6) (N := some 27) (mz_ [7,3]) rfl rfl (one_of HT_.out (w204_)) (by decide) (fun K hK => ?_)
  refine Kd.R_append_rows_step k40 (w0 := w) w.heap.size (by rfl) (.tmp 24) (.tmp 26) 28 40 (.agg #[(.int .i64 0), (.int .i64 0), (.int .i64 0)]) 24 rfl Tryd.underlying28 info40 rfl (by decide) (by omega) v515 y514 y517 _ _ _ (fun k_ => some k_ ≠ (.slice Ao41 y517.length co41 : Value).ownBlock ∧ k_ ≠ gb507) (fun _ => False) rfl rfl ?aO ?aR (fun _ _ h => h) (fun _ h => h.elim) ?aF ?aB ?aS ?aL ?_
  (case aR => repeat (first | exact (Kd.R_reads' HO519.out).2.2 | (with_reducible refine Kd.C_alloc ?_ _) | (with_reducible refine Kd.C_drewN ?_ _) | (with_reducible refine Kd.C_drew ?_)))
  (case aB => exact (w129_))
  (case aF => exact (fun k_ hk => ⟨Kd.fresh' (Kd.R_lt (by exact urz_ HO519.out)) k_ hk, Kd.freshB (g := gb507) (o := .cells #[.int .i64 a1_0, .int .i64 a1_1, .int .i64 a1_2] 40 (0, 0)) (w188_) k_ hk⟩))
  (case aO => exact (by exact urz_ HO516.out))
  (case aS => exact (below_size (w129_)))
  (case aL => have := LMc21.out; omega)
  intro v521 w40 ho hb hg hat
  rw [← Ny520.out] at ho
  replace BK506 := Az_ (blk_grown (g := gb506) (o := .cells #[.slice A0_0 l0_0.length c0_0] 30 (0, 0)) (by exact ukz_ BK506.out) hg (Kd.R_ne HO516.out BK506.out (by decide)))
  replace BK507 := Az_ (blk_grown (g := gb507) (o := .cells #[.int .i64 a1_0, .int .i64 a1_1, .int .i64 a1_2] 40 (0, 0)) (w188_) hg (Kd.R_away HO516.out (fun _ hk => hk.2)))
  replace BK508 := Az_ (blk_grown (g := gb508) (o := .cells #[.slice none 0 0] 30 (0, 0)) (by exact ukz_ BK508.out) hg (Kd.R_ne HO516.out BK508.out (by decide)))
  replace HO519 := Az_ (Kd.R_after (ok := (fun k_ => k_ ≠ gb507)) (w139_) hg hat)
  replace HB := Az_ (hb)
  have HO522 := Az_ (ho)
  clear HO516
  obtain ⟨Ao42, co42, eo42⟩ := Kd.R_slice HO522.out
  (first | subst eo42 | (injection eo42 with f1_ f2_ f3_; have f4_ := f1_.symm; have f5_ := f3_.symm; clear f1_ f2_ f3_; subst f4_; subst f5_))
  refine hK.out _ _ ⟨(blk_cell BK506.out 0).trans rfl, (blk_cell BK507.out 0).trans rfl, (blk_cell BK507.out 1).trans rfl, (blk_cell BK507.out 2).trans rfl⟩ (fun hHeld => ?_)
  clear hK K
  refine nz_ 27 ?_
  refine pz_ 7 28 [8,2] ?_
  refine one_ (i := 8) (N := none) (mz_ [9,1]) rfl rfl (one_of HT_.out (w204_)) (by decide) (fun K hK => ?_)
  have hs43 : w40.cell? ⟨gb508, 0, none⟩ = some (.slice none 0 0) := (blk_cell BK508.out 0).trans rfl
  have hfs43 := blk_frozen BK508.out 0
  have hns43_0 := NB506_508.out
  have hns43_1 := NB507_508.out
  have hms43_0 := NB508_506.out
  have hms43_1 := NB508_507.out
  refine skip_ (w1 := ?_) (by rfl) rfl ?_ ?_
  rotate_left
  ·go_simp
   rfl
  refine hK.out _ _ ⟨((cell_far (p := ⟨gb508, _, none⟩) NB506_508.out _).trans (hHeld.1)), ((cell_far (p := ⟨gb508, _, none⟩) NB507_508.out _).trans (hHeld.2.1)), ((cell_far (p := ⟨gb508, _, none⟩) NB507_508.out _).trans (hHeld.2.2.1)), ((cell_far (p := ⟨gb508, _, none⟩) NB507_508.out _).trans (hHeld.2.2.2))⟩ (fun hHeld => ?_)
  clear hK K
  refine pz_ 9 5 [10] ?_
  refine done_ (done_of HT_.out (w204_)) ?_
  try go_wp2
  refine bodyPost_ret (results_ct rfl _ _ gb508 30 #[.slice Ao42 y520.length co42] (0, 0) _ rfl (w46_) Tryd.underlying30 rfl (w204_)) rfl ?_
  exact ⟨_, w166_, by (with_reducible repeat (first | apply raz_ | apply rnz_ | apply rdz_)); exact Kd.R_mono (Kd.R_far (p := ⟨gb508, 0, none⟩) (Kd.R_types HO522.out BK508.out (by decide)) (fun _ hk => hk.2) (.slice Ao42 y520.length co42)) (fun _ hk => trivial), w129_⟩
 ·replace c4 := Bool.eq_false_iff.mpr c4
  subst c4
  rw [if_neg nfz_] at H
  simp only [Option.some.injEq, Prod.mk.injEq] at H
  obtain ⟨rfl, rfl⟩ := H
  go_enter Tryd.func25, Tryd.ntmps25
  go_wp2_with (first | ((with_reducible refine gate_dst (N := 2) rfl ?_); (try (refine gate_guard (by rfl) ?_; dsimp only)); refine bxe_ (N := 2) (cs := #[.slice A0_0 l0_0.length c0_0]) (t := 30) ?_; intro gb506 hg w55 BK506 hb; have GW506 := gez_ hg (ubz_ HB.out); have GE506 := GW506; replace HB := Az_ (btz_ (ubz_ HB.out) hb); clear hb hg) | ((with_reducible refine gate_dst (N := 3) rfl ?_); (try (refine gate_guard (by rfl) ?_; dsimp only)); refine bxe_ (N := 3) (cs := #[.int .i64 a1_0, .int .i64 a1_1, .int .i64 a1_2]) (t := 40) ?_; intro gb507 hg w56 BK507 hb; obtain ⟨NB506_507, NB507_506⟩ := nez_ BK506 hg; have GW507 : Aside0 (w.heap.size ≤ gb507) := gez_ hg (w129_); have GE507 := GW507; replace HB := Az_ (btz_ (w129_) hb); replace BK506 := Az_ (ukbz_ BK506.out hb); clear hb hg) | ((with_reducible refine gate_dst (N := 4) rfl ?_); (try (refine gate_guard (by rfl) ?_; dsimp only)); refine bxe_ (N := 4) (cs := #[.slice none 0 0]) (t := 30) ?_; intro gb508 hg w57 BK508 hb; obtain ⟨NB506_508, NB508_506⟩ := nez_ BK506 hg; obtain ⟨NB507_508, NB508_507⟩ := nez_ BK507 hg; have GW508 : Aside0 (w.heap.size ≤ gb508) := gez_ hg (w129_); have GE508 := GW508; replace HB := Az_ (btz_ (w129_) hb); replace BK506 := Az_ (ukbz_ BK506.out hb); replace BK507 := Az_ (ukbz_ BK507.out hb); clear hb hg; have hnb58 := NB506_507.out; have hnc58 := NB507_506.out; have hnb59 := NB506_508.out; have hnc59 := NB508_506.out; have hcz60_0 := cz_ (x := .slice A0_0 l0_0.length c0_0) BK506 0; have hfz60_0 := blk_frozen BK506.out 0) | ((with_reducible refine gate_callee (f := 57) rfl ?_); refine goesL_ (some 7) rfl rfl Tryd.func57 (w204_) rfl #[.agg #[.slice A0_0 l0_0.length c0_0]] rfl maz_ ?_; (with_reducible refine (spec_pzGood.calls k _ _ l0_0 false _ ?side1 ?side2 A3.out).mono ?_); (case side1 => exact ucz_ ((Kd.C_below HR0_0.out HB.out))); (case side2 => exact HC0_0.out); rintro e w61 ⟨rfl, hb⟩; refine ⟨_, rfl, ?_⟩; have n3_ := Az_ (btz_ (w129_) hb); clear HB; replace BK506 := Az_ (ukbz_ BK506.out hb); replace BK507 := Az_ (ukbz_ BK507.out hb); replace BK508 := Az_ (ukbz_ BK508.out hb); have HB := n3_; clear n3_; (try clear hb); have hnb62 := NB508_507.out; have hnc62 := NB507_508.out; have hcz63_0 := cz_ (x := .slice none 0 0) BK508 0; have hfz63_0 := blk_frozen BK508.out 0))
  refine bodyPost_ret (results_ct rfl _ _ gb508 30 #[.slice none 0 0] (0, 0) _ rfl (w46_) Tryd.underlying30 rfl (w204_)) rfl ?_
  exact ⟨_, w166_, w130_, w129_⟩


def spec_DrawDropClue.f (k : Nat) (l0 : List Int) : Option ((List (S40)) × Int) := (spec_l1Cur_puzzle.f k l0 0 0).bind fun bt525 => ((spec_l1Cur_pick.f l0 bt525.2.1 bt525.2.2 6).bind fun bt530 => ((spec_l1Cur_pick.f l0 bt530.2.1 bt530.2.2 9).bind fun bt533 => (some (bt525.1, wrap64 (bt530.1 - (wrap64 (Int.tdiv bt533.1 8)))))))
set_option maxHeartbeats 8000000 in
set_option maxRecDepth 100000 in
theorem spec_DrawDropClue.calls (k : Nat) (A0 : Option Addr) (c0 : Nat) (l0 : List Int) (r1 : List (S40)) (r2 : Int) (w : World) (hr0 : Kd.C (Kd.int .u8) w A0 l0.length l0) (hc0 : l0.length ≤ c0) (h : spec_DrawDropClue.f k l0 = some (r1, r2)) :
  Calls Tryd.prog 26 #[.slice A0 l0.length c0] w fun e w' => ∃ v0_ : Value, e = .returned (.tuple #[.agg #[v0_], .int .i64 r2]) ∧ Kd.R k40 40 w' w.heap.size (fun _ => True) v0_ r1 ∧ Below w.heap.size w w' := by
 have hu30 := Tryd.underlying30
 have hu67 := Tryd.underlying67
 have HR0 := Az_ hr0
 have HC0 := Az_ hc0
 clear hr0 hc0
 have HB := Az_ (Below.refl w.heap.size w)
 have H : ((spec_l1Cur_puzzle.f k l0 0 0).bind fun bt525 => ((spec_l1Cur_pick.f l0 bt525.2.1 bt525.2.2 6).bind fun bt530 => ((spec_l1Cur_pick.f l0 bt530.2.1 bt530.2.2 9).bind fun bt533 => (some (bt525.1, wrap64 (bt530.1 - (wrap64 (Int.tdiv bt533.1 8)))))))) = some (r1, r2) := h
 clear h
 replace H := bqz_ H; obtain ⟨⟨t525, t528, t529⟩, A2, H⟩ := H
 replace H := bqz_ H; obtain ⟨⟨t530, t531, t532⟩, A3, H⟩ := H
 replace H := bqz_ H; obtain ⟨⟨t533, t534, t535⟩, A4, H⟩ := H
 replace H : (some (t525, wrap64 (t530 - (wrap64 (Int.tdiv t533 8))))) = some (r1, r2) := H
 simp only [Option.some.injEq, Prod.mk.injEq] at H
 obtain ⟨rfl, rfl⟩ := H
 go_enter Tryd.func26, Tryd.ntmps26
 go_wp2_with (first | ((with_reducible refine gate_dst (N := 2) rfl ?_); refine bxe_ (N := 2) (cs := #[.slice none 0 0]) (t := 30) ?_; intro gb523 hg w5 BK523 hb; have GW523 := gez_ hg (ubz_ HB.out); have GE523 := GW523; replace HB := Az_ (btz_ (ubz_ HB.out) hb); clear hb hg) | ((with_reducible refine gate_dst (N := 7) rfl ?_); refine bxe_ (N := 7) (cs := #[.slice A0 l0.length c0, .int .i64 0, .int .u64 0]) (t := 67) ?_; intro gb524 hg w6 BK524 hb; obtain ⟨NB523_524, NB524_523⟩ := nez_ BK523 hg; have GW524 : Aside0 (w.heap.size ≤ gb524) := gez_ hg (w129_); have GE524 := GW524; replace HB := Az_ (btz_ (w129_) hb); replace BK523 := Az_ (ukbz_ BK523.out hb); clear hb hg) | ((with_reducible refine gate_callee (f := 53) rfl ?_); refine goesL_ (some 9) rfl rfl Tryd.func53 (w204_) rfl #[.pointer (some ⟨gb524, 0, none⟩)] rfl maz_ ?_; have HI524 := Az_ (show IsS67 w w6 gb524 l0 0 0 from ⟨_, _, BK524.out, GE524.out, HR0.out⟩); (with_reducible refine (spec_l1Cur_puzzle.calls k gb524 l0 0 0 t525 t528 t529 w _ ?side1 ?side2 A2.out).mono ?_); (case side1 => repeat (first | (with_reducible first | exact HI524.out | apply IsS67.alloc | apply IsS67.drewN | apply IsS67.drew | apply IsS67.set_1 | apply IsS67.set_2 | refine IsS67.far ?_ NB524_523.out _) | exact HI524.out)); (case side2 => repeat (first | (with_reducible first | exact HB.out | apply baz_ | apply bnz_ | apply bdz_ | refine bsz_ ?_ (IsS67.ge HI524.out) | refine bsz_ ?_ GE523.out) | exact HB.out)); rintro e w7 ⟨v526, rfl, ho0, hi, hb, hk⟩; refine ⟨_, rfl, ?_⟩; replace BK523 := Az_ (KeepBut.blk hk (g' := gb523) (o := .cells #[.slice none 0 0] 30 (0, 0)) (by exact ukz_ BK523.out) NB523_524.out (by simp)); have HO527 := Az_ (Kd.R_lower ho0 (below_size (w115_))); replace HB := Az_ (hb); replace HI524 := Az_ (hi); (try clear hb); (try clear hk); (try clear hi); (try clear ho0)) | ((with_reducible refine gate_callee (f := 38) rfl ?_); refine goesL_ (some 11) rfl rfl Tryd.func38 (w204_) rfl #[.pointer (some ⟨gb524, 0, none⟩), .int .i64 6] rfl maz_ ?_; (with_reducible refine (spec_l1Cur_pick.calls gb524 l0 t528 t529 6 t530 t531 t532 w _ ?side1 ?side2 A3.out).mono ?_); (case side1 => repeat (first | (with_reducible first | exact HI524.out | apply IsS67.alloc | apply IsS67.drewN | apply IsS67.drew | apply IsS67.set_1 | apply IsS67.set_2 | refine IsS67.far ?_ NB524_523.out _) | exact HI524.out)); (case side2 => repeat (first | (with_reducible first | exact HB.out | apply baz_ | apply bnz_ | apply bdz_ | refine bsz_ ?_ (IsS67.ge HI524.out) | refine bsz_ ?_ GE523.out) | exact HB.out)); rintro e w8 ⟨rfl, hi, hb, hk⟩; refine ⟨_, rfl, ?_⟩; replace BK523 := Az_ (KeepBut.blk hk (g' := gb523) (o := .cells #[.slice none 0 0] 30 (0, 0)) (by exact ukz_ BK523.out) NB523_524.out (by simp)); replace HO527 := Az_ (Kd.R_mono (Kd.R_keep (IsS67.apart (show IsS67 w _ gb524 l0 t528 t529 from w98_) (by exact urz_ HO527.out) (by decide)) hk (fun _ h => h.2)) (fun _ h => h.1)); replace HB := Az_ (hb); replace HI524 := Az_ (hi); (try clear hb); (try clear hk); (try clear hi)) | ((with_reducible refine gate_callee (f := 38) rfl ?_); refine goesL_ (some 13) rfl rfl Tryd.func38 (w204_) rfl #[.pointer (some ⟨gb524, 0, none⟩), .int .i64 9] rfl maz_ ?_; (with_reducible refine (spec_l1Cur_pick.calls gb524 l0 t531 t532 9 t533 t534 t535 w _ ?side1 ?side2 A4.out).mono ?_); (case side1 => repeat (first | (with_reducible first | exact HI524.out | apply IsS67.alloc | apply IsS67.drewN | apply IsS67.drew | apply IsS67.set_1 | apply IsS67.set_2 | refine IsS67.far ?_ NB524_523.out _) | exact HI524.out)); (case side2 => repeat (first | (with_reducible first | exact HB.out | apply baz_ | apply bnz_ | apply bdz_ | refine bsz_ ?_ (IsS67.ge HI524.out) | refine bsz_ ?_ GE523.out) | exact HB.out)); rintro e w9 ⟨rfl, hi, hb, hk⟩; refine ⟨_, rfl, ?_⟩; replace BK523 := Az_ (KeepBut.blk hk (g' := gb523) (o := .cells #[.slice none 0 0] 30 (0, 0)) (by exact ukz_ BK523.out) NB523_524.out (by simp)); replace HO527 := Az_ (Kd.R_mono (Kd.R_keep (IsS67.apart (show IsS67 w _ gb524 l0 t531 t532 from w98_) (by exact urz_ HO527.out) (by decide)) hk (fun _ h => h.2)) (fun _ h => h.1)); replace HB := Az_ (hb); replace HI524 := Az_ (hi); (try clear hb); (try clear hk); (try clear hi); obtain ⟨Ao10, co10, eo10⟩ := Kd.R_slice HO527.out; subst eo10; have hnb11 := NB523_524.out; have hnc11 := NB524_523.out; have hcz12_0 := cz_ (x := .slice none 0 0) BK523 0; have hfz12_0 := blk_frozen BK523.out 0))
 refine bodyPost_ret (results_ct rfl _ _ gb523 30 #[.slice Ao10 t525.length co10] (0, 0) _ rfl (by (with_reducible repeat (first | refine knz_ ?_ _ | refine kdz_ ?_ | refine kaz_ ?_ _)); refine blk_put (cs := #[.slice none 0 0]) ?_ 0 _ rfl; (with_reducible repeat (first | refine knz_ ?_ _ | refine kdz_ ?_ | refine kaz_ ?_ _)); exact BK523.out) Tryd.underlying30 rfl (w204_)) rfl ?_
 exact ⟨_, w166_, by (with_reducible repeat (first | apply raz_ | apply rnz_ | apply rdz_)); exact Kd.R_mono (Kd.R_far (p := ⟨gb523, 0, none⟩) (Kd.R_types HO527.out BK523.out (by decide)) (fun _ hk => hk.2) (.slice Ao10 t525.length co10)) (fun _ hk => trivial), w115_⟩

def impl_DropClue.f (l0_0 : List (S40)) (a1 : Int) : Option ((List (S40)) × Bool) := (impl_IsPuzzle.f l0_0).bind fun t538 => (if t538 = true then ((impl_within.f a1 0 (wrap64 ((l0_0.length : Int) - 1))).bind fun t539 => (if t539 = true then ((impl_without.f l0_0 a1).bind fun t540 => (some (t540, true))) else (some (([] : List (S40)), false)))) else (some (([] : List (S40)), false)))
set_option maxHeartbeats 8000000 in
set_option maxRecDepth 100000 in
theorem impl_DropClue.calls (A0_0 : Option Addr) (c0_0 : Nat) (l0_0 : List (S40)) (a1 : Int) (r1 : List (S40)) (r2 : Bool) (w : World) (hr0_0 : Kd.C k40 w A0_0 l0_0.length l0_0) (hc0_0 : l0_0.length ≤ c0_0) (h : impl_DropClue.f l0_0 a1 = some (r1, r2)) :
  Calls Tryd.prog 27 #[.agg #[.slice A0_0 l0_0.length c0_0], .int .i64 a1] w fun e w' => ∃ v0_ : Value, e = .returned (.tuple #[.agg #[v0_], .bool r2]) ∧ Kd.R k40 40 w' w.heap.size (fun _ => True) v0_ r1 ∧ Below w.heap.size w w' := by
 have hu30 := Tryd.underlying30
 have HR0_0 := Az_ hr0_0
 have HC0_0 := Az_ hc0_0
 clear hr0_0 hc0_0
 have HB := Az_ (Below.refl w.heap.size w)
 have H : ((impl_IsPuzzle.f l0_0).bind fun t538 => (if t538 = true then ((impl_within.f a1 0 (wrap64 ((l0_0.length : Int) - 1))).bind fun t539 => (if t539 = true then ((impl_without.f l0_0 a1).bind fun t540 => (some (t540, true))) else (some (([] : List (S40)), false)))) else (some (([] : List (S40)), false)))) = some (r1, r2) := h
 clear h
 replace H := bqz_ H; obtain ⟨t538, A3, H⟩ := H
 replace H : (if t538 = true then ((impl_within.f a1 0 (wrap64 ((l0_0.length : Int) - 1))).bind fun t539 => (if t539 = true then ((impl_without.f l0_0 a1).bind fun t540 => (some (t540, true))) else (some (([] : List (S40)), false)))) else (some (([] : List (S40)), false))) = some (r1, r2) := H
 by_cases c4 : t538 = true
 ·subst c4
  rw [if_pos rfl] at H
  replace H := bqz_ H; obtain ⟨t539, A5, H⟩ := H
  replace H : (if t539 = true then ((impl_without.f l0_0 a1).bind fun t540 => (some (t540, true))) else (some (([] : List (S40)), false))) = some (r1, r2) := H
  by_cases c6 : t539 = true; rotate_left
  ·replace c6 := Bool.eq_false_iff.mpr c6
   subst c6
   rw [if_neg nfz_] at H
   simp only [Option.some.injEq, Prod.mk.injEq] at H
   obtain ⟨rfl, rfl⟩ := H
   go_enter Tryd.func27, Tryd.ntmps27
   go_wp2_with (first | ((with_reducible refine gate_dst (N := 2) rfl ?_); (try (refine gate_guard (by rfl) ?_; dsimp only)); refine bxe_ (N := 2) (cs := #[.slice A0_0 l0_0.length c0_0]) (t := 30) ?_; intro gb536 hg w18 BK536 hb; have GW536 := gez_ hg (ubz_ HB.out); have GE536 := GW536; replace HB := Az_ (btz_ (ubz_ HB.out) hb); clear hb hg) | ((with_reducible refine gate_dst (N := 4) rfl ?_); (try (refine gate_guard (by rfl) ?_; dsimp only)); refine bxe_ (N := 4) (cs := #[.slice none 0 0]) (t := 30) ?_; intro gb537 hg w19 BK537 hb; obtain ⟨NB536_537, NB537_536⟩ := nez_ BK536 hg; have GW537 : Aside0 (w.heap.size ≤ gb537) := gez_ hg (w129_); have GE537 := GW537; replace HB := Az_ (btz_ (w129_) hb); replace BK536 := Az_ (ukbz_ BK536.out hb); clear hb hg; have hnb20 := NB536_537.out; have hnc20 := NB537_536.out; have hcz21_0 := cz_ (x := .slice A0_0 l0_0.length c0_0) BK536 0; have hfz21_0 := blk_frozen BK536.out 0) | ((with_reducible refine gate_callee (f := 15) rfl ?_); refine goesL_ (some 7) rfl rfl Tryd.func15 (w204_) rfl #[.agg #[.slice A0_0 l0_0.length c0_0]] rfl maz_ ?_; (with_reducible refine (impl_IsPuzzle.calls _ _ l0_0 true _ ?side1 ?side2 A3.out).mono ?_); (case side1 => exact ucz_ ((Kd.C_below HR0_0.out HB.out))); (case side2 => exact HC0_0.out); rintro e w22 ⟨rfl, hb⟩; refine ⟨_, rfl, ?_⟩; have n2_ := Az_ (btz_ (w129_) hb); clear HB; replace BK536 := Az_ (ukbz_ BK536.out hb); replace BK537 := Az_ (ukbz_ BK537.out hb); have HB := n2_; clear n2_; (try clear hb); have hcz23_0 := cz_ (x := .slice A0_0 l0_0.length c0_0) BK536 0; have hfz23_0 := blk_frozen BK536.out 0) | (go_at_call 39; (with_reducible refine (impl_within.calls a1 0 (wrap64 ((l0_0.length : Int) - 1)) false _ A5.out).mono ?_); rintro e w' ⟨rfl, ⟨nd, rfl⟩⟩; (try (rw [drewN_self w22]; generalize hq_ : World.drewN w22 _ = w22; have n0_ : Aside0 (w22.heap[gb536]? = some (.cells #[.slice A0_0 l0_0.length c0_0] 30 (0, 0))) := ⟨by rw [← hq_]; exact (by exact ukz_ BK536.out)⟩; have n1_ : Aside0 (w22.heap[gb537]? = some (.cells #[.slice none 0 0] 30 (0, 0))) := ⟨by rw [← hq_]; exact (by exact ukz_ BK537.out)⟩; have n2_ : Aside0 (Below w.heap.size w w22) := ⟨w124_⟩; clear BK536 BK537 HB hq_; have BK536 := n0_; have BK537 := n1_; have HB := n2_; clear n0_ n1_ n2_)); have hcz24_0 := cz_ (x := .slice none 0 0) BK537 0; have hfz24_0 := blk_frozen BK537.out 0))
   refine bodyPost_ret (results_ct rfl _ _ gb537 30 #[.slice none 0 0] (0, 0) _ rfl (w47_) Tryd.underlying30 rfl (w204_)) rfl ?_
   exact ⟨_, w166_, w130_, w129_⟩
  subst c6
  rw [if_pos rfl] at H
  replace H := bqz_ H; obtain ⟨t540, A7, H⟩ := H
  replace H : (some (t540, true)) = some (r1, r2) := H
  simp only [Option.some.injEq, Prod.mk.injEq] at H
  obtain ⟨rfl, rfl⟩ := H
  go_enter Tryd.func27, Tryd.ntmps27
  go_wp2_with (first | ((with_reducible refine gate_dst (N := 2) rfl ?_); (try (refine gate_guard (by rfl) ?_; dsimp only)); refine bxe_ (N := 2) (cs := #[.slice A0_0 l0_0.length c0_0]) (t := 30) ?_; intro gb536 hg w8 BK536 hb; have GW536 := gez_ hg (ubz_ HB.out); have GE536 := GW536; replace HB := Az_ (btz_ (ubz_ HB.out) hb); clear hb hg) | ((with_reducible refine gate_dst (N := 4) rfl ?_); (try (refine gate_guard (by rfl) ?_; dsimp only)); refine bxe_ (N := 4) (cs := #[.slice none 0 0]) (t := 30) ?_; intro gb537 hg w9 BK537 hb; obtain ⟨NB536_537, NB537_536⟩ := nez_ BK536 hg; have GW537 : Aside0 (w.heap.size ≤ gb537) := gez_ hg (w129_); have GE537 := GW537; replace HB := Az_ (btz_ (w129_) hb); replace BK536 := Az_ (ukbz_ BK536.out hb); clear hb hg; have hnb10 := NB536_537.out; have hnc10 := NB537_536.out; have hcz11_0 := cz_ (x := .slice A0_0 l0_0.length c0_0) BK536 0; have hfz11_0 := blk_frozen BK536.out 0) | ((with_reducible refine gate_callee (f := 15) rfl ?_); refine goesL_ (some 7) rfl rfl Tryd.func15 (w204_) rfl #[.agg #[.slice A0_0 l0_0.length c0_0]] rfl maz_ ?_; (with_reducible refine (impl_IsPuzzle.calls _ _ l0_0 true _ ?side1 ?side2 A3.out).mono ?_); (case side1 => exact ucz_ ((Kd.C_below HR0_0.out HB.out))); (case side2 => exact HC0_0.out); rintro e w12 ⟨rfl, hb⟩; refine ⟨_, rfl, ?_⟩; have n2_ := Az_ (btz_ (w129_) hb); clear HB; replace BK536 := Az_ (ukbz_ BK536.out hb); replace BK537 := Az_ (ukbz_ BK537.out hb); have HB := n2_; clear n2_; (try clear hb); have hcz13_0 := cz_ (x := .slice A0_0 l0_0.length c0_0) BK536 0; have hfz13_0 := blk_frozen BK536.out 0) | (go_at_call 39; (with_reducible refine (impl_within.calls a1 0 (wrap64 ((l0_0.length : Int) - 1)) true _ A5.out).mono ?_); rintro e w' ⟨rfl, ⟨nd, rfl⟩⟩; (try (rw [drewN_self w12]; generalize hq_ : World.drewN w12 _ = w12; have n0_ : Aside0 (w12.heap[gb536]? = some (.cells #[.slice A0_0 l0_0.length c0_0] 30 (0, 0))) := ⟨by rw [← hq_]; exact (by exact ukz_ BK536.out)⟩; have n1_ : Aside0 (w12.heap[gb537]? = some (.cells #[.slice none 0 0] 30 (0, 0))) := ⟨by rw [← hq_]; exact (by exact ukz_ BK537.out)⟩; have n2_ : Aside0 (Below w.heap.size w w12) := ⟨w124_⟩; clear BK536 BK537 HB hq_; have BK536 := n0_; have BK537 := n1_; have HB := n2_; clear n0_ n1_ n2_)); have hcz14_0 := cz_ (x := .slice A0_0 l0_0.length c0_0) BK536 0; have hfz14_0 := blk_frozen BK536.out 0) | ((with_reducible refine gate_callee (f := 55) rfl ?_); refine goesL_ (some 22) rfl rfl Tryd.func55 (w204_) rfl #[.slice A0_0 l0_0.length c0_0, .int .i64 a1] rfl maz_ ?_; (with_reducible refine (impl_without.calls _ _ l0_0 a1 t540 _ ?side1 ?side2 A7.out).mono ?_); (case side1 => exact ucz_ ((Kd.C_below HR0_0.out HB.out))); (case side2 => exact HC0_0.out); rintro e w15 ⟨v541, rfl, ho0, hb⟩; refine ⟨_, rfl, ?_⟩; have n0_ := Az_ (Kd.R_lower ho0 (below_size (w129_))); have n3_ := Az_ (btz_ (w129_) hb); clear HB; have HO542 := n0_; replace BK536 := Az_ (ukbz_ BK536.out hb); replace BK537 := Az_ (ukbz_ BK537.out hb); have HB := n3_; clear n0_ n3_; (try clear hb); (try clear ho0); obtain ⟨Ao16, co16, eo16⟩ := Kd.R_slice HO542.out; subst eo16; have hcz17_0 := cz_ (x := .slice none 0 0) BK537 0; have hfz17_0 := blk_frozen BK537.out 0))
  refine bodyPost_ret (results_ct rfl _ _ gb537 30 #[.slice Ao16 t540.length co16] (0, 0) _ rfl (w47_) Tryd.underlying30 rfl (w204_)) rfl ?_
  exact ⟨_, w166_, by (with_reducible repeat (first | apply raz_ | apply rnz_ | apply rdz_)); exact Kd.R_mono (Kd.R_far (p := ⟨gb537, 0, none⟩) (Kd.R_types HO542.out BK537.out (by decide)) (fun _ hk => hk.2) (.slice Ao16 t540.length co16)) (fun _ hk => trivial), w129_⟩
 ·replace c4 := Bool.eq_false_iff.mpr c4
  subst c4
  rw [if_neg nfz_] at H
  simp only [Option.some.injEq, Prod.mk.injEq] at H
  obtain ⟨rfl, rfl⟩ := H
  go_enter Tryd.func27, Tryd.ntmps27
  go_wp2_with (first | ((with_reducible refine gate_dst (N := 2) rfl ?_); (try (refine gate_guard (by rfl) ?_; dsimp only)); refine bxe_ (N := 2) (cs := #[.slice A0_0 l0_0.length c0_0]) (t := 30) ?_; intro gb536 hg w25 BK536 hb; have GW536 := gez_ hg (ubz_ HB.out); have GE536 := GW536; replace HB := Az_ (btz_ (ubz_ HB.out) hb); clear hb hg) | ((with_reducible refine gate_dst (N := 4) rfl ?_); (try (refine gate_guard (by rfl) ?_; dsimp only)); refine bxe_ (N := 4) (cs := #[.slice none 0 0]) (t := 30) ?_; intro gb537 hg w26 BK537 hb; obtain ⟨NB536_537, NB537_536⟩ := nez_ BK536 hg; have GW537 : Aside0 (w.heap.size ≤ gb537) := gez_ hg (w129_); have GE537 := GW537; replace HB := Az_ (btz_ (w129_) hb); replace BK536 := Az_ (ukbz_ BK536.out hb); clear hb hg; have hnb27 := NB536_537.out; have hnc27 := NB537_536.out; have hcz28_0 := cz_ (x := .slice A0_0 l0_0.length c0_0) BK536 0; have hfz28_0 := blk_frozen BK536.out 0) | ((with_reducible refine gate_callee (f := 15) rfl ?_); refine goesL_ (some 7) rfl rfl Tryd.func15 (w204_) rfl #[.agg #[.slice A0_0 l0_0.length c0_0]] rfl maz_ ?_; (with_reducible refine (impl_IsPuzzle.calls _ _ l0_0 false _ ?side1 ?side2 A3.out).mono ?_); (case side1 => exact ucz_ ((Kd.C_below HR0_0.out HB.out))); (case side2 => exact HC0_0.out); rintro e w29 ⟨rfl, hb⟩; refine ⟨_, rfl, ?_⟩; have n2_ := Az_ (btz_ (w129_) hb); clear HB; replace BK536 := Az_ (ukbz_ BK536.out hb); replace BK537 := Az_ (ukbz_ BK537.out hb); have HB := n2_; clear n2_; (try clear hb); have hcz30_0 := cz_ (x := .slice none 0 0) BK537 0; have hfz30_0 := blk_frozen BK537.out 0))
  refine bodyPost_ret (results_ct rfl _ _ gb537 30 #[.slice none 0 0] (0, 0) _ rfl (w47_) Tryd.underlying30 rfl (w204_)) rfl ?_
  exact ⟨_, w166_, w130_, w129_⟩

def spec_DropClue.f (k : Nat) (l0_0 : List (S40)) (a1 : Int) : Option ((List (S40)) × Bool) := (spec_pzGood.f k l0_0).bind fun t545 => (if t545 = true then ((spec_l1In.f a1 0 (wrap64 ((l0_0.length : Int) - 1))).bind fun t546 => (if t546 = true then ((spec_pzWithout.f l0_0 a1).bind fun t547 => (some (t547, true))) else (some (([] : List (S40)), false)))) else (some (([] : List (S40)), false)))
set_option maxHeartbeats 8000000 in
set_option maxRecDepth 100000 in
theorem spec_DropClue.calls (k : Nat) (A0_0 : Option Addr) (c0_0 : Nat) (l0_0 : List (S40)) (a1 : Int) (r1 : List (S40)) (r2 : Bool) (w : World) (hr0_0 : Kd.C k40 w A0_0 l0_0.length l0_0) (hc0_0 : l0_0.length ≤ c0_0) (h : spec_DropClue.f k l0_0 a1 = some (r1, r2)) :
  Calls Tryd.prog 28 #[.agg #[.slice A0_0 l0_0.length c0_0], .int .i64 a1] w fun e w' => ∃ v0_ : Value, e = .returned (.tuple #[.agg #[v0_], .bool r2]) ∧ Kd.R k40 40 w' w.heap.size (fun _ => True) v0_ r1 ∧ Below w.heap.size w w' := by
 have hu30 := Tryd.underlying30
 have HR0_0 := Az_ hr0_0
 have HC0_0 := Az_ hc0_0
 clear hr0_0 hc0_0
 have HB := Az_ (Below.refl w.heap.size w)
 have H : ((spec_pzGood.f k l0_0).bind fun t545 => (if t545 = true then ((spec_l1In.f a1 0 (wrap64 ((l0_0.length : Int) - 1))).bind fun t546 => (if t546 = true then ((spec_pzWithout.f l0_0 a1).bind fun t547 => (some (t547, true))) else (some (([] : List (S40)), false)))) else (some (([] : List (S40)), false)))) = some (r1, r2) := h
 clear h
 replace H := bqz_ H; obtain ⟨t545, A3, H⟩ := H
 replace H : (if t545 = true then ((spec_l1In.f a1 0 (wrap64 ((l0_0.length : Int) - 1))).bind fun t546 => (if t546 = true then ((spec_pzWithout.f l0_0 a1).bind fun t547 => (some (t547, true))) else (some (([] : List (S40)), false)))) else (some (([] : List (S40)), false))) = some (r1, r2) := H
 by_cases c4 : t545 = true
 ·subst c4
  rw [if_pos rfl] at H
  replace H := bqz_ H; obtain ⟨t546, A5, H⟩ := H
  replace H : (if t546 = true then ((spec_pzWithout.f l0_0 a1).bind fun t547 => (some (t547, true))) else (some (([] : List (S40)), false))) = some (r1, r2) := H
  by_cases c6 : t546 = true; rotate_left
  ·replace c6 := Bool.eq_false_iff.mpr c6
   subst c6
   rw [if_neg nfz_] at H
   simp only [Option.some.injEq, Prod.mk.injEq] at H
   obtain ⟨rfl, rfl⟩ := H
   go_enter Tryd.func28, Tryd.ntmps28
   go_wp2_with (first | ((with_reducible refine gate_dst (N := 2) rfl ?_); (try (refine gate_guard (by rfl) ?_; dsimp only)); refine bxe_ (N := 2) (cs := #[.slice A0_0 l0_0.length c0_0]) (t := 30) ?_; intro gb543 hg w18 BK543 hb; have GW543 := gez_ hg (ubz_ HB.out); have GE543 := GW543; replace HB := Az_ (btz_ (ubz_ HB.out) hb); clear hb hg) | ((with_reducible refine gate_dst (N := 4) rfl ?_); (try (refine gate_guard (by rfl) ?_; dsimp only)); refine bxe_ (N := 4) (cs := #[.slice none 0 0]) (t := 30) ?_; intro gb544 hg w19 BK544 hb; obtain ⟨NB543_544, NB544_543⟩ := nez_ BK543 hg; have GW544 : Aside0 (w.heap.size ≤ gb544) := gez_ hg (w129_); have GE544 := GW544; replace HB := Az_ (btz_ (w129_) hb); replace BK543 := Az_ (ukbz_ BK543.out hb); clear hb hg; have hnb20 := NB543_544.out; have hnc20 := NB544_543.out; have hcz21_0 := cz_ (x := .slice A0_0 l0_0.length c0_0) BK543 0; have hfz21_0 := blk_frozen BK543.out 0) | ((with_reducible refine gate_callee (f := 57) rfl ?_); refine goesL_ (some 7) rfl rfl Tryd.func57 (w204_) rfl #[.agg #[.slice A0_0 l0_0.length c0_0]] rfl maz_ ?_; (with_reducible refine (spec_pzGood.calls k _ _ l0_0 true _ ?side1 ?side2 A3.out).mono ?_); (case side1 => exact ucz_ ((Kd.C_below HR0_0.out HB.out))); (case side2 => exact HC0_0.out); rintro e w22 ⟨rfl, hb⟩; refine ⟨_, rfl, ?_⟩; have n2_ := Az_ (btz_ (w129_) hb); clear HB; replace BK543 := Az_ (ukbz_ BK543.out hb); replace BK544 := Az_ (ukbz_ BK544.out hb); have HB := n2_; clear n2_; (try clear hb); have hcz23_0 := cz_ (x := .slice A0_0 l0_0.length c0_0) BK543 0; have hfz23_0 := blk_frozen BK543.out 0) | (go_at_call 43; (with_reducible refine (spec_l1In.calls a1 0 (wrap64 ((l0_0.length : Int) - 1)) false _ A5.out).mono ?_); rintro e w' ⟨rfl, ⟨nd, rfl⟩⟩; (try (rw [drewN_self w22]; generalize hq_ : World.drewN w22 _ = w22; have n0_ : Aside0 (w22.heap[gb543]? = some (.cells #[.slice A0_0 l0_0.length c0_0] 30 (0, 0))) := ⟨by rw [← hq_]; exact (by exact ukz_ BK543.out)⟩; have n1_ : Aside0 (w22.heap[gb544]? = some (.cells #[.slice none 0 0] 30 (0, 0))) := ⟨by rw [← hq_]; exact (by exact ukz_ BK544.out)⟩; have n2_ : Aside0 (Below w.heap.size w w22) := ⟨w124_⟩; clear BK543 BK544 HB hq_; have BK543 := n0_; have BK544 := n1_; have HB := n2_; clear n0_ n1_ n2_)); have hcz24_0 := cz_ (x := .slice none 0 0) BK544 0; have hfz24_0 := blk_frozen BK544.out 0))
   refine bodyPost_ret (results_ct rfl _ _ gb544 30 #[.slice none 0 0] (0, 0) _ rfl (w48_) Tryd.underlying30 rfl (w204_)) rfl ?_
   exact ⟨_, w166_, w130_, w129_⟩
  subst c6
  rw [if_pos rfl] at H
  replace H := bqz_ H; obtain ⟨t547, A7, H⟩ := H
  replace H : (some (t547, true)) = some (r1, r2) := H
  simp only [Option.some.injEq, Prod.mk.injEq] at H
  obtain ⟨rfl, rfl⟩ := H
  go_enter Tryd.func28, Tryd.ntmps28
  go_wp2_with (first | ((with_reducible refine gate_dst (N := 2) rfl ?_); (try (refine gate_guard (by rfl) ?_; dsimp only)); refine bxe_ (N := 2) (cs := #[.slice A0_0 l0_0.length c0_0]) (t := 30) ?_; intro gb543 hg w8 BK543 hb; have GW543 := gez_ hg (ubz_ HB.out); have GE543 := GW543; replace HB := Az_ (btz_ (ubz_ HB.out) hb); clear hb hg) | ((with_reducible refine gate_dst (N := 4) rfl ?_); (try (refine gate_guard (by rfl) ?_; dsimp only)); refine bxe_ (N := 4) (cs := #[.slice none 0 0]) (t := 30) ?_; intro gb544 hg w9 BK544 hb; obtain ⟨NB543_544, NB544_543⟩ := nez_ BK543 hg; have GW544 : Aside0 (w.heap.size ≤ gb544) := gez_ hg (w129_); have GE544 := GW544; replace HB := Az_ (btz_ (w129_) hb); replace BK543 := Az_ (ukbz_ BK543.out hb); clear hb hg; have hnb10 := NB543_544.out; have hnc10 := NB544_543.out; have hcz11_0 := cz_ (x := .slice A0_0 l0_0.length c0_0) BK543 0; have hfz11_0 := blk_frozen BK543.out 0) | ((with_reducible refine gate_callee (f := 57) rfl ?_); refine goesL_ (some 7) rfl rfl Tryd.func57 (w204_) rfl #[.agg #[.slice A0_0 l0_0.length c0_0]] rfl maz_ ?_; (with_reducible refine (spec_pzGood.calls k _ _ l0_0 true _ ?side1 ?side2 A3.out).mono ?_); (case side1 => exact ucz_ ((Kd.C_below HR0_0.out HB.out))); (case side2 => exact HC0_0.out); rintro e w12 ⟨rfl, hb⟩; refine ⟨_, rfl, ?_⟩; have n2_ := Az_ (btz_ (w129_) hb); clear HB; replace BK543 := Az_ (ukbz_ BK543.out hb); replace BK544 := Az_ (ukbz_ BK544.out hb); have HB := n2_; clear n2_; (try clear hb); have hcz13_0 := cz_ (x := .slice A0_0 l0_0.length c0_0) BK543 0; have hfz13_0 := blk_frozen BK543.out 0) | (go_at_call 43; (with_reducible refine (spec_l1In.calls a1 0 (wrap64 ((l0_0.length : Int) - 1)) true _ A5.out).mono ?_); rintro e w' ⟨rfl, ⟨nd, rfl⟩⟩; (try (rw [drewN_self w12]; generalize hq_ : World.drewN w12 _ = w12; have n0_ : Aside0 (w12.heap[gb543]? = some (.cells #[.slice A0_0 l0_0.length c0_0] 30 (0, 0))) := ⟨by rw [← hq_]; exact (by exact ukz_ BK543.out)⟩; have n1_ : Aside0 (w12.heap[gb544]? = some (.cells #[.slice none 0 0] 30 (0, 0))) := ⟨by rw [← hq_]; exact (by exact ukz_ BK544.out)⟩; have n2_ : Aside0 (Below w.heap.size w w12) := ⟨w124_⟩; clear BK543 BK544 HB hq_; have BK543 := n0_; have BK544 := n1_; have HB := n2_; clear n0_ n1_ n2_)); have hcz14_0 := cz_ (x := .slice A0_0 l0_0.length c0_0) BK543 0; have hfz14_0 := blk_frozen BK543.out 0) | ((with_reducible refine gate_callee (f := 59) rfl ?_); refine goesL_ (some 22) rfl rfl Tryd.func59 (w204_) rfl #[.slice A0_0 l0_0.length c0_0, .int .i64 a1] rfl maz_ ?_; (with_reducible refine (spec_pzWithout.calls _ _ l0_0 a1 t547 _ ?side1 ?side2 A7.out).mono ?_); (case side1 => exact ucz_ ((Kd.C_below HR0_0.out HB.out))); (case side2 => exact HC0_0.out); rintro e w15 ⟨v548, rfl, ho0, hb⟩; refine ⟨_, rfl, ?_⟩; have n0_ := Az_ (Kd.R_lower ho0 (below_size (w129_))); have n3_ := Az_ (btz_ (w129_) hb); clear HB; have HO549 := n0_; replace BK543 := Az_ (ukbz_ BK543.out hb); replace BK544 := Az_ (ukbz_ BK544.out hb); have HB := n3_; clear n0_ n3_; (try clear hb); (try clear ho0); obtain ⟨Ao16, co16, eo16⟩ := Kd.R_slice HO549.out; subst eo16; have hcz17_0 := cz_ (x := .slice none 0 0) BK544 0; have hfz17_0 := blk_frozen BK544.out 0))
  refine bodyPost_ret (results_ct rfl _ _ gb544 30 #[.slice Ao16 t547.length co16] (0, 0) _ rfl (w48_) Tryd.underlying30 rfl (w204_)) rfl ?_
  exact ⟨_, w166_, by (with_reducible repeat (first | apply raz_ | apply rnz_ | apply rdz_)); exact Kd.R_mono (Kd.R_far (p := ⟨gb544, 0, none⟩) (Kd.R_types HO549.out BK544.out (by decide)) (fun _ hk => hk.2) (.slice Ao16 t547.length co16)) (fun _ hk => trivial), w129_⟩
 ·replace c4 := Bool.eq_false_iff.mpr c4
  subst c4
  rw [if_neg nfz_] at H
  simp only [Option.some.injEq, Prod.mk.injEq] at H
  obtain ⟨rfl, rfl⟩ := H
  go_enter Tryd.func28, Tryd.ntmps28
  go_wp2_with (first | ((with_reducible refine gate_dst (N := 2) rfl ?_); (try (refine gate_guard (by rfl) ?_; dsimp only)); refine bxe_ (N := 2) (cs := #[.slice A0_0 l0_0.length c0_0]) (t := 30) ?_; intro gb543 hg w25 BK543 hb; have GW543 := gez_ hg (ubz_ HB.out); have GE543 := GW543; replace HB := Az_ (btz_ (ubz_ HB.out) hb); clear hb hg) | ((with_reducible refine gate_dst (N := 4) rfl ?_); (try (refine gate_guard (by rfl) ?_; dsimp only)); refine bxe_ (N := 4) (cs := #[.slice none 0 0]) (t := 30) ?_; intro gb544 hg w26 BK544 hb; obtain ⟨NB543_544, NB544_543⟩ := nez_ BK543 hg; have GW544 : Aside0 (w.heap.size ≤ gb544) := gez_ hg (w129_); have GE544 := GW544; replace HB := Az_ (btz_ (w129_) hb); replace BK543 := Az_ (ukbz_ BK543.out hb); clear hb hg; have hnb27 := NB543_544.out; have hnc27 := NB544_543.out; have hcz28_0 := cz_ (x := .slice A0_0 l0_0.length c0_0) BK543 0; have hfz28_0 := blk_frozen BK543.out 0) | ((with_reducible refine gate_callee (f := 57) rfl ?_); refine goesL_ (some 7) rfl rfl Tryd.func57 (w204_) rfl #[.agg #[.slice A0_0 l0_0.length c0_0]] rfl maz_ ?_; (with_reducible refine (spec_pzGood.calls k _ _ l0_0 false _ ?side1 ?side2 A3.out).mono ?_); (case side1 => exact ucz_ ((Kd.C_below HR0_0.out HB.out))); (case side2 => exact HC0_0.out); rintro e w29 ⟨rfl, hb⟩; refine ⟨_, rfl, ?_⟩; have n2_ := Az_ (btz_ (w129_) hb); clear HB; replace BK543 := Az_ (ukbz_ BK543.out hb); replace BK544 := Az_ (ukbz_ BK544.out hb); have HB := n2_; clear n2_; (try clear hb); have hcz30_0 := cz_ (x := .slice none 0 0) BK544 0; have hfz30_0 := blk_frozen BK544.out 0))
  refine bodyPost_ret (results_ct rfl _ _ gb544 30 #[.slice none 0 0] (0, 0) _ rfl (w48_) Tryd.underlying30 rfl (w204_)) rfl ?_
  exact ⟨_, w166_, w130_, w129_⟩

end Go.Proofs.YtodacdcbeleleaaDoor.P
end
