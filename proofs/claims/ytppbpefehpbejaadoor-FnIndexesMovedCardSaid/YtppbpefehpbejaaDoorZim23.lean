/- Lean functions with the answers of the program's Go functions, and for each the proof that the Go code comes to these answers; no condition. -/
import Derived.Test.YtppbpefehpbejaaDoorZim21
import Derived.Test.YtppbpefehpbejaaDoorZim22
import Derived.Shelf.Strconv.Atoi
import Derived.Shelf.Strconv.Itoa0
import Derived.Shelf.Strconv.Itoa1
import Derived.Shelf.LaysM
import Derived.Shelf.Strconv.Itoa2
import Derived.Shelf.Strconv.Itoa3
import Derived.Shelf.Strconv.AtoiErrFast
import Derived.Shelf.Strconv.ParseIntEmpty
import Derived.Shelf.Strconv.AtoiFail
import Derived.Shelf.Strconv.Clone
import Derived.Shelf.Strconv.SyntaxError
import Derived.Shelf.LaysC
import Derived.Shelf.Strconv.ToError
import Derived.Shelf.Strconv.Lower
import Derived.Shelf.Strconv.ParseUint10
import Derived.Shelf.Strconv.ParseUint10Empty
import Derived.Shelf.Strconv.ParseUint10Any
import Derived.Shelf.Strconv.ParseInt10
import Derived.Shelf.Strconv.AtoiLong
import Derived.Shelf.Strconv.AtoiInnerAll
import Derived.Shelf.Strconv.RangeError
import Derived.Shelf.Strconv.ToErrorRange
import Derived.Shelf.Strconv.AtoiAll
import Derived.Shelf.Strconv.ErrVarAll
import Derived.Shelf.Strings.Search1
import Derived.Shelf.Strings.Search2
import Derived.Shelf.Strings.Search3
import Derived.Shelf.Strings.Cut
import Derived.Shelf.Strings.Count
import Derived.Shelf.Strings.Shaped
import Derived.Shelf.Strings.Split
import Derived.Test.YtppbpefehpbejaaDoorProg
import Derived.Lib.AppendIntMem
import Derived.Lib.LaidTab
import Derived.LaidSub
import Derived.MakeChecks
import Derived.Shelf.Vars
import Derived.HandedShaped
import Derived.Handed
import Derived.Stop.LaidErr
import Derived.LaidLaws
section
namespace Go.Proofs.YtppbpefehpbejaaDoor.P
open Go.RowKit Go.Proofs.YtppbpefehpbejaaDoorW.PrintWords Go.Proofs.YtppbpefehpbejaaDoorW.PrintLast Go.Proofs.YtppbpefehpbejaaDoorW.PrintMore
attribute [local go_sem] max2_int min2_int max_two min_two max_three min_three max_four min_four   -- for this text's walks alone
set_option linter.unusedVariables false
set_option linter.unusedSimpArgs false

mutual
def spec_JoinGaps.j0 : Nat → List (S100) → Int → Bool → Option ((List (S100)) × Bool)
 | 0, _, _, _ => none
 | k + 1, x0, x1, x16 => if x16 = true then (some (([] : List (S100)), false)) else (spec_JoinGaps.l0 k x0 x1 ([] : List (S100)) x0 (x0.length : Int) 0)
def spec_JoinGaps.l0 : Nat → List (S100) → Int → List (S100) → List (S100) → Int → Int → Option ((List (S100)) × Bool)
 | 0, _, _, _, _, _, _ => none
 | k + 1, x0, x1, x6, x17, x18, x19 => if x19 < x18 then (if 0 ≤ x19 then (if x19 < (x17.length : Int) then (if x19 > 0 then (if 0 ≤ (wrap64 (x19 - 1)) then (if (wrap64 (x19 - 1)) < (x0.length : Int) then (if (wrap64 ((wrap64 (((rd_T100 x17 x19).f0) - ((rd_T100 x0 (wrap64 (x19 - 1))).f1))) - 1)) ≤ x1 then (if 0 ≤ (wrap64 ((x6.length : Int) - 1)) then (if (wrap64 ((x6.length : Int) - 1)) < (x6.length : Int) then (spec_JoinGaps.l0 k x0 x1 (x6.set ((wrap64 ((x6.length : Int) - 1)) : Int).toNat (⟨(rd_T100 x6 (wrap64 ((x6.length : Int) - 1))).f0, (rd_T100 x17 x19).f1⟩ : S100)) x17 x18 (wrap64 (x19 + 1))) else (none)) else (none)) else (if x6.length < 8796093022208 then (spec_JoinGaps.l0 k x0 x1 (x6 ++ [(⟨(rd_T100 x17 x19).f0, (rd_T100 x17 x19).f1⟩ : S100)]) x17 x18 (wrap64 (x19 + 1))) else (none))) else (none)) else (none)) else (if x6.length < 8796093022208 then (spec_JoinGaps.l0 k x0 x1 (x6 ++ [(⟨(rd_T100 x17 x19).f0, (rd_T100 x17 x19).f1⟩ : S100)]) x17 x18 (wrap64 (x19 + 1))) else (none))) else (none)) else (none)) else (some (x6, true))
end
def spec_JoinGaps.f (k : Nat) (l0 : List (S100)) (a1 : Int) : Option ((List (S100)) × Bool) := (spec_ixGood.f k l0).bind fun t298 => (if t298 = true then ((spec_l1In.f a1 0 2000).bind fun t299 => (spec_JoinGaps.j0 k l0 a1 (!t299))) else (spec_JoinGaps.j0 k l0 a1 true))
set_option maxHeartbeats 8000000 in
set_option maxRecDepth 100000 in
theorem spec_JoinGaps.calls (k : Nat) (A0 : Option Addr) (c0 : Nat) (l0 : List (S100)) (a1 : Int) (r1 : List (S100)) (r2 : Bool) (w : World) (hr0 : Kd.C k100 w A0 l0.length l0) (hc0 : l0.length ≤ c0) (h : spec_JoinGaps.f k l0 a1 = some (r1, r2)) :
  Calls Tryd.prog 80 #[.slice A0 l0.length c0, .int .i64 a1] w fun e w' => ∃ v0_ : Value, e = .returned (.tuple #[v0_, .bool r2]) ∧ Kd.R k100 100 w' w.heap.size (fun _ => True) v0_ r1 ∧ Below w.heap.size w w' := by
 have hu100 := Tryd.underlying100
 have HR0 := Az_ hr0
 have HC0 := Az_ hc0
 clear hr0 hc0
 have HB := Az_ (Below.refl w.heap.size w)
 have H : ((spec_ixGood.f k l0).bind fun t298 => (if t298 = true then ((spec_l1In.f a1 0 2000).bind fun t299 => (j0 k l0 a1 (!t299))) else (j0 k l0 a1 true))) = some (r1, r2) := h
 clear h
 have HC3 := Az_ H
 clear H
 go_enter Tryd.func80, Tryd.ntmps80
 go_upto_region 1 with (fail)
 go_cut [16] (fun v16 wc => ∃ (kq : Nat) (x16_2 : Bool), v16 = .bool x16_2 ∧ Aside0 (j0 kq l0 a1 x16_2 = some (r1, r2)) ∧ Aside0 (kq ≤ k) ∧ Aside0 (Below w.heap.size w wc))
 case first =>
  have H := HC3.out
  clear HC3
  replace H := bqz_ H; obtain ⟨t298, A4, H⟩ := H
  replace H : (if t298 = true then ((spec_l1In.f a1 0 2000).bind fun t299 => (j0 k l0 a1 (!t299))) else (j0 k l0 a1 true)) = some (r1, r2) := H
  by_cases c5 : t298 = true; rotate_left
  ·replace c5 := Bool.eq_false_iff.mpr c5
   subst c5
   rw [if_neg nfz_] at H
   have H' := Az_ H
   clear H
   go_wp2_with ((go_at_call 161; (with_reducible refine (spec_ixGood.calls k _ _ l0 false _ ?side1 ?side2 A4.out).mono ?_); (case side1 => exact ucz_ ((Kd.C_below HR0.out HB.out))); (case side2 => exact HC0.out); rintro e w8 ⟨rfl, hb⟩; replace HB := Az_ (btz_ (ubz_ HB.out) hb); (try clear hb)))
   go_meet
   case rel => exact ⟨_, (true), qaz_, H', ⟨w141_⟩, ⟨w160_⟩⟩
  subst c5
  rw [if_pos rfl] at H
  replace H := bqz_ H; obtain ⟨t299, A6, H⟩ := H
  replace H : (j0 k l0 a1 (!t299)) = some (r1, r2) := H
  have H' := Az_ H
  clear H
  go_wp2_with (first | (go_at_call 161; (with_reducible refine (spec_ixGood.calls k _ _ l0 true _ ?side1 ?side2 A4.out).mono ?_); (case side1 => exact ucz_ ((Kd.C_below HR0.out HB.out))); (case side2 => exact HC0.out); rintro e w7 ⟨rfl, hb⟩; replace HB := Az_ (btz_ (ubz_ HB.out) hb); (try clear hb)) | (go_at_call 101; (with_reducible refine (spec_l1In.calls a1 0 2000 t299 _ A6.out).mono ?_); rintro e w' ⟨rfl, ⟨nd, rfl⟩⟩; (try first | exact ⟨rfl, _, World.drewN_drewN _ _ _⟩ | exact ⟨rfl, _, Eq.trans (World.drewN_drewN _ _ _) (congrArg (World.drewN _) (Nat.add_assoc _ _ _))⟩)))
  go_meet
  case rel => exact ⟨_, (!t299), qaz_, H', ⟨w141_⟩, ⟨w160_⟩⟩
 case rest =>
  clear HC3
  obtain ⟨kq, x16_2, rfl, HA, HJ2, HB⟩ := hcut
  cases kq with
  | zero => exact absurd HA.out (by simp [j0])
  | succ kj2 =>
   have H := HA.out
   clear HA
   simp only [j0] at H
   by_cases c9 : x16_2 = true
   ·subst c9
    rw [if_pos rfl] at H
    simp only [Option.some.injEq, Prod.mk.injEq] at H
    obtain ⟨rfl, rfl⟩ := H
    go_wp2
    go_ret2
    exact ⟨_, w116_, w80_, w160_⟩
   ·replace c9 := Bool.eq_false_iff.mpr c9
    subst c9
    rw [if_neg nfz_] at H
    have H' := Az_ H
    clear H
    go_wp2
    go_loopg [6, 19] kj2 (fun kq v6 v19 w' => ∃ (x6_2 : List (S100)) (x19_2 : Int), v19 = .int .i64 x19_2 ∧ Aside0 (spec_JoinGaps.l0 kq l0 a1 x6_2 l0 (l0.length : Int) x19_2 = some (r1, r2)) ∧ Aside0 (kq ≤ kj2) ∧ Aside0 (Kd.R k100 100 w' w.heap.size (fun _ => True) v6 x6_2) ∧ Aside0 (Below w.heap.size w w'))
    case atStart => exact ⟨(([] : List (S100))), (0), qaz_, H', ⟨Nat.le_refl _⟩, ⟨w80_⟩, ⟨w160_⟩⟩
    case round =>
     clear H'
     obtain ⟨x6_2, x19_2, rfl, HA, HK2, HO_6, HB⟩ := hrel
     cases gk with
     | zero => exact absurd HA.out (by simp [spec_JoinGaps.l0])
     | succ k2 =>
      have H := HA.out
      clear HA
      simp only [spec_JoinGaps.l0] at H
      by_cases c10 : x19_2 < (l0.length : Int)
      ·rw [if_pos c10] at H
       have c10b0 := decide_eq_true c10
       clear c10
       by_cases c11 : 0 ≤ x19_2; rotate_left
       ·rw [if_neg c11] at H
        exact absurd H (by simp)
       rw [if_pos c11] at H
       have c11b0 := decide_eq_true c11
       clear c11
       by_cases c12 : x19_2 < (l0.length : Int); rotate_left
       ·rw [if_neg c12] at H
        exact absurd H (by simp)
       rw [if_pos c12] at H
       have c12b0 := decide_eq_true c12
       clear c12
       by_cases c13 : x19_2 > 0; rotate_left
       ·rw [if_neg c13] at H
        have c13b0 := decide_eq_false c13
        clear c13
        by_cases c33 : x6_2.length < 8796093022208; rotate_left
        ·rw [if_neg c33] at H
         exact absurd H (by simp)
        rw [if_pos c33] at H
        have LMc33 := Az_ c33
        clear c33
        obtain ⟨y307, hy307⟩ : ∃ y_ : List (S100), y_ = (x6_2 ++ [(⟨(rd_T100 l0 x19_2).f0, (rd_T100 l0 x19_2).f1⟩ : S100)]) := ⟨_, rfl⟩
        replace H : (spec_JoinGaps.l0 k2 l0 a1 y307 l0 (l0.length : Int) (wrap64 (x19_2 + 1))) = some (r1, r2) := by first | (rw [hy307]; with_reducible exact H) | (have H2_ := (Option.bind_some _ _).symm.trans H; rw [hy307]; with_reducible exact H2_) | (have H2_ := (Option.bind_some _ _).symm.trans H; with_reducible exact H2_) | with_reducible exact H | (rw [hy307]; exact H) | exact H
        have Ny307 := Az_ hy307
        clear hy307
        have H' := Az_ H
        clear H
        have p300 : 0 ≤ (x19_2 : Int) := od_
        have q300 : x19_2 < (l0.length : Int) := od_
        obtain ⟨ad300, e300, hx300_0, hx300_1⟩ := at_T100 HR0.out x19_2 p300 q300
        cases e300
        replace hx300_0 := hbz_ HB.out hx300_0
        replace hx300_1 := hbz_ HB.out hx300_1
        replace p300 := eq_true p300
        replace q300 := eq_true q300
        go_wp2_with (((with_reducible refine gate_dst (N := 8) rfl ?_); refine box_event ?hg (N := 8) ?hd (cs := #[.int .i64 0, .int .i64 0]) (t := 100) ?hr ?_; (case hd => rfl); (case hg => rfl); (case hr => first | (go_simp; done) | (go_simp; rfl)); intro gb301 hg w34 hbox hb; replace HO_6 := Az_ (Kd.R_below (Kd.R_elderB (w158_) gb301 (Nat.le_of_eq hg.symm)) hb); have BK301 := Az_ (hbox); have GW301 := Az_ ((by rw [hg]; exact (below_size (ubz_ HB.out)) : w.heap.size ≤ gb301)); have GE301 := Az_ ((by rw [hg]; exact (below_size (ubz_ HB.out)) : w.heap.size ≤ gb301)); replace HB := Az_ (btz_ (ubz_ HB.out) hb); clear hb hbox hg; have hcz35_0 : w34.cell? ⟨gb301, 0, none⟩ = some (.int .i64 0) := (blk_cell BK301.out 0).trans rfl; have hcz35_1 : w34.cell? ⟨gb301, 1, none⟩ = some (.int .i64 0) := (blk_cell BK301.out 1).trans rfl; have hfz35_0 := blk_frozen BK301.out 0; have hfz35_1 := blk_frozen BK301.out 1))
        repeat (go_quiet (fail); try go_wp2_with (((with_reducible refine gate_builtin (b := .append) (xs := #[.tmp 48, .tmp 50]) rfl ?_); at_builtin; refine Kd.R_append k100 (w0 := w) w.heap.size rfl (.tmp 48) (.tmp 50) 86 100 (.agg #[(.int .i64 0), (.int .i64 0)]) 16 rfl Tryd.underlying86 info100 rfl (by decide) (by omega) u6 x6_2 (⟨(rd_T100 l0 x19_2).f0, (rd_T100 l0 x19_2).f1⟩ : S100) [.int .i64 ((rd_T100 l0 x19_2).f0), .int .i64 ((rd_T100 l0 x19_2).f1)] (fun k_ => k_ ≠ gb301) (fun _ => False) rfl (w135_) ?aP (fun _ hk => hk.elim) ?aF ?aO ?aB ?aS ?aL ?_; (case aP => exact k100_mkM _ _ _ (⟨(rd_T100 l0 x19_2).f0, (rd_T100 l0 x19_2).f1⟩ : S100)); (case aB => exact (w79_)); (case aF => exact (fun k_ hk => Kd.freshB (g := gb301) (o := .cells #[.int .i64 ((rd_T100 l0 x19_2).f0), .int .i64 ((rd_T100 l0 x19_2).f1)] 100 (0, 0)) (w16_) k_ hk)); (case aO => exact (w24_)); (case aS => exact (below_size (w79_))); (case aL => have := LMc33.out; omega); intro v308 w36 ho hb hg hat; rw [← Ny307.out] at ho; replace BK301 := Az_ (blk_grown (g := gb301) (o := .cells #[.int .i64 ((rd_T100 l0 x19_2).f0), .int .i64 ((rd_T100 l0 x19_2).f1)] 100 (0, 0)) (w16_) hg (Kd.R_away HO_6.out (fun _ hk => hk.2))); replace HB := Az_ (hb); have HO309 := Az_ (ho); clear HO_6; clear ho hb hg hat)))
        go_roundg k2
        case measure => have := HJ2.out; have := HK2.out; omega
        case rel => exact ⟨(y307), (wrap64 (x19_2 + 1)), qaz_, H', ⟨w138_⟩, ⟨by (with_reducible repeat (first | apply raz_ | apply rnz_ | apply rdz_)); exact Kd.R_mono HO309.out (fun _ hk => trivial)⟩, ⟨w79_⟩⟩
       rw [if_pos c13] at H
       have c13b0 := decide_eq_true c13
       clear c13
       obtain ⟨ji14, hji14⟩ : ∃ j_ : Int, (wrap64 (x19_2 - 1)) = j_ := ⟨_, rfl⟩
       replace H : (if 0 ≤ (ji14) then (if (ji14) < (l0.length : Int) then (if (wrap64 ((wrap64 (((rd_T100 l0 x19_2).f0) - ((rd_T100 l0 (ji14)).f1))) - 1)) ≤ a1 then (if 0 ≤ (wrap64 ((x6_2.length : Int) - 1)) then (if (wrap64 ((x6_2.length : Int) - 1)) < (x6_2.length : Int) then (spec_JoinGaps.l0 k2 l0 a1 (x6_2.set ((wrap64 ((x6_2.length : Int) - 1)) : Int).toNat (⟨(rd_T100 x6_2 (wrap64 ((x6_2.length : Int) - 1))).f0, (rd_T100 l0 x19_2).f1⟩ : S100)) l0 (l0.length : Int) (wrap64 (x19_2 + 1))) else (none)) else (none)) else (if x6_2.length < 8796093022208 then (spec_JoinGaps.l0 k2 l0 a1 (x6_2 ++ [(⟨(rd_T100 l0 x19_2).f0, (rd_T100 l0 x19_2).f1⟩ : S100)]) l0 (l0.length : Int) (wrap64 (x19_2 + 1))) else (none))) else (none)) else (none)) = some (r1, r2) := by first | (rw [hji14] at H; exact H) | (simp only [hji14] at H ⊢; exact H)
       have hji14w : (IntKind.i64.wrap (x19_2 - 1)) = ji14 := (i64_w _).trans hji14
       by_cases c15 : 0 ≤ (ji14); rotate_left
       ·rw [if_neg c15] at H
        exact absurd H (by simp)
       rw [if_pos c15] at H
       have c15b0 := decide_eq_true c15
       clear c15
       by_cases c16 : (ji14) < (l0.length : Int); rotate_left
       ·rw [if_neg c16] at H
        exact absurd H (by simp)
       rw [if_pos c16] at H
       have c16b0 := decide_eq_true c16
       clear c16
       by_cases c17 : (wrap64 ((wrap64 (((rd_T100 l0 x19_2).f0) - ((rd_T100 l0 (ji14)).f1))) - 1)) ≤ a1; rotate_left
       ·rw [if_neg c17] at H
        have c17b0 := decide_eq_false c17
        clear c17
        by_cases c29 : x6_2.length < 8796093022208; rotate_left
        ·rw [if_neg c29] at H
         exact absurd H (by simp)
        rw [if_pos c29] at H
        have LMc29 := Az_ c29
        clear c29
        obtain ⟨y304, hy304⟩ : ∃ y_ : List (S100), y_ = (x6_2 ++ [(⟨(rd_T100 l0 x19_2).f0, (rd_T100 l0 x19_2).f1⟩ : S100)]) := ⟨_, rfl⟩
        replace H : (spec_JoinGaps.l0 k2 l0 a1 y304 l0 (l0.length : Int) (wrap64 (x19_2 + 1))) = some (r1, r2) := by first | (rw [hy304]; with_reducible exact H) | (have H2_ := (Option.bind_some _ _).symm.trans H; rw [hy304]; with_reducible exact H2_) | (have H2_ := (Option.bind_some _ _).symm.trans H; with_reducible exact H2_) | with_reducible exact H | (rw [hy304]; exact H) | exact H
        have Ny304 := Az_ hy304
        clear hy304
        have H' := Az_ H
        clear H
        have p300 : 0 ≤ (x19_2 : Int) := od_
        have q300 : x19_2 < (l0.length : Int) := od_
        obtain ⟨ad300, e300, hx300_0, hx300_1⟩ := at_T100 HR0.out x19_2 p300 q300
        cases e300
        replace hx300_0 := hbz_ HB.out hx300_0
        replace hx300_1 := hbz_ HB.out hx300_1
        replace p300 := eq_true p300
        replace q300 := eq_true q300
        go_wp2_with (((with_reducible refine gate_dst (N := 8) rfl ?_); refine box_event ?hg (N := 8) ?hd (cs := #[.int .i64 0, .int .i64 0]) (t := 100) ?hr ?_; (case hd => rfl); (case hg => rfl); (case hr => first | (go_simp; done) | (go_simp; rfl)); intro gb301 hg w30 hbox hb; replace HO_6 := Az_ (Kd.R_below (Kd.R_elderB (w158_) gb301 (Nat.le_of_eq hg.symm)) hb); have BK301 := Az_ (hbox); have GW301 := Az_ ((by rw [hg]; exact (below_size (ubz_ HB.out)) : w.heap.size ≤ gb301)); have GE301 := Az_ ((by rw [hg]; exact (below_size (ubz_ HB.out)) : w.heap.size ≤ gb301)); replace HB := Az_ (btz_ (ubz_ HB.out) hb); clear hb hbox hg; have hcz31_0 : w30.cell? ⟨gb301, 0, none⟩ = some (.int .i64 0) := (blk_cell BK301.out 0).trans rfl; have hcz31_1 : w30.cell? ⟨gb301, 1, none⟩ = some (.int .i64 0) := (blk_cell BK301.out 1).trans rfl; have hfz31_0 := blk_frozen BK301.out 0; have hfz31_1 := blk_frozen BK301.out 1; have p302 : 0 ≤ ((ji14) : Int) := od_; have q302 : (ji14) < (l0.length : Int) := od_; obtain ⟨ad302, e302, hx302_0, hx302_1⟩ := at_T100 HR0.out (ji14) p302 q302; obtain rfl : ad300 = ad302 := (by injection e302); have hn302_0 : ad300.block ≠ gb301 := Nat.ne_of_lt (Nat.lt_of_lt_of_le (by have := World.block_lt_of_cell? _ _ hx302_0; first | rwa [add_block] at this | exact this) GW301.out); have hn302_1 : ad300.block ≠ gb301 := Nat.ne_of_lt (Nat.lt_of_lt_of_le (by have := World.block_lt_of_cell? _ _ hx302_0; first | rwa [add_block] at this | exact this) GW301.out); replace hx302_0 := hbz_ HB.out hx302_0; replace hx302_1 := hbz_ HB.out hx302_1; replace hx302_0 := (cell_far (p := ⟨gb301, 0, none⟩) (w96_) (.int .i64 ((rd_T100 l0 x19_2).f0))).trans hx302_0; replace hx302_1 := (cell_far (p := ⟨gb301, 0, none⟩) (w96_) (.int .i64 ((rd_T100 l0 x19_2).f0))).trans hx302_1; replace hx302_0 := (cell_far (p := ⟨gb301, 1, none⟩) (w97_) (.int .i64 ((rd_T100 l0 x19_2).f1))).trans hx302_0; replace hx302_1 := (cell_far (p := ⟨gb301, 1, none⟩) (w97_) (.int .i64 ((rd_T100 l0 x19_2).f1))).trans hx302_1; (try have hy302_0 := fun (n_ : Nat) => (show ((((w30.drewN n_).setCell ⟨gb301, 0, none⟩ (.int .i64 ((rd_T100 l0 x19_2).f0))).setCell ⟨gb301, 1, none⟩ (.int .i64 ((rd_T100 l0 x19_2).f1)))).cell? _ = some _ from hx302_0)); (try have hy302_1 := fun (n_ : Nat) => (show ((((w30.drewN n_).setCell ⟨gb301, 0, none⟩ (.int .i64 ((rd_T100 l0 x19_2).f0))).setCell ⟨gb301, 1, none⟩ (.int .i64 ((rd_T100 l0 x19_2).f1)))).cell? _ = some _ from hx302_1)); clear hn302_0; clear hn302_1; replace p302 := eq_true p302; replace q302 := eq_true q302))
        repeat (go_quiet (fail); try go_wp2_with (((with_reducible refine gate_builtin (b := .append) (xs := #[.tmp 48, .tmp 50]) rfl ?_); at_builtin; refine Kd.R_append k100 (w0 := w) w.heap.size rfl (.tmp 48) (.tmp 50) 86 100 (.agg #[(.int .i64 0), (.int .i64 0)]) 16 rfl Tryd.underlying86 info100 rfl (by decide) (by omega) u6 x6_2 (⟨(rd_T100 l0 x19_2).f0, (rd_T100 l0 x19_2).f1⟩ : S100) [.int .i64 ((rd_T100 l0 x19_2).f0), .int .i64 ((rd_T100 l0 x19_2).f1)] (fun k_ => k_ ≠ gb301) (fun _ => False) rfl (w135_) ?aP (fun _ hk => hk.elim) ?aF ?aO ?aB ?aS ?aL ?_; (case aP => exact k100_mkM _ _ _ (⟨(rd_T100 l0 x19_2).f0, (rd_T100 l0 x19_2).f1⟩ : S100)); (case aB => exact (w79_)); (case aF => exact (fun k_ hk => Kd.freshB (g := gb301) (o := .cells #[.int .i64 ((rd_T100 l0 x19_2).f0), .int .i64 ((rd_T100 l0 x19_2).f1)] 100 (0, 0)) (w16_) k_ hk)); (case aO => exact (w24_)); (case aS => exact (below_size (w79_))); (case aL => have := LMc29.out; omega); intro v305 w32 ho hb hg hat; rw [← Ny304.out] at ho; replace BK301 := Az_ (blk_grown (g := gb301) (o := .cells #[.int .i64 ((rd_T100 l0 x19_2).f0), .int .i64 ((rd_T100 l0 x19_2).f1)] 100 (0, 0)) (w16_) hg (Kd.R_away HO_6.out (fun _ hk => hk.2))); replace HB := Az_ (hb); have HO306 := Az_ (ho); clear HO_6; clear ho hb hg hat)))
        go_roundg k2
        case measure => have := HJ2.out; have := HK2.out; omega
        case rel => exact ⟨(y304), (wrap64 (x19_2 + 1)), qaz_, H', ⟨w138_⟩, ⟨by (with_reducible repeat (first | apply raz_ | apply rnz_ | apply rdz_)); exact Kd.R_mono HO306.out (fun _ hk => trivial)⟩, ⟨w79_⟩⟩
       rw [if_pos c17] at H
       have c17b0 := decide_eq_true c17
       clear c17
       obtain ⟨ji18, hji18⟩ : ∃ j_ : Int, (wrap64 ((x6_2.length : Int) - 1)) = j_ := ⟨_, rfl⟩
       replace H : (if 0 ≤ (ji18) then (if (ji18) < (x6_2.length : Int) then (spec_JoinGaps.l0 k2 l0 a1 (x6_2.set ((ji18) : Int).toNat (⟨(rd_T100 x6_2 (ji18)).f0, (rd_T100 l0 x19_2).f1⟩ : S100)) l0 (l0.length : Int) (wrap64 (x19_2 + 1))) else (none)) else (none)) = some (r1, r2) := by first | (rw [hji18] at H; exact H) | (simp only [hji18] at H ⊢; exact H)
       have hji18w : (IntKind.i64.wrap ((x6_2.length : Int) - 1)) = ji18 := (i64_w _).trans hji18
       by_cases c19 : 0 ≤ (ji18); rotate_left
       ·rw [if_neg c19] at H
        exact absurd H (by simp)
       rw [if_pos c19] at H
       have c19b0 := decide_eq_true c19
       clear c19
       by_cases c20 : (ji18) < (x6_2.length : Int); rotate_left
       ·rw [if_neg c20] at H
        exact absurd H (by simp)
       rw [if_pos c20] at H
       have c20b0 := decide_eq_true c20
       clear c20
       obtain ⟨y303, hy303⟩ : ∃ y_ : List (S100), y_ = (x6_2.set ((ji18) : Int).toNat (⟨(rd_T100 x6_2 (ji18)).f0, (rd_T100 l0 x19_2).f1⟩ : S100)) := ⟨_, rfl⟩
       replace H : (spec_JoinGaps.l0 k2 l0 a1 y303 l0 (l0.length : Int) (wrap64 (x19_2 + 1))) = some (r1, r2) := by first | (rw [hy303]; with_reducible exact H) | (have H2_ := (Option.bind_some _ _).symm.trans H; rw [hy303]; with_reducible exact H2_) | (have H2_ := (Option.bind_some _ _).symm.trans H; with_reducible exact H2_) | with_reducible exact H | (rw [hy303]; exact H) | exact H
       have Ny303 := Az_ hy303
       clear hy303
       have H' := Az_ H
       clear H
       have p300 : 0 ≤ (x19_2 : Int) := od_
       have q300 : x19_2 < (l0.length : Int) := od_
       obtain ⟨ad300, e300, hx300_0, hx300_1⟩ := at_T100 HR0.out x19_2 p300 q300
       cases e300
       replace hx300_0 := hbz_ HB.out hx300_0
       replace hx300_1 := hbz_ HB.out hx300_1
       replace p300 := eq_true p300
       replace q300 := eq_true q300
       go_wp2_with (first | ((with_reducible refine gate_dst (N := 8) rfl ?_); refine box_event ?hg (N := 8) ?hd (cs := #[.int .i64 0, .int .i64 0]) (t := 100) ?hr ?_; (case hd => rfl); (case hg => rfl); (case hr => first | (go_simp; done) | (go_simp; rfl)); intro gb301 hg w22 hbox hb; replace HO_6 := Az_ (Kd.R_below (Kd.R_elderB (w158_) gb301 (Nat.le_of_eq hg.symm)) hb); have BK301 := Az_ (hbox); have GW301 := Az_ ((by rw [hg]; exact (below_size (ubz_ HB.out)) : w.heap.size ≤ gb301)); have GE301 := Az_ ((by rw [hg]; exact (below_size (ubz_ HB.out)) : w.heap.size ≤ gb301)); replace HB := Az_ (btz_ (ubz_ HB.out) hb); clear hb hbox hg; have hcz23_0 : w22.cell? ⟨gb301, 0, none⟩ = some (.int .i64 0) := (blk_cell BK301.out 0).trans rfl; have hcz23_1 : w22.cell? ⟨gb301, 1, none⟩ = some (.int .i64 0) := (blk_cell BK301.out 1).trans rfl; have hfz23_0 := blk_frozen BK301.out 0; have hfz23_1 := blk_frozen BK301.out 1) | ((with_reducible refine gate_store (t := 100) (p := 8) rfl ?_); (try (rw [drewN_self w22]; generalize hq_ : World.drewN w22 _ = w22; have n0_ := Az_ (Kd.R_at hq_ HO_6.out); have n1_ := Az_ (blk_at hq_ BK301.out); have n2_ := Az_ (below_at hq_ HB.out); clear hq_ HO_6 BK301 HB; have HO_6 := n0_; have BK301 := n1_; have HB := n2_; clear n0_ n1_ n2_)); refine store_event (t := 100) (p := 8) (v := ?vo_w24) (w1 := ((w22.setCell ⟨gb301, 0, none⟩ (.int .i64 ((rd_T100 l0 x19_2).f0))).setCell ⟨gb301, 1, none⟩ (.int .i64 ((rd_T100 l0 x19_2).f1)))) ?hg ?ho ?hn ?hr ?_; (case ho => rfl); (case hg => rfl); (case hn => rfl); (case hr => first | (go_simp; done) | (go_simp; rfl)); intro w24 hw; have n0_ : Aside0 (Kd.R k100 100 w24 w.heap.size (fun k_ => k_ ≠ gb301) u6 x6_2) := ⟨(by rw [hw]; exact (w24_))⟩; have n1_ : Aside0 (w24.heap[gb301]? = some (.cells #[.int .i64 ((rd_T100 l0 x19_2).f0), .int .i64 ((rd_T100 l0 x19_2).f1)] 100 (0, 0))) := ⟨(by rw [hw]; exact (w16_))⟩; have n2_ : Aside0 (Below w.heap.size w w24) := ⟨(w65_)⟩; clear hw; clear HO_6; clear BK301; clear HB; have HO_6 := n0_; have BK301 := n1_; have HB := n2_; clear n0_ n1_ n2_; have hcz25_0 : w24.cell? ⟨gb301, 0, none⟩ = some (.int .i64 ((rd_T100 l0 x19_2).f0)) := (blk_cell BK301.out 0).trans rfl; have hcz25_1 : w24.cell? ⟨gb301, 1, none⟩ = some (.int .i64 ((rd_T100 l0 x19_2).f1)) := (blk_cell BK301.out 1).trans rfl; have hfz25_0 := blk_frozen BK301.out 0; have hfz25_1 := blk_frozen BK301.out 1; have p302 : 0 ≤ ((ji14) : Int) := od_; have q302 : (ji14) < (l0.length : Int) := od_; obtain ⟨ad302, e302, hx302_0, hx302_1⟩ := at_T100 HR0.out (ji14) p302 q302; obtain rfl : ad300 = ad302 := (by injection e302); replace hx302_0 := hbz_ HB.out hx302_0; replace hx302_1 := hbz_ HB.out hx302_1; replace p302 := eq_true p302; replace q302 := eq_true q302; obtain ⟨Ao26, co26, eo26⟩ := Kd.R_slice HO_6.out; subst eo26; have p21 : 0 ≤ ((ji18) : Int) := od_; have q21 : ((ji18) : Int) < ((x6_2.length : Int) : Int) := od_; obtain ⟨go21, co21, eo21, gb21, gl21, cl21, HG21⟩ := Kd.R_form HO_6.out (by omega); (first | cases eo21 | (injection eo21 with ea_ en_ ec_; (first | subst ea_ | (injection ea_ with ea_; subst ea_)); subst ec_; clear en_)); have GB21 := Az_ gb21; have GG21 := Az_ HG21; clear gb21 gl21 HG21; obtain ⟨ce21, hcl21, hM21, hcc21, hfr21⟩ := Kd.R_elem HO_6.out z100 ((ji18) : Int) p21 q21; obtain rfl := k100_openM hM21; have hx21_0 : w24.cell? ⟨go21, ((ji18) : Int).toNat * 2, none⟩ = some (.int .i64 ((rd_T100 x6_2 (ji18)).f0)) := hcc21 0 _ rfl; have hx21_1 : w24.cell? ⟨go21, ((ji18) : Int).toNat * 2 + 1, none⟩ = some (.int .i64 ((rd_T100 x6_2 (ji18)).f1)) := hcc21 1 _ rfl; have hf21_0 : w24.frozen? ⟨go21, ((ji18) : Int).toNat * 2, none⟩ = false := hfr21 0; have hf21_1 : w24.frozen? ⟨go21, ((ji18) : Int).toNat * 2 + 1, none⟩ = false := hfr21 1; (try clear hM21); clear hcl21 hcc21 hfr21; replace p21 := eq_true p21; replace q21 := eq_true q21; have HX27 := Az_ (show Kd.R k100 100 w24 w.heap.size (fun k_ => k_ ≠ gb301) (.slice (some ⟨go21, 0, none⟩) x6_2.length co26) x6_2 from (w158_)); obtain ⟨ce27, hcl27, hM27, hcc27, hfr27⟩ := Kd.R_elem HX27.out z100 ((ji18) : Int) (od_) (by have h_ : ((ji18) : Int) < ((x6_2.length : Int) : Int) := od_; first | exact h_ | (have e_ := (Kd.R_reads' HO_6.out).1; omega) | simpa using h_); obtain rfl := k100_openM hM27; have HP27 := Kd.R_seg HX27.out ((ji18) : Int) (od_) (by have h_ : ((ji18) : Int) < ((x6_2.length : Int) : Int) := od_; first | exact h_ | (have e_ := (Kd.R_reads' HO_6.out).1; omega) | simpa using h_) (seg := [.int .i64 ((rd_T100 l0 x19_2).f1)]) (j := 1) hcl27 hcc27 (show 2 ≤ 2 from by decide) (x' := (⟨(rd_T100 x6_2 (ji18)).f0, (rd_T100 l0 x19_2).f1⟩ : S100)) (k100_mkM _ _ _ (⟨(rd_T100 x6_2 (ji18)).f0, (rd_T100 l0 x19_2).f1⟩ : S100) ) (fun _ hk => hk); have hx27_1 := hcc27 1 _ rfl; (try simp only [show (k100).sz = 2 from rfl, Nat.mul_one, Nat.add_zero] at hx27_1); have hf27_1 := hfr27 1; (try simp only [show (k100).sz = 2 from rfl, Nat.mul_one, Nat.add_zero] at hf27_1); clear hcl27 hcc27 hfr27 hM27))
       repeat (go_quiet (fail); try go_wp2_with (((with_reducible refine gate_store (t := 3) (p := 47) rfl ?_); (try (rw [drewN_self w24]; generalize hq_ : World.drewN w24 _ = w24; have n0_ := Az_ (Kd.R_at hq_ HO_6.out); have n1_ := Az_ (blk_at hq_ BK301.out); have n2_ := Az_ (below_at hq_ HB.out); clear hq_ HO_6 BK301 HB; have HO_6 := n0_; have BK301 := n1_; have HB := n2_; clear n0_ n1_ n2_; (try (have HX27 := Az_ (show Kd.R k100 100 w24 w.heap.size (fun k_ => k_ ≠ gb301) (.slice (some ⟨go21, 0, none⟩) x6_2.length co26) x6_2 from (w158_)))); (try (obtain ⟨ce27, hcl27, hM27, hcc27, hfr27⟩ := Kd.R_elem HX27.out z100 ((ji18) : Int) (od_) (by have h_ : ((ji18) : Int) < ((x6_2.length : Int) : Int) := od_; first | exact h_ | (have e_ := (Kd.R_reads' HO_6.out).1; omega) | simpa using h_))); (try (obtain rfl := k100_openM hM27)); (try (have HP27 := Kd.R_seg HX27.out ((ji18) : Int) (od_) (by have h_ : ((ji18) : Int) < ((x6_2.length : Int) : Int) := od_; first | exact h_ | (have e_ := (Kd.R_reads' HO_6.out).1; omega) | simpa using h_) (seg := [.int .i64 ((rd_T100 l0 x19_2).f1)]) (j := 1) hcl27 hcc27 (show 2 ≤ 2 from by decide) (x' := (⟨(rd_T100 x6_2 (ji18)).f0, (rd_T100 l0 x19_2).f1⟩ : S100)) (k100_mkM _ _ _ (⟨(rd_T100 x6_2 (ji18)).f0, (rd_T100 l0 x19_2).f1⟩ : S100) ) (fun _ hk => hk))); (try (have hx27_1 := hcc27 1 _ rfl)); (try (try simp only [show (k100).sz = 2 from rfl, Nat.mul_one, Nat.add_zero] at hx27_1)); (try (have hf27_1 := hfr27 1)); (try (try simp only [show (k100).sz = 2 from rfl, Nat.mul_one, Nat.add_zero] at hf27_1)); (try (clear hcl27 hcc27 hfr27 hM27)))); refine store_event (t := 3) (p := 47) (v := ?vo_w28) (w1 := (w24.setCell ⟨go21, ((ji18) : Int).toNat * 2 + 1, none⟩ (.int .i64 ((rd_T100 l0 x19_2).f1)))) ?hg ?ho ?hn ?hr ?_; (case ho => rfl); (case hg => rfl); (case hn => rfl); (case hr => first | (go_simp; done) | (go_simp; rfl)); intro w28 hw; have hg : w24.grownBy w28 (some go21) := (by rw [hw]; exact HP27.2); have hp_ : Kd.R k100 100 w28 w.heap.size (fun k_ => k_ ≠ gb301) (.slice (some ⟨go21, 0, none⟩) x6_2.length co26) y303 := (by rw [hw, Ny303.out]; exact HP27.1); clear HP27; replace BK301 := Az_ (blk_grown (g := gb301) (o := .cells #[.int .i64 ((rd_T100 l0 x19_2).f0), .int .i64 ((rd_T100 l0 x19_2).f1)] 100 (0, 0)) (by exact ukz_ BK301.out) hg (Kd.R_away HO_6.out (fun _ hk => hk))); replace HO_6 := Az_ (hp_); replace HB := Az_ ((by rw [hw]; exact bsz_ (HB.out) GB21.out : Below w.heap.size w w28)); clear hg hw hp_)))
       go_roundg k2
       case measure => have := HJ2.out; have := HK2.out; omega
       case rel => exact ⟨(y303), (wrap64 (x19_2 + 1)), qaz_, H', ⟨w138_⟩, ⟨by (with_reducible repeat (first | apply raz_ | apply rnz_ | apply rdz_)); exact Kd.R_mono HO_6.out (fun _ hk => trivial)⟩, ⟨w79_⟩⟩
      ·rw [if_neg c10] at H
       have c10b0 := decide_eq_false c10
       clear c10
       simp only [Option.some.injEq, Prod.mk.injEq] at H
       obtain ⟨rfl, rfl⟩ := H
       go_wp2
       go_ret2
       exact ⟨_, w116_, by (with_reducible repeat (first | apply raz_ | apply rnz_ | apply rdz_)); exact HO_6.out, w160_⟩


def impl_GapsBetween.l0 : Nat → List (S100) → List (S100) → Int → Option ((List (S100)) × Bool)
 | 0, _, _, _ => none
 | k + 1, x0, x4, x5 => if x5 < (x0.length : Int) then (if 0 ≤ (wrap64 (x5 - 1)) then (if (wrap64 (x5 - 1)) < (x0.length : Int) then (if 0 ≤ x5 then (if x4.length < 8796093022208 then (impl_GapsBetween.l0 k x0 (x4 ++ [(⟨wrap64 (((rd_T100 x0 (wrap64 (x5 - 1))).f1) + 1), wrap64 (((rd_T100 x0 x5).f0) - 1)⟩ : S100)]) (wrap64 (x5 + 1))) else (none)) else (none)) else (none)) else (none)) else (some (x4, true))
def impl_GapsBetween.f (k : Nat) (l0 : List (S100)) : Option ((List (S100)) × Bool) := (impl_AreRanges.f k l0).bind fun t310 => (if t310 = true then (impl_GapsBetween.l0 k l0 (([] : List (S100))) 1) else (some (([] : List (S100)), false)))
def impl_GapsBetween.T7 : Bool × List (List Nat × List Nat) := (true, [([], []), ([], []), ([], []), ([2], [2]), ([1, 3], [1, 3]), ([4], [4]), ([5], [5]), ([6], [6]), ([], []), ([], []), ([8, 9], [8, 9]), ([10], [10]), ([11], [11]), ([12], [12]), ([7, 13], [7, 13]), ([14], [14]), ([0, 15], [0, 15]), ([16, 16, 0, 1, 2, 3, 4, 5, 6, 7, 8, 9, 10, 11, 12, 13, 14, 15, 16], [0, 16])])
def impl_GapsBetween.B7 : List Nat := [0, 0, 0, 4, 14, 30, 62, 126, 0, 0, 768, 1792, 3840, 7936, 16382, 32766, 65535, 131071]
theorem impl_GapsBetween.tab7 : rtab .any (opsOf Tryd.f81 7) = impl_GapsBetween.T7 := by kernel_rfl
theorem impl_GapsBetween.bits7 : waitsOk impl_GapsBetween.T7.2 impl_GapsBetween.B7 = true := by kernel_rfl
set_option maxHeartbeats 8000000 in
set_option maxRecDepth 100000 in
theorem impl_GapsBetween.calls (k : Nat) (A0 : Option Addr) (c0 : Nat) (l0 : List (S100)) (r1 : List (S100)) (r2 : Bool) (w : World) (hr0 : Kd.C k100 w A0 l0.length l0) (hc0 : l0.length ≤ c0) (h : impl_GapsBetween.f k l0 = some (r1, r2)) :
  Calls Tryd.prog 81 #[.slice A0 l0.length c0] w fun e w' => ∃ v0_ : Value, e = .returned (.tuple #[v0_, .bool r2]) ∧ Kd.R k100 100 w' w.heap.size (fun _ => True) v0_ r1 ∧ Below w.heap.size w w' := by
 have hu100 := Tryd.underlying100
 have HR0 := Az_ hr0
 have HC0 := Az_ hc0
 clear hr0 hc0
 have HB := Az_ (Below.refl w.heap.size w)
 have H : ((impl_AreRanges.f k l0).bind fun t310 => (if t310 = true then (impl_GapsBetween.l0 k l0 (([] : List (S100))) 1) else (some (([] : List (S100)), false)))) = some (r1, r2) := h
 clear h
 replace H := bqz_ H; obtain ⟨t310, A2, H⟩ := H
 replace H : (if t310 = true then (impl_GapsBetween.l0 k l0 (([] : List (S100))) 1) else (some (([] : List (S100)), false))) = some (r1, r2) := H
 by_cases c3 : t310 = true
 ·subst c3
  rw [if_pos rfl] at H
  obtain ⟨y311, hy311⟩ : ∃ y_ : List (S100), y_ = (([] : List (S100))) := ⟨_, rfl⟩
  replace H : (impl_GapsBetween.l0 k l0 y311 1) = some (r1, r2) := by first | (rw [hy311]; with_reducible exact H) | (have H2_ := (Option.bind_some _ _).symm.trans H; rw [hy311]; with_reducible exact H2_) | (have H2_ := (Option.bind_some _ _).symm.trans H; with_reducible exact H2_) | with_reducible exact H | (rw [hy311]; exact H) | exact H
  have Ny311 := Az_ hy311
  clear hy311
  have H' := Az_ H
  clear H
  go_enter Tryd.func81, Tryd.ntmps81
  go_wp2_with (first | ((with_reducible refine gate_callee (f := 91) rfl ?_); refine goesL_ (some 7) rfl rfl Tryd.func91 (w162_) rfl #[.slice A0 l0.length c0] rfl maz_ ?_; (with_reducible refine (impl_AreRanges.calls k _ _ l0 true _ ?side1 ?side2 A2.out).mono ?_); (case side1 => exact ucz_ (HR0.out)); (case side2 => exact HC0.out); rintro e w4 ⟨rfl, hb⟩; refine ⟨_, rfl, ?_⟩; replace HB := Az_ (btz_ (ubz_ HB.out) hb); (try clear hb)) | ((with_reducible refine gate_dst (N := 9) rfl ?_); refine Kd.R_lit k100 _ 100 ?hg (N := 9) ?hd (xs := ([] : List (S100))) (inner := []) (ok := fun _ => True) (okp := fun _ => True) ?hr ?hp (fun _ hk => hk) trivial (Below.refl _ _) (Nat.le_refl _) (by simp) ?_; (case hd => rfl); (case hg => rfl); (case hr => first | (go_simp; done) | (go_simp; rfl)); (case hp => exact (Reps.none _ _)); intro v312 w5 ho6 hb hg_ hnew_; clear hg_ hnew_; (first | rw [← Ny311.out] at ho6 | (simp only [Int.reduceToNat] at ho6; rw [← Ny311.out] at ho6)); have HO313 := Az_ (Kd.R_lower ho6 (below_size (ubz_ HB.out))); replace HB := Az_ (btz_ (ubz_ HB.out) hb); clear hb ho6))
  go_loopg [4, 5] k (fun kq v4 v5 w' => ∃ (x4_1 : List (S100)) (x5_1 : Int), v5 = .int .i64 x5_1 ∧ Aside0 (impl_GapsBetween.l0 kq l0 x4_1 x5_1 = some (r1, r2)) ∧ Aside0 (kq ≤ k) ∧ Aside0 (Kd.R k100 100 w' w.heap.size (fun _ => True) v4 x4_1) ∧ Aside0 (Below w.heap.size w w'))
  case atStart => exact ⟨(y311), (1), qaz_, H', ⟨Nat.le_refl _⟩, ⟨by (with_reducible repeat (first | apply raz_ | apply rnz_ | apply rdz_)); exact HO313.out⟩, ⟨w160_⟩⟩
  case round =>
   clear H'
   obtain ⟨x4_1, x5_1, rfl, HA, HK1, HO_4, HB⟩ := hrel
   cases gk with
   | zero => exact absurd HA.out (by simp [impl_GapsBetween.l0])
   | succ k1 =>
    have H := HA.out
    clear HA
    simp only [impl_GapsBetween.l0] at H
    by_cases c7 : x5_1 < (l0.length : Int); rotate_left
    ·rw [if_neg c7] at H
     have c7b0 := decide_eq_false c7
     clear c7
     simp only [Option.some.injEq, Prod.mk.injEq] at H
     obtain ⟨rfl, rfl⟩ := H
     go_wp2
     go_ret2
     exact ⟨_, w116_, w125_, w160_⟩
    rw [if_pos c7] at H
    have c7b0 := decide_eq_true c7
    clear c7
    obtain ⟨ji8, hji8⟩ : ∃ j_ : Int, (wrap64 (x5_1 - 1)) = j_ := ⟨_, rfl⟩
    replace H : (if 0 ≤ (ji8) then (if (ji8) < (l0.length : Int) then (if 0 ≤ x5_1 then (if x4_1.length < 8796093022208 then (impl_GapsBetween.l0 k1 l0 (x4_1 ++ [(⟨wrap64 (((rd_T100 l0 (ji8)).f1) + 1), wrap64 (((rd_T100 l0 x5_1).f0) - 1)⟩ : S100)]) (wrap64 (x5_1 + 1))) else (none)) else (none)) else (none)) else (none)) = some (r1, r2) := by first | (rw [hji8] at H; exact H) | (simp only [hji8] at H ⊢; exact H)
    have hji8w : (IntKind.i64.wrap (x5_1 - 1)) = ji8 := (i64_w _).trans hji8
    by_cases c9 : 0 ≤ (ji8); rotate_left
    ·rw [if_neg c9] at H
     exact absurd H (by simp)
    rw [if_pos c9] at H
    have c9b0 := decide_eq_true c9
    clear c9
    by_cases c10 : (ji8) < (l0.length : Int); rotate_left
    ·rw [if_neg c10] at H
     exact absurd H (by simp)
    rw [if_pos c10] at H
    have c10b0 := decide_eq_true c10
    clear c10
    by_cases c11 : 0 ≤ x5_1; rotate_left
    ·rw [if_neg c11] at H
     exact absurd H (by simp)
    rw [if_pos c11] at H
    have c11b0 := decide_eq_true c11
    clear c11
    by_cases c12 : x4_1.length < 8796093022208; rotate_left
    ·rw [if_neg c12] at H
     exact absurd H (by simp)
    rw [if_pos c12] at H
    have LMc12 := Az_ c12
    clear c12
    obtain ⟨y316, hy316⟩ : ∃ y_ : List (S100), y_ = (x4_1 ++ [(⟨wrap64 (((rd_T100 l0 (ji8)).f1) + 1), wrap64 (((rd_T100 l0 x5_1).f0) - 1)⟩ : S100)]) := ⟨_, rfl⟩
    replace H : (impl_GapsBetween.l0 k1 l0 y316 (wrap64 (x5_1 + 1))) = some (r1, r2) := by first | (rw [hy316]; with_reducible exact H) | (have H2_ := (Option.bind_some _ _).symm.trans H; rw [hy316]; with_reducible exact H2_) | (have H2_ := (Option.bind_some _ _).symm.trans H; with_reducible exact H2_) | with_reducible exact H | (rw [hy316]; exact H) | exact H
    have Ny316 := Az_ hy316
    clear hy316
    have H' := Az_ H
    clear H
    try go_wp2
    have n0_ := Az_ (rdz_ HO_4.out)
    have n1_ := Az_ (bdz_ HB.out)
    clear HO_4 HB
    have HO_4 := n0_
    have HB := n1_
    clear n0_ n1_
    have p314 : 0 ≤ ((ji8) : Int) := od_
    have q314 : (ji8) < (l0.length : Int) := od_
    obtain ⟨ad314, e314, hx314_0, hx314_1⟩ := at_T100 HR0.out (ji8) p314 q314
    have hw314_1 := hx314_1
    have hw314_0 := hx314_0
    cases e314
    replace hx314_0 := hbz_ HB.out hx314_0
    replace hx314_1 := hbz_ HB.out hx314_1
    replace p314 := eq_true p314
    replace q314 := eq_true q314
    have p315 : 0 ≤ (x5_1 : Int) := od_
    have q315 : x5_1 < (l0.length : Int) := od_
    obtain ⟨ad315, e315, hx315_0, hx315_1⟩ := at_T100 HR0.out x5_1 p315 q315
    have hw315_1 := hx315_1
    have hw315_0 := hx315_0
    obtain rfl : ad314 = ad315 := (by injection e315)
    replace hx315_0 := hbz_ HB.out hx315_0
    replace hx315_1 := hbz_ HB.out hx315_1
    replace p315 := eq_true p315
    replace q315 := eq_true q315
    refine start_ (n := 18) (S := fun w' => w'.cell? (ad314.add (((ji8)).toNat * 2)) = some (.int .i64 ((rd_T100 l0 (ji8)).f0)) ∧ w'.cell? ⟨(ad314.add (((ji8)).toNat * 2)).block, (ad314.add (((ji8)).toNat * 2)).off + 1, none⟩ = some (.int .i64 ((rd_T100 l0 (ji8)).f1)) ∧ w'.cell? (ad314.add ((x5_1).toNat * 2)) = some (.int .i64 ((rd_T100 l0 x5_1).f0)) ∧ w'.cell? ⟨(ad314.add ((x5_1).toNat * 2)).block, (ad314.add ((x5_1).toNat * 2)).off + 1, none⟩ = some (.int .i64 ((rd_T100 l0 x5_1).f1))) (ds := []) #[false, false, false, false, false, false, false, false, false, false, false, false, false, false, false, false, false, false] (w162_) rfl rfl ⟨(hbz_ HB.out hw314_0), (hbz_ HB.out hw314_1), (hbz_ HB.out hw315_0), (hbz_ HB.out hw315_1)⟩ (fun hHeld => ?_); refine with_tabW impl_GapsBetween.tab7 impl_GapsBetween.bits7 (fun HT_ HW_ => ?_)
    generalize wr.drew = w13 at HO_4 HB hx314_0 hx314_1 hx315_0 hx315_1 hHeld ⊢
    refine pz_ 0 16 [1,17] ?_
    refine pz_ 1 17 [2,16] ?_
    refine pz_ 2 18 [3,15] ?_
    refine pz_ 3 19 [4,14] ?_
    refine pz_ 4 20 [5,13] ?_
    refine pz_ 5 21 [6,12] ?_
    refine pz_ 8 24 [6,2,1,9] ?_
    refine pz_ 9 25 [6,2,2,8] ?_
    refine pz_ 10 26 [6,2,3,7] ?_
    refine pz_ 11 27 [6,2,4,6] ?_
    refine tz4_ 6 22 [7,1,4,6] ?_
    refine pz_ 7 23 [12,6] ?_
    refine tz4_ 12 28 [13,5] ?_
    refine pz_ 13 29 [14,4] ?_
    refine pz_ 14 30 [15,3] ?_
    refine one_ (i := 15) (N := some 31) (mz_ [16,2]) rfl rfl (one_of HT_.out (w162_)) (by decide) (fun K hK => ?_)
    refine value_ (w1 := ?_) (v := ?_) (by rfl) rfl ?_ ?_
    rotate_left 2
    ·go_simp
     constructor
     ·rfl
     ·rfl
    refine hK.out _ _ ⟨(World.cell?_alloc_lt _ _ _ (World.block_lt_of_cell? _ _ ((hbz_ HB.out hw314_0)))).trans ((hbz_ HB.out hw314_0)), (World.cell?_alloc_lt _ _ _ (World.block_lt_of_cell? _ _ ((hbz_ HB.out hw314_1)))).trans ((hbz_ HB.out hw314_1)), (World.cell?_alloc_lt _ _ _ (World.block_lt_of_cell? _ _ ((hbz_ HB.out hw315_0)))).trans ((hbz_ HB.out hw315_0)), (World.cell?_alloc_lt _ _ _ (World.block_lt_of_cell? _ _ ((hbz_ HB.out hw315_1)))).trans ((hbz_ HB.out hw315_1))⟩ (fun hHeld => ?_)
    clear hK K
    refine nz_ 31 ?_
    refine one_ (i := 16) (N := some 32) (mz_ [17,1]) rfl rfl (one_of HT_.out (w162_)) (by decide) (fun K hK => ?_)
    refine Kd.R_append_step k100 (w0 := w) w.heap.size (by rfl) (.tmp 16) (.tmp 31) 86 100 (.agg #[(.int .i64 0), (.int .i64 0)]) 16 rfl Tryd.underlying86 info100 rfl (by decide) (by omega) u4 x4_1 (⟨wrap64 (((rd_T100 l0 (ji8)).f1) + 1), wrap64 (((rd_T100 l0 x5_1).f0) - 1)⟩ : S100) [.int .i64 (wrap64 (((rd_T100 l0 (ji8)).f1) + 1)), .int .i64 (wrap64 (((rd_T100 l0 x5_1).f0) - 1))] (fun _ => True) (fun _ => False) rfl rfl ?aP (fun _ hk => hk.elim) ?aF ?aO ?aB ?aS ?aL ?_
    (case aP => exact k100_mkM _ _ _ (⟨wrap64 (((rd_T100 l0 (ji8)).f1) + 1), wrap64 (((rd_T100 l0 x5_1).f0) - 1)⟩ : S100))
    (case aB => exact (ubz_ HB.out))
    (case aF => exact (fun _ _ => trivial))
    (case aO => exact (w157_))
    (case aS => exact (below_size (ubz_ HB.out)))
    (case aL => have := LMc12.out; omega)
    intro v317 w14 ho hb hg hat
    rw [← Ny316.out] at ho
    have n0_ := Az_ (hb)
    have n1_ := Az_ (ho)
    clear HB HO_4
    have HB := n0_
    have HO318 := n1_
    clear n0_ n1_ ho hb hg hat
    refine hK.out _ _ ⟨(hbz_ HB.out hw314_0), (hbz_ HB.out hw314_1), (hbz_ HB.out hw315_0), (hbz_ HB.out hw315_1)⟩ (fun hHeld => ?_)
    clear hK K
    refine nz_ 32 ?_
    refine pz_ 17 4 [18] ?_
    refine done_ (done_of HT_.out (w162_)) ?_
    try go_wp2
    go_roundg k1
    case measure => have := HK1.out; omega
    case rel => exact ⟨(y316), (wrap64 (x5_1 + 1)), qaz_, H', ⟨w144_⟩, ⟨by (with_reducible repeat (first | apply raz_ | apply rnz_ | apply rdz_)); exact HO318.out⟩, ⟨w160_⟩⟩
 ·replace c3 := Bool.eq_false_iff.mpr c3
  subst c3
  rw [if_neg nfz_] at H
  simp only [Option.some.injEq, Prod.mk.injEq] at H
  obtain ⟨rfl, rfl⟩ := H
  go_enter Tryd.func81, Tryd.ntmps81
  go_wp2_with (((with_reducible refine gate_callee (f := 91) rfl ?_); refine goesL_ (some 7) rfl rfl Tryd.func91 (w162_) rfl #[.slice A0 l0.length c0] rfl maz_ ?_; (with_reducible refine (impl_AreRanges.calls k _ _ l0 false _ ?side1 ?side2 A2.out).mono ?_); (case side1 => exact ucz_ (HR0.out)); (case side2 => exact HC0.out); rintro e w15 ⟨rfl, hb⟩; refine ⟨_, rfl, ?_⟩; replace HB := Az_ (btz_ (ubz_ HB.out) hb); (try clear hb)))
  go_ret2
  exact ⟨_, w116_, w80_, w160_⟩


def spec_GapsBetween.l0 : Nat → List (S100) → List (S100) → Int → Option ((List (S100)) × Bool)
 | 0, _, _, _ => none
 | k + 1, x0, x4, x5 => if x5 < (x0.length : Int) then (if 0 ≤ (wrap64 (x5 - 1)) then (if (wrap64 (x5 - 1)) < (x0.length : Int) then (if 0 ≤ x5 then (if x4.length < 8796093022208 then (spec_GapsBetween.l0 k x0 (x4 ++ [(⟨wrap64 (((rd_T100 x0 (wrap64 (x5 - 1))).f1) + 1), wrap64 (((rd_T100 x0 x5).f0) - 1)⟩ : S100)]) (wrap64 (x5 + 1))) else (none)) else (none)) else (none)) else (none)) else (some (x4, true))
def spec_GapsBetween.f (k : Nat) (l0 : List (S100)) : Option ((List (S100)) × Bool) := (spec_ixGood.f k l0).bind fun t319 => (if t319 = true then (spec_GapsBetween.l0 k l0 ([] : List (S100)) 1) else (some (([] : List (S100)), false)))
def spec_GapsBetween.T7 : Bool × List (List Nat × List Nat) := (true, [([], []), ([], []), ([], []), ([2], [2]), ([1, 3], [1, 3]), ([4], [4]), ([5], [5]), ([6], [6]), ([], []), ([], []), ([8, 9], [8, 9]), ([10], [10]), ([11], [11]), ([12], [12]), ([7, 13], [7, 13]), ([14], [14]), ([0, 15], [0, 15]), ([16, 16, 0, 1, 2, 3, 4, 5, 6, 7, 8, 9, 10, 11, 12, 13, 14, 15, 16], [0, 16])])
def spec_GapsBetween.B7 : List Nat := [0, 0, 0, 4, 14, 30, 62, 126, 0, 0, 768, 1792, 3840, 7936, 16382, 32766, 65535, 131071]
theorem spec_GapsBetween.tab7 : rtab .any (opsOf Tryd.f82 7) = spec_GapsBetween.T7 := by kernel_rfl
theorem spec_GapsBetween.bits7 : waitsOk spec_GapsBetween.T7.2 spec_GapsBetween.B7 = true := by kernel_rfl
set_option maxHeartbeats 8000000 in
set_option maxRecDepth 100000 in
theorem spec_GapsBetween.calls (k : Nat) (A0 : Option Addr) (c0 : Nat) (l0 : List (S100)) (r1 : List (S100)) (r2 : Bool) (w : World) (hr0 : Kd.C k100 w A0 l0.length l0) (hc0 : l0.length ≤ c0) (h : spec_GapsBetween.f k l0 = some (r1, r2)) :
  Calls Tryd.prog 82 #[.slice A0 l0.length c0] w fun e w' => ∃ v0_ : Value, e = .returned (.tuple #[v0_, .bool r2]) ∧ Kd.R k100 100 w' w.heap.size (fun _ => True) v0_ r1 ∧ Below w.heap.size w w' := by
 have hu100 := Tryd.underlying100
 have HR0 := Az_ hr0
 have HC0 := Az_ hc0
 clear hr0 hc0
 have HB := Az_ (Below.refl w.heap.size w)
 have H : ((spec_ixGood.f k l0).bind fun t319 => (if t319 = true then (spec_GapsBetween.l0 k l0 ([] : List (S100)) 1) else (some (([] : List (S100)), false)))) = some (r1, r2) := h
 clear h
 replace H := bqz_ H; obtain ⟨t319, A2, H⟩ := H
 replace H : (if t319 = true then (spec_GapsBetween.l0 k l0 ([] : List (S100)) 1) else (some (([] : List (S100)), false))) = some (r1, r2) := H
 by_cases c3 : t319 = true
 ·subst c3
  rw [if_pos rfl] at H
  have H' := Az_ H
  clear H
  go_enter Tryd.func82, Tryd.ntmps82
  go_wp2_with (((with_reducible refine gate_callee (f := 161) rfl ?_); refine goesL_ (some 7) rfl rfl Tryd.func161 (w162_) rfl #[.slice A0 l0.length c0] rfl maz_ ?_; (with_reducible refine (spec_ixGood.calls k _ _ l0 true _ ?side1 ?side2 A2.out).mono ?_); (case side1 => exact ucz_ (HR0.out)); (case side2 => exact HC0.out); rintro e w4 ⟨rfl, hb⟩; refine ⟨_, rfl, ?_⟩; replace HB := Az_ (btz_ (ubz_ HB.out) hb); (try clear hb)))
  go_loopg [4, 5] k (fun kq v4 v5 w' => ∃ (x4_1 : List (S100)) (x5_1 : Int), v5 = .int .i64 x5_1 ∧ Aside0 (spec_GapsBetween.l0 kq l0 x4_1 x5_1 = some (r1, r2)) ∧ Aside0 (kq ≤ k) ∧ Aside0 (Kd.R k100 100 w' w.heap.size (fun _ => True) v4 x4_1) ∧ Aside0 (Below w.heap.size w w'))
  case atStart => exact ⟨(([] : List (S100))), (1), qaz_, H', ⟨Nat.le_refl _⟩, ⟨w80_⟩, ⟨w160_⟩⟩
  case round =>
   clear H'
   obtain ⟨x4_1, x5_1, rfl, HA, HK1, HO_4, HB⟩ := hrel
   cases gk with
   | zero => exact absurd HA.out (by simp [spec_GapsBetween.l0])
   | succ k1 =>
    have H := HA.out
    clear HA
    simp only [spec_GapsBetween.l0] at H
    by_cases c5 : x5_1 < (l0.length : Int); rotate_left
    ·rw [if_neg c5] at H
     have c5b0 := decide_eq_false c5
     clear c5
     simp only [Option.some.injEq, Prod.mk.injEq] at H
     obtain ⟨rfl, rfl⟩ := H
     go_wp2
     go_ret2
     exact ⟨_, w116_, w125_, w160_⟩
    rw [if_pos c5] at H
    have c5b0 := decide_eq_true c5
    clear c5
    obtain ⟨ji6, hji6⟩ : ∃ j_ : Int, (wrap64 (x5_1 - 1)) = j_ := ⟨_, rfl⟩
    replace H : (if 0 ≤ (ji6) then (if (ji6) < (l0.length : Int) then (if 0 ≤ x5_1 then (if x4_1.length < 8796093022208 then (spec_GapsBetween.l0 k1 l0 (x4_1 ++ [(⟨wrap64 (((rd_T100 l0 (ji6)).f1) + 1), wrap64 (((rd_T100 l0 x5_1).f0) - 1)⟩ : S100)]) (wrap64 (x5_1 + 1))) else (none)) else (none)) else (none)) else (none)) = some (r1, r2) := by first | (rw [hji6] at H; exact H) | (simp only [hji6] at H ⊢; exact H)
    have hji6w : (IntKind.i64.wrap (x5_1 - 1)) = ji6 := (i64_w _).trans hji6
    by_cases c7 : 0 ≤ (ji6); rotate_left
    ·rw [if_neg c7] at H
     exact absurd H (by simp)
    rw [if_pos c7] at H
    have c7b0 := decide_eq_true c7
    clear c7
    by_cases c8 : (ji6) < (l0.length : Int); rotate_left
    ·rw [if_neg c8] at H
     exact absurd H (by simp)
    rw [if_pos c8] at H
    have c8b0 := decide_eq_true c8
    clear c8
    by_cases c9 : 0 ≤ x5_1; rotate_left
    ·rw [if_neg c9] at H
     exact absurd H (by simp)
    rw [if_pos c9] at H
    have c9b0 := decide_eq_true c9
    clear c9
    by_cases c10 : x4_1.length < 8796093022208; rotate_left
    ·rw [if_neg c10] at H
     exact absurd H (by simp)
    rw [if_pos c10] at H
    have LMc10 := Az_ c10
    clear c10
    obtain ⟨y322, hy322⟩ : ∃ y_ : List (S100), y_ = (x4_1 ++ [(⟨wrap64 (((rd_T100 l0 (ji6)).f1) + 1), wrap64 (((rd_T100 l0 x5_1).f0) - 1)⟩ : S100)]) := ⟨_, rfl⟩
    replace H : (spec_GapsBetween.l0 k1 l0 y322 (wrap64 (x5_1 + 1))) = some (r1, r2) := by first | (rw [hy322]; with_reducible exact H) | (have H2_ := (Option.bind_some _ _).symm.trans H; rw [hy322]; with_reducible exact H2_) | (have H2_ := (Option.bind_some _ _).symm.trans H; with_reducible exact H2_) | with_reducible exact H | (rw [hy322]; exact H) | exact H
    have Ny322 := Az_ hy322
    clear hy322
    have H' := Az_ H
    clear H
    try go_wp2
    have n0_ := Az_ (rdz_ HO_4.out)
    have n1_ := Az_ (bdz_ HB.out)
    clear HO_4 HB
    have HO_4 := n0_
    have HB := n1_
    clear n0_ n1_
    have p320 : 0 ≤ ((ji6) : Int) := od_
    have q320 : (ji6) < (l0.length : Int) := od_
    obtain ⟨ad320, e320, hx320_0, hx320_1⟩ := at_T100 HR0.out (ji6) p320 q320
    have hw320_1 := hx320_1
    have hw320_0 := hx320_0
    cases e320
    replace hx320_0 := hbz_ HB.out hx320_0
    replace hx320_1 := hbz_ HB.out hx320_1
    replace p320 := eq_true p320
    replace q320 := eq_true q320
    have p321 : 0 ≤ (x5_1 : Int) := od_
    have q321 : x5_1 < (l0.length : Int) := od_
    obtain ⟨ad321, e321, hx321_0, hx321_1⟩ := at_T100 HR0.out x5_1 p321 q321
    have hw321_1 := hx321_1
    have hw321_0 := hx321_0
    obtain rfl : ad320 = ad321 := (by injection e321)
    replace hx321_0 := hbz_ HB.out hx321_0
    replace hx321_1 := hbz_ HB.out hx321_1
    replace p321 := eq_true p321
    replace q321 := eq_true q321
    refine start_ (n := 18) (S := fun w' => w'.cell? (ad320.add (((ji6)).toNat * 2)) = some (.int .i64 ((rd_T100 l0 (ji6)).f0)) ∧ w'.cell? ⟨(ad320.add (((ji6)).toNat * 2)).block, (ad320.add (((ji6)).toNat * 2)).off + 1, none⟩ = some (.int .i64 ((rd_T100 l0 (ji6)).f1)) ∧ w'.cell? (ad320.add ((x5_1).toNat * 2)) = some (.int .i64 ((rd_T100 l0 x5_1).f0)) ∧ w'.cell? ⟨(ad320.add ((x5_1).toNat * 2)).block, (ad320.add ((x5_1).toNat * 2)).off + 1, none⟩ = some (.int .i64 ((rd_T100 l0 x5_1).f1))) (ds := []) #[false, false, false, false, false, false, false, false, false, false, false, false, false, false, false, false, false, false] (w162_) rfl rfl ⟨(hbz_ HB.out hw320_0), (hbz_ HB.out hw320_1), (hbz_ HB.out hw321_0), (hbz_ HB.out hw321_1)⟩ (fun hHeld => ?_); refine with_tabW spec_GapsBetween.tab7 spec_GapsBetween.bits7 (fun HT_ HW_ => ?_)
    generalize wr.drew = w11 at HO_4 HB hx320_0 hx320_1 hx321_0 hx321_1 hHeld ⊢
    refine pz_ 0 15 [1,17] ?_
    refine pz_ 1 16 [2,16] ?_
    refine pz_ 2 17 [3,15] ?_
    refine pz_ 3 18 [4,14] ?_
    refine pz_ 4 19 [5,13] ?_
    refine pz_ 5 20 [6,12] ?_
    refine pz_ 8 23 [6,2,1,9] ?_
    refine pz_ 9 24 [6,2,2,8] ?_
    refine pz_ 10 25 [6,2,3,7] ?_
    refine pz_ 11 26 [6,2,4,6] ?_
    refine tz4_ 6 21 [7,1,4,6] ?_
    refine pz_ 7 22 [12,6] ?_
    refine tz4_ 12 27 [13,5] ?_
    refine pz_ 13 28 [14,4] ?_
    refine pz_ 14 29 [15,3] ?_
    refine one_ (i := 15) (N := some 30) (mz_ [16,2]) rfl rfl (one_of HT_.out (w162_)) (by decide) (fun K hK => ?_)
    refine value_ (w1 := ?_) (v := ?_) (by rfl) rfl ?_ ?_
    rotate_left 2
    ·go_simp
     constructor
     ·rfl
     ·rfl
    refine hK.out _ _ ⟨(World.cell?_alloc_lt _ _ _ (World.block_lt_of_cell? _ _ ((hbz_ HB.out hw320_0)))).trans ((hbz_ HB.out hw320_0)), (World.cell?_alloc_lt _ _ _ (World.block_lt_of_cell? _ _ ((hbz_ HB.out hw320_1)))).trans ((hbz_ HB.out hw320_1)), (World.cell?_alloc_lt _ _ _ (World.block_lt_of_cell? _ _ ((hbz_ HB.out hw321_0)))).trans ((hbz_ HB.out hw321_0)), (World.cell?_alloc_lt _ _ _ (World.block_lt_of_cell? _ _ ((hbz_ HB.out hw321_1)))).trans ((hbz_ HB.out hw321_1))⟩ (fun hHeld => ?_)
    clear hK K
    refine nz_ 30 ?_
    refine one_ (i := 16) (N := some 31) (mz_ [17,1]) rfl rfl (one_of HT_.out (w162_)) (by decide) (fun K hK => ?_)
    refine Kd.R_append_step k100 (w0 := w) w.heap.size (by rfl) (.tmp 15) (.tmp 30) 86 100 (.agg #[(.int .i64 0), (.int .i64 0)]) 16 rfl Tryd.underlying86 info100 rfl (by decide) (by omega) u4 x4_1 (⟨wrap64 (((rd_T100 l0 (ji6)).f1) + 1), wrap64 (((rd_T100 l0 x5_1).f0) - 1)⟩ : S100) [.int .i64 (wrap64 (((rd_T100 l0 (ji6)).f1) + 1)), .int .i64 (wrap64 (((rd_T100 l0 x5_1).f0) - 1))] (fun _ => True) (fun _ => False) rfl rfl ?aP (fun _ hk => hk.elim) ?aF ?aO ?aB ?aS ?aL ?_
    (case aP => exact k100_mkM _ _ _ (⟨wrap64 (((rd_T100 l0 (ji6)).f1) + 1), wrap64 (((rd_T100 l0 x5_1).f0) - 1)⟩ : S100))
    (case aB => exact (ubz_ HB.out))
    (case aF => exact (fun _ _ => trivial))
    (case aO => exact (w157_))
    (case aS => exact (below_size (ubz_ HB.out)))
    (case aL => have := LMc10.out; omega)
    intro v323 w12 ho hb hg hat
    rw [← Ny322.out] at ho
    have n0_ := Az_ (hb)
    have n1_ := Az_ (ho)
    clear HB HO_4
    have HB := n0_
    have HO324 := n1_
    clear n0_ n1_ ho hb hg hat
    refine hK.out _ _ ⟨(hbz_ HB.out hw320_0), (hbz_ HB.out hw320_1), (hbz_ HB.out hw321_0), (hbz_ HB.out hw321_1)⟩ (fun hHeld => ?_)
    clear hK K
    refine nz_ 31 ?_
    refine pz_ 17 4 [18] ?_
    refine done_ (done_of HT_.out (w162_)) ?_
    try go_wp2
    go_roundg k1
    case measure => have := HK1.out; omega
    case rel => exact ⟨(y322), (wrap64 (x5_1 + 1)), qaz_, H', ⟨w144_⟩, ⟨by (with_reducible repeat (first | apply raz_ | apply rnz_ | apply rdz_)); exact HO324.out⟩, ⟨w160_⟩⟩
 ·replace c3 := Bool.eq_false_iff.mpr c3
  subst c3
  rw [if_neg nfz_] at H
  simp only [Option.some.injEq, Prod.mk.injEq] at H
  obtain ⟨rfl, rfl⟩ := H
  go_enter Tryd.func82, Tryd.ntmps82
  go_wp2_with (((with_reducible refine gate_callee (f := 161) rfl ?_); refine goesL_ (some 7) rfl rfl Tryd.func161 (w162_) rfl #[.slice A0 l0.length c0] rfl maz_ ?_; (with_reducible refine (spec_ixGood.calls k _ _ l0 false _ ?side1 ?side2 A2.out).mono ?_); (case side1 => exact ucz_ (HR0.out)); (case side2 => exact HC0.out); rintro e w13 ⟨rfl, hb⟩; refine ⟨_, rfl, ?_⟩; replace HB := Az_ (btz_ (ubz_ HB.out) hb); (try clear hb)))
  go_ret2
  exact ⟨_, w116_, w80_, w160_⟩


mutual
def impl_LongestRange.j0 : Nat → List (S100) → Bool → Option (Int × Int × Bool)
 | 0, _, _ => none
 | k + 1, x0, x14 => if x14 = true then (some (0, 0, false)) else (if 0 < (x0.length : Int) then (impl_LongestRange.l0 k x0 (x0.length : Int) 0 ((rd_T100 x0 0).f0) ((rd_T100 x0 0).f1)) else (none))
def impl_LongestRange.l0 : Nat → List (S100) → Int → Int → Int → Int → Option (Int × Int × Bool)
 | 0, _, _, _, _, _ => none
 | k + 1, x19, x20, x21, x329000, x329001 => if x21 < x20 then (if 0 ≤ x21 then (if x21 < (x19.length : Int) then (if (wrap64 (((rd_T100 x19 x21).f1) - ((rd_T100 x19 x21).f0))) > (wrap64 (x329001 - x329000)) then (impl_LongestRange.l0 k x19 x20 (wrap64 (x21 + 1)) ((rd_T100 x19 x21).f0) ((rd_T100 x19 x21).f1)) else (impl_LongestRange.l0 k x19 x20 (wrap64 (x21 + 1)) x329000 x329001)) else (none)) else (none)) else (some (x329000, x329001, true))
end
def impl_LongestRange.f (k : Nat) (l0 : List (S100)) : Option (Int × Int × Bool) := (impl_AreRanges.f k l0).bind fun t326 => (if t326 = true then (impl_LongestRange.j0 k l0 ((l0.length : Int) == 0)) else (impl_LongestRange.j0 k l0 true))
set_option maxHeartbeats 8000000 in
set_option maxRecDepth 100000 in
theorem impl_LongestRange.calls (k : Nat) (A0 : Option Addr) (c0 : Nat) (l0 : List (S100)) (r1 : Int) (r2 : Int) (r3 : Bool) (w : World) (hr0 : Kd.C k100 w A0 l0.length l0) (hc0 : l0.length ≤ c0) (h : impl_LongestRange.f k l0 = some (r1, r2, r3)) :
  Calls Tryd.prog 83 #[.slice A0 l0.length c0] w fun e w' => e = .returned (.tuple #[.agg #[.int .i64 r1, .int .i64 r2], .bool r3]) ∧ Below w.heap.size w w' := by
 have hu100 := Tryd.underlying100
 have HR0 := Az_ hr0
 have HC0 := Az_ hc0
 clear hr0 hc0
 have HB := Az_ (Below.refl w.heap.size w)
 have H : ((impl_AreRanges.f k l0).bind fun t326 => (if t326 = true then (j0 k l0 ((l0.length : Int) == 0)) else (j0 k l0 true))) = some (r1, r2, r3) := h
 clear h
 have HC2 := Az_ H
 clear H
 go_enter Tryd.func83, Tryd.ntmps83
 go_upto_region 1 with (((with_reducible refine gate_dst (N := 2) rfl ?_); (try (refine gate_guard (by rfl) ?_; dsimp only)); refine box_event ?hg (N := 2) ?hd (cs := #[.int .i64 0, .int .i64 0]) (t := 100) ?hr ?_; (case hd => rfl); (case hg => rfl); (case hr => first | (go_simp; done) | (go_simp; rfl)); intro gb325 hg w3 hbox hb; have BK325 := Az_ (hbox); have GW325 := Az_ ((by rw [hg]; exact (below_size (ubz_ HB.out)) : w.heap.size ≤ gb325)); have GE325 := Az_ ((by rw [hg]; exact (below_size (ubz_ HB.out)) : w.heap.size ≤ gb325)); replace HB := Az_ (btz_ (ubz_ HB.out) hb); clear hb hbox hg))
 (try simp only [Act.put, List.setIfInBounds_toArray, List.set_cons_zero, List.set_cons_succ])
 go_cut [14] (fun v14 wc => ∃ (kq : Nat) (x14_1 : Bool), v14 = .bool x14_1 ∧ Aside0 (j0 kq l0 x14_1 = some (r1, r2, r3)) ∧ Aside0 (kq ≤ k) ∧ Aside0 (wc.heap[gb325]? = some (.cells #[.int .i64 0, .int .i64 0] 100 (0, 0))) ∧ Aside0 (Below w.heap.size w wc))
 case first =>
  have H := HC2.out
  clear HC2
  replace H := bqz_ H; obtain ⟨t326, A4, H⟩ := H
  replace H : (if t326 = true then (j0 k l0 ((l0.length : Int) == 0)) else (j0 k l0 true)) = some (r1, r2, r3) := H
  by_cases c5 : t326 = true
  ·subst c5
   rw [if_pos rfl] at H
   have H' := Az_ H
   clear H
   go_wp2_with (((with_reducible refine gate_callee (f := 91) rfl ?_); refine goesL_ (some 8) rfl rfl Tryd.func91 (w162_) rfl #[.slice A0 l0.length c0] rfl maz_ ?_; (with_reducible refine (impl_AreRanges.calls k _ _ l0 true _ ?side1 ?side2 A4.out).mono ?_); (case side1 => exact ucz_ ((Kd.C_below HR0.out HB.out))); (case side2 => exact HC0.out); rintro e w6 ⟨rfl, hb⟩; refine ⟨_, rfl, ?_⟩; have n1_ := Az_ (btz_ (w79_) hb); clear HB; replace BK325 := Az_ (ukbz_ BK325.out hb); have HB := n1_; clear n1_; (try clear hb)))
   go_meet
   case rel => exact ⟨_, (((l0.length : Int) == 0)), qaz_, H', ⟨w141_⟩, ⟨by (with_reducible repeat (first | refine knz_ ?_ _ | refine kdz_ ?_ | refine kaz_ ?_ _)); exact BK325.out⟩, ⟨w79_⟩⟩
  replace c5 := Bool.eq_false_iff.mpr c5
  subst c5
  rw [if_neg nfz_] at H
  have H' := Az_ H
  clear H
  go_wp2_with (((with_reducible refine gate_callee (f := 91) rfl ?_); refine goesL_ (some 8) rfl rfl Tryd.func91 (w162_) rfl #[.slice A0 l0.length c0] rfl maz_ ?_; (with_reducible refine (impl_AreRanges.calls k _ _ l0 false _ ?side1 ?side2 A4.out).mono ?_); (case side1 => exact ucz_ ((Kd.C_below HR0.out HB.out))); (case side2 => exact HC0.out); rintro e w7 ⟨rfl, hb⟩; refine ⟨_, rfl, ?_⟩; have n1_ := Az_ (btz_ (w79_) hb); clear HB; replace BK325 := Az_ (ukbz_ BK325.out hb); have HB := n1_; clear n1_; (try clear hb)))
  go_meet
  case rel => exact ⟨_, (true), qaz_, H', ⟨w141_⟩, ⟨by (with_reducible repeat (first | refine knz_ ?_ _ | refine kdz_ ?_ | refine kaz_ ?_ _)); exact BK325.out⟩, ⟨w79_⟩⟩
 case rest =>
  clear HC2
  obtain ⟨kq, x14_1, rfl, HA, HJ1, BK325, HB⟩ := hcut
  cases kq with
  | zero => exact absurd HA.out (by simp [j0])
  | succ kj1 =>
   have H := HA.out
   clear HA
   simp only [j0] at H
   by_cases c8 : x14_1 = true
   ·subst c8
    rw [if_pos rfl] at H
    simp only [Option.some.injEq, Prod.mk.injEq] at H
    obtain ⟨rfl, rfl, rfl⟩ := H
    have hcz9_0 : wc.cell? ⟨gb325, 0, none⟩ = some (.int .i64 0) := (blk_cell BK325.out 0).trans rfl
    have hcz9_1 : wc.cell? ⟨gb325, 1, none⟩ = some (.int .i64 0) := (blk_cell BK325.out 1).trans rfl
    have hfz9_0 := blk_frozen BK325.out 0
    have hfz9_1 := blk_frozen BK325.out 1
    go_wp2
    refine bodyPost_ret (results_ct rfl _ _ gb325 100 #[.int .i64 0, .int .i64 0] (0, 0) _ rfl (by (with_reducible repeat (first | refine knz_ ?_ _ | refine kdz_ ?_ | refine kaz_ ?_ _)); refine blk_put (cs := #[.int .i64 0, .int .i64 0]) ?_ 1 _ rfl; (with_reducible repeat (first | refine knz_ ?_ _ | refine kdz_ ?_ | refine kaz_ ?_ _)); refine blk_put (cs := #[.int .i64 0, .int .i64 0]) ?_ 0 _ rfl; (with_reducible repeat (first | refine knz_ ?_ _ | refine kdz_ ?_ | refine kaz_ ?_ _)); exact BK325.out) Tryd.underlying100 rfl (w162_)) rfl ?_
    exact ⟨w116_, w79_⟩
   ·replace c8 := Bool.eq_false_iff.mpr c8
    subst c8
    rw [if_neg nfz_] at H
    by_cases c10 : 0 < (l0.length : Int)
    ·rw [if_pos c10] at H
     have c10b0 := decide_eq_true c10
     have c10b1 : decide (0 < l0.length) = true := decide_eq_true (by omega)
     clear c10
     have H' := Az_ H
     clear H
     have p327 : 0 ≤ (0 : Int) := (by omega)
     have q327 : 0 < (l0.length : Int) := od_
     obtain ⟨ad327, e327, hx327_0, hx327_1⟩ := at_T100 HR0.out 0 p327 q327
     cases e327
     have qi327 : (0 < l0.length) = True := eq_true (by omega)
     (try rw [show ((0 : Int)).toNat = 0 from rfl] at hx327_0)
     (try rw [show 0 * 2 = 0 from rfl] at hx327_0)
     (try rw [Addr.add_zero'] at hx327_0)
     (try rw [show ((0 : Int)).toNat = 0 from rfl] at hx327_1)
     (try rw [show 0 * 2 = 0 from rfl] at hx327_1)
     (try rw [Addr.add_zero'] at hx327_1)
     replace hx327_0 := hbz_ HB.out hx327_0
     replace hx327_1 := hbz_ HB.out hx327_1
     replace p327 := eq_true p327
     replace q327 := eq_true q327
     go_wp2_with (((with_reducible refine gate_dst (N := 4) rfl ?_); (try (refine gate_guard (by rfl) ?_; dsimp only)); refine box_event ?hg (N := 4) ?hd (cs := #[.int .i64 0, .int .i64 0]) (t := 100) ?hr ?_; (case hd => rfl); (case hg => rfl); (case hr => first | (go_simp; done) | (go_simp; rfl)); intro gb328 hg w11 hbox hb; have n1_ := Az_ (btz_ (w79_) hb); have n2_ := Az_ (hbox); have n3_ := Az_ ((by rw [hg]; exact (below_size (w79_)) : w.heap.size ≤ gb328)); have n4_ := Az_ ((by rw [hg]; exact (below_size (w79_)) : w.heap.size ≤ gb328)); have n5_ := Az_ ((by rw [hg]; exact Nat.ne_of_lt (uklz_ BK325.out) : gb325 ≠ gb328)); have n6_ := Az_ ((by rw [hg]; exact Nat.ne_of_gt (uklz_ BK325.out) : gb328 ≠ gb325)); clear HB; replace BK325 := Az_ (ukbz_ BK325.out hb); have HB := n1_; have BK328 := n2_; have GW328 := n3_; have GE328 := n4_; have NB325_328 := n5_; have NB328_325 := n6_; clear n1_ n2_ n3_ n4_ n5_ n6_; clear hb hbox hg; have hnb12 := NB328_325.out; have hnc12 := NB325_328.out; have hcz13_0 : w11.cell? ⟨gb328, 0, none⟩ = some (.int .i64 0) := (blk_cell BK328.out 0).trans rfl; have hcz13_1 : w11.cell? ⟨gb328, 1, none⟩ = some (.int .i64 0) := (blk_cell BK328.out 1).trans rfl; have hfz13_0 := blk_frozen BK328.out 0; have hfz13_1 := blk_frozen BK328.out 1))
     go_loopg [21] kj1 (fun kq v21 w' => ∃ (x21_2 : Int) (x329000_2 : Int) (x329001_2 : Int), v21 = .int .i64 x21_2 ∧ Aside0 (impl_LongestRange.l0 kq l0 (l0.length : Int) x21_2 x329000_2 x329001_2 = some (r1, r2, r3)) ∧ Aside0 (kq ≤ kj1) ∧ Aside0 (w'.heap[gb325]? = some (.cells #[.int .i64 0, .int .i64 0] 100 (0, 0))) ∧ Aside0 (w'.heap[gb328]? = some (.cells #[.int .i64 x329000_2, .int .i64 x329001_2] 100 (0, 0))) ∧ Aside0 (Below w.heap.size w w'))
     case atStart => exact ⟨(0), ((rd_T100 l0 0).f0), ((rd_T100 l0 0).f1), qaz_, H', ⟨Nat.le_refl _⟩, ⟨by (with_reducible repeat (first | refine knz_ ?_ _ | refine kdz_ ?_ | refine kaz_ ?_ _)); refine blk_far ?_ NB325_328.out _; (with_reducible repeat (first | refine knz_ ?_ _ | refine kdz_ ?_ | refine kaz_ ?_ _)); refine blk_far ?_ NB325_328.out _; (with_reducible repeat (first | refine knz_ ?_ _ | refine kdz_ ?_ | refine kaz_ ?_ _)); exact BK325.out⟩, ⟨by (with_reducible repeat (first | refine knz_ ?_ _ | refine kdz_ ?_ | refine kaz_ ?_ _)); refine blk_put (cs := #[.int .i64 ((rd_T100 l0 0).f0), .int .i64 0]) ?_ 1 _ rfl; (with_reducible repeat (first | refine knz_ ?_ _ | refine kdz_ ?_ | refine kaz_ ?_ _)); refine blk_put (cs := #[.int .i64 0, .int .i64 0]) ?_ 0 _ rfl; (with_reducible repeat (first | refine knz_ ?_ _ | refine kdz_ ?_ | refine kaz_ ?_ _)); exact BK328.out⟩, ⟨w79_⟩⟩
     case round =>
      clear H'
      clear c10b0 c10b1 hcz13_0 hcz13_1 hfz13_0 hfz13_1 hx327_0 hx327_1 p327 q327
      obtain ⟨x21_2, x329000_2, x329001_2, rfl, HA, HK2, BK325, BK328, HB⟩ := hrel
      cases gk with
      | zero => exact absurd HA.out (by simp [impl_LongestRange.l0])
      | succ k2 =>
       have H := HA.out
       clear HA
       simp only [impl_LongestRange.l0] at H
       by_cases c14 : x21_2 < (l0.length : Int); rotate_left
       ·rw [if_neg c14] at H
        have c14b0 := decide_eq_false c14
        clear c14
        simp only [Option.some.injEq, Prod.mk.injEq] at H
        obtain ⟨rfl, rfl, rfl⟩ := H
        have hnb30 := NB328_325.out
        have hnc30 := NB325_328.out
        have hcz31_0 : wr.cell? ⟨gb328, 0, none⟩ = some (.int .i64 x329000_2) := (blk_cell BK328.out 0).trans rfl
        have hcz31_1 : wr.cell? ⟨gb328, 1, none⟩ = some (.int .i64 x329001_2) := (blk_cell BK328.out 1).trans rfl
        have hfz31_0 := blk_frozen BK328.out 0
        have hfz31_1 := blk_frozen BK328.out 1
        have hcz32_0 : wr.cell? ⟨gb325, 0, none⟩ = some (.int .i64 0) := (blk_cell BK325.out 0).trans rfl
        have hcz32_1 : wr.cell? ⟨gb325, 1, none⟩ = some (.int .i64 0) := (blk_cell BK325.out 1).trans rfl
        have hfz32_0 := blk_frozen BK325.out 0
        have hfz32_1 := blk_frozen BK325.out 1
        go_wp2
        refine bodyPost_ret (results_ct rfl _ _ gb325 100 #[.int .i64 x329000_2, .int .i64 x329001_2] (0, 0) _ rfl (by (with_reducible repeat (first | refine knz_ ?_ _ | refine kdz_ ?_ | refine kaz_ ?_ _)); refine blk_put (cs := #[.int .i64 x329000_2, .int .i64 0]) ?_ 1 _ rfl; (with_reducible repeat (first | refine knz_ ?_ _ | refine kdz_ ?_ | refine kaz_ ?_ _)); refine blk_put (cs := #[.int .i64 0, .int .i64 0]) ?_ 0 _ rfl; (with_reducible repeat (first | refine knz_ ?_ _ | refine kdz_ ?_ | refine kaz_ ?_ _)); exact BK325.out) Tryd.underlying100 rfl (w162_)) rfl ?_
        exact ⟨w116_, w79_⟩
       rw [if_pos c14] at H
       have c14b0 := decide_eq_true c14
       clear c14
       by_cases c15 : 0 ≤ x21_2; rotate_left
       ·rw [if_neg c15] at H
        exact absurd H (by simp)
       rw [if_pos c15] at H
       have c15b0 := decide_eq_true c15
       clear c15
       by_cases c16 : x21_2 < (l0.length : Int); rotate_left
       ·rw [if_neg c16] at H
        exact absurd H (by simp)
       rw [if_pos c16] at H
       have c16b0 := decide_eq_true c16
       clear c16
       by_cases c17 : (wrap64 (((rd_T100 l0 x21_2).f1) - ((rd_T100 l0 x21_2).f0))) > (wrap64 (x329001_2 - x329000_2)); rotate_left
       ·rw [if_neg c17] at H
        have c17b0 := decide_eq_false c17
        clear c17
        have H' := Az_ H
        clear H
        have p329 : 0 ≤ (x21_2 : Int) := od_
        have q329 : x21_2 < (l0.length : Int) := od_
        obtain ⟨ad329, e329, hx329_0, hx329_1⟩ := at_T100 HR0.out x21_2 p329 q329
        obtain rfl : ad327 = ad329 := (by injection e329)
        replace hx329_0 := hbz_ HB.out hx329_0
        replace hx329_1 := hbz_ HB.out hx329_1
        replace p329 := eq_true p329
        replace q329 := eq_true q329
        go_wp2_with (((with_reducible refine gate_dst (N := 6) rfl ?_); (try (refine gate_guard (by rfl) ?_; dsimp only)); refine box_event ?hg (N := 6) ?hd (cs := #[.int .i64 0, .int .i64 0]) (t := 100) ?hr ?_; (case hd => rfl); (case hg => rfl); (case hr => first | (go_simp; done) | (go_simp; rfl)); intro gb330 hg w24 hbox hb; have n2_ := Az_ (btz_ (w79_) hb); have n3_ := Az_ (hbox); have n4_ := Az_ ((by rw [hg]; exact (below_size (w79_)) : w.heap.size ≤ gb330)); have n5_ := Az_ ((by rw [hg]; exact (below_size (w79_)) : w.heap.size ≤ gb330)); have n6_ := Az_ ((by rw [hg]; exact Nat.ne_of_lt (uklz_ BK325.out) : gb325 ≠ gb330)); have n7_ := Az_ ((by rw [hg]; exact Nat.ne_of_gt (uklz_ BK325.out) : gb330 ≠ gb325)); have n8_ := Az_ ((by rw [hg]; exact Nat.ne_of_lt (uklz_ BK328.out) : gb328 ≠ gb330)); have n9_ := Az_ ((by rw [hg]; exact Nat.ne_of_gt (uklz_ BK328.out) : gb330 ≠ gb328)); clear HB; replace BK325 := Az_ (ukbz_ BK325.out hb); replace BK328 := Az_ (ukbz_ BK328.out hb); have HB := n2_; have BK330 := n3_; have GW330 := n4_; have GE330 := n5_; have NB325_330 := n6_; have NB330_325 := n7_; have NB328_330 := n8_; have NB330_328 := n9_; clear n2_ n3_ n4_ n5_ n6_ n7_ n8_ n9_; clear hb hbox hg; have hnb25 := NB330_325.out; have hnc25 := NB325_330.out; have hnb26 := NB330_328.out; have hnc26 := NB328_330.out; have hcz27_0 : w24.cell? ⟨gb330, 0, none⟩ = some (.int .i64 0) := (blk_cell BK330.out 0).trans rfl; have hcz27_1 : w24.cell? ⟨gb330, 1, none⟩ = some (.int .i64 0) := (blk_cell BK330.out 1).trans rfl; have hfz27_0 := blk_frozen BK330.out 0; have hfz27_1 := blk_frozen BK330.out 1; have hnb28 := NB328_325.out; have hnc28 := NB325_328.out; have hcz29_0 : w24.cell? ⟨gb328, 0, none⟩ = some (.int .i64 x329000_2) := (blk_cell BK328.out 0).trans rfl; have hcz29_1 : w24.cell? ⟨gb328, 1, none⟩ = some (.int .i64 x329001_2) := (blk_cell BK328.out 1).trans rfl; have hfz29_0 := blk_frozen BK328.out 0; have hfz29_1 := blk_frozen BK328.out 1))
        go_roundg k2
        case measure => have := HJ1.out; have := HK2.out; omega
        case rel => exact ⟨(wrap64 (x21_2 + 1)), (x329000_2), (x329001_2), qaz_, H', ⟨w139_⟩, ⟨by (with_reducible repeat (first | refine knz_ ?_ _ | refine kdz_ ?_ | refine kaz_ ?_ _)); refine blk_far ?_ NB325_330.out _; (with_reducible repeat (first | refine knz_ ?_ _ | refine kdz_ ?_ | refine kaz_ ?_ _)); refine blk_far ?_ NB325_330.out _; (with_reducible repeat (first | refine knz_ ?_ _ | refine kdz_ ?_ | refine kaz_ ?_ _)); exact BK325.out⟩, ⟨by (with_reducible repeat (first | refine knz_ ?_ _ | refine kdz_ ?_ | refine kaz_ ?_ _)); refine blk_far ?_ NB328_330.out _; (with_reducible repeat (first | refine knz_ ?_ _ | refine kdz_ ?_ | refine kaz_ ?_ _)); refine blk_far ?_ NB328_330.out _; (with_reducible repeat (first | refine knz_ ?_ _ | refine kdz_ ?_ | refine kaz_ ?_ _)); exact BK328.out⟩, ⟨w79_⟩⟩
       rw [if_pos c17] at H
       have c17b0 := decide_eq_true c17
       clear c17
       have H' := Az_ H
       clear H
       have p329 : 0 ≤ (x21_2 : Int) := od_
       have q329 : x21_2 < (l0.length : Int) := od_
       obtain ⟨ad329, e329, hx329_0, hx329_1⟩ := at_T100 HR0.out x21_2 p329 q329
       obtain rfl : ad327 = ad329 := (by injection e329)
       replace hx329_0 := hbz_ HB.out hx329_0
       replace hx329_1 := hbz_ HB.out hx329_1
       replace p329 := eq_true p329
       replace q329 := eq_true q329
       go_wp2_with (((with_reducible refine gate_dst (N := 6) rfl ?_); (try (refine gate_guard (by rfl) ?_; dsimp only)); refine box_event ?hg (N := 6) ?hd (cs := #[.int .i64 0, .int .i64 0]) (t := 100) ?hr ?_; (case hd => rfl); (case hg => rfl); (case hr => first | (go_simp; done) | (go_simp; rfl)); intro gb330 hg w18 hbox hb; have n2_ := Az_ (btz_ (w79_) hb); have n3_ := Az_ (hbox); have n4_ := Az_ ((by rw [hg]; exact (below_size (w79_)) : w.heap.size ≤ gb330)); have n5_ := Az_ ((by rw [hg]; exact (below_size (w79_)) : w.heap.size ≤ gb330)); have n6_ := Az_ ((by rw [hg]; exact Nat.ne_of_lt (uklz_ BK325.out) : gb325 ≠ gb330)); have n7_ := Az_ ((by rw [hg]; exact Nat.ne_of_gt (uklz_ BK325.out) : gb330 ≠ gb325)); have n8_ := Az_ ((by rw [hg]; exact Nat.ne_of_lt (uklz_ BK328.out) : gb328 ≠ gb330)); have n9_ := Az_ ((by rw [hg]; exact Nat.ne_of_gt (uklz_ BK328.out) : gb330 ≠ gb328)); clear HB; replace BK325 := Az_ (ukbz_ BK325.out hb); replace BK328 := Az_ (ukbz_ BK328.out hb); have HB := n2_; have BK330 := n3_; have GW330 := n4_; have GE330 := n5_; have NB325_330 := n6_; have NB330_325 := n7_; have NB328_330 := n8_; have NB330_328 := n9_; clear n2_ n3_ n4_ n5_ n6_ n7_ n8_ n9_; clear hb hbox hg; have hnb19 := NB330_325.out; have hnc19 := NB325_330.out; have hnb20 := NB330_328.out; have hnc20 := NB328_330.out; have hcz21_0 : w18.cell? ⟨gb330, 0, none⟩ = some (.int .i64 0) := (blk_cell BK330.out 0).trans rfl; have hcz21_1 : w18.cell? ⟨gb330, 1, none⟩ = some (.int .i64 0) := (blk_cell BK330.out 1).trans rfl; have hfz21_0 := blk_frozen BK330.out 0; have hfz21_1 := blk_frozen BK330.out 1; have hnb22 := NB328_325.out; have hnc22 := NB325_328.out; have hcz23_0 : w18.cell? ⟨gb328, 0, none⟩ = some (.int .i64 x329000_2) := (blk_cell BK328.out 0).trans rfl; have hcz23_1 : w18.cell? ⟨gb328, 1, none⟩ = some (.int .i64 x329001_2) := (blk_cell BK328.out 1).trans rfl; have hfz23_0 := blk_frozen BK328.out 0; have hfz23_1 := blk_frozen BK328.out 1))
       go_roundg k2
       case measure => have := HJ1.out; have := HK2.out; omega
       case rel => exact ⟨(wrap64 (x21_2 + 1)), ((rd_T100 l0 x21_2).f0), ((rd_T100 l0 x21_2).f1), qaz_, H', ⟨w139_⟩, ⟨by (with_reducible repeat (first | refine knz_ ?_ _ | refine kdz_ ?_ | refine kaz_ ?_ _)); refine blk_far ?_ NB325_328.out _; (with_reducible repeat (first | refine knz_ ?_ _ | refine kdz_ ?_ | refine kaz_ ?_ _)); refine blk_far ?_ NB325_328.out _; (with_reducible repeat (first | refine knz_ ?_ _ | refine kdz_ ?_ | refine kaz_ ?_ _)); refine blk_far ?_ NB325_330.out _; (with_reducible repeat (first | refine knz_ ?_ _ | refine kdz_ ?_ | refine kaz_ ?_ _)); refine blk_far ?_ NB325_330.out _; (with_reducible repeat (first | refine knz_ ?_ _ | refine kdz_ ?_ | refine kaz_ ?_ _)); exact BK325.out⟩, ⟨by (with_reducible repeat (first | refine knz_ ?_ _ | refine kdz_ ?_ | refine kaz_ ?_ _)); refine blk_put (cs := #[.int .i64 ((rd_T100 l0 x21_2).f0), .int .i64 x329001_2]) ?_ 1 _ rfl; (with_reducible repeat (first | refine knz_ ?_ _ | refine kdz_ ?_ | refine kaz_ ?_ _)); refine blk_put (cs := #[.int .i64 x329000_2, .int .i64 x329001_2]) ?_ 0 _ rfl; (with_reducible repeat (first | refine knz_ ?_ _ | refine kdz_ ?_ | refine kaz_ ?_ _)); refine blk_far ?_ NB328_330.out _; (with_reducible repeat (first | refine knz_ ?_ _ | refine kdz_ ?_ | refine kaz_ ?_ _)); refine blk_far ?_ NB328_330.out _; (with_reducible repeat (first | refine knz_ ?_ _ | refine kdz_ ?_ | refine kaz_ ?_ _)); exact BK328.out⟩, ⟨w79_⟩⟩
    ·rw [if_neg c10] at H
     exact absurd H (by simp)


mutual
def spec_LongestRange.j0 : Nat → List (S100) → Bool → Option (Int × Int × Bool)
 | 0, _, _ => none
 | k + 1, x0, x14 => if x14 = true then (some (0, 0, false)) else (if 0 < (x0.length : Int) then (spec_LongestRange.l0 k x0 (x0.length : Int) 0 ((rd_T100 x0 0).f0) ((rd_T100 x0 0).f1)) else (none))
def spec_LongestRange.l0 : Nat → List (S100) → Int → Int → Int → Int → Option (Int × Int × Bool)
 | 0, _, _, _, _, _ => none
 | k + 1, x19, x20, x21, x335000, x335001 => if x21 < x20 then (if 0 ≤ x21 then (if x21 < (x19.length : Int) then (if (wrap64 (((rd_T100 x19 x21).f1) - ((rd_T100 x19 x21).f0))) > (wrap64 (x335001 - x335000)) then (spec_LongestRange.l0 k x19 x20 (wrap64 (x21 + 1)) ((rd_T100 x19 x21).f0) ((rd_T100 x19 x21).f1)) else (spec_LongestRange.l0 k x19 x20 (wrap64 (x21 + 1)) x335000 x335001)) else (none)) else (none)) else (some (x335000, x335001, true))
end
def spec_LongestRange.f (k : Nat) (l0 : List (S100)) : Option (Int × Int × Bool) := (spec_ixGood.f k l0).bind fun t332 => (if t332 = true then (spec_LongestRange.j0 k l0 ((l0.length : Int) == 0)) else (spec_LongestRange.j0 k l0 true))
set_option maxHeartbeats 8000000 in
set_option maxRecDepth 100000 in
theorem spec_LongestRange.calls (k : Nat) (A0 : Option Addr) (c0 : Nat) (l0 : List (S100)) (r1 : Int) (r2 : Int) (r3 : Bool) (w : World) (hr0 : Kd.C k100 w A0 l0.length l0) (hc0 : l0.length ≤ c0) (h : spec_LongestRange.f k l0 = some (r1, r2, r3)) :
  Calls Tryd.prog 84 #[.slice A0 l0.length c0] w fun e w' => e = .returned (.tuple #[.agg #[.int .i64 r1, .int .i64 r2], .bool r3]) ∧ Below w.heap.size w w' := by
 have hu100 := Tryd.underlying100
 have HR0 := Az_ hr0
 have HC0 := Az_ hc0
 clear hr0 hc0
 have HB := Az_ (Below.refl w.heap.size w)
 have H : ((spec_ixGood.f k l0).bind fun t332 => (if t332 = true then (j0 k l0 ((l0.length : Int) == 0)) else (j0 k l0 true))) = some (r1, r2, r3) := h
 clear h
 have HC2 := Az_ H
 clear H
 go_enter Tryd.func84, Tryd.ntmps84
 go_upto_region 1 with (((with_reducible refine gate_dst (N := 2) rfl ?_); (try (refine gate_guard (by rfl) ?_; dsimp only)); refine box_event ?hg (N := 2) ?hd (cs := #[.int .i64 0, .int .i64 0]) (t := 100) ?hr ?_; (case hd => rfl); (case hg => rfl); (case hr => first | (go_simp; done) | (go_simp; rfl)); intro gb331 hg w3 hbox hb; have BK331 := Az_ (hbox); have GW331 := Az_ ((by rw [hg]; exact (below_size (ubz_ HB.out)) : w.heap.size ≤ gb331)); have GE331 := Az_ ((by rw [hg]; exact (below_size (ubz_ HB.out)) : w.heap.size ≤ gb331)); replace HB := Az_ (btz_ (ubz_ HB.out) hb); clear hb hbox hg))
 (try simp only [Act.put, List.setIfInBounds_toArray, List.set_cons_zero, List.set_cons_succ])
 go_cut [14] (fun v14 wc => ∃ (kq : Nat) (x14_1 : Bool), v14 = .bool x14_1 ∧ Aside0 (j0 kq l0 x14_1 = some (r1, r2, r3)) ∧ Aside0 (kq ≤ k) ∧ Aside0 (wc.heap[gb331]? = some (.cells #[.int .i64 0, .int .i64 0] 100 (0, 0))) ∧ Aside0 (Below w.heap.size w wc))
 case first =>
  have H := HC2.out
  clear HC2
  replace H := bqz_ H; obtain ⟨t332, A4, H⟩ := H
  replace H : (if t332 = true then (j0 k l0 ((l0.length : Int) == 0)) else (j0 k l0 true)) = some (r1, r2, r3) := H
  by_cases c5 : t332 = true
  ·subst c5
   rw [if_pos rfl] at H
   have H' := Az_ H
   clear H
   go_wp2_with (((with_reducible refine gate_callee (f := 161) rfl ?_); refine goesL_ (some 8) rfl rfl Tryd.func161 (w162_) rfl #[.slice A0 l0.length c0] rfl maz_ ?_; (with_reducible refine (spec_ixGood.calls k _ _ l0 true _ ?side1 ?side2 A4.out).mono ?_); (case side1 => exact ucz_ ((Kd.C_below HR0.out HB.out))); (case side2 => exact HC0.out); rintro e w6 ⟨rfl, hb⟩; refine ⟨_, rfl, ?_⟩; have n1_ := Az_ (btz_ (w79_) hb); clear HB; replace BK331 := Az_ (ukbz_ BK331.out hb); have HB := n1_; clear n1_; (try clear hb)))
   go_meet
   case rel => exact ⟨_, (((l0.length : Int) == 0)), qaz_, H', ⟨w141_⟩, ⟨by (with_reducible repeat (first | refine knz_ ?_ _ | refine kdz_ ?_ | refine kaz_ ?_ _)); exact BK331.out⟩, ⟨w79_⟩⟩
  replace c5 := Bool.eq_false_iff.mpr c5
  subst c5
  rw [if_neg nfz_] at H
  have H' := Az_ H
  clear H
  go_wp2_with (((with_reducible refine gate_callee (f := 161) rfl ?_); refine goesL_ (some 8) rfl rfl Tryd.func161 (w162_) rfl #[.slice A0 l0.length c0] rfl maz_ ?_; (with_reducible refine (spec_ixGood.calls k _ _ l0 false _ ?side1 ?side2 A4.out).mono ?_); (case side1 => exact ucz_ ((Kd.C_below HR0.out HB.out))); (case side2 => exact HC0.out); rintro e w7 ⟨rfl, hb⟩; refine ⟨_, rfl, ?_⟩; have n1_ := Az_ (btz_ (w79_) hb); clear HB; replace BK331 := Az_ (ukbz_ BK331.out hb); have HB := n1_; clear n1_; (try clear hb)))
  go_meet
  case rel => exact ⟨_, (true), qaz_, H', ⟨w141_⟩, ⟨by (with_reducible repeat (first | refine knz_ ?_ _ | refine kdz_ ?_ | refine kaz_ ?_ _)); exact BK331.out⟩, ⟨w79_⟩⟩
 case rest =>
  clear HC2
  obtain ⟨kq, x14_1, rfl, HA, HJ1, BK331, HB⟩ := hcut
  cases kq with
  | zero => exact absurd HA.out (by simp [j0])
  | succ kj1 =>
   have H := HA.out
   clear HA
   simp only [j0] at H
   by_cases c8 : x14_1 = true
   ·subst c8
    rw [if_pos rfl] at H
    simp only [Option.some.injEq, Prod.mk.injEq] at H
    obtain ⟨rfl, rfl, rfl⟩ := H
    have hcz9_0 : wc.cell? ⟨gb331, 0, none⟩ = some (.int .i64 0) := (blk_cell BK331.out 0).trans rfl
    have hcz9_1 : wc.cell? ⟨gb331, 1, none⟩ = some (.int .i64 0) := (blk_cell BK331.out 1).trans rfl
    have hfz9_0 := blk_frozen BK331.out 0
    have hfz9_1 := blk_frozen BK331.out 1
    go_wp2
    refine bodyPost_ret (results_ct rfl _ _ gb331 100 #[.int .i64 0, .int .i64 0] (0, 0) _ rfl (by (with_reducible repeat (first | refine knz_ ?_ _ | refine kdz_ ?_ | refine kaz_ ?_ _)); refine blk_put (cs := #[.int .i64 0, .int .i64 0]) ?_ 1 _ rfl; (with_reducible repeat (first | refine knz_ ?_ _ | refine kdz_ ?_ | refine kaz_ ?_ _)); refine blk_put (cs := #[.int .i64 0, .int .i64 0]) ?_ 0 _ rfl; (with_reducible repeat (first | refine knz_ ?_ _ | refine kdz_ ?_ | refine kaz_ ?_ _)); exact BK331.out) Tryd.underlying100 rfl (w162_)) rfl ?_
    exact ⟨w116_, w79_⟩
   ·replace c8 := Bool.eq_false_iff.mpr c8
    subst c8
    rw [if_neg nfz_] at H
    by_cases c10 : 0 < (l0.length : Int)
    ·rw [if_pos c10] at H
     have c10b0 := decide_eq_true c10
     have c10b1 : decide (0 < l0.length) = true := decide_eq_true (by omega)
     clear c10
     have H' := Az_ H
     clear H
     have p333 : 0 ≤ (0 : Int) := (by omega)
     have q333 : 0 < (l0.length : Int) := od_
     obtain ⟨ad333, e333, hx333_0, hx333_1⟩ := at_T100 HR0.out 0 p333 q333
     cases e333
     have qi333 : (0 < l0.length) = True := eq_true (by omega)
     (try rw [show ((0 : Int)).toNat = 0 from rfl] at hx333_0)
     (try rw [show 0 * 2 = 0 from rfl] at hx333_0)
     (try rw [Addr.add_zero'] at hx333_0)
     (try rw [show ((0 : Int)).toNat = 0 from rfl] at hx333_1)
     (try rw [show 0 * 2 = 0 from rfl] at hx333_1)
     (try rw [Addr.add_zero'] at hx333_1)
     replace hx333_0 := hbz_ HB.out hx333_0
     replace hx333_1 := hbz_ HB.out hx333_1
     replace p333 := eq_true p333
     replace q333 := eq_true q333
     go_wp2_with (((with_reducible refine gate_dst (N := 4) rfl ?_); (try (refine gate_guard (by rfl) ?_; dsimp only)); refine box_event ?hg (N := 4) ?hd (cs := #[.int .i64 0, .int .i64 0]) (t := 100) ?hr ?_; (case hd => rfl); (case hg => rfl); (case hr => first | (go_simp; done) | (go_simp; rfl)); intro gb334 hg w11 hbox hb; have n1_ := Az_ (btz_ (w79_) hb); have n2_ := Az_ (hbox); have n3_ := Az_ ((by rw [hg]; exact (below_size (w79_)) : w.heap.size ≤ gb334)); have n4_ := Az_ ((by rw [hg]; exact (below_size (w79_)) : w.heap.size ≤ gb334)); have n5_ := Az_ ((by rw [hg]; exact Nat.ne_of_lt (uklz_ BK331.out) : gb331 ≠ gb334)); have n6_ := Az_ ((by rw [hg]; exact Nat.ne_of_gt (uklz_ BK331.out) : gb334 ≠ gb331)); clear HB; replace BK331 := Az_ (ukbz_ BK331.out hb); have HB := n1_; have BK334 := n2_; have GW334 := n3_; have GE334 := n4_; have NB331_334 := n5_; have NB334_331 := n6_; clear n1_ n2_ n3_ n4_ n5_ n6_; clear hb hbox hg; have hnb12 := NB334_331.out; have hnc12 := NB331_334.out; have hcz13_0 : w11.cell? ⟨gb334, 0, none⟩ = some (.int .i64 0) := (blk_cell BK334.out 0).trans rfl; have hcz13_1 : w11.cell? ⟨gb334, 1, none⟩ = some (.int .i64 0) := (blk_cell BK334.out 1).trans rfl; have hfz13_0 := blk_frozen BK334.out 0; have hfz13_1 := blk_frozen BK334.out 1))
     go_loopg [21] kj1 (fun kq v21 w' => ∃ (x21_2 : Int) (x335000_2 : Int) (x335001_2 : Int), v21 = .int .i64 x21_2 ∧ Aside0 (spec_LongestRange.l0 kq l0 (l0.length : Int) x21_2 x335000_2 x335001_2 = some (r1, r2, r3)) ∧ Aside0 (kq ≤ kj1) ∧ Aside0 (w'.heap[gb331]? = some (.cells #[.int .i64 0, .int .i64 0] 100 (0, 0))) ∧ Aside0 (w'.heap[gb334]? = some (.cells #[.int .i64 x335000_2, .int .i64 x335001_2] 100 (0, 0))) ∧ Aside0 (Below w.heap.size w w'))
     case atStart => exact ⟨(0), ((rd_T100 l0 0).f0), ((rd_T100 l0 0).f1), qaz_, H', ⟨Nat.le_refl _⟩, ⟨by (with_reducible repeat (first | refine knz_ ?_ _ | refine kdz_ ?_ | refine kaz_ ?_ _)); refine blk_far ?_ NB331_334.out _; (with_reducible repeat (first | refine knz_ ?_ _ | refine kdz_ ?_ | refine kaz_ ?_ _)); refine blk_far ?_ NB331_334.out _; (with_reducible repeat (first | refine knz_ ?_ _ | refine kdz_ ?_ | refine kaz_ ?_ _)); exact BK331.out⟩, ⟨by (with_reducible repeat (first | refine knz_ ?_ _ | refine kdz_ ?_ | refine kaz_ ?_ _)); refine blk_put (cs := #[.int .i64 ((rd_T100 l0 0).f0), .int .i64 0]) ?_ 1 _ rfl; (with_reducible repeat (first | refine knz_ ?_ _ | refine kdz_ ?_ | refine kaz_ ?_ _)); refine blk_put (cs := #[.int .i64 0, .int .i64 0]) ?_ 0 _ rfl; (with_reducible repeat (first | refine knz_ ?_ _ | refine kdz_ ?_ | refine kaz_ ?_ _)); exact BK334.out⟩, ⟨w79_⟩⟩
     case round =>
      clear H'
      clear c10b0 c10b1 hcz13_0 hcz13_1 hfz13_0 hfz13_1 hx333_0 hx333_1 p333 q333
      obtain ⟨x21_2, x335000_2, x335001_2, rfl, HA, HK2, BK331, BK334, HB⟩ := hrel
      cases gk with
      | zero => exact absurd HA.out (by simp [spec_LongestRange.l0])
      | succ k2 =>
       have H := HA.out
       clear HA
       simp only [spec_LongestRange.l0] at H
       by_cases c14 : x21_2 < (l0.length : Int); rotate_left
       ·rw [if_neg c14] at H
        have c14b0 := decide_eq_false c14
        clear c14
        simp only [Option.some.injEq, Prod.mk.injEq] at H
        obtain ⟨rfl, rfl, rfl⟩ := H
        have hnb30 := NB334_331.out
        have hnc30 := NB331_334.out
        have hcz31_0 : wr.cell? ⟨gb334, 0, none⟩ = some (.int .i64 x335000_2) := (blk_cell BK334.out 0).trans rfl
        have hcz31_1 : wr.cell? ⟨gb334, 1, none⟩ = some (.int .i64 x335001_2) := (blk_cell BK334.out 1).trans rfl
        have hfz31_0 := blk_frozen BK334.out 0
        have hfz31_1 := blk_frozen BK334.out 1
        have hcz32_0 : wr.cell? ⟨gb331, 0, none⟩ = some (.int .i64 0) := (blk_cell BK331.out 0).trans rfl
        have hcz32_1 : wr.cell? ⟨gb331, 1, none⟩ = some (.int .i64 0) := (blk_cell BK331.out 1).trans rfl
        have hfz32_0 := blk_frozen BK331.out 0
        have hfz32_1 := blk_frozen BK331.out 1
        go_wp2
        refine bodyPost_ret (results_ct rfl _ _ gb331 100 #[.int .i64 x335000_2, .int .i64 x335001_2] (0, 0) _ rfl (by (with_reducible repeat (first | refine knz_ ?_ _ | refine kdz_ ?_ | refine kaz_ ?_ _)); refine blk_put (cs := #[.int .i64 x335000_2, .int .i64 0]) ?_ 1 _ rfl; (with_reducible repeat (first | refine knz_ ?_ _ | refine kdz_ ?_ | refine kaz_ ?_ _)); refine blk_put (cs := #[.int .i64 0, .int .i64 0]) ?_ 0 _ rfl; (with_reducible repeat (first | refine knz_ ?_ _ | refine kdz_ ?_ | refine kaz_ ?_ _)); exact BK331.out) Tryd.underlying100 rfl (w162_)) rfl ?_
        exact ⟨w116_, w79_⟩
       rw [if_pos c14] at H
       have c14b0 := decide_eq_true c14
       clear c14
       by_cases c15 : 0 ≤ x21_2; rotate_left
       ·rw [if_neg c15] at H
        exact absurd H (by simp)
       rw [if_pos c15] at H
       have c15b0 := decide_eq_true c15
       clear c15
       by_cases c16 : x21_2 < (l0.length : Int); rotate_left
       ·rw [if_neg c16] at H
        exact absurd H (by simp)
       rw [if_pos c16] at H
       have c16b0 := decide_eq_true c16
       clear c16
       by_cases c17 : (wrap64 (((rd_T100 l0 x21_2).f1) - ((rd_T100 l0 x21_2).f0))) > (wrap64 (x335001_2 - x335000_2)); rotate_left
       ·rw [if_neg c17] at H
        have c17b0 := decide_eq_false c17
        clear c17
        have H' := Az_ H
        clear H
        have p335 : 0 ≤ (x21_2 : Int) := od_
        have q335 : x21_2 < (l0.length : Int) := od_
        obtain ⟨ad335, e335, hx335_0, hx335_1⟩ := at_T100 HR0.out x21_2 p335 q335
        obtain rfl : ad333 = ad335 := (by injection e335)
        replace hx335_0 := hbz_ HB.out hx335_0
        replace hx335_1 := hbz_ HB.out hx335_1
        replace p335 := eq_true p335
        replace q335 := eq_true q335
        go_wp2_with (((with_reducible refine gate_dst (N := 6) rfl ?_); (try (refine gate_guard (by rfl) ?_; dsimp only)); refine box_event ?hg (N := 6) ?hd (cs := #[.int .i64 0, .int .i64 0]) (t := 100) ?hr ?_; (case hd => rfl); (case hg => rfl); (case hr => first | (go_simp; done) | (go_simp; rfl)); intro gb336 hg w24 hbox hb; have n2_ := Az_ (btz_ (w79_) hb); have n3_ := Az_ (hbox); have n4_ := Az_ ((by rw [hg]; exact (below_size (w79_)) : w.heap.size ≤ gb336)); have n5_ := Az_ ((by rw [hg]; exact (below_size (w79_)) : w.heap.size ≤ gb336)); have n6_ := Az_ ((by rw [hg]; exact Nat.ne_of_lt (uklz_ BK331.out) : gb331 ≠ gb336)); have n7_ := Az_ ((by rw [hg]; exact Nat.ne_of_gt (uklz_ BK331.out) : gb336 ≠ gb331)); have n8_ := Az_ ((by rw [hg]; exact Nat.ne_of_lt (uklz_ BK334.out) : gb334 ≠ gb336)); have n9_ := Az_ ((by rw [hg]; exact Nat.ne_of_gt (uklz_ BK334.out) : gb336 ≠ gb334)); clear HB; replace BK331 := Az_ (ukbz_ BK331.out hb); replace BK334 := Az_ (ukbz_ BK334.out hb); have HB := n2_; have BK336 := n3_; have GW336 := n4_; have GE336 := n5_; have NB331_336 := n6_; have NB336_331 := n7_; have NB334_336 := n8_; have NB336_334 := n9_; clear n2_ n3_ n4_ n5_ n6_ n7_ n8_ n9_; clear hb hbox hg; have hnb25 := NB336_331.out; have hnc25 := NB331_336.out; have hnb26 := NB336_334.out; have hnc26 := NB334_336.out; have hcz27_0 : w24.cell? ⟨gb336, 0, none⟩ = some (.int .i64 0) := (blk_cell BK336.out 0).trans rfl; have hcz27_1 : w24.cell? ⟨gb336, 1, none⟩ = some (.int .i64 0) := (blk_cell BK336.out 1).trans rfl; have hfz27_0 := blk_frozen BK336.out 0; have hfz27_1 := blk_frozen BK336.out 1; have hnb28 := NB334_331.out; have hnc28 := NB331_334.out; have hcz29_0 : w24.cell? ⟨gb334, 0, none⟩ = some (.int .i64 x335000_2) := (blk_cell BK334.out 0).trans rfl; have hcz29_1 : w24.cell? ⟨gb334, 1, none⟩ = some (.int .i64 x335001_2) := (blk_cell BK334.out 1).trans rfl; have hfz29_0 := blk_frozen BK334.out 0; have hfz29_1 := blk_frozen BK334.out 1))
        go_roundg k2
        case measure => have := HJ1.out; have := HK2.out; omega
        case rel => exact ⟨(wrap64 (x21_2 + 1)), (x335000_2), (x335001_2), qaz_, H', ⟨w139_⟩, ⟨by (with_reducible repeat (first | refine knz_ ?_ _ | refine kdz_ ?_ | refine kaz_ ?_ _)); refine blk_far ?_ NB331_336.out _; (with_reducible repeat (first | refine knz_ ?_ _ | refine kdz_ ?_ | refine kaz_ ?_ _)); refine blk_far ?_ NB331_336.out _; (with_reducible repeat (first | refine knz_ ?_ _ | refine kdz_ ?_ | refine kaz_ ?_ _)); exact BK331.out⟩, ⟨by (with_reducible repeat (first | refine knz_ ?_ _ | refine kdz_ ?_ | refine kaz_ ?_ _)); refine blk_far ?_ NB334_336.out _; (with_reducible repeat (first | refine knz_ ?_ _ | refine kdz_ ?_ | refine kaz_ ?_ _)); refine blk_far ?_ NB334_336.out _; (with_reducible repeat (first | refine knz_ ?_ _ | refine kdz_ ?_ | refine kaz_ ?_ _)); exact BK334.out⟩, ⟨w79_⟩⟩
       rw [if_pos c17] at H
       have c17b0 := decide_eq_true c17
       clear c17
       have H' := Az_ H
       clear H
       have p335 : 0 ≤ (x21_2 : Int) := od_
       have q335 : x21_2 < (l0.length : Int) := od_
       obtain ⟨ad335, e335, hx335_0, hx335_1⟩ := at_T100 HR0.out x21_2 p335 q335
       obtain rfl : ad333 = ad335 := (by injection e335)
       replace hx335_0 := hbz_ HB.out hx335_0
       replace hx335_1 := hbz_ HB.out hx335_1
       replace p335 := eq_true p335
       replace q335 := eq_true q335
       go_wp2_with (((with_reducible refine gate_dst (N := 6) rfl ?_); (try (refine gate_guard (by rfl) ?_; dsimp only)); refine box_event ?hg (N := 6) ?hd (cs := #[.int .i64 0, .int .i64 0]) (t := 100) ?hr ?_; (case hd => rfl); (case hg => rfl); (case hr => first | (go_simp; done) | (go_simp; rfl)); intro gb336 hg w18 hbox hb; have n2_ := Az_ (btz_ (w79_) hb); have n3_ := Az_ (hbox); have n4_ := Az_ ((by rw [hg]; exact (below_size (w79_)) : w.heap.size ≤ gb336)); have n5_ := Az_ ((by rw [hg]; exact (below_size (w79_)) : w.heap.size ≤ gb336)); have n6_ := Az_ ((by rw [hg]; exact Nat.ne_of_lt (uklz_ BK331.out) : gb331 ≠ gb336)); have n7_ := Az_ ((by rw [hg]; exact Nat.ne_of_gt (uklz_ BK331.out) : gb336 ≠ gb331)); have n8_ := Az_ ((by rw [hg]; exact Nat.ne_of_lt (uklz_ BK334.out) : gb334 ≠ gb336)); have n9_ := Az_ ((by rw [hg]; exact Nat.ne_of_gt (uklz_ BK334.out) : gb336 ≠ gb334)); clear HB; replace BK331 := Az_ (ukbz_ BK331.out hb); replace BK334 := Az_ (ukbz_ BK334.out hb); have HB := n2_; have BK336 := n3_; have GW336 := n4_; have GE336 := n5_; have NB331_336 := n6_; have NB336_331 := n7_; have NB334_336 := n8_; have NB336_334 := n9_; clear n2_ n3_ n4_ n5_ n6_ n7_ n8_ n9_; clear hb hbox hg; have hnb19 := NB336_331.out; have hnc19 := NB331_336.out; have hnb20 := NB336_334.out; have hnc20 := NB334_336.out; have hcz21_0 : w18.cell? ⟨gb336, 0, none⟩ = some (.int .i64 0) := (blk_cell BK336.out 0).trans rfl; have hcz21_1 : w18.cell? ⟨gb336, 1, none⟩ = some (.int .i64 0) := (blk_cell BK336.out 1).trans rfl; have hfz21_0 := blk_frozen BK336.out 0; have hfz21_1 := blk_frozen BK336.out 1; have hnb22 := NB334_331.out; have hnc22 := NB331_334.out; have hcz23_0 : w18.cell? ⟨gb334, 0, none⟩ = some (.int .i64 x335000_2) := (blk_cell BK334.out 0).trans rfl; have hcz23_1 : w18.cell? ⟨gb334, 1, none⟩ = some (.int .i64 x335001_2) := (blk_cell BK334.out 1).trans rfl; have hfz23_0 := blk_frozen BK334.out 0; have hfz23_1 := blk_frozen BK334.out 1))
       go_roundg k2
       case measure => have := HJ1.out; have := HK2.out; omega
       case rel => exact ⟨(wrap64 (x21_2 + 1)), ((rd_T100 l0 x21_2).f0), ((rd_T100 l0 x21_2).f1), qaz_, H', ⟨w139_⟩, ⟨by (with_reducible repeat (first | refine knz_ ?_ _ | refine kdz_ ?_ | refine kaz_ ?_ _)); refine blk_far ?_ NB331_334.out _; (with_reducible repeat (first | refine knz_ ?_ _ | refine kdz_ ?_ | refine kaz_ ?_ _)); refine blk_far ?_ NB331_334.out _; (with_reducible repeat (first | refine knz_ ?_ _ | refine kdz_ ?_ | refine kaz_ ?_ _)); refine blk_far ?_ NB331_336.out _; (with_reducible repeat (first | refine knz_ ?_ _ | refine kdz_ ?_ | refine kaz_ ?_ _)); refine blk_far ?_ NB331_336.out _; (with_reducible repeat (first | refine knz_ ?_ _ | refine kdz_ ?_ | refine kaz_ ?_ _)); exact BK331.out⟩, ⟨by (with_reducible repeat (first | refine knz_ ?_ _ | refine kdz_ ?_ | refine kaz_ ?_ _)); refine blk_put (cs := #[.int .i64 ((rd_T100 l0 x21_2).f0), .int .i64 x335001_2]) ?_ 1 _ rfl; (with_reducible repeat (first | refine knz_ ?_ _ | refine kdz_ ?_ | refine kaz_ ?_ _)); refine blk_put (cs := #[.int .i64 x335000_2, .int .i64 x335001_2]) ?_ 0 _ rfl; (with_reducible repeat (first | refine knz_ ?_ _ | refine kdz_ ?_ | refine kaz_ ?_ _)); refine blk_far ?_ NB334_336.out _; (with_reducible repeat (first | refine knz_ ?_ _ | refine kdz_ ?_ | refine kaz_ ?_ _)); refine blk_far ?_ NB334_336.out _; (with_reducible repeat (first | refine knz_ ?_ _ | refine kdz_ ?_ | refine kaz_ ?_ _)); exact BK334.out⟩, ⟨w79_⟩⟩
    ·rw [if_neg c10] at H
     exact absurd H (by simp)

def spec_DrawShortRange.f (l0 : List Int) : Option (Int × Int) := (spec_l1Cur_among.f l0 0 0 (([1, 8, 9, 98, 120, 123, 199, 1000, 1990, 0] : List Int))).bind fun bt342 => ((spec_l1Cur_among.f l0 bt342.2.1 bt342.2.2 (([0, 1, 2, 4, 10, 14, 100, (-1), 2000] : List Int))).bind fun bt349 => (some (bt342.1, wrap64 (bt342.1 + bt349.1))))
def spec_DrawShortRange.T3 : Bool × List (List Nat × List Nat) := (true, [([], []), ([0], [0]), ([], []), ([], []), ([2, 3], [2, 3]), ([1, 4], [1, 4]), ([0, 1, 2, 3, 4, 5], []), ([6, 5, 4, 0, 1, 2, 3, 4, 5], [5, 6])])
def spec_DrawShortRange.B3 : List Nat := [0, 1, 0, 0, 12, 31, 63, 127]
theorem spec_DrawShortRange.tab3 : rtab .any (opsOf Tryd.f85 3) = spec_DrawShortRange.T3 := by kernel_rfl
theorem spec_DrawShortRange.bits3 : waitsOk spec_DrawShortRange.T3.2 spec_DrawShortRange.B3 = true := by kernel_rfl
set_option maxHeartbeats 8000000 in
set_option maxRecDepth 100000 in
theorem spec_DrawShortRange.calls (A0 : Option Addr) (c0 : Nat) (l0 : List Int) (r1 : Int) (r2 : Int) (w : World) (hr0 : Kd.C (Kd.int .u8) w A0 l0.length l0) (hc0 : l0.length ≤ c0) (h : spec_DrawShortRange.f l0 = some (r1, r2)) :
  Calls Tryd.prog 85 #[.slice A0 l0.length c0] w fun e w' => e = .returned (.agg #[.int .i64 r1, .int .i64 r2]) ∧ Below w.heap.size w w' := by
 have hu100 := Tryd.underlying100
 have hu111 := Tryd.underlying111
 have HR0 := Az_ hr0
 have HC0 := Az_ hc0
 clear hr0 hc0
 have HB := Az_ (Below.refl w.heap.size w)
 have H : ((spec_l1Cur_among.f l0 0 0 (([1, 8, 9, 98, 120, 123, 199, 1000, 1990, 0] : List Int))).bind fun bt342 => ((spec_l1Cur_among.f l0 bt342.2.1 bt342.2.2 (([0, 1, 2, 4, 10, 14, 100, (-1), 2000] : List Int))).bind fun bt349 => (some (bt342.1, wrap64 (bt342.1 + bt349.1))))) = some (r1, r2) := h
 clear h
 obtain ⟨y339, hy339⟩ : ∃ y_ : List Int, y_ = (([1, 8, 9, 98, 120, 123, 199, 1000, 1990, 0] : List Int)) := ⟨_, rfl⟩
 replace H : ((spec_l1Cur_among.f l0 0 0 y339).bind fun bt342 => ((spec_l1Cur_among.f l0 bt342.2.1 bt342.2.2 (([0, 1, 2, 4, 10, 14, 100, (-1), 2000] : List Int))).bind fun bt349 => (some (bt342.1, wrap64 (bt342.1 + bt349.1))))) = some (r1, r2) := by first | (rw [hy339]; with_reducible exact H) | (have H2_ := (Option.bind_some _ _).symm.trans H; rw [hy339]; with_reducible exact H2_) | (have H2_ := (Option.bind_some _ _).symm.trans H; with_reducible exact H2_) | with_reducible exact H | (rw [hy339]; exact H) | exact H
 have Ny339 := Az_ hy339
 clear hy339
 replace H := bqz_ H; obtain ⟨⟨t342, t343, t344⟩, A2, H⟩ := H
 replace H : ((spec_l1Cur_among.f l0 t343 t344 (([0, 1, 2, 4, 10, 14, 100, (-1), 2000] : List Int))).bind fun bt349 => (some (t342, wrap64 (t342 + bt349.1)))) = some (r1, r2) := H
 obtain ⟨y346, hy346⟩ : ∃ y_ : List Int, y_ = (([0, 1, 2, 4, 10, 14, 100, (-1), 2000] : List Int)) := ⟨_, rfl⟩
 replace H : ((spec_l1Cur_among.f l0 t343 t344 y346).bind fun bt349 => (some (t342, wrap64 (t342 + bt349.1)))) = some (r1, r2) := by first | (rw [hy346]; with_reducible exact H) | (have H2_ := (Option.bind_some _ _).symm.trans H; rw [hy346]; with_reducible exact H2_) | (have H2_ := (Option.bind_some _ _).symm.trans H; with_reducible exact H2_) | with_reducible exact H | (rw [hy346]; exact H) | exact H
 have Ny346 := Az_ hy346
 clear hy346
 replace H := bqz_ H; obtain ⟨⟨t349, t350, t351⟩, A3, H⟩ := H
 replace H : (some (t342, wrap64 (t342 + t349))) = some (r1, r2) := H
 simp only [Option.some.injEq, Prod.mk.injEq] at H
 obtain ⟨rfl, rfl⟩ := H
 go_enter Tryd.func85, Tryd.ntmps85
 try go_wp2_with (first | ((with_reducible refine gate_dst (N := 2) rfl ?_); refine box_event ?hg (N := 2) ?hd (cs := #[.int .i64 0, .int .i64 0]) (t := 100) ?hr ?_; (case hd => rfl); (case hg => rfl); (case hr => first | (go_simp; done) | (go_simp; rfl)); intro gb337 hg w4 hbox hb; have BK337 := Az_ (hbox); have GW337 := Az_ ((by rw [hg]; exact (below_size (ubz_ HB.out)) : w.heap.size ≤ gb337)); have GE337 := Az_ ((by rw [hg]; exact (below_size (ubz_ HB.out)) : w.heap.size ≤ gb337)); replace HB := Az_ (btz_ (ubz_ HB.out) hb); clear hb hbox hg) | ((with_reducible refine gate_dst (N := 7) rfl ?_); refine box_event ?hg (N := 7) ?hd (cs := #[.slice A0 l0.length c0, .int .i64 0, .int .u64 0]) (t := 111) ?hr ?_; (case hd => rfl); (case hg => rfl); (case hr => first | (go_simp; done) | (go_simp; rfl)); intro gb338 hg w5 hbox hb; have n1_ := Az_ (btz_ (w79_) hb); have n2_ := Az_ (hbox); have n3_ := Az_ ((by rw [hg]; exact (below_size (w79_)) : w.heap.size ≤ gb338)); have n4_ := Az_ ((by rw [hg]; exact (below_size (w79_)) : w.heap.size ≤ gb338)); have n5_ := Az_ ((by rw [hg]; exact Nat.ne_of_lt (uklz_ BK337.out) : gb337 ≠ gb338)); have n6_ := Az_ ((by rw [hg]; exact Nat.ne_of_gt (uklz_ BK337.out) : gb338 ≠ gb337)); clear HB; replace BK337 := Az_ (ukbz_ BK337.out hb); have HB := n1_; have BK338 := n2_; have GW338 := n3_; have GE338 := n4_; have NB337_338 := n5_; have NB338_337 := n6_; clear n1_ n2_ n3_ n4_ n5_ n6_; clear hb hbox hg) | ((with_reducible refine gate_dst (N := 9) rfl ?_); refine Kd.R_lit (Kd.int .i64) _ 3 ?hg (N := 9) ?hd (xs := ([1, 8, 9, 98, 120, 123, 199, 1000, 1990, 0] : List Int)) (inner := [.int .i64 1, .int .i64 8, .int .i64 9, .int .i64 98, .int .i64 120, .int .i64 123, .int .i64 199, .int .i64 1000, .int .i64 1990, .int .i64 0]) (ok := fun _ => True) (okp := fun _ => True) ?hr ?hp (fun _ hk => hk) trivial (Below.refl _ _) (Nat.le_refl _) (by simp) ?_; (case hd => rfl); (case hg => rfl); (case hr => first | (go_simp; done) | (go_simp; rfl)); (case hp => exact (Reps.one (show Kd.M (Kd.int .i64) _ _ _ 1 [.int .i64 1] from rfl) (Reps.one (show Kd.M (Kd.int .i64) _ _ _ 8 [.int .i64 8] from rfl) (Reps.one (show Kd.M (Kd.int .i64) _ _ _ 9 [.int .i64 9] from rfl) (Reps.one (show Kd.M (Kd.int .i64) _ _ _ 98 [.int .i64 98] from rfl) (Reps.one (show Kd.M (Kd.int .i64) _ _ _ 120 [.int .i64 120] from rfl) (Reps.one (show Kd.M (Kd.int .i64) _ _ _ 123 [.int .i64 123] from rfl) (Reps.one (show Kd.M (Kd.int .i64) _ _ _ 199 [.int .i64 199] from rfl) (Reps.one (show Kd.M (Kd.int .i64) _ _ _ 1000 [.int .i64 1000] from rfl) (Reps.one (show Kd.M (Kd.int .i64) _ _ _ 1990 [.int .i64 1990] from rfl) (Reps.one (show Kd.M (Kd.int .i64) _ _ _ 0 [.int .i64 0] from rfl) (Reps.none _ _)))))))))))); intro v340 w6 ho7 hb hg_ hnew_; clear hg_ hnew_; (first | rw [← Ny339.out] at ho7 | (simp only [Int.reduceToNat] at ho7; rw [← Ny339.out] at ho7)); have n0_ := Az_ (Kd.R_lower ho7 (below_size (w79_))); have n3_ := Az_ (btz_ (w79_) hb); clear HB; have HO341 := n0_; replace BK337 := Az_ (ukbz_ BK337.out hb); replace BK338 := Az_ (ukbz_ BK338.out hb); have HB := n3_; clear n0_ n3_; clear hb ho7; obtain ⟨Ao8, co8, eo8⟩ := Kd.R_slice HO341.out; subst eo8) | ((with_reducible refine gate_callee (f := 94) rfl ?_); refine goesL_ (some 10) rfl rfl Tryd.func94 (w162_) rfl #[.pointer (some ⟨gb338, 0, none⟩), .slice Ao8 y339.length co8] rfl maz_ ?_; have HI338 := Az_ (show IsS111 w w6 gb338 l0 0 0 from ⟨_, _, BK338.out, GE338.out, HR0.out⟩); (with_reducible refine (spec_l1Cur_among.calls gb338 l0 0 0 _ _ y339 t342 t343 t344 w _ ?side1 ?side2 ?side3 ?side4 ?side5 A2.out).mono ?_); (case side1 => repeat (first | (with_reducible first | exact HI338.out | apply IsS111.alloc | apply IsS111.drewN | apply IsS111.drew | apply IsS111.set_1 | apply IsS111.set_2 | refine IsS111.far ?_ NB338_337.out _) | exact HI338.out)); (case side2 => repeat (first | (with_reducible first | exact HB.out | apply baz_ | apply bnz_ | apply bdz_ | refine bsz_ ?_ (IsS111.ge HI338.out) | refine bsz_ ?_ GE337.out) | exact HB.out)); (case side3 => exact ucz_ ((Kd.R_reads' HO341.out).2.2)); (case side4 => exact (Kd.R_reads' HO341.out).2.1); (case side5 => exact far_slice (IsS111.own_ne HI338.out HO341.out (by decide))); rintro e w9 ⟨rfl, hi, hb, hk⟩; refine ⟨_, rfl, ?_⟩; replace BK337 := Az_ (KeepBut.blk hk (g' := gb337) (o := .cells #[.int .i64 0, .int .i64 0] 100 (0, 0)) (by exact ukz_ BK337.out) NB337_338.out (by simp)); replace HO341 := Az_ (Kd.R_mono (Kd.R_keep (IsS111.apart (show IsS111 w _ gb338 l0 0 0 from w50_) (by exact urz_ HO341.out) (by decide)) hk (fun _ h => h.2)) (fun _ h => h.1)); replace HB := Az_ (hb); replace HI338 := Az_ (hi); (try clear hb); (try clear hk); (try clear hi)) | ((with_reducible refine gate_dst (N := 4) rfl ?_); refine box_event ?hg (N := 4) ?hd (cs := #[.int .i64 0, .int .i64 0]) (t := 100) ?hr ?_; (case hd => rfl); (case hg => rfl); (case hr => first | (go_simp; done) | (go_simp; rfl)); intro gb345 hg w10 hbox hb; have n0_ := Az_ (Kd.R_below (by exact urz_ HO341.out) hb); have n2_ := Az_ (IsS111.below (w50_) hb); have n3_ := Az_ (btz_ (w60_) hb); have n4_ := Az_ (hbox); have n5_ := Az_ ((by rw [hg]; exact (below_size (w60_)) : w.heap.size ≤ gb345)); have n6_ := Az_ ((by rw [hg]; exact (below_size (w60_)) : w.heap.size ≤ gb345)); have n7_ := Az_ ((by rw [hg]; exact Nat.ne_of_lt (uklz_ BK337.out) : gb337 ≠ gb345)); have n8_ := Az_ ((by rw [hg]; exact Nat.ne_of_gt (uklz_ BK337.out) : gb345 ≠ gb337)); have n9_ := Az_ ((by rw [hg]; exact Nat.ne_of_lt (IsS111.lt (show IsS111 w _ gb338 l0 t343 t344 from w50_)) : gb338 ≠ gb345)); have n10_ := Az_ ((by rw [hg]; exact Nat.ne_of_gt (IsS111.lt (show IsS111 w _ gb338 l0 t343 t344 from w50_)) : gb345 ≠ gb338)); clear HO341; clear HI338; clear HB; have HO341 := n0_; replace BK337 := Az_ (ukbz_ BK337.out hb); have HI338 := n2_; have HB := n3_; have BK345 := n4_; have GW345 := n5_; have GE345 := n6_; have NB337_345 := n7_; have NB345_337 := n8_; have NB338_345 := n9_; have NB345_338 := n10_; clear n0_ n2_ n3_ n4_ n5_ n6_ n7_ n8_ n9_ n10_; clear hb hbox hg; have hnb11 := NB345_337.out; have hnc11 := NB337_345.out; have hnb12 := NB345_338.out; have hnc12 := NB338_345.out; have hcz13_0 : w10.cell? ⟨gb345, 0, none⟩ = some (.int .i64 0) := (blk_cell BK345.out 0).trans rfl; have hcz13_1 : w10.cell? ⟨gb345, 1, none⟩ = some (.int .i64 0) := (blk_cell BK345.out 1).trans rfl; have hfz13_0 := blk_frozen BK345.out 0; have hfz13_1 := blk_frozen BK345.out 1))
 have n0_ : Aside0 (Kd.R (Kd.int .i64) 3 ((w10.setCell ⟨gb345, 0, none⟩ (.int .i64 t342)).setCell ⟨gb345, 1, none⟩ (.int .i64 0)) w.heap.size (fun _ => True) (.slice Ao8 y339.length co8) y339) := ⟨by (with_reducible repeat (first | apply raz_ | apply rnz_ | apply rdz_)); exact Kd.R_mono (Kd.R_far (p := ⟨gb345, 1, none⟩) (Kd.R_far (p := ⟨gb345, 0, none⟩) (Kd.R_types HO341.out BK345.out (by decide)) (fun _ hk => hk.2) (.int .i64 t342)) (fun _ hk => hk.2) (.int .i64 0)) (fun _ hk => trivial)⟩
 have n1_ : Aside0 (((w10.setCell ⟨gb345, 0, none⟩ (.int .i64 t342)).setCell ⟨gb345, 1, none⟩ (.int .i64 0)).heap[gb337]? = some (.cells #[.int .i64 0, .int .i64 0] 100 (0, 0))) := ⟨by (with_reducible repeat (first | refine knz_ ?_ _ | refine kdz_ ?_ | refine kaz_ ?_ _)); refine blk_far ?_ NB337_345.out _; (with_reducible repeat (first | refine knz_ ?_ _ | refine kdz_ ?_ | refine kaz_ ?_ _)); refine blk_far ?_ NB337_345.out _; (with_reducible repeat (first | refine knz_ ?_ _ | refine kdz_ ?_ | refine kaz_ ?_ _)); exact BK337.out⟩
 have n2_ : Aside0 (((w10.setCell ⟨gb345, 0, none⟩ (.int .i64 t342)).setCell ⟨gb345, 1, none⟩ (.int .i64 0)).heap[gb345]? = some (.cells #[.int .i64 t342, .int .i64 0] 100 (0, 0))) := ⟨by (with_reducible repeat (first | refine knz_ ?_ _ | refine kdz_ ?_ | refine kaz_ ?_ _)); refine blk_put (cs := #[.int .i64 t342, .int .i64 0]) ?_ 1 _ rfl; (with_reducible repeat (first | refine knz_ ?_ _ | refine kdz_ ?_ | refine kaz_ ?_ _)); refine blk_put (cs := #[.int .i64 0, .int .i64 0]) ?_ 0 _ rfl; (with_reducible repeat (first | refine knz_ ?_ _ | refine kdz_ ?_ | refine kaz_ ?_ _)); exact BK345.out⟩
 have n3_ : Aside0 (IsS111 w ((w10.setCell ⟨gb345, 0, none⟩ (.int .i64 t342)).setCell ⟨gb345, 1, none⟩ (.int .i64 0)) gb338 l0 t343 t344) := ⟨w46_⟩
 have n4_ : Aside0 (Below w.heap.size w ((w10.setCell ⟨gb345, 0, none⟩ (.int .i64 t342)).setCell ⟨gb345, 1, none⟩ (.int .i64 0))) := ⟨w54_⟩
 clear HO341
 clear BK337
 clear BK345
 clear HI338
 clear HB
 generalize ((w10.setCell ⟨gb345, 0, none⟩ (.int .i64 t342)).setCell ⟨gb345, 1, none⟩ (.int .i64 0)) = w14 at n0_ n1_ n2_ n3_ n4_ ⊢
 have HO341 := n0_
 have BK337 := n1_
 have BK345 := n2_
 have HI338 := n3_
 have HB := n4_
 clear n0_ n1_ n2_ n3_ n4_
 have n0_ := Az_ (rdz_ HO341.out)
 have n1_ := Az_ (kdz_ BK337.out)
 have n2_ := Az_ (kdz_ BK345.out)
 have n3_ := Az_ (IsS111.drew HI338.out)
 have n4_ := Az_ (bdz_ HB.out)
 clear HO341 BK337 BK345 HI338 HB
 have HO341 := n0_
 have BK337 := n1_
 have BK345 := n2_
 have HI338 := n3_
 have HB := n4_
 clear n0_ n1_ n2_ n3_ n4_
 refine start_ (n := 8) (S := fun w' => w'.cell? ⟨gb345, 0, none⟩ = some (.int .i64 t342) ∧ w'.cell? ⟨gb345, 1, none⟩ = some (.int .i64 0)) (ds := [7]) #[false, false, false, false, false, false, false, false] (w162_) rfl rfl ⟨(blk_cell BK345.out 0).trans rfl, (blk_cell BK345.out 1).trans rfl⟩ (fun hHeld => ?_); refine with_tabW spec_DrawShortRange.tab3 spec_DrawShortRange.bits3 (fun HT_ HW_ => ?_)
 generalize w14.drew = w15 at HO341 BK337 BK345 HI338 HB hHeld ⊢
 refine pz_ 0 12 [1,7] ?_
 refine pz_ 2 14 [1,1,1,5] ?_
 refine tz2_ 1 13 [3,5] ?_
 refine one_ (i := 3) (N := some 15) (mz_ [4,4]) rfl rfl (one_of HT_.out (w162_)) (by decide) (fun K hK => ?_)
 refine Kd.R_lit_step (Kd.int .i64) _ 3 ?hg (N := 15) ?hd (xs := ([0, 1, 2, 4, 10, 14, 100, (-1), 2000] : List Int)) (inner := [.int .i64 0, .int .i64 1, .int .i64 2, .int .i64 4, .int .i64 10, .int .i64 14, .int .i64 100, .int .i64 (-1), .int .i64 2000]) (ok := fun _ => True) (okp := fun _ => True) ?hr ?hp (fun _ hk => hk) trivial (Below.refl _ _) (Nat.le_refl _) (by simp) ?_; (case hd => rfl); (case hg => rfl); (case hr => first | (go_simp; done) | (go_simp; rfl)); (case hp => exact (Reps.one (show Kd.M (Kd.int .i64) _ _ _ 0 [.int .i64 0] from rfl) (Reps.one (show Kd.M (Kd.int .i64) _ _ _ 1 [.int .i64 1] from rfl) (Reps.one (show Kd.M (Kd.int .i64) _ _ _ 2 [.int .i64 2] from rfl) (Reps.one (show Kd.M (Kd.int .i64) _ _ _ 4 [.int .i64 4] from rfl) (Reps.one (show Kd.M (Kd.int .i64) _ _ _ 10 [.int .i64 10] from rfl) (Reps.one (show Kd.M (Kd.int .i64) _ _ _ 14 [.int .i64 14] from rfl) (Reps.one (show Kd.M (Kd.int .i64) _ _ _ 100 [.int .i64 100] from rfl) (Reps.one (show Kd.M (Kd.int .i64) _ _ _ (-1) [.int .i64 (-1)] from rfl) (Reps.one (show Kd.M (Kd.int .i64) _ _ _ 2000 [.int .i64 2000] from rfl) (Reps.none _ _)))))))))))
 intro v347 w16 ho17 hb hg_ hnew_
 clear hg_ hnew_
 (first | rw [← Ny346.out] at ho17 | (simp only [Int.reduceToNat] at ho17; rw [← Ny346.out] at ho17))
 have n0_ := Az_ (rez_ (by exact urz_ HO341.out) (Kd.R_base ho17) hb)
 have n1_ := Az_ (Kd.R_lower (Kd.R_new' ho17 (Kd.R_lt (by exact urz_ HO341.out))) (below_size (w54_)))
 have n3_ := Az_ (IsS111.below (w46_) hb)
 have n5_ := Az_ (btz_ (w54_) hb)
 clear HO341 HI338 HB
 have HO341 := n0_
 have HO348 := n1_
 replace BK337 := Az_ (ukbz_ BK337.out hb)
 have HI338 := n3_
 replace BK345 := Az_ (ukbz_ BK345.out hb)
 have HB := n5_
 clear n0_ n1_ n3_ n5_ hb ho17
 obtain ⟨Ao18, co18, eo18⟩ := Kd.R_slice HO348.out
 (first | subst eo18 | (injection eo18 with f1_ f2_ f3_; have f4_ := f1_.symm; have f5_ := f3_.symm; clear f1_ f2_ f3_; subst f4_; subst f5_))
 refine hK.out _ _ ⟨(blk_cell BK345.out 0).trans rfl, (blk_cell BK345.out 1).trans rfl⟩ (fun hHeld => ?_)
 clear hK K
 refine nz_ 15 ?_
 refine one_ (i := 4) (N := some 16) (mz_ [5,3]) rfl rfl (one_of HT_.out (w162_)) (by decide) (fun K hK => ?_)
 refine goes_ Tryd.func94 (w162_) rfl #[.pointer (some ⟨gb338, 0, none⟩), .slice Ao18 y346.length co18] (by rfl) rfl rfl maz_ ?_
 with_reducible refine (spec_l1Cur_among.calls gb338 l0 t343 t344 _ _ y346 t349 t350 t351 w _ ?side1 ?side2 ?side3 ?side4 ?side5 A3.out).mono ?_
 (case side1 => repeat (first | (with_reducible first | exact HI338.out | apply IsS111.alloc | apply IsS111.drewN | apply IsS111.drew | apply IsS111.set_1 | apply IsS111.set_2 | refine IsS111.far ?_ NB338_337.out _ | refine IsS111.far ?_ NB338_345.out _) | exact HI338.out))
 (case side2 => repeat (first | (with_reducible first | exact HB.out | apply baz_ | apply bnz_ | apply bdz_ | refine bsz_ ?_ (IsS111.ge HI338.out) | refine bsz_ ?_ GE337.out | refine bsz_ ?_ GE345.out) | exact HB.out))
 (case side3 => repeat (first | exact (Kd.R_reads' HO348.out).2.2 | (with_reducible refine Kd.C_alloc ?_ _) | (with_reducible refine Kd.C_drewN ?_ _) | (with_reducible refine Kd.C_drew ?_)))
 (case side4 => exact (Kd.R_reads' HO348.out).2.1)
 (case side5 => exact far_slice (IsS111.own_ne HI338.out HO348.out (by decide)))
 rintro e w19 ⟨rfl, hi, hb, hk⟩
 refine ⟨_, rfl, ?_⟩
 have n0_ := Az_ (KeepBut.blk hk (g' := gb337) (o := .cells #[.int .i64 0, .int .i64 0] 100 (0, 0)) (by exact ukz_ BK337.out) NB337_338.out (by simp))
 have n1_ := Az_ (Kd.R_mono (Kd.R_keep (IsS111.apart (show IsS111 w _ gb338 l0 t343 t344 from w46_) (by exact urz_ HO341.out) (by decide)) hk (fun _ h => h.2)) (fun _ h => h.1))
 have n2_ := Az_ (KeepBut.blk hk (g' := gb345) (o := .cells #[.int .i64 t342, .int .i64 0] 100 (0, 0)) (by exact ukz_ BK345.out) NB345_338.out (by simp))
 have n3_ := Az_ (Kd.R_mono (Kd.R_keep (IsS111.apart (show IsS111 w _ gb338 l0 t343 t344 from w46_) (by exact urz_ HO348.out) (by decide)) hk (fun _ h => h.2)) (fun _ h => h.1))
 have n4_ := Az_ (hb)
 have n5_ := Az_ (hi)
 clear BK337 HO341 BK345 HO348 HB HI338
 have BK337 := n0_
 have HO341 := n1_
 have BK345 := n2_
 have HO348 := n3_
 have HB := n4_
 have HI338 := n5_
 clear n0_ n1_ n2_ n3_ n4_ n5_
 clear hb
 clear hk
 clear hi
 refine hK.out _ _ ⟨(blk_cell BK345.out 0).trans rfl, (blk_cell BK345.out 1).trans rfl⟩ (fun hHeld => ?_)
 clear hK K
 refine nz_ 16 ?_
 refine pz_ 5 17 [6,2] ?_
 refine pz_ 6 18 [7,1] ?_
 refine last_ (i := 7) (N := none) (mz_ [8]) rfl rfl (one_of HT_.out (w162_)) (by decide) (fun K hK => ?_)
 have hs20 : w19.cell? ⟨gb345, 1, none⟩ = some (.int .i64 0) := (blk_cell BK345.out 1).trans rfl
 have hfs20 := blk_frozen BK345.out 1
 have hns20_0 := NB337_345.out
 have hms20_0 := NB345_337.out
 refine skip_ (w1 := ?_) (by rfl) rfl ?_ ?_
 rotate_left
 ·go_simp
  rfl
 refine hK.out _ _ ?_
 clear hK K
 refine done_ (done_of HT_.out (w162_)) ?_
 have hcz21_0 : w19.cell? ⟨gb345, 0, none⟩ = some (.int .i64 t342) := (blk_cell BK345.out 0).trans rfl
 have hcz21_1 : w19.cell? ⟨gb345, 1, none⟩ = some (.int .i64 0) := (blk_cell BK345.out 1).trans rfl
 have hfz21_0 := blk_frozen BK345.out 0
 have hfz21_1 := blk_frozen BK345.out 1
 have hnb22 := NB337_338.out
 have hnc22 := NB338_337.out
 have hcz23_0 : w19.cell? ⟨gb337, 0, none⟩ = some (.int .i64 0) := (blk_cell BK337.out 0).trans rfl
 have hcz23_1 : w19.cell? ⟨gb337, 1, none⟩ = some (.int .i64 0) := (blk_cell BK337.out 1).trans rfl
 have hfz23_0 := blk_frozen BK337.out 0
 have hfz23_1 := blk_frozen BK337.out 1
 try go_wp2
 refine bodyPost_ret (results_cell_row rfl _ _ gb337 100 #[.int .i64 t342, .int .i64 (wrap64 (t342 + t349))] (0, 0) _ rfl (by (with_reducible repeat (first | refine knz_ ?_ _ | refine kdz_ ?_ | refine kaz_ ?_ _)); refine blk_put (cs := #[.int .i64 t342, .int .i64 0]) ?_ 1 _ rfl; (with_reducible repeat (first | refine knz_ ?_ _ | refine kdz_ ?_ | refine kaz_ ?_ _)); refine blk_put (cs := #[.int .i64 0, .int .i64 0]) ?_ 0 _ rfl; (with_reducible repeat (first | refine knz_ ?_ _ | refine kdz_ ?_ | refine kaz_ ?_ _)); refine blk_far ?_ NB337_345.out _; (with_reducible repeat (first | refine knz_ ?_ _ | refine kdz_ ?_ | refine kaz_ ?_ _)); exact BK337.out) Tryd.underlying100 rfl (w162_)) rfl ?_
 exact ⟨w116_, w54_⟩

end Go.Proofs.YtppbpefehpbejaaDoor.P
end

section
namespace Go.Proofs.YtppbpefehpbejaaDoor
open Go.Shelf

def Tryd.laysM171_ren : Go.Shelf.Ren := ⟨fun | 171 => 172 | 243 => 199 | 246 => 209 | 283 => 220 | 284 => 221 | 285 => 222 | 286 => 223 | 129 => 232 | 317 => 231 | 318 => 233 | 319 => 234 | 320 => 235 | 337 => 240 | 338 => 241 | n => n, fun | 3 => 3 | 9 => 9 | 2 => 2 | 4 => 4 | 171 => 194 | 0 => 0 | 53 => 109 | 37 => 22 | 5 => 5 | 173 => 197 | 212 => 205 | 51 => 206 | 20 => 20 | 213 => 207 | 46 => 182 | 232 => 218 | 233 => 219 | n => n, fun | 17 => 3 | 18 => 4 | 19 => 5 | n => n⟩

theorem Tryd.laysM171 : Go.Proofs.LaysM.n171 Tryd.prog Tryd.laysM171_ren := {
  mixed := by kernel_rfl
  f129 := Tryd.func232.trans (congrArg some (w162_))
  f171 := Tryd.func172.trans (congrArg some (w162_))
  f243 := Tryd.func199.trans (congrArg some (w162_))
  f246 := Tryd.func209.trans (congrArg some (w162_))
  f283 := Tryd.func220.trans (congrArg some (w162_))
  f284 := Tryd.func221.trans (congrArg some (w162_))
  f285 := Tryd.func222.trans (congrArg some (w162_))
  f286 := Tryd.func223.trans (congrArg some (w162_))
  f317 := Tryd.func231.trans (congrArg some (w162_))
  f318 := Tryd.func233.trans (congrArg some (w162_))
  f319 := Tryd.func234.trans (congrArg some (w162_))
  f320 := Tryd.func235.trans (congrArg some (w162_))
  f337 := Tryd.func240.trans (congrArg some (w162_))
  f338 := Tryd.func241.trans (congrArg some (w162_))
  t0 := Tryd.underlying0
  a0 := Tryd.isAgg0
  z0 := Tryd.sizeOf0
  v0 := Tryd.zeroValue0
  t2 := Tryd.underlying2
  a2 := Tryd.isAgg2
  z2 := Tryd.sizeOf2
  v2 := Tryd.zeroValue2
  t3 := Tryd.underlying3
  a3 := Tryd.isAgg3
  z3 := Tryd.sizeOf3
  v3 := Tryd.zeroValue3
  t4 := Tryd.underlying4
  a4 := Tryd.isAgg4
  z4 := Tryd.sizeOf4
  v4 := Tryd.zeroValue4
  t5 := Tryd.underlying5
  a5 := Tryd.isAgg5
  z5 := Tryd.sizeOf5
  v5 := Tryd.zeroValue5
  t9 := Tryd.underlying9
  a9 := Tryd.isAgg9
  z9 := Tryd.sizeOf9
  v9 := Tryd.zeroValue9
  t20 := Tryd.underlying20
  a20 := Tryd.isAgg20
  z20 := Tryd.sizeOf20
  v20 := Tryd.zeroValue20
  t37 := Tryd.underlying22
  a37 := Tryd.isAgg22
  z37 := Tryd.sizeOf22
  v37 := Tryd.zeroValue22
  t46 := Tryd.underlying182
  a46 := Tryd.isAgg182
  z46 := Tryd.sizeOf182
  v46 := Tryd.zeroValue182
  t51 := Tryd.underlying206
  a51 := Tryd.isAgg206
  z51 := Tryd.sizeOf206
  v51 := Tryd.zeroValue206
  t53 := Tryd.underlying109
  a53 := Tryd.isAgg109
  z53 := Tryd.sizeOf109
  v53 := Tryd.zeroValue109
  t171 := Tryd.underlying194
  a171 := Tryd.isAgg194
  z171 := Tryd.sizeOf194
  v171 := Tryd.zeroValue194
  t173 := Tryd.underlying197
  a173 := Tryd.isAgg197
  z173 := Tryd.sizeOf197
  v173 := Tryd.zeroValue197
  t212 := Tryd.underlying205
  a212 := Tryd.isAgg205
  z212 := Tryd.sizeOf205
  v212 := Tryd.zeroValue205
  t213 := Tryd.underlying207
  a213 := Tryd.isAgg207
  z213 := Tryd.sizeOf207
  t232 := Tryd.underlying218
  a232 := Tryd.isAgg218
  z232 := Tryd.sizeOf218
  v232 := Tryd.zeroValue218
  t233 := Tryd.underlying219
  a233 := Tryd.isAgg219
  z233 := Tryd.sizeOf219
  v233 := Tryd.zeroValue219
  g17 := by kernel_rfl
  g18 := by kernel_rfl
  g19 := by kernel_rfl
  i0 := by kernel_rfl
  i2 := by kernel_rfl
  i3 := by kernel_rfl
  i4 := by kernel_rfl
  i5 := by kernel_rfl
  i9 := by kernel_rfl
  i20 := by kernel_rfl
  i37 := by kernel_rfl
  i46 := by kernel_rfl
  i51 := by kernel_rfl
  i53 := by kernel_rfl
  i171 := by kernel_rfl
  i173 := by kernel_rfl
  i212 := by kernel_rfl
  i232 := by kernel_rfl
  i233 := by kernel_rfl
  m17 := by kernel_rfl
  m18 := by kernel_rfl
  m19 := w162_ }

open Go.RowKit Go.Sort Go.Lib in
theorem Tryd.strconv_Itoa (n : Int) (h0 : -9223372036854775808 ≤ n) (h1 : n ≤ 9223372036854775807) (w : World) (htab : Lib.TabIs Tryd.prog w "internal/strconv.uint64pow10" .u64 Lib.pow10Tab) :
    Calls Tryd.prog 172 #[.int .i64 n] w fun e w' => e = .returned (.string ⟨(Lib.itoa n).toArray⟩) ∧ ∃ k os, w' = grow (w.drewN k) os := Any.strconv_Itoa Tryd.laysM171 n h0 h1 w htab

def Tryd.laysC172_ren : Go.Shelf.Ren := ⟨fun | 172 => 197 | 244 => 207 | 245 => 208 | 247 => 215 | 279 => 216 | 280 => 217 | 281 => 218 | 282 => 219 | 287 => 228 | 316 => 229 | 171 => 172 | 205 => 230 | 321 => 238 | 322 => 239 | 243 => 199 | 246 => 209 | 283 => 220 | 284 => 221 | 285 => 222 | 286 => 223 | 129 => 232 | 317 => 231 | 318 => 233 | 319 => 234 | 320 => 235 | 337 => 240 | 338 => 241 | n => n, fun | 9 => 9 | 3 => 3 | 75 => 177 | 76 => 178 | 4 => 4 | 5 => 5 | 167 => 188 | 37 => 22 | 0 => 0 | 85 => 189 | 2 => 2 | 168 => 191 | 53 => 109 | 175 => 199 | 46 => 182 | 210 => 203 | 127 => 213 | 145 => 216 | 143 => 214 | 21 => 21 | 171 => 194 | 173 => 197 | 212 => 205 | 51 => 206 | 20 => 20 | 213 => 207 | 232 => 218 | 233 => 219 | 80 => 220 | n => n, fun | 15 => 1 | 16 => 2 | 17 => 3 | 18 => 4 | 19 => 5 | n => n⟩

theorem Tryd.laysC172 : Go.Proofs.LaysC.n172 Tryd.prog Tryd.laysC172_ren := {
  mixed := by kernel_rfl
  f129 := Tryd.func232.trans (congrArg some (w162_))
  f171 := Tryd.func172.trans (congrArg some (w162_))
  f172 := Tryd.func197.trans (congrArg some (w162_))
  f205 := Tryd.func230.trans (congrArg some (w162_))
  f243 := Tryd.func199.trans (congrArg some (w162_))
  f244 := Tryd.func207.trans (congrArg some (w162_))
  f245 := Tryd.func208.trans (congrArg some (w162_))
  f246 := Tryd.func209.trans (congrArg some (w162_))
  f247 := Tryd.func215.trans (congrArg some (w162_))
  f279 := Tryd.func216.trans (congrArg some (w162_))
  f280 := Tryd.func217.trans (congrArg some (w162_))
  f281 := Tryd.func218.trans (congrArg some (w162_))
  f282 := Tryd.func219.trans (congrArg some (w162_))
  f283 := Tryd.func220.trans (congrArg some (w162_))
  f284 := Tryd.func221.trans (congrArg some (w162_))
  f285 := Tryd.func222.trans (congrArg some (w162_))
  f286 := Tryd.func223.trans (congrArg some (w162_))
  f287 := Tryd.func228.trans (congrArg some (w162_))
  f316 := Tryd.func229.trans (congrArg some (w162_))
  f317 := Tryd.func231.trans (congrArg some (w162_))
  f318 := Tryd.func233.trans (congrArg some (w162_))
  f319 := Tryd.func234.trans (congrArg some (w162_))
  f320 := Tryd.func235.trans (congrArg some (w162_))
  f321 := Tryd.func238.trans (congrArg some (w162_))
  f322 := Tryd.func239.trans (congrArg some (w162_))
  f337 := Tryd.func240.trans (congrArg some (w162_))
  f338 := Tryd.func241.trans (congrArg some (w162_))
  t0 := Tryd.underlying0
  a0 := Tryd.isAgg0
  z0 := Tryd.sizeOf0
  v0 := Tryd.zeroValue0
  t2 := Tryd.underlying2
  a2 := Tryd.isAgg2
  z2 := Tryd.sizeOf2
  v2 := Tryd.zeroValue2
  t3 := Tryd.underlying3
  a3 := Tryd.isAgg3
  z3 := Tryd.sizeOf3
  v3 := Tryd.zeroValue3
  t4 := Tryd.underlying4
  a4 := Tryd.isAgg4
  z4 := Tryd.sizeOf4
  v4 := Tryd.zeroValue4
  t5 := Tryd.underlying5
  a5 := Tryd.isAgg5
  z5 := Tryd.sizeOf5
  v5 := Tryd.zeroValue5
  t9 := Tryd.underlying9
  a9 := Tryd.isAgg9
  z9 := Tryd.sizeOf9
  v9 := Tryd.zeroValue9
  t20 := Tryd.underlying20
  a20 := Tryd.isAgg20
  z20 := Tryd.sizeOf20
  v20 := Tryd.zeroValue20
  t21 := Tryd.underlying21
  a21 := Tryd.isAgg21
  z21 := Tryd.sizeOf21
  v21 := Tryd.zeroValue21
  t37 := Tryd.underlying22
  a37 := Tryd.isAgg22
  z37 := Tryd.sizeOf22
  v37 := Tryd.zeroValue22
  t46 := Tryd.underlying182
  a46 := Tryd.isAgg182
  z46 := Tryd.sizeOf182
  v46 := Tryd.zeroValue182
  t51 := Tryd.underlying206
  a51 := Tryd.isAgg206
  z51 := Tryd.sizeOf206
  v51 := Tryd.zeroValue206
  t53 := Tryd.underlying109
  a53 := Tryd.isAgg109
  z53 := Tryd.sizeOf109
  v53 := Tryd.zeroValue109
  t75 := Tryd.underlying177
  a75 := Tryd.isAgg177
  z75 := Tryd.sizeOf177
  v75 := Tryd.zeroValue177
  t76 := Tryd.underlying178
  a76 := Tryd.isAgg178
  z76 := Tryd.sizeOf178
  v76 := Tryd.zeroValue178
  t85 := Tryd.underlying189
  a85 := Tryd.isAgg189
  z85 := Tryd.sizeOf189
  v85 := Tryd.zeroValue189
  t127 := Tryd.underlying213
  a127 := Tryd.isAgg213
  z127 := Tryd.sizeOf213
  v127 := Tryd.zeroValue213
  t143 := Tryd.underlying214
  a143 := Tryd.isAgg214
  z143 := Tryd.sizeOf214
  v143 := Tryd.zeroValue214
  t145 := Tryd.underlying216
  a145 := Tryd.isAgg216
  z145 := Tryd.sizeOf216
  v145 := Tryd.zeroValue216
  t167 := Tryd.underlying188
  a167 := Tryd.isAgg188
  z167 := Tryd.sizeOf188
  v167 := Tryd.zeroValue188
  t168 := Tryd.underlying191
  a168 := Tryd.isAgg191
  z168 := Tryd.sizeOf191
  v168 := Tryd.zeroValue191
  t171 := Tryd.underlying194
  a171 := Tryd.isAgg194
  z171 := Tryd.sizeOf194
  v171 := Tryd.zeroValue194
  t173 := Tryd.underlying197
  a173 := Tryd.isAgg197
  z173 := Tryd.sizeOf197
  v173 := Tryd.zeroValue197
  t175 := Tryd.underlying199
  a175 := Tryd.isAgg199
  z175 := Tryd.sizeOf199
  v175 := Tryd.zeroValue199
  t210 := Tryd.underlying203
  a210 := Tryd.isAgg203
  z210 := Tryd.sizeOf203
  v210 := Tryd.zeroValue203
  t212 := Tryd.underlying205
  a212 := Tryd.isAgg205
  z212 := Tryd.sizeOf205
  v212 := Tryd.zeroValue205
  t213 := Tryd.underlying207
  a213 := Tryd.isAgg207
  z213 := Tryd.sizeOf207
  t232 := Tryd.underlying218
  a232 := Tryd.isAgg218
  z232 := Tryd.sizeOf218
  v232 := Tryd.zeroValue218
  t233 := Tryd.underlying219
  a233 := Tryd.isAgg219
  z233 := Tryd.sizeOf219
  v233 := Tryd.zeroValue219
  g15 := by kernel_rfl
  g16 := by kernel_rfl
  g17 := by kernel_rfl
  g18 := by kernel_rfl
  g19 := by kernel_rfl
  t80 := Tryd.underlying220
  a80 := Tryd.isAgg220
  z80 := Tryd.sizeOf220
  v80 := Tryd.zeroValue220
  i0 := by kernel_rfl
  i2 := by kernel_rfl
  i3 := by kernel_rfl
  i4 := by kernel_rfl
  i5 := by kernel_rfl
  i9 := by kernel_rfl
  i20 := by kernel_rfl
  i21 := by kernel_rfl
  i37 := by kernel_rfl
  i46 := by kernel_rfl
  i51 := by kernel_rfl
  i53 := by kernel_rfl
  i75 := by kernel_rfl
  i76 := by kernel_rfl
  i80 := by kernel_rfl
  i85 := by kernel_rfl
  i127 := by kernel_rfl
  i143 := by kernel_rfl
  i145 := by kernel_rfl
  i167 := by kernel_rfl
  i168 := by kernel_rfl
  i171 := by kernel_rfl
  i173 := by kernel_rfl
  i175 := by kernel_rfl
  i210 := by kernel_rfl
  i212 := by kernel_rfl
  i232 := by kernel_rfl
  i233 := by kernel_rfl
  m15 := by kernel_rfl
  m16 := by kernel_rfl
  m17 := by kernel_rfl
  m18 := by kernel_rfl
  m19 := by kernel_rfl
  c0 := by kernel_rfl
  c2 := by kernel_rfl
  c3 := by kernel_rfl
  c4 := by kernel_rfl
  c5 := by kernel_rfl
  c9 := by kernel_rfl
  c20 := by kernel_rfl
  c21 := by kernel_rfl
  c37 := by kernel_rfl
  c46 := by kernel_rfl
  c51 := by kernel_rfl
  c53 := by kernel_rfl
  c75 := by kernel_rfl
  c76 := by kernel_rfl
  c80 := by kernel_rfl
  c85 := by kernel_rfl
  c127 := by kernel_rfl
  c143 := by kernel_rfl
  c145 := by kernel_rfl
  c167 := by kernel_rfl
  c168 := by kernel_rfl
  c171 := by kernel_rfl
  c173 := by kernel_rfl
  c175 := by kernel_rfl
  c210 := by kernel_rfl
  c212 := by kernel_rfl
  c213 := by kernel_rfl
  c232 := by kernel_rfl
  c233 := w162_ }

open Go.RowKit in
theorem Tryd.strconv_Atoi_ok (s : ByteArray) (hmax : s.size ≤ 9223372036854775806) (v : Int) (h : Lib.atoiAll s.data.toList = .ok v) (w : World) :
    Calls Tryd.prog 197 #[.string s] w fun e w' => e = .returned (.tuple #[.int .i64 v, .nilIface]) ∧ (w' = w ∨ ∃ t, w' = Lib.bytesWorld w 5 t) := Any.strconv_Atoi_ok Tryd.laysC172 s hmax v h w

open Go.RowKit in
theorem Tryd.strconv_Atoi_range (s : ByteArray) (hlim : s.size ≤ 281474976710656) (h : Lib.atoiAll s.data.toList = .range) (ev : Value) (w : World) (hv : w.cell? ⟨2, 0, none⟩ = some ev) (hev : ev = .nilIface ∨ ∃ te pe, ev = .iface te pe) :
    Calls Tryd.prog 197 #[.string s] w fun e w' => ∃ N, e = .returned (.tuple #[.int .i64 (Lib.atoiSat s.data.toList), .iface 191 (.pointer (some ⟨N, 0, none⟩))]) ∧ w.heap.size ≤ N ∧ w'.heap[N]? = some (.cells #[.string ⟨#[65, 116, 111, 105]⟩, .string s, ev] 203 (0, 0)) ∧ Below w.heap.size w w' := Any.strconv_Atoi_range Tryd.laysC172 s hlim h ev w hv hev

def Tryd.lays145_ren : Go.Shelf.Ren := ⟨fun | 145 => 196 | 220 => 206 | 219 => 214 | 217 => 224 | 225 => 225 | 224 => 226 | 267 => 227 | 266 => 236 | 314 => 237 | n => n, fun | 9 => 9 | 4 => 4 | 59 => 174 | 3 => 3 | 5 => 5 | 46 => 182 | 146 => 209 | 51 => 206 | n => n, fun | 1 => 0 | n => n⟩

theorem Tryd.lays145 : Go.Proofs.Lays.n145 Tryd.prog Tryd.lays145_ren := {
  mixed := by kernel_rfl
  f145 := Tryd.func196.trans (congrArg some (w162_))
  f217 := Tryd.func224.trans (congrArg some (w162_))
  f219 := Tryd.func214.trans (congrArg some (w162_))
  f220 := Tryd.func206.trans (congrArg some (w162_))
  f224 := Tryd.func226.trans (congrArg some (w162_))
  f225 := Tryd.func225.trans (congrArg some (w162_))
  f266 := Tryd.func236.trans (congrArg some (w162_))
  f267 := Tryd.func227.trans (congrArg some (w162_))
  f314 := Tryd.func237.trans (congrArg some (w162_))
  t3 := Tryd.underlying3
  a3 := Tryd.isAgg3
  z3 := Tryd.sizeOf3
  v3 := Tryd.zeroValue3
  t4 := Tryd.underlying4
  a4 := Tryd.isAgg4
  z4 := Tryd.sizeOf4
  v4 := Tryd.zeroValue4
  t5 := Tryd.underlying5
  a5 := Tryd.isAgg5
  z5 := Tryd.sizeOf5
  v5 := Tryd.zeroValue5
  t9 := Tryd.underlying9
  a9 := Tryd.isAgg9
  z9 := Tryd.sizeOf9
  v9 := Tryd.zeroValue9
  t46 := Tryd.underlying182
  a46 := Tryd.isAgg182
  z46 := Tryd.sizeOf182
  v46 := Tryd.zeroValue182
  t51 := Tryd.underlying206
  a51 := Tryd.isAgg206
  z51 := Tryd.sizeOf206
  v51 := Tryd.zeroValue206
  t59 := Tryd.underlying174
  a59 := Tryd.isAgg174
  z59 := Tryd.sizeOf174
  v59 := Tryd.zeroValue174
  t146 := Tryd.underlying209
  a146 := Tryd.isAgg209
  z146 := Tryd.sizeOf209
  v146 := Tryd.zeroValue209
  g1 := w162_ }

open Go.RowKit Go.Lib in
theorem Tryd.strings_Cut (s sep : ByteArray) (m : Int) (w : World) (hs : s.size < 4294967281) (hm : w.cell? ⟨0, 0, none⟩ = some (.int .i64 m)) :
    Calls Tryd.prog 196 #[.string s, .string sep] w fun e w' => e = .returned (.tuple #[.string ⟨(Lib.cut s.data.toList sep.data.toList).1.toArray⟩, .string ⟨(Lib.cut s.data.toList sep.data.toList).2.1.toArray⟩, .bool (Lib.cut s.data.toList sep.data.toList).2.2]) ∧ ∃ n, w' = w.drewN n := Any.strings_Cut Tryd.lays145 s sep m w hs hm

end Go.Proofs.YtppbpefehpbejaaDoor
end

section
namespace Go.Proofs.YtppbpefehpbejaaDoor.P
open Go.ChangeShapes Go.WideShapes Go.RowKit Go.Proofs.YtppbpefehpbejaaDoorW.PrintWords Go.Proofs.YtppbpefehpbejaaDoorW.PrintLast Go.Proofs.YtppbpefehpbejaaDoorW.PrintMore
set_option linter.unusedVariables false

def TabW (w : World) : Prop := Lib.TabIs Tryd.prog w "internal/strconv.uint64pow10" .u64 Lib.pow10Tab
theorem pow_named : Tryd.prog.globalNamed "internal/strconv.uint64pow10" = some ((Tryd.prog.globalNamed "internal/strconv.uint64pow10").getD 0) := by kernel_rfl
theorem tabW_below {w w' : World} (h : TabW w) (hb : Below w.heap.size w w') : TabW w' := by
  have hg := pow_named
  generalize (Tryd.prog.globalNamed "internal/strconv.uint64pow10").getD 0 = g at hg
  unfold TabW Lib.TabIs World.var? at h ⊢
  rw [hg, Option.bind_some] at h ⊢
  rcases Nat.lt_or_ge g w.heap.size with hlt | hge
  · rw [hb.block g hlt]
    exact h
  · rw [Array.getElem?_eq_none hge] at h
    cases h
set_option maxRecDepth 100000 in
theorem tabW_of_laid {l : List (String × DataW Unit)} {W : World} (h : laidMetH Tryd.prog l W) (hf : (l.filter fun x => x.1 == "internal/strconv.uint64pow10") = [("internal/strconv.uint64pow10", Lib.tabData .u64 Lib.pow10Tab)]) : TabW W := by
  have h1 := h.filter (fun x => x.1 == "internal/strconv.uint64pow10")
  rw [hf, Go.MakeChecks.laidMetH_plain _ _ _ (w162_)] at h1
  exact Lib.tabIs_of_head (t := ((Tryd.prog.globals[(Tryd.prog.globalNamed "internal/strconv.uint64pow10").getD 0]?).map (·.type)).getD 0) (n := 20) (e := 109) pow_named (w162_) (w162_) Tryd.underlying109 (w162_) (w162_) h1
def ErrAt (g : Nat) (w : World) : Prop := ∃ ev, w.cell? ⟨g, 0, none⟩ = some ev ∧ (ev = .nilIface ∨ ∃ te pe, ev = .iface te pe)
def LibW (w : World) : Prop := TabW w ∧ (∃ m, w.cell? ⟨0, 0, none⟩ = some (.int .i64 m)) ∧ ErrAt 1 w ∧ ErrAt 2 w
theorem cell_lt {w : World} {g : Nat} {v : Value} (h : w.cell? ⟨g, 0, none⟩ = some v) : g < w.heap.size := by
  rcases Nat.lt_or_ge g w.heap.size with hlt | hge
  · exact hlt
  · unfold World.cell? at h
    simp only [Array.getElem?_eq_none hge] at h
    simp at h
theorem cell_stays {w w' : World} {g : Nat} {v : Value} (h : w.cell? ⟨g, 0, none⟩ = some v) (hb : Below w.heap.size w w') : w'.cell? ⟨g, 0, none⟩ = some v :=
  (hb.cell (p := ⟨g, 0, none⟩) (cell_lt h)).trans h
theorem errAt_below {g : Nat} {w w' : World} (h : ErrAt g w) (hb : Below w.heap.size w w') : ErrAt g w' := by
  obtain ⟨ev, h1, h2⟩ := h
  exact ⟨ev, cell_stays h1 hb, h2⟩
theorem libW_below {w w' : World} (h : LibW w) (hb : Below w.heap.size w w') : LibW w' := by
  obtain ⟨h1, ⟨m, h2⟩, h3, h4⟩ := h
  exact ⟨tabW_below h1 hb, ⟨m, cell_stays h2 hb⟩, errAt_below h3 hb, errAt_below h4 hb⟩
theorem starN : "*" ++ "errors.errorString" = "*errors.errorString" := by decide
theorem row_err (u : TypeId) (h : Tryd.prog.typeName? 3 u = some "*errors.errorString") : u = 214 :=
  typeName_ptr_named (nm := "errors.errorString") (by rw [starN]; kernel_rfl) (w162_) (by decide) u (by rw [starN]; exact h)
set_option maxRecDepth 100000 in
theorem errS_of_laid {l : List (String × DataW Unit)} {W : World} (h : laidMetH Tryd.prog l W) (hf : (l.filter fun x => x.1 == "strconv.ErrSyntax") = [("strconv.ErrSyntax", .iface "*errors.errorString" (.ptr (.agg [.lit (.string [105, 110, 118, 97, 108, 105, 100, 32, 115, 121, 110, 116, 97, 120])])))]) : ErrAt 1 W := by
  have h1 := h.filter (fun x => x.1 == "strconv.ErrSyntax")
  rw [hf, Go.MakeChecks.laidMetH_plain _ _ _ (w162_)] at h1
  have hg : Tryd.prog.globalNamed "strconv.ErrSyntax" = some 1 := by kernel_rfl
  obtain ⟨a, s, hv, _⟩ := laid_sentinel (te := 216) h1 hg (w162_) Tryd.underlying177 row_err Tryd.underlying214 Tryd.underlying216 rfl rfl Tryd.underlying9 (w162_) (w162_)
  exact ⟨_, by have := World.var?_cell hg hv 0; simpa using this, .inr ⟨_, _, rfl⟩⟩
set_option maxRecDepth 100000 in
theorem errR_of_laid {l : List (String × DataW Unit)} {W : World} (h : laidMetH Tryd.prog l W) (hf : (l.filter fun x => x.1 == "strconv.ErrRange") = [("strconv.ErrRange", .iface "*errors.errorString" (.ptr (.agg [.lit (.string [118, 97, 108, 117, 101, 32, 111, 117, 116, 32, 111, 102, 32, 114, 97, 110, 103, 101])])))]) : ErrAt 2 W := by
  have h1 := h.filter (fun x => x.1 == "strconv.ErrRange")
  rw [hf, Go.MakeChecks.laidMetH_plain _ _ _ (w162_)] at h1
  have hg : Tryd.prog.globalNamed "strconv.ErrRange" = some 2 := by kernel_rfl
  obtain ⟨a, s, hv, _⟩ := laid_sentinel (te := 216) h1 hg (w162_) Tryd.underlying177 row_err Tryd.underlying214 Tryd.underlying216 rfl rfl Tryd.underlying9 (w162_) (w162_)
  exact ⟨_, by have := World.var?_cell hg hv 0; simpa using this, .inr ⟨_, _, rfl⟩⟩
theorem libW_of {l : List (String × DataW Unit)} {W : World} (h : laidMetH Tryd.prog l W) (hS : W.ShapedOpen Tryd.prog) (hf : (l.filter fun x => x.1 == "internal/strconv.uint64pow10") = [("internal/strconv.uint64pow10", Lib.tabData .u64 Lib.pow10Tab)])
    (hs : (l.filter fun x => x.1 == "strconv.ErrSyntax") = [("strconv.ErrSyntax", .iface "*errors.errorString" (.ptr (.agg [.lit (.string [105, 110, 118, 97, 108, 105, 100, 32, 115, 121, 110, 116, 97, 120])])))])
    (hr : (l.filter fun x => x.1 == "strconv.ErrRange") = [("strconv.ErrRange", .iface "*errors.errorString" (.ptr (.agg [.lit (.string [118, 97, 108, 117, 101, 32, 111, 117, 116, 32, 111, 102, 32, 114, 97, 110, 103, 101])])))]) : LibW W :=
  ⟨tabW_of_laid h hf,
   cell_of_shapedOpen_int (zero := #[.int .i64 0]) (t := 3) hS (of_decide_eq_true (w162_)) (w162_) rfl (w162_) (w162_) Tryd.underlying3,
   errS_of_laid h hs, errR_of_laid h hr⟩
theorem lift_shaped {H : Type} {enc : TypeId × Value → H} {a : Assume} {C : Checked} {os : Os} {f : FuncId} {fn : Func} {s : ChangeSpec} {conds : List PathCond} {apart fresh handsOn again : Bool} {X : World → Array Value → Prop}
    (hX : ∀ (w w' : World) (args : Array Value), w.heap = w'.heap → X w args → X w' args)
    (own : ownKnob C.prog.godebug = none) (started : os.Started) (noInit : C.prog.inits.idxOf? f = none) (hfn : C.prog.funcs[f]? = some fn)
    (witness : ∃ (w : World) (tape : Tape) (i : Input), w.os = os ∧ (w.forCall tape i).Shaped C.prog ∧ i.vars = [] ∧ Input.okWide C.prog (w.forCall tape i) .any w.heap.size f i ∧
      ((s.pre enc C.prog fn conds apart (w.forCall tape i).memory i.args ∧ X (w.forCall tape i).memory i.args) ∧ sizedMet enc C.prog fn (OpenSpec.ofChange s) apart (w.forCall tape i).memory i.args) ∧ a.holds C.prog (lone (Frame.enter C.prog f i.args .normal) [] (w.forCall tape i)))
    (contract : ∀ (W : World) (base : Nat) (args : Array Value) (ds gs : List (DataW H)) (before : List MemPlace), W.ShapedOpen C.prog →
      (∀ (j : Nat) t v, fn.params[j]? = some t → args[j]? = some v → Value.okWide C.prog W .any base t v) →
      DataW.Whole enc C.prog fn.params.toList s.vars apart W args.toList ds gs before →
      conds.all (PathCond.test C.prog ⟨fn.params.toList, ds, s.plain.varTypes C.prog, gs⟩) = true →
      (DataW.weightsEach C.prog (fn.params.toList ++ s.plain.varTypes C.prog) (ds ++ gs)).all (· ≤ reachBytes) = true → X W args →
      a.holds C.prog (lone (Frame.enter C.prog f args .normal) [] W) →
      Calls C.prog f args W fun e W' => ∃ v, e = .returned v ∧ s.post enc C.prog fn apart fresh handsOn again W args v W') :
    ReturnsInHanded a C os f .any (fun w args => (s.pre enc C.prog fn conds apart w args ∧ X w args) ∧ sizedMet enc C.prog fn (OpenSpec.ofChange s) apart w args) (s.post enc C.prog fn apart fresh handsOn again) := by
  refine returnsInHanded_of_calls own started noInit witness ?_
  intro w tape i _ hsh _ hok hpre hholds
  obtain ⟨_, _, _, fn', hfn', _, _, _, _, hval⟩ := hok
  have e : fn' = fn := Option.some.inj (hfn'.symm.trans hfn)
  subst e
  obtain ⟨⟨⟨ds, gs, before, hw, hc⟩, hx⟩, hz⟩ := hpre
  have hw' := DataW.Whole.of_heap (w' := w.forCall tape i) (by rfl) hw
  refine (contract (w.forCall tape i) w.heap.size i.args ds gs before hsh hval hw' hc (hz.weights hw) (hX _ _ _ (by rfl) hx) hholds).mono fun e W' ⟨v, he, hp⟩ => ?_
  subst he
  exact ChangeSpec.post_blind hp
def itoa.f (n : Int) : Option ByteArray := if -9223372036854775808 ≤ n ∧ n ≤ 9223372036854775807 then some ⟨(Lib.itoa n).toArray⟩ else none
theorem itoa.calls (n : Int) (r : ByteArray) (w : World) (hT : LibW w) (h : itoa.f n = some r) :
    Calls Tryd.prog 172 #[.int .i64 n] w fun e w' => e = .returned (.string r) ∧ Below w.heap.size w w' := by
  unfold itoa.f at h
  by_cases hn : -9223372036854775808 ≤ n ∧ n ≤ 9223372036854775807; rotate_left
  · rw [if_neg hn] at h
    cases h
  rw [if_pos hn] at h
  obtain rfl := Option.some.inj h
  refine (Tryd.strconv_Itoa n hn.1 hn.2 w hT.1).mono fun e w' he => ?_
  obtain ⟨rfl, k, os, rfl⟩ := he
  exact ⟨rfl, Lib.below_grow _ w (Nat.le_refl _) k os⟩
def ErrIs : Option Int → Value → Prop
  | none, ev => ev = .nilIface
  | some _, ev => ∃ N, ev = .iface 191 (.pointer (some ⟨N, 0, none⟩))
def atoi.f (s : ByteArray) : Option (Int × Option Int) :=
  if s.size ≤ 281474976710656 then (match Lib.atoiAll s.data.toList with | .ok v => some (v, none) | .range => some (Lib.atoiSat s.data.toList, some 0) | _ => some (0, some 0)) else none
theorem atoi.calls (s : ByteArray) (r1 : Int) (r2 : Option Int) (w : World) (hT : LibW w) (h : atoi.f s = some (r1, r2)) :
    Calls Tryd.prog 197 #[.string s] w fun e w' => ∃ ev, e = .returned (.tuple #[.int .i64 r1, ev]) ∧ ErrIs r2 ev ∧ Below w.heap.size w w' := by
  unfold atoi.f at h
  by_cases hn : s.size ≤ 281474976710656; rotate_left
  · rw [if_neg hn] at h
    cases h
  rw [if_pos hn] at h
  cases ha : Lib.atoiAll s.data.toList with
  | ok v =>
    simp only [ha, Option.some.injEq, Prod.mk.injEq] at h
    obtain ⟨rfl, rfl⟩ := h
    refine (Tryd.strconv_Atoi_ok s (by omega) v ha w).mono fun e w' ⟨he, hw⟩ => ⟨.nilIface, he, rfl, ?_⟩
    rcases hw with rfl | ⟨t, rfl⟩
    · exact Below.refl _ _
    · exact bytes_below (Below.refl _ _) (Nat.le_refl _) _ _
  | range =>
    simp only [ha, Option.some.injEq, Prod.mk.injEq] at h
    obtain ⟨rfl, rfl⟩ := h
    obtain ⟨ev, h1, h2⟩ := hT.2.2.2
    exact (Tryd.strconv_Atoi_range s hn ha ev w h1 h2).mono fun e w' ⟨N, he, _, _, hb⟩ => ⟨_, he, ⟨N, rfl⟩, hb⟩
  | _ =>
    simp only [ha, Option.some.injEq, Prod.mk.injEq] at h
    obtain ⟨rfl, rfl⟩ := h
    obtain ⟨ev, h1, h2⟩ := hT.2.2.1
    exact (Any.strconv_Atoi_syntax Tryd.laysC172 s hn ha ev w h1 h2).mono fun e w' ⟨N, he, _, _, hb⟩ => ⟨_, he, ⟨N, rfl⟩, hb⟩
end Go.Proofs.YtppbpefehpbejaaDoor.P
end

section
namespace Go.Proofs.YtppbpefehpbejaaDoor.P
open Go.RowKit Go.Proofs.YtppbpefehpbejaaDoorW.PrintWords Go.Proofs.YtppbpefehpbejaaDoorW.PrintLast Go.Proofs.YtppbpefehpbejaaDoorW.PrintMore
attribute [local go_sem] max2_int min2_int max_two min_two max_three min_three max_four min_four   -- for this text's walks alone
set_option linter.unusedVariables false
set_option linter.unusedSimpArgs false

def impl_shortRange.l0 : Nat → ByteArray → ByteArray → Int → Option (ByteArray)
 | 0, _, _, _ => none
 | k + 1, x3, x4, x5 => if (x3.size : Int) = (x4.size : Int) then (if 0 ≤ x5 then (if x5 < (x3.size : Int) then (if x5 < (x4.size : Int) then (if (bt x3 x5) = (bt x4 x5) then (impl_shortRange.l0 k x3 x4 (wrap64 (x5 + 1))) else (if x3.size + 1 ≤ 9223372036854775807 then (if x5 ≤ (x4.size : Int) then (if (x3 ++ (⟨#[45]⟩ : ByteArray)).size + (x4.extract (x5 : Int).toNat x4.size).size ≤ 9223372036854775807 then (some ((x3 ++ (⟨#[45]⟩ : ByteArray)) ++ (x4.extract (x5 : Int).toNat x4.size))) else (none)) else (none)) else (none))) else (none)) else (none)) else (none)) else (if x3.size + 1 ≤ 9223372036854775807 then (if 0 ≤ x5 then (if x5 ≤ (x4.size : Int) then (if (x3 ++ (⟨#[45]⟩ : ByteArray)).size + (x4.extract (x5 : Int).toNat x4.size).size ≤ 9223372036854775807 then (some ((x3 ++ (⟨#[45]⟩ : ByteArray)) ++ (x4.extract (x5 : Int).toNat x4.size))) else (none)) else (none)) else (none)) else (none))
def impl_shortRange.f (k : Nat) (a0_0 : Int) (a0_1 : Int) : Option (ByteArray) := (itoa.f a0_0).bind fun t353 => ((itoa.f a0_1).bind fun t354 => (if a0_0 = a0_1 then (some t353) else (impl_shortRange.l0 k t353 t354 0)))
def impl_shortRange.T1 : Bool × List (List Nat × List Nat) := (true, [([], []), ([0], [0]), ([1], [1]), ([], []), ([3], [3]), ([4, 2], [4]), ([2, 5, 0, 1, 2], [2]), ([5, 6, 0, 1, 2, 3, 4, 5, 6], [5])])
def impl_shortRange.B1 : List Nat := [0, 1, 3, 0, 8, 31, 63, 127]
theorem impl_shortRange.tab1 : rtab .any (opsOf Tryd.f163 1) = impl_shortRange.T1 := by kernel_rfl
theorem impl_shortRange.bits1 : waitsOk impl_shortRange.T1.2 impl_shortRange.B1 = true := by kernel_rfl
def impl_shortRange.T5 : Bool × List (List Nat × List Nat) := (true, [([], []), ([0], [0]), ([], []), ([2], [2]), ([1, 3], [1, 3]), ([4], [4]), ([5], [5]), ([5], [5]), ([6, 7, 5], [5, 6, 7]), ([5], [5]), ([5], [5]), ([9, 10, 5], [5, 9, 10]), ([8, 11, 5], [5, 8, 11]), ([5, 12], [5, 12])])
def impl_shortRange.B5 : List Nat := [0, 1, 0, 4, 15, 31, 63, 63, 255, 63, 63, 1599, 4095, 8191]
theorem impl_shortRange.tab5 : rtab .any (opsOf Tryd.f163 5) = impl_shortRange.T5 := by kernel_rfl
theorem impl_shortRange.bits5 : waitsOk impl_shortRange.T5.2 impl_shortRange.B5 = true := by kernel_rfl
set_option maxHeartbeats 8000000 in
set_option maxRecDepth 100000 in
theorem impl_shortRange.calls (k : Nat) (a0_0 : Int) (a0_1 : Int) (r : ByteArray) (w : World) (hT : LibW w) (h : impl_shortRange.f k a0_0 a0_1 = some r) :
  Calls Tryd.prog 163 #[.agg #[.int .i64 a0_0, .int .i64 a0_1]] w fun e w' => e = .returned (.string r) ∧ Below w.heap.size w w' := by
 have HTAB := Az_ hT
 clear hT
 have hu100 := Tryd.underlying100
 have HB := Az_ (Below.refl w.heap.size w)
 have H : ((itoa.f a0_0).bind fun t353 => ((itoa.f a0_1).bind fun t354 => (if a0_0 = a0_1 then (some t353) else (impl_shortRange.l0 k t353 t354 0)))) = some r := h
 clear h
 replace H := bqz_ H; obtain ⟨t353, A2, H⟩ := H
 replace H := bqz_ H; obtain ⟨t354, A3, H⟩ := H
 replace H : (if a0_0 = a0_1 then (some t353) else (impl_shortRange.l0 k t353 t354 0)) = some r := H
 by_cases c4 : a0_0 = a0_1
 ·rw [if_pos c4] at H
  have c4b0 : (a0_0 == a0_1) = true := beq_iff_eq.mpr c4
  have c4b1 : (a0_0 != a0_1) = false := bne_eq_false_iff_eq.mpr c4
  clear c4
  obtain rfl := Option.some.inj H
  go_enter Tryd.func163, Tryd.ntmps163
  try go_wp2_with (((with_reducible refine gate_dst (N := 1) rfl ?_); refine box_event ?hg (N := 1) ?hd (cs := #[.int .i64 a0_0, .int .i64 a0_1]) (t := 100) ?hr ?_; (case hd => rfl); (case hg => rfl); (case hr => first | (go_simp; done) | (go_simp; rfl)); intro gb352 hg w5 hbox hb; have BK352 := Az_ (hbox); have GW352 := Az_ ((by rw [hg]; exact (below_size (ubz_ HB.out)) : w.heap.size ≤ gb352)); have GE352 := Az_ ((by rw [hg]; exact (below_size (ubz_ HB.out)) : w.heap.size ≤ gb352)); replace HB := Az_ (btz_ (ubz_ HB.out) hb); clear hb hbox hg))
  have n0_ := Az_ (kdz_ BK352.out)
  have n1_ := Az_ (bdz_ HB.out)
  clear BK352 HB
  have BK352 := n0_
  have HB := n1_
  clear n0_ n1_
  refine start_ (n := 8) (S := fun w' => w'.cell? ⟨gb352, 0, none⟩ = some (.int .i64 a0_0) ∧ w'.cell? ⟨gb352, 1, none⟩ = some (.int .i64 a0_1)) (ds := []) #[false, false, false, false, false, false, false, false] (w162_) rfl rfl ⟨(blk_cell BK352.out 0).trans rfl, (blk_cell BK352.out 1).trans rfl⟩ (fun hHeld => ?_); refine with_tabW impl_shortRange.tab1 impl_shortRange.bits1 (fun HT_ HW_ => ?_)
  generalize w5.drew = w6 at BK352 HB hHeld ⊢
  refine pz_ 0 6 [1,7] ?_
  refine pz_ 3 9 [1,2,1,4] ?_
  refine tz2_ 1 7 [2,1,1,4] ?_
  refine tz2_ 4 10 [2,1,2,3] ?_
  refine one_ (i := 2) (N := some 8) (mz_ [5,3]) rfl rfl (one_of HT_.out (w162_)) (by decide) (fun K hK => ?_)
  refine goes_ Tryd.func172 (w162_) rfl #[.int .i64 a0_0] (by rfl) rfl rfl maz_ ?_
  with_reducible refine (itoa.calls a0_0 t353 _ (libW_below HTAB.out (w79_)) A2.out).mono ?_
  rintro e w7 ⟨rfl, hb⟩
  refine ⟨_, rfl, ?_⟩
  have n1_ := Az_ (btz_ (w79_) hb)
  clear HB
  replace BK352 := Az_ (ukbz_ BK352.out hb)
  have HB := n1_
  clear n1_
  clear hb
  refine hK.out _ _ ⟨(blk_cell BK352.out 0).trans rfl, (blk_cell BK352.out 1).trans rfl⟩ (fun hHeld => ?_)
  clear hK K
  refine nz_ 8 ?_
  refine one_ (i := 5) (N := some 11) (mz_ [6,2]) rfl rfl (one_of HT_.out (w162_)) (by decide) (fun K hK => ?_)
  refine goes_ Tryd.func172 (w162_) rfl #[.int .i64 a0_1] (by rfl) rfl rfl maz_ ?_
  with_reducible refine (itoa.calls a0_1 t354 _ (libW_below HTAB.out (w79_)) A3.out).mono ?_
  rintro e w8 ⟨rfl, hb⟩
  refine ⟨_, rfl, ?_⟩
  have n1_ := Az_ (btz_ (w79_) hb)
  clear HB
  replace BK352 := Az_ (ukbz_ BK352.out hb)
  have HB := n1_
  clear n1_
  clear hb
  refine hK.out _ _ ⟨(blk_cell BK352.out 0).trans rfl, (blk_cell BK352.out 1).trans rfl⟩ (fun hHeld => ?_)
  clear hK K
  refine nz_ 11 ?_
  refine pz_ 6 3 [7,1] ?_
  refine pz_ 7 4 [8] ?_
  refine done_ (done_of HT_.out (w162_)) ?_
  have hcz9_0 : w8.cell? ⟨gb352, 0, none⟩ = some (.int .i64 a0_0) := (blk_cell BK352.out 0).trans rfl
  have hcz9_1 : w8.cell? ⟨gb352, 1, none⟩ = some (.int .i64 a0_1) := (blk_cell BK352.out 1).trans rfl
  have hfz9_0 := blk_frozen BK352.out 0
  have hfz9_1 := blk_frozen BK352.out 1
  try go_wp2
  go_ret
  exact ⟨w116_, w79_⟩
 ·rw [if_neg c4] at H
  have c4b0 : (a0_0 == a0_1) = false := beq_eq_false_iff_ne.mpr c4
  have c4b1 : (a0_0 != a0_1) = true := bne_iff_ne.mpr c4
  have H' := Az_ H
  clear H
  go_enter Tryd.func163, Tryd.ntmps163
  try go_wp2_with (((with_reducible refine gate_dst (N := 1) rfl ?_); refine box_event ?hg (N := 1) ?hd (cs := #[.int .i64 a0_0, .int .i64 a0_1]) (t := 100) ?hr ?_; (case hd => rfl); (case hg => rfl); (case hr => first | (go_simp; done) | (go_simp; rfl)); intro gb352 hg w10 hbox hb; have BK352 := Az_ (hbox); have GW352 := Az_ ((by rw [hg]; exact (below_size (ubz_ HB.out)) : w.heap.size ≤ gb352)); have GE352 := Az_ ((by rw [hg]; exact (below_size (ubz_ HB.out)) : w.heap.size ≤ gb352)); replace HB := Az_ (btz_ (ubz_ HB.out) hb); clear hb hbox hg))
  have n0_ := Az_ (kdz_ BK352.out)
  have n1_ := Az_ (bdz_ HB.out)
  clear BK352 HB
  have BK352 := n0_
  have HB := n1_
  clear n0_ n1_
  refine start_ (n := 8) (S := fun w' => w'.cell? ⟨gb352, 0, none⟩ = some (.int .i64 a0_0) ∧ w'.cell? ⟨gb352, 1, none⟩ = some (.int .i64 a0_1)) (ds := []) #[false, false, false, false, false, false, false, false] (w162_) rfl rfl ⟨(blk_cell BK352.out 0).trans rfl, (blk_cell BK352.out 1).trans rfl⟩ (fun hHeld => ?_); refine with_tabW impl_shortRange.tab1 impl_shortRange.bits1 (fun HT_ HW_ => ?_)
  generalize w10.drew = w11 at BK352 HB hHeld ⊢
  refine pz_ 0 6 [1,7] ?_
  refine pz_ 3 9 [1,2,1,4] ?_
  refine tz2_ 1 7 [2,1,1,4] ?_
  refine tz2_ 4 10 [2,1,2,3] ?_
  refine one_ (i := 2) (N := some 8) (mz_ [5,3]) rfl rfl (one_of HT_.out (w162_)) (by decide) (fun K hK => ?_)
  refine goes_ Tryd.func172 (w162_) rfl #[.int .i64 a0_0] (by rfl) rfl rfl maz_ ?_
  with_reducible refine (itoa.calls a0_0 t353 _ (libW_below HTAB.out (w79_)) A2.out).mono ?_
  rintro e w12 ⟨rfl, hb⟩
  refine ⟨_, rfl, ?_⟩
  have n1_ := Az_ (btz_ (w79_) hb)
  clear HB
  replace BK352 := Az_ (ukbz_ BK352.out hb)
  have HB := n1_
  clear n1_
  clear hb
  refine hK.out _ _ ⟨(blk_cell BK352.out 0).trans rfl, (blk_cell BK352.out 1).trans rfl⟩ (fun hHeld => ?_)
  clear hK K
  refine nz_ 8 ?_
  refine one_ (i := 5) (N := some 11) (mz_ [6,2]) rfl rfl (one_of HT_.out (w162_)) (by decide) (fun K hK => ?_)
  refine goes_ Tryd.func172 (w162_) rfl #[.int .i64 a0_1] (by rfl) rfl rfl maz_ ?_
  with_reducible refine (itoa.calls a0_1 t354 _ (libW_below HTAB.out (w79_)) A3.out).mono ?_
  rintro e w13 ⟨rfl, hb⟩
  refine ⟨_, rfl, ?_⟩
  have n1_ := Az_ (btz_ (w79_) hb)
  clear HB
  replace BK352 := Az_ (ukbz_ BK352.out hb)
  have HB := n1_
  clear n1_
  clear hb
  refine hK.out _ _ ⟨(blk_cell BK352.out 0).trans rfl, (blk_cell BK352.out 1).trans rfl⟩ (fun hHeld => ?_)
  clear hK K
  refine nz_ 11 ?_
  refine pz_ 6 3 [7,1] ?_
  refine pz_ 7 4 [8] ?_
  refine done_ (done_of HT_.out (w162_)) ?_
  have hcz14_0 : w13.cell? ⟨gb352, 0, none⟩ = some (.int .i64 a0_0) := (blk_cell BK352.out 0).trans rfl
  have hcz14_1 : w13.cell? ⟨gb352, 1, none⟩ = some (.int .i64 a0_1) := (blk_cell BK352.out 1).trans rfl
  have hfz14_0 := blk_frozen BK352.out 0
  have hfz14_1 := blk_frozen BK352.out 1
  try go_wp2
  go_loopg [5] k (fun kq v5 w' => ∃ (x5_1 : Int), v5 = .int .i64 x5_1 ∧ Aside0 (impl_shortRange.l0 kq t353 t354 x5_1 = some r) ∧ Aside0 (kq ≤ k) ∧ Aside0 (w'.heap[gb352]? = some (.cells #[.int .i64 a0_0, .int .i64 a0_1] 100 (0, 0))) ∧ Aside0 (Below w.heap.size w w'))
  case atStart => exact ⟨(0), qaz_, H', ⟨Nat.le_refl _⟩, ⟨by (with_reducible repeat (first | refine knz_ ?_ _ | refine kdz_ ?_ | refine kaz_ ?_ _)); exact BK352.out⟩, ⟨w79_⟩⟩
  case round =>
   clear H'
   clear c4 c4b0 c4b1 hcz14_0 hcz14_1 hfz14_0 hfz14_1
   obtain ⟨x5_1, rfl, HA, HK1, BK352, HB⟩ := hrel
   cases gk with
   | zero => exact absurd HA.out (by simp [impl_shortRange.l0])
   | succ k1 =>
    have H := HA.out
    clear HA
    simp only [impl_shortRange.l0] at H
    by_cases c15 : (t353.size : Int) = (t354.size : Int)
    ·rw [if_pos c15] at H
     have c15b0 : ((t353.size : Int) == (t354.size : Int)) = true := beq_iff_eq.mpr c15
     have c15b1 : ((t353.size : Int) != (t354.size : Int)) = false := bne_eq_false_iff_eq.mpr c15
     have c15b2 : (t353.size == t354.size) = true := by first | simpa using c15 | (simp at c15 ⊢; omega)
     clear c15
     by_cases c16 : 0 ≤ x5_1; rotate_left
     ·rw [if_neg c16] at H
      exact absurd H (by simp)
     rw [if_pos c16] at H
     have c16b0 := decide_eq_true c16
     clear c16
     by_cases c17 : x5_1 < (t353.size : Int); rotate_left
     ·rw [if_neg c17] at H
      exact absurd H (by simp)
     rw [if_pos c17] at H
     have c17b0 := decide_eq_true c17
     clear c17
     by_cases c19 : x5_1 < (t354.size : Int); rotate_left
     ·rw [if_neg c19] at H
      exact absurd H (by simp)
     rw [if_pos c19] at H
     have c19b0 := decide_eq_true c19
     clear c19
     by_cases c21 : (bt t353 x5_1) = (bt t354 x5_1)
     ·rw [if_pos c21] at H
      have c21b0 : ((bt t353 x5_1) == (bt t354 x5_1)) = true := beq_iff_eq.mpr c21
      have c21b1 : ((bt t353 x5_1) != (bt t354 x5_1)) = false := bne_eq_false_iff_eq.mpr c21
      clear c21
      have H' := Az_ H
      clear H
      try go_wp2
      have n0_ := Az_ (kdz_ BK352.out)
      have n1_ := Az_ (bdz_ HB.out)
      clear BK352 HB
      have BK352 := n0_
      have HB := n1_
      clear n0_ n1_
      have p18 : 0 ≤ (x5_1 : Int) := od_
      have q18 : x5_1 < (t353.size : Int) := od_
      have hx18 := bt_at t353 x5_1
      replace p18 := eq_true p18
      replace q18 := eq_true q18
      have p20 : 0 ≤ (x5_1 : Int) := od_
      have q20 : x5_1 < (t354.size : Int) := od_
      have hx20 := bt_at t354 x5_1
      replace p20 := eq_true p20
      replace q20 := eq_true q20
      refine start_ (n := 14) (S := fun w' => True) (ds := []) #[false, false, false, false, false, false, false, false, false, false, false, false, false, false] (w162_) rfl rfl trivial (fun hHeld => ?_); refine with_tabW impl_shortRange.tab5 impl_shortRange.bits5 (fun HT_ HW_ => ?_)
      generalize wr.drew = w22 at BK352 HB hHeld ⊢
      refine pz_ 0 18 [1,13] ?_
      refine pz_ 1 19 [2,12] ?_
      refine pz_ 2 20 [3,11] ?_
      refine pz_ 3 21 [4,10] ?_
      refine pz_ 4 22 [5,9] ?_
      refine pz_ 5 23 [6,8] ?_
      refine pz_ 6 24 [7,7] ?_
      refine pz_ 7 25 [8,6] ?_
      refine pz_ 9 27 [8,1,1,4] ?_
      refine pz_ 10 28 [8,1,2,3] ?_
      refine tz0_ 8 26 [11,3] ?_
      refine tz0_ 11 29 [12,2] ?_
      refine pz_ 12 30 [13,1] ?_
      refine pz_ 13 31 [14] ?_
      refine done_ (done_of HT_.out (w162_)) ?_
      try go_wp2
      go_roundg k1
      case measure => have := HK1.out; omega
      case rel => exact ⟨(wrap64 (x5_1 + 1)), qaz_, H', ⟨w144_⟩, ⟨by (with_reducible repeat (first | refine knz_ ?_ _ | refine kdz_ ?_ | refine kaz_ ?_ _)); exact BK352.out⟩, ⟨w79_⟩⟩
     rw [if_neg c21] at H
     have c21b0 : ((bt t353 x5_1) == (bt t354 x5_1)) = false := beq_eq_false_iff_ne.mpr c21
     have c21b1 : ((bt t353 x5_1) != (bt t354 x5_1)) = true := bne_iff_ne.mpr c21
     by_cases c23 : t353.size + 1 ≤ 9223372036854775807; rotate_left
     ·rw [if_neg c23] at H
      exact absurd H (by simp)
     rw [if_pos c23] at H
     have c23b0 := eq_true c23
     have c23b1 := decide_eq_true c23
     try have c23b2 : (9223372036854775807 < t353.size + 1) = False := eq_false (Nat.not_lt.2 c23)
     have c24b0 := eq_true (od_ : 0 ≤ x5_1)
     by_cases c25 : x5_1 ≤ (t354.size : Int); rotate_left
     ·rw [if_neg c25] at H
      exact absurd H (by simp)
     rw [if_pos c25] at H
     have c25b0 := eq_true c25
     have c25b1 := decide_eq_true c25
     clear c25
     by_cases c26 : (t353 ++ (⟨#[45]⟩ : ByteArray)).size + (t354.extract (x5_1 : Int).toNat t354.size).size ≤ 9223372036854775807; rotate_left
     ·rw [if_neg c26] at H
      exact absurd H (by simp)
     rw [if_pos c26] at H
     have c26b0 := eq_true c26
     have c26b1 := decide_eq_true c26
     try have c26b2 : (9223372036854775807 < (t353 ++ (⟨#[45]⟩ : ByteArray)).size + (t354.extract (x5_1 : Int).toNat t354.size).size) = False := eq_false (Nat.not_lt.2 c26)
     have c26b3 : (9223372036854775807 < t353.size + 1 + (t354.extract (x5_1 : Int).toNat t354.size).size) = False := by (have h_ := c26b2; simp only [ByteArray.size_append] at h_; exact h_)
     obtain rfl := Option.some.inj H
     try go_wp2
     have n0_ := Az_ (kdz_ BK352.out)
     have n1_ := Az_ (bdz_ HB.out)
     clear BK352 HB
     have BK352 := n0_
     have HB := n1_
     clear n0_ n1_
     have p18 : 0 ≤ (x5_1 : Int) := od_
     have q18 : x5_1 < (t353.size : Int) := od_
     have hx18 := bt_at t353 x5_1
     replace p18 := eq_true p18
     replace q18 := eq_true q18
     have p20 : 0 ≤ (x5_1 : Int) := od_
     have q20 : x5_1 < (t354.size : Int) := od_
     have hx20 := bt_at t354 x5_1
     replace p20 := eq_true p20
     replace q20 := eq_true q20
     refine start_ (n := 14) (S := fun w' => True) (ds := []) #[false, false, false, false, false, false, false, false, false, false, false, false, false, false] (w162_) rfl rfl trivial (fun hHeld => ?_); refine with_tabW impl_shortRange.tab5 impl_shortRange.bits5 (fun HT_ HW_ => ?_)
     generalize wr.drew = w27 at BK352 HB hHeld ⊢
     refine pz_ 0 18 [1,13] ?_
     refine pz_ 1 19 [2,12] ?_
     refine pz_ 2 20 [3,11] ?_
     refine pz_ 3 21 [4,10] ?_
     refine pz_ 4 22 [5,9] ?_
     refine pz_ 5 23 [6,8] ?_
     refine pz_ 6 24 [7,7] ?_
     refine pz_ 7 25 [8,6] ?_
     refine pz_ 9 27 [8,1,1,4] ?_
     refine pz_ 10 28 [8,1,2,3] ?_
     refine tz0_ 8 26 [11,3] ?_
     refine tz0_ 11 29 [12,2] ?_
     refine pz_ 12 30 [13,1] ?_
     refine pz_ 13 31 [14] ?_
     refine done_ (done_of HT_.out (w162_)) ?_
     try go_wp2
     go_ret
     exact ⟨w116_, w79_⟩
    ·rw [if_neg c15] at H
     have c15b0 : ((t353.size : Int) == (t354.size : Int)) = false := beq_eq_false_iff_ne.mpr c15
     have c15b1 : ((t353.size : Int) != (t354.size : Int)) = true := bne_iff_ne.mpr c15
     have c15b2 : (t353.size == t354.size) = false := by first | simpa using c15 | (simp at c15 ⊢; omega)
     by_cases c28 : t353.size + 1 ≤ 9223372036854775807
     ·rw [if_pos c28] at H
      have c28b0 := eq_true c28
      have c28b1 := decide_eq_true c28
      try have c28b2 : (9223372036854775807 < t353.size + 1) = False := eq_false (Nat.not_lt.2 c28)
      by_cases c29 : 0 ≤ x5_1; rotate_left
      ·rw [if_neg c29] at H
       exact absurd H (by simp)
      rw [if_pos c29] at H
      have c29b0 := eq_true c29
      have c29b1 := decide_eq_true c29
      clear c29
      by_cases c30 : x5_1 ≤ (t354.size : Int); rotate_left
      ·rw [if_neg c30] at H
       exact absurd H (by simp)
      rw [if_pos c30] at H
      have c30b0 := eq_true c30
      have c30b1 := decide_eq_true c30
      clear c30
      by_cases c31 : (t353 ++ (⟨#[45]⟩ : ByteArray)).size + (t354.extract (x5_1 : Int).toNat t354.size).size ≤ 9223372036854775807; rotate_left
      ·rw [if_neg c31] at H
       exact absurd H (by simp)
      rw [if_pos c31] at H
      have c31b0 := eq_true c31
      have c31b1 := decide_eq_true c31
      try have c31b2 : (9223372036854775807 < (t353 ++ (⟨#[45]⟩ : ByteArray)).size + (t354.extract (x5_1 : Int).toNat t354.size).size) = False := eq_false (Nat.not_lt.2 c31)
      have c31b3 : (9223372036854775807 < t353.size + 1 + (t354.extract (x5_1 : Int).toNat t354.size).size) = False := by (have h_ := c31b2; simp only [ByteArray.size_append] at h_; exact h_)
      obtain rfl := Option.some.inj H
      try go_wp2
      have n0_ := Az_ (kdz_ BK352.out)
      have n1_ := Az_ (bdz_ HB.out)
      clear BK352 HB
      have BK352 := n0_
      have HB := n1_
      clear n0_ n1_
      refine start_ (n := 14) (S := fun w' => True) (ds := []) #[false, false, false, false, false, false, false, false, false, false, false, false, false, false] (w162_) rfl rfl trivial (fun hHeld => ?_); refine with_tabW impl_shortRange.tab5 impl_shortRange.bits5 (fun HT_ HW_ => ?_)
      generalize wr.drew = w32 at BK352 HB hHeld ⊢
      refine pz_ 0 18 [1,13] ?_
      refine pz_ 1 19 [2,12] ?_
      refine pz_ 2 20 [3,11] ?_
      refine pz_ 3 21 [4,10] ?_
      refine pz_ 4 22 [5,9] ?_
      refine pz_ 5 23 [6,8] ?_
      refine qz_ 6 24 [7,7] ?_
      refine qz_ 7 25 [8,6] ?_
      refine qz_ 8 26 [9,5] ?_
      refine qz_ 9 27 [10,4] ?_
      refine qz_ 10 28 [11,3] ?_
      refine qz_ 11 29 [12,2] ?_
      refine qz_ 12 30 [13,1] ?_
      refine pz_ 13 31 [14] ?_
      refine done_ (done_of HT_.out (w162_)) ?_
      try go_wp2
      go_ret
      exact ⟨w116_, w79_⟩
     ·rw [if_neg c28] at H
      exact absurd H (by simp)


def impl_ShortRange.f (k : Nat) (a0_0 : Int) (a0_1 : Int) : Option (ByteArray × Bool) := (impl_isRange.f a0_0 a0_1).bind fun t356 => (if t356 = true then ((impl_shortRange.f k a0_0 a0_1).bind fun t357 => (some (t357, true))) else (some ((⟨#[]⟩ : ByteArray), false)))
set_option maxHeartbeats 8000000 in
set_option maxRecDepth 100000 in
theorem impl_ShortRange.calls (k : Nat) (a0_0 : Int) (a0_1 : Int) (r1 : ByteArray) (r2 : Bool) (w : World) (hT : LibW w) (h : impl_ShortRange.f k a0_0 a0_1 = some (r1, r2)) :
  Calls Tryd.prog 86 #[.agg #[.int .i64 a0_0, .int .i64 a0_1]] w fun e w' => e = .returned (.tuple #[.string r1, .bool r2]) ∧ Below w.heap.size w w' := by
 have HTAB := Az_ hT
 clear hT
 have hu100 := Tryd.underlying100
 have HB := Az_ (Below.refl w.heap.size w)
 have H : ((impl_isRange.f a0_0 a0_1).bind fun t356 => (if t356 = true then ((impl_shortRange.f k a0_0 a0_1).bind fun t357 => (some (t357, true))) else (some ((⟨#[]⟩ : ByteArray), false)))) = some (r1, r2) := h
 clear h
 replace H := bqz_ H; obtain ⟨t356, A2, H⟩ := H
 replace H : (if t356 = true then ((impl_shortRange.f k a0_0 a0_1).bind fun t357 => (some (t357, true))) else (some ((⟨#[]⟩ : ByteArray), false))) = some (r1, r2) := H
 by_cases c3 : t356 = true
 ·subst c3
  rw [if_pos rfl] at H
  replace H := bqz_ H; obtain ⟨t357, A4, H⟩ := H
  replace H : (some (t357, true)) = some (r1, r2) := H
  simp only [Option.some.injEq, Prod.mk.injEq] at H
  obtain ⟨rfl, rfl⟩ := H
  go_enter Tryd.func86, Tryd.ntmps86
  go_wp2_with (first | ((with_reducible refine gate_dst (N := 1) rfl ?_); refine box_event ?hg (N := 1) ?hd (cs := #[.int .i64 a0_0, .int .i64 a0_1]) (t := 100) ?hr ?_; (case hd => rfl); (case hg => rfl); (case hr => first | (go_simp; done) | (go_simp; rfl)); intro gb355 hg w5 hbox hb; have BK355 := Az_ (hbox); have GW355 := Az_ ((by rw [hg]; exact (below_size (ubz_ HB.out)) : w.heap.size ≤ gb355)); have GE355 := Az_ ((by rw [hg]; exact (below_size (ubz_ HB.out)) : w.heap.size ≤ gb355)); replace HB := Az_ (btz_ (ubz_ HB.out) hb); clear hb hbox hg; have hcz6_0 : w5.cell? ⟨gb355, 0, none⟩ = some (.int .i64 a0_0) := (blk_cell BK355.out 0).trans rfl; have hcz6_1 : w5.cell? ⟨gb355, 1, none⟩ = some (.int .i64 a0_1) := (blk_cell BK355.out 1).trans rfl; have hfz6_0 := blk_frozen BK355.out 0; have hfz6_1 := blk_frozen BK355.out 1) | ((with_reducible refine gate_callee (f := 162) rfl ?_); refine goesL_ (some 5) rfl rfl Tryd.func162 (w162_) rfl #[.agg #[.int .i64 a0_0, .int .i64 a0_1]] rfl maz_ ?_; (with_reducible refine (impl_isRange.calls a0_0 a0_1 true _ A2.out).mono ?_); rintro e w7 ⟨rfl, hb⟩; refine ⟨_, rfl, ?_⟩; have n1_ := Az_ (btz_ (w79_) hb); clear HB; replace BK355 := Az_ (ukbz_ BK355.out hb); have HB := n1_; clear n1_; (try clear hb); have hcz8_0 : w7.cell? ⟨gb355, 0, none⟩ = some (.int .i64 a0_0) := (blk_cell BK355.out 0).trans rfl; have hcz8_1 : w7.cell? ⟨gb355, 1, none⟩ = some (.int .i64 a0_1) := (blk_cell BK355.out 1).trans rfl; have hfz8_0 := blk_frozen BK355.out 0; have hfz8_1 := blk_frozen BK355.out 1) | ((with_reducible refine gate_callee (f := 163) rfl ?_); refine goesL_ (some 8) rfl rfl Tryd.func163 (w162_) rfl #[.agg #[.int .i64 a0_0, .int .i64 a0_1]] rfl maz_ ?_; (with_reducible refine (impl_shortRange.calls k a0_0 a0_1 t357 _ (libW_below HTAB.out (w79_)) A4.out).mono ?_); rintro e w9 ⟨rfl, hb⟩; refine ⟨_, rfl, ?_⟩; have n1_ := Az_ (btz_ (w79_) hb); clear HB; replace BK355 := Az_ (ukbz_ BK355.out hb); have HB := n1_; clear n1_; (try clear hb)))
  go_ret2
  exact ⟨w116_, w79_⟩
 ·replace c3 := Bool.eq_false_iff.mpr c3
  subst c3
  rw [if_neg nfz_] at H
  simp only [Option.some.injEq, Prod.mk.injEq] at H
  obtain ⟨rfl, rfl⟩ := H
  go_enter Tryd.func86, Tryd.ntmps86
  go_wp2_with (first | ((with_reducible refine gate_dst (N := 1) rfl ?_); refine box_event ?hg (N := 1) ?hd (cs := #[.int .i64 a0_0, .int .i64 a0_1]) (t := 100) ?hr ?_; (case hd => rfl); (case hg => rfl); (case hr => first | (go_simp; done) | (go_simp; rfl)); intro gb355 hg w10 hbox hb; have BK355 := Az_ (hbox); have GW355 := Az_ ((by rw [hg]; exact (below_size (ubz_ HB.out)) : w.heap.size ≤ gb355)); have GE355 := Az_ ((by rw [hg]; exact (below_size (ubz_ HB.out)) : w.heap.size ≤ gb355)); replace HB := Az_ (btz_ (ubz_ HB.out) hb); clear hb hbox hg; have hcz11_0 : w10.cell? ⟨gb355, 0, none⟩ = some (.int .i64 a0_0) := (blk_cell BK355.out 0).trans rfl; have hcz11_1 : w10.cell? ⟨gb355, 1, none⟩ = some (.int .i64 a0_1) := (blk_cell BK355.out 1).trans rfl; have hfz11_0 := blk_frozen BK355.out 0; have hfz11_1 := blk_frozen BK355.out 1) | ((with_reducible refine gate_callee (f := 162) rfl ?_); refine goesL_ (some 5) rfl rfl Tryd.func162 (w162_) rfl #[.agg #[.int .i64 a0_0, .int .i64 a0_1]] rfl maz_ ?_; (with_reducible refine (impl_isRange.calls a0_0 a0_1 false _ A2.out).mono ?_); rintro e w12 ⟨rfl, hb⟩; refine ⟨_, rfl, ?_⟩; have n1_ := Az_ (btz_ (w79_) hb); clear HB; replace BK355 := Az_ (ukbz_ BK355.out hb); have HB := n1_; clear n1_; (try clear hb)))
  go_ret2
  exact ⟨w116_, w79_⟩

def spec_l1Num.f : Nat → Int → Option (ByteArray)
 | 0, _ => none
 | k + 1, a0 => if a0 < 10 then (some (strOfNums (([(wrap64 (48 + a0)) % 256] : List Int)))) else ((spec_l1Num.f k (wrap64 (Int.tdiv a0 10))).bind fun t361 => ((some (([(wrap64 (48 + (Int.tmod a0 10))) % 256] : List Int) : List Int)).bind fun y362 => (if t361.size + (strOfNums y362).size ≤ 9223372036854775807 then (some (t361 ++ (strOfNums y362))) else (none))))
def spec_l1Num.T3 : Bool × List (List Nat × List Nat) := (true, [([], []), ([0], [0]), ([1], [1]), ([], []), ([3], [3]), ([4], [4]), ([5], [5]), ([6], [6]), ([7], [7]), ([2, 8], [2, 8]), ([9, 2, 0, 1, 2, 3, 4, 5, 6, 7, 8, 9], [9])])
def spec_l1Num.B3 : List Nat := [0, 1, 3, 0, 8, 24, 56, 120, 248, 511, 1023]
theorem spec_l1Num.tab3 : rtab .any (opsOf Tryd.f183 3) = spec_l1Num.T3 := by kernel_rfl
theorem spec_l1Num.bits3 : waitsOk spec_l1Num.T3.2 spec_l1Num.B3 = true := by kernel_rfl
set_option maxHeartbeats 8000000 in
set_option maxRecDepth 100000 in
theorem spec_l1Num.calls (k : Nat) : ∀ (a0 : Int) (r : ByteArray) (w : World) (h : spec_l1Num.f k a0 = some r),
  Calls Tryd.prog 183 #[.int .i64 a0] w fun e w' => e = .returned (.string r) ∧ Below w.heap.size w w' := by
 induction k using Nat.strongRecOn with
 | _ k ih =>
 intro a0 r w h
 cases k with
 | zero => exact absurd h (by simp [spec_l1Num.f])
 | succ k =>
 simp only [spec_l1Num.f] at h
 have HB := Az_ (Below.refl w.heap.size w)
 have H : (if a0 < 10 then (some (strOfNums (([(wrap64 (48 + a0)) % 256] : List Int)))) else ((spec_l1Num.f k (wrap64 (Int.tdiv a0 10))).bind fun t361 => ((some (([(wrap64 (48 + (Int.tmod a0 10))) % 256] : List Int) : List Int)).bind fun y362 => (if t361.size + (strOfNums y362).size ≤ 9223372036854775807 then (some (t361 ++ (strOfNums y362))) else (none))))) = some r := h
 clear h
 by_cases c2 : a0 < 10
 ·rw [if_pos c2] at H
  have c2b0 := decide_eq_true c2
  clear c2
  obtain ⟨y358, hy358⟩ : ∃ y_ : List Int, y_ = (([(wrap64 (48 + a0)) % 256] : List Int)) := ⟨_, rfl⟩
  replace H : (some (strOfNums y358)) = some r := by first | (rw [hy358]; with_reducible exact H) | (have H2_ := (Option.bind_some _ _).symm.trans H; rw [hy358]; with_reducible exact H2_) | (have H2_ := (Option.bind_some _ _).symm.trans H; with_reducible exact H2_) | with_reducible exact H | (rw [hy358]; exact H) | exact H
  have Ny358 := Az_ hy358
  clear hy358
  obtain rfl := Option.some.inj H
  go_enter Tryd.func183, Tryd.ntmps183
  go_wp2_with (((with_reducible refine gate_dst (N := 8) rfl ?_); refine Kd.R_lit (Kd.int .u8) _ 5 ?hg (N := 8) ?hd (xs := ([(wrap64 (48 + a0)) % 256] : List Int)) (inner := [.int .u8 ((wrap64 (48 + a0)) % 256)]) (ok := fun _ => True) (okp := fun _ => True) ?hr ?hp (fun _ hk => hk) trivial (Below.refl _ _) (Nat.le_refl _) (by simp) ?_; (case hd => rfl); (case hg => rfl); (case hr => first | (go_simp; done) | (go_simp; rfl)); (case hp => exact (Reps.one (show Kd.M (Kd.int .u8) _ _ _ ((wrap64 (48 + a0)) % 256) [.int .u8 ((wrap64 (48 + a0)) % 256)] from rfl) (Reps.none _ _))); intro v359 w3 ho4 hb hg_ hnew_; clear hg_ hnew_; (first | rw [← Ny358.out] at ho4 | (simp only [Int.reduceToNat] at ho4; rw [← Ny358.out] at ho4)); have HO360 := Az_ (Kd.R_lower ho4 (below_size (ubz_ HB.out))); replace HB := Az_ (btz_ (ubz_ HB.out) hb); clear hb ho4; have hcv5 := own_string (P := Tryd.prog) Tryd.underlying22 Tryd.underlying5 Tryd.underlying9 (Kd.own_of_R HO360.out)))
  go_ret
  exact ⟨w116_, w160_⟩
 ·rw [if_neg c2] at H
  have c2b0 := decide_eq_false c2
  clear c2
  replace H := bqz_ H; obtain ⟨t361, A6, H⟩ := H
  replace H : ((some (([(wrap64 (48 + (Int.tmod a0 10))) % 256] : List Int) : List Int)).bind fun y362 => (if t361.size + (strOfNums y362).size ≤ 9223372036854775807 then (some (t361 ++ (strOfNums y362))) else (none))) = some r := H
  obtain ⟨y362, hy362⟩ : ∃ y_ : List Int, y_ = (([(wrap64 (48 + (Int.tmod a0 10))) % 256] : List Int)) := ⟨_, rfl⟩
  replace H : (if t361.size + (strOfNums y362).size ≤ 9223372036854775807 then (some (t361 ++ (strOfNums y362))) else (none)) = some r := by first | (rw [hy362]; with_reducible exact H) | (have H2_ := (Option.bind_some _ _).symm.trans H; rw [hy362]; with_reducible exact H2_) | (have H2_ := (Option.bind_some _ _).symm.trans H; with_reducible exact H2_) | with_reducible exact H | (rw [hy362]; exact H) | exact H
  have Ny362 := Az_ hy362
  clear hy362
  by_cases c7 : t361.size + (strOfNums y362).size ≤ 9223372036854775807
  ·rw [if_pos c7] at H
   have c7b0 := eq_true c7
   have c7b1 := decide_eq_true c7
   try have c7b2 : (9223372036854775807 < t361.size + (strOfNums y362).size) = False := eq_false (Nat.not_lt.2 c7)
   obtain rfl := Option.some.inj H
   go_enter Tryd.func183, Tryd.ntmps183
   try go_wp2
   have n0_ := Az_ (bdz_ HB.out)
   clear HB
   have HB := n0_
   clear n0_
   refine start_ (n := 11) (S := fun w' => True) (ds := []) #[false, false, false, false, false, false, false, false, false, false, false] (w162_) rfl rfl trivial (fun hHeld => ?_); refine with_tabW spec_l1Num.tab3 spec_l1Num.bits3 (fun HT_ HW_ => ?_)
   generalize w.drew = w8 at HB hHeld ⊢
   refine pz_ 0 10 [1,10] ?_
   refine pz_ 1 11 [2,9] ?_
   refine pz_ 3 13 [2,1,1,7] ?_
   refine pz_ 4 14 [2,1,2,6] ?_
   refine pz_ 5 15 [2,1,3,5] ?_
   refine pz_ 6 16 [2,1,4,4] ?_
   refine join_ (σ := Value) 2 #[true, true, true, true, true, true, true, true, true, false, false] (fun s_ => [(12, .string t361), (17, s_), (18, .string (strOfNums y362))]) (fun s_ w' => (Kd.R (Kd.int .u8) 5 w' w.heap.size (fun _ => True) s_ y362) ∧ (Below w.heap.size w w')) ?_ ?_
   rotate_left
   ·intro hCont
    refine two_ (i := 2) (j := 7) (Ni := some 12) (Nj := some 17) (mz_ [7,4]) #[true, true, false, true, true, true, true, true, false, false, false] rfl rfl rfl rfl (two_of HT_.out (w162_)) (by decide) (by decide) (fun K hK => ?_) (fun K hK => ?_)
    ·skip
     refine goes_ Tryd.func183 (w162_) rfl #[.int .i64 (wrap64 (Int.tdiv a0 10))] (by rfl) rfl rfl maz_ ?_
     with_reducible refine (ih k (by omega) (wrap64 (Int.tdiv a0 10)) t361 _ A6.out).mono ?_
     rintro e w9 ⟨rfl, hb⟩
     refine ⟨_, rfl, ?_⟩
     have n0_ := Az_ (btz_ (ubz_ HB.out) hb)
     clear HB
     have HB := n0_
     clear n0_
     clear hb
     refine hK.out _ _ trivial (fun hHeld => ?_)
     clear hK K
     refine nz_ 12 ?_
     refine one_ (i := 7) (N := some 17) (mz_ [8,3]) rfl rfl (one_of HT_.out (w162_)) (by decide) (fun K hK => ?_)
     refine Kd.R_lit_step (Kd.int .u8) _ 5 ?hg (N := 17) ?hd (xs := ([(wrap64 (48 + (Int.tmod a0 10))) % 256] : List Int)) (inner := [.int .u8 ((wrap64 (48 + (Int.tmod a0 10))) % 256)]) (ok := fun _ => True) (okp := fun _ => True) ?hr ?hp (fun _ hk => hk) trivial (Below.refl _ _) (Nat.le_refl _) (by simp) ?_; (case hd => rfl); (case hg => rfl); (case hr => first | (go_simp; done) | (go_simp; rfl)); (case hp => exact (Reps.one (show Kd.M (Kd.int .u8) _ _ _ ((wrap64 (48 + (Int.tmod a0 10))) % 256) [.int .u8 ((wrap64 (48 + (Int.tmod a0 10))) % 256)] from rfl) (Reps.none _ _)))
     intro v363 w10 ho11 hb hg_ hnew_
     clear hg_ hnew_
     (first | rw [← Ny362.out] at ho11 | (simp only [Int.reduceToNat] at ho11; rw [← Ny362.out] at ho11))
     have n0_ := Az_ (Kd.R_lower ho11 (below_size (ubz_ HB.out)))
     have n1_ := Az_ (btz_ (ubz_ HB.out) hb)
     clear HB
     have HO364 := n0_
     have HB := n1_
     clear n0_ n1_ hb ho11
     refine hK.out _ _ trivial (fun hHeld => ?_)
     clear hK K
     refine nz_ 17 ?_
     refine one_ (i := 8) (N := some 18) (mz_ [9,2]) rfl rfl (one_of HT_.out (w162_)) (by decide) (fun K hK => ?_)
     have hcv12 := own_string (P := Tryd.prog) Tryd.underlying22 Tryd.underlying5 Tryd.underlying9 (Kd.own_of_R HO364.out)
     refine value_ (w1 := ?_) (v := ?_) (by rfl) rfl ?_ ?_
     rotate_left 2
     ·go_simp
      constructor
      ·rfl
      ·rfl
     clear hcv12
     refine hK.out _ _ trivial (fun hHeld => ?_)
     clear hK K
     refine nz_ 18 ?_
     exact norm_ (w115_) (hCont (v363) _ ⟨(by exact urz_ HO364.out), (ubz_ HB.out)⟩)
    ·skip
     refine Kd.R_lit_step (Kd.int .u8) _ 5 ?hg (N := 17) ?hd (xs := ([(wrap64 (48 + (Int.tmod a0 10))) % 256] : List Int)) (inner := [.int .u8 ((wrap64 (48 + (Int.tmod a0 10))) % 256)]) (ok := fun _ => True) (okp := fun _ => True) ?hr ?hp (fun _ hk => hk) trivial (Below.refl _ _) (Nat.le_refl _) (by simp) ?_; (case hd => rfl); (case hg => rfl); (case hr => first | (go_simp; done) | (go_simp; rfl)); (case hp => exact (Reps.one (show Kd.M (Kd.int .u8) _ _ _ ((wrap64 (48 + (Int.tmod a0 10))) % 256) [.int .u8 ((wrap64 (48 + (Int.tmod a0 10))) % 256)] from rfl) (Reps.none _ _)))
     intro v363 w9 ho10 hb hg_ hnew_
     clear hg_ hnew_
     (first | rw [← Ny362.out] at ho10 | (simp only [Int.reduceToNat] at ho10; rw [← Ny362.out] at ho10))
     have n0_ := Az_ (Kd.R_lower ho10 (below_size (ubz_ HB.out)))
     have n1_ := Az_ (btz_ (ubz_ HB.out) hb)
     clear HB
     have HO364 := n0_
     have HB := n1_
     clear n0_ n1_ hb ho10
     refine hK.out _ _ trivial (fun hHeld => ?_)
     clear hK K
     refine nz_ 17 ?_
     refine two_ (i := 2) (j := 8) (Ni := some 12) (Nj := some 18) (mz_ [8,3]) #[true, true, false, true, true, true, true, true, true, false, false] rfl rfl rfl rfl (two_of HT_.out (w162_)) (by decide) (by decide) (fun K hK => ?_) (fun K hK => ?_)
     ·skip
      refine goes_ Tryd.func183 (w162_) rfl #[.int .i64 (wrap64 (Int.tdiv a0 10))] (by rfl) rfl rfl maz_ ?_
      with_reducible refine (ih k (by omega) (wrap64 (Int.tdiv a0 10)) t361 _ A6.out).mono ?_
      rintro e w11 ⟨rfl, hb⟩
      refine ⟨_, rfl, ?_⟩
      have n0_ := Az_ (Kd.R_below (by exact urz_ HO364.out) hb)
      have n1_ := Az_ (btz_ (ubz_ HB.out) hb)
      clear HO364 HB
      have HO364 := n0_
      have HB := n1_
      clear n0_ n1_
      clear hb
      refine hK.out _ _ trivial (fun hHeld => ?_)
      clear hK K
      refine nz_ 12 ?_
      refine one_ (i := 8) (N := some 18) (mz_ [9,2]) rfl rfl (one_of HT_.out (w162_)) (by decide) (fun K hK => ?_)
      have hcv12 := own_string (P := Tryd.prog) Tryd.underlying22 Tryd.underlying5 Tryd.underlying9 (Kd.own_of_R HO364.out)
      refine value_ (w1 := ?_) (v := ?_) (by rfl) rfl ?_ ?_
      rotate_left 2
      ·go_simp
       constructor
       ·rfl
       ·rfl
      clear hcv12
      refine hK.out _ _ trivial (fun hHeld => ?_)
      clear hK K
      refine nz_ 18 ?_
      exact norm_ (w115_) (hCont (v363) _ ⟨(by exact urz_ HO364.out), (ubz_ HB.out)⟩)
     ·skip
      have hcv11 := own_string (P := Tryd.prog) Tryd.underlying22 Tryd.underlying5 Tryd.underlying9 (Kd.own_of_R HO364.out)
      refine value_ (w1 := ?_) (v := ?_) (by rfl) rfl ?_ ?_
      rotate_left 2
      ·go_simp
       constructor
       ·rfl
       ·rfl
      clear hcv11
      refine hK.out _ _ trivial (fun hHeld => ?_)
      clear hK K
      refine nz_ 18 ?_
      refine one_ (i := 2) (N := some 12) (mz_ [9,2]) rfl rfl (one_of HT_.out (w162_)) (by decide) (fun K hK => ?_)
      refine goes_ Tryd.func183 (w162_) rfl #[.int .i64 (wrap64 (Int.tdiv a0 10))] (by rfl) rfl rfl maz_ ?_
      with_reducible refine (ih k (by omega) (wrap64 (Int.tdiv a0 10)) t361 _ A6.out).mono ?_
      rintro e w12 ⟨rfl, hb⟩
      refine ⟨_, rfl, ?_⟩
      have n0_ := Az_ (Kd.R_below (by exact urz_ HO364.out) hb)
      have n1_ := Az_ (btz_ (ubz_ HB.out) hb)
      clear HO364 HB
      have HO364 := n0_
      have HB := n1_
      clear n0_ n1_
      clear hb
      refine hK.out _ _ trivial (fun hHeld => ?_)
      clear hK K
      refine nz_ 12 ?_
      exact norm_ (w115_) (hCont (v363) _ ⟨(by exact urz_ HO364.out), (ubz_ HB.out)⟩)
   rintro v363 w13 ⟨h0_, h1_⟩
   have n0_ : Aside0 (Kd.R (Kd.int .u8) 5 w13 w.heap.size (fun _ => True) v363 y362) := ⟨h0_⟩
   have n1_ : Aside0 (Below w.heap.size w w13) := ⟨h1_⟩
   clear HB h0_ h1_
   have HO364 := n0_
   have HB := n1_
   clear n0_ n1_
   have hHeld := trivial
   refine norm_ (a' := ?_) ?_ ?_
   rotate_left
   ·simp only [putAll, Act.put, List.setIfInBounds_toArray, List.set_cons_zero, List.set_cons_succ]
    rfl
   refine pz_ 9 19 [10,1] ?_
   refine pz_ 10 2 [11] ?_
   refine done_ (done_of HT_.out (w162_)) ?_
   try go_wp2
   go_ret
   exact ⟨w116_, w160_⟩
  ·rw [if_neg c7] at H
   exact absurd H (by simp)

end Go.Proofs.YtppbpefehpbejaaDoor.P
end
