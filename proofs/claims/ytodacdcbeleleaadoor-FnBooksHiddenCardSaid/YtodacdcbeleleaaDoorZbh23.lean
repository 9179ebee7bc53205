/- Lean functions with the answers of the program's Go functions, and for each the proof that the Go code comes to these answers; no condition. -/
import Derived.Test.YtodacdcbeleleaaDoorZbh21
import Derived.Test.YtodacdcbeleleaaDoorZbh22
import Derived.Shelf.Abstract
import Derived.Lib.SliceRun
import Derived.Deep.RegionLaw
section
namespace Go.Proofs.YtodacdcbeleleaaDoor.P
open Go.RowKit Go.Proofs.YtodacdcbeleleaaDoorW.PrintWords Go.Proofs.YtodacdcbeleleaaDoorW.PrintLast Go.Proofs.YtodacdcbeleleaaDoorW.PrintMore
attribute [local go_sem] max2_int min2_int max_two min_two max_three min_three max_four min_four   -- for this text's walks alone
set_option linter.unusedVariables false
set_option linter.unusedSimpArgs false

mutual
def spec_l1Cur_puzzle.j0 : Nat → Int → Bool → List Int → Int → Int → List (S40) → Option ((List (S40)) × Int × Int)
 | 0, _, _, _, _, _, _ => none
 | k + 1, x7, x8, x1000, x1001, x1002, x329000 => if x8 = true then ((spec_l1Cur_clue.f k x1000 x1001 x1002).bind fun bt332 => (if x329000.length < 5864062014805 then (some ((x329000 ++ [(⟨bt332.1, bt332.2.1, bt332.2.2.1⟩ : S40)]), bt332.2.2.2.1, bt332.2.2.2.2)) else (none))) else (if x7 = 2 then (spec_l1Cur_puzzle.l0 k x1000 x1001 x1002 x329000) else (some (x329000, x1001, x1002)))
def spec_l1Cur_puzzle.l0 : Nat → List Int → Int → Int → List (S40) → Option ((List (S40)) × Int × Int)
 | 0, _, _, _, _ => none
 | k + 1, x1000, x1001, x1002, x329000 => (spec_l1Cur_pick.f x1000 x1001 x1002 2).bind fun bt340 => (if (x329000.length : Int) < (wrap64 (6 + bt340.1)) then (if x329000.length < 5864062014805 then (spec_l1Cur_puzzle.l0 k x1000 bt340.2.1 bt340.2.2 (x329000 ++ [(⟨3, 2, 1⟩ : S40)])) else (none)) else (some (x329000, bt340.2.1, bt340.2.2)))
end
def spec_l1Cur_puzzle.f (k : Nat) (s0_0 : List Int) (s0_1 : Int) (s0_2 : Int) : Option ((List (S40)) × Int × Int) := (spec_l1Cur_surePuzzle.f k s0_0 s0_1 s0_2 5).bind fun bt323 => ((spec_l1Cur_pick.f s0_0 bt323.2.1 bt323.2.2 12).bind fun bt329 => (if bt329.1 = 0 then (spec_l1Cur_puzzle.j0 k bt329.1 (bt329.1 == 0) s0_0 bt329.2.1 bt329.2.2 bt323.1) else (spec_l1Cur_puzzle.j0 k bt329.1 (bt329.1 == 1) s0_0 bt329.2.1 bt329.2.2 bt323.1)))
def spec_l1Cur_puzzle.T5 : Bool × List (List Nat × List Nat) := (true, [([], []), ([0], [0]), ([], []), ([2], [2]), ([3], [3]), ([1, 4, 3], [1, 4]), ([0, 1, 2, 3, 4, 5], []), ([6, 5, 5, 0, 1, 2, 3, 4, 5], [5, 6])])
def spec_l1Cur_puzzle.B5 : List Nat := [0, 1, 0, 4, 12, 31, 63, 127]
theorem spec_l1Cur_puzzle.tab5 : rtab .any (opsOf Tryd.f53 5) = spec_l1Cur_puzzle.T5 := by kernel_rfl
theorem spec_l1Cur_puzzle.bits5 : waitsOk spec_l1Cur_puzzle.T5.2 spec_l1Cur_puzzle.B5 = true := by kernel_rfl
set_option maxHeartbeats 8000000 in
set_option maxRecDepth 100000 in
theorem spec_l1Cur_puzzle.calls (k : Nat) (g : Nat) (s0_0 : List Int) (s0_1 : Int) (s0_2 : Int) (r1 : List (S40)) (r2 : Int) (r3 : Int) (w0 w : World) (hI : IsS67 w0 w g s0_0 s0_1 s0_2) (hB : Below w0.heap.size w0 w) (h : spec_l1Cur_puzzle.f k s0_0 s0_1 s0_2 = some (r1, r2, r3)) :
  Calls Tryd.prog 53 #[.pointer (some ⟨g, 0, none⟩)] w fun e w' => ∃ v0_ : Value, e = .returned (.agg #[v0_]) ∧ Kd.R k40 40 w' w.heap.size (fun _ => True) v0_ r1 ∧ IsS67 w0 w' g s0_0 r2 r3 ∧ Below w0.heap.size w0 w' ∧ KeepBut w w' g none := by
 have hu30 := Tryd.underlying30
 have hu40 := Tryd.underlying40
 have HI0 := Az_ hI
 have HK := Az_ (KeepBut.refl w g none)
 have HL := Az_ hB.size
 clear hI
 have HW0 := Az_ hB.size
 have HB := Az_ hB
 clear hB
 have H : ((spec_l1Cur_surePuzzle.f k s0_0 s0_1 s0_2 5).bind fun bt323 => ((spec_l1Cur_pick.f s0_0 bt323.2.1 bt323.2.2 12).bind fun bt329 => (if bt329.1 = 0 then (j0 k bt329.1 (bt329.1 == 0) s0_0 bt329.2.1 bt329.2.2 bt323.1) else (j0 k bt329.1 (bt329.1 == 1) s0_0 bt329.2.1 bt329.2.2 bt323.1)))) = some (r1, r2, r3) := h
 clear h
 replace H := bqz_ H; obtain ⟨⟨t323, t326, t327⟩, A2, H⟩ := H
 replace H := bqz_ H; obtain ⟨⟨t329, t330, t331⟩, A3, H⟩ := H
 replace H : (if t329 = 0 then (j0 k t329 (t329 == 0) s0_0 t330 t331 t323) else (j0 k t329 (t329 == 1) s0_0 t330 t331 t323)) = some (r1, r2, r3) := H
 have HC4 := Az_ H
 clear H
 go_enter Tryd.func53, Tryd.ntmps53
 go_upto_if 8 with (first | ((with_reducible refine gate_dst (N := 2) rfl ?_); refine bxe_ (N := 2) (cs := #[.slice none 0 0]) (t := 30) ?_; intro gb322 hg w5 BK322 hb; have GW322 := Az_ ((by rw [hg]; exact (keep_size (w := w) (g := g) (row := none) (w126_)) : w.heap.size ≤ gb322)); have GE322 := Az_ ((Nat.le_trans HW0.out (by rw [hg]; exact (keep_size (w := w) (g := g) (row := none) (w126_)) : w.heap.size ≤ gb322) : w0.heap.size ≤ gb322)); have NB0_322 := Az_ ((by rw [hg]; exact Nat.ne_of_lt (IsS67.lt (show IsS67 w0 _ g s0_0 s0_1 s0_2 from w121_)) : g ≠ gb322)); have NB322_0 := Az_ ((by rw [hg]; exact Nat.ne_of_gt (IsS67.lt (show IsS67 w0 _ g s0_0 s0_1 s0_2 from w121_)) : gb322 ≠ g)); replace HB := Az_ (btz_ (w128_) hb); replace HK := Az_ (KeepBut.trans (w126_) (KeepBut.of_below hb g none) (.inl rfl)); replace HI0 := Az_ (IsS67.below (w121_) hb); clear hb hg) | ((with_reducible refine gate_callee (f := 69) rfl ?_); refine goesL_ (some 5) rfl rfl Tryd.func69 (w204_) rfl #[.pointer (some ⟨g, 0, none⟩), .int .i64 5] rfl maz_ ?_; (with_reducible refine (spec_l1Cur_surePuzzle.calls k g s0_0 s0_1 s0_2 5 t323 t326 t327 w0 _ ?side1 ?side2 A2.out).mono ?_); (case side1 => repeat (first | (with_reducible first | exact HI0.out | apply IsS67.alloc | apply IsS67.drewN | apply IsS67.drew | apply IsS67.set_1 | apply IsS67.set_2 | refine IsS67.far ?_ NB0_322.out _) | exact HI0.out)); (case side2 => repeat (first | (with_reducible first | exact HB.out | apply baz_ | apply bnz_ | apply bdz_ | refine bsz_ ?_ (IsS67.ge HI0.out) | refine bsz_ ?_ GE322.out) | exact HB.out)); rintro e w6 ⟨v324, rfl, ho0, hi, hb, hk⟩; refine ⟨_, rfl, ?_⟩; replace BK322 := Az_ (KeepBut.blk hk (g' := gb322) (o := .cells #[.slice none 0 0] 30 (0, 0)) (by exact ukz_ BK322.out) NB322_0.out (by simp)); have HO325 := Az_ (Kd.R_lower ho0 (keep_size (w := w) (g := g) (row := none) (w112_))); replace HK := Az_ (KeepBut.trans (w112_) hk (.inl rfl)); replace HB := Az_ (hb); replace HI0 := Az_ (hi); (try clear hb); (try clear hk); (try clear hi); (try clear ho0)) | ((with_reducible refine gate_dst (N := 3) rfl ?_); refine bxe_ (N := 3) (cs := #[.slice none 0 0]) (t := 30) ?_; intro gb328 hg w7 BK328 hb; obtain ⟨NB322_328, NB328_322⟩ := nez_ BK322 hg; replace HO325 := Az_ (Kd.R_below (by exact urz_ HO325.out) hb); replace HB := Az_ (btz_ (by repeat (first | (with_reducible first | exact HB.out | apply baz_ | apply bnz_ | apply bdz_ | refine bsz_ ?_ (IsS67.ge HI0.out) | refine bsz_ ?_ GE322.out) | exact HB.out)) hb); have GW328 := Az_ ((by rw [hg]; exact (keep_size (w := w) (g := g) (row := none) (w112_)) : w.heap.size ≤ gb328)); have GE328 := Az_ ((Nat.le_trans HW0.out (by rw [hg]; exact (keep_size (w := w) (g := g) (row := none) (w112_)) : w.heap.size ≤ gb328) : w0.heap.size ≤ gb328)); replace HK := Az_ (KeepBut.trans (w112_) (KeepBut.of_below hb g none) (.inl rfl)); have NB0_328 := Az_ ((by rw [hg]; exact Nat.ne_of_lt (IsS67.lt (show IsS67 w0 _ g s0_0 t326 t327 from w103_)) : g ≠ gb328)); have NB328_0 := Az_ ((by rw [hg]; exact Nat.ne_of_gt (IsS67.lt (show IsS67 w0 _ g s0_0 t326 t327 from w103_)) : gb328 ≠ g)); replace HI0 := Az_ (IsS67.below (w103_) hb); replace BK322 := Az_ (ukbz_ BK322.out hb); clear hb hg; obtain ⟨Ao8, co8, eo8⟩ := Kd.R_slice HO325.out; subst eo8; have hnb9 := NB328_322.out; have hnc9 := NB322_328.out; have hnb10 := NB328_0.out; have hnc10 := NB0_328.out; have hcz11_0 := cz_ (x := .slice none 0 0) BK328 0; have hfz11_0 := blk_frozen BK328.out 0) | ((with_reducible refine gate_callee (f := 38) rfl ?_); refine goesL_ (some 7) rfl rfl Tryd.func38 (w204_) rfl #[.pointer (some ⟨g, 0, none⟩), .int .i64 12] rfl maz_ ?_; (with_reducible refine (spec_l1Cur_pick.calls g s0_0 t326 t327 12 t329 t330 t331 w0 _ ?side1 ?side2 A3.out).mono ?_); (case side1 => repeat (first | (with_reducible first | exact HI0.out | apply IsS67.alloc | apply IsS67.drewN | apply IsS67.drew | apply IsS67.set_1 | apply IsS67.set_2 | refine IsS67.far ?_ NB0_322.out _ | refine IsS67.far ?_ NB0_328.out _) | exact HI0.out)); (case side2 => repeat (first | (with_reducible first | exact HB.out | apply baz_ | apply bnz_ | apply bdz_ | refine bsz_ ?_ (IsS67.ge HI0.out) | refine bsz_ ?_ GE322.out | refine bsz_ ?_ GE328.out) | exact HB.out)); rintro e w12 ⟨rfl, hi, hb, hk⟩; refine ⟨_, rfl, ?_⟩; replace BK322 := Az_ (KeepBut.blk hk (g' := gb322) (o := .cells #[.slice none 0 0] 30 (0, 0)) (w84_) NB322_0.out (by simp)); replace HO325 := Az_ (Kd.R_mono (Kd.R_keep (IsS67.apart (show IsS67 w0 _ g s0_0 t326 t327 from w71_) (by (with_reducible repeat (first | apply raz_ | apply rnz_ | apply rdz_)); exact (Kd.R_mono (Kd.R_far (p := ⟨gb328, 0, none⟩) (Kd.R_types HO325.out BK328.out (by decide)) (fun _ hk => hk.2) (.slice Ao8 t323.length co8)) (fun _ h_ => h_.1))) (by decide)) hk (fun _ h => h.2)) (fun _ h => h.1)); replace BK328 := Az_ (KeepBut.blk hk (g' := gb328) (o := .cells #[.slice Ao8 t323.length co8] 30 (0, 0)) (by (with_reducible repeat (first | refine knz_ ?_ _ | refine kdz_ ?_ | refine kaz_ ?_ _)); refine blk_put (cs := #[.slice none 0 0]) ?_ 0 _ rfl; (with_reducible repeat (first | refine knz_ ?_ _ | refine kdz_ ?_ | refine kaz_ ?_ _)); exact BK328.out) NB328_0.out (by simp)); replace HK := Az_ (KeepBut.trans (w96_) hk (.inl rfl)); replace HB := Az_ (hb); replace HI0 := Az_ (hi); (try clear hb); (try clear hk); (try clear hi)))
 (try simp only [Act.put, List.setIfInBounds_toArray, List.set_cons_zero, List.set_cons_succ])
 go_cut [8] (fun v8 wc => ∃ (kq : Nat) (x8_3 : Bool), v8 = .bool x8_3 ∧ Aside0 (j0 kq t329 x8_3 s0_0 t330 t331 t323 = some (r1, r2, r3)) ∧ Aside0 (kq ≤ k) ∧ Aside0 (Kd.R k40 40 wc w.heap.size (fun _ => True) (.slice Ao8 t323.length co8) t323) ∧ Aside0 (wc.heap[gb322]? = some (.cells #[(.slice none 0 0)] 30 (0, 0))) ∧ Aside0 (wc.heap[gb328]? = some (.cells #[(.slice Ao8 t323.length co8)] 30 (0, 0))) ∧ Aside0 (IsS67 w0 wc g s0_0 t330 t331) ∧ Aside0 (KeepBut w wc g none) ∧ Aside0 (Below w0.heap.size w0 wc))
 case first =>
  have H := HC4.out
  clear HC4
  by_cases c13 : t329 = 0; rotate_left
  ·rw [if_neg c13] at H
   have c13b0 : (t329 == 0) = false := beq_eq_false_iff_ne.mpr c13
   have c13b1 : (t329 != 0) = true := bne_iff_ne.mpr c13
   (first | rw [c13b0] | (simp only [i64_w, i32_w]; rw [c13b0]) | skip)
   have H' := Az_ H
   clear H
   go_wp2
   go_meet
   case rel => exact ⟨_, ((t329 == 1)), qaz_, H', ⟨w173_⟩, ⟨by (with_reducible repeat (first | apply raz_ | apply rnz_ | apply rdz_)); exact HO325.out⟩, ⟨w152_⟩, ⟨w153_⟩, ⟨w71_⟩, ⟨w96_⟩, ⟨w108_⟩⟩
  rw [if_pos c13] at H
  have c13b0 : (t329 == 0) = true := beq_iff_eq.mpr c13
  have c13b1 : (t329 != 0) = false := bne_eq_false_iff_eq.mpr c13
  clear c13
  (first | rw [c13b0] | (simp only [i64_w, i32_w]; rw [c13b0]) | skip)
  have H' := Az_ H
  clear H
  go_wp2
  go_meet
  case rel => exact ⟨_, ((t329 == 0)), qaz_, H', ⟨w173_⟩, ⟨by (with_reducible repeat (first | apply raz_ | apply rnz_ | apply rdz_)); exact HO325.out⟩, ⟨w152_⟩, ⟨w153_⟩, ⟨w71_⟩, ⟨w96_⟩, ⟨w108_⟩⟩
 case rest =>
  clear HC4
  clear hcz11_0 hfz11_0
  obtain ⟨kq, x8_3, rfl, HA, HJ3, HO_329000, BK322, BK328, HI0, HK, HB⟩ := hcut
  cases kq with
  | zero => exact absurd HA.out (by simp [j0])
  | succ kj3 =>
   have H := HA.out
   clear HA
   simp only [j0] at H
   by_cases c14 : x8_3 = true
   ·subst c14
    rw [if_pos rfl] at H
    replace H := bqz_ H; obtain ⟨⟨t332, t333, t334, t335, t336⟩, A15, H⟩ := H
    replace H : (if t323.length < 5864062014805 then (some ((t323 ++ [(⟨t332, t333, t334⟩ : S40)]), t335, t336)) else (none)) = some (r1, r2, r3) := H
    by_cases c16 : t323.length < 5864062014805; rotate_left
    ·rw [if_neg c16] at H
     exact absurd H (by simp)
    rw [if_pos c16] at H
    have LMc16 := Az_ c16
    clear c16
    obtain ⟨y337, hy337⟩ : ∃ y_ : List (S40), y_ = (t323 ++ [(⟨t332, t333, t334⟩ : S40)]) := ⟨_, rfl⟩
    replace H : (some (y337, t335, t336)) = some (r1, r2, r3) := by first | (rw [hy337]; with_reducible exact H) | (have H2_ := (Option.bind_some _ _).symm.trans H; rw [hy337]; with_reducible exact H2_) | (have H2_ := (Option.bind_some _ _).symm.trans H; with_reducible exact H2_) | with_reducible exact H | (rw [hy337]; exact H) | exact H
    have Ny337 := Az_ hy337
    clear hy337
    simp only [Option.some.injEq, Prod.mk.injEq] at H
    obtain ⟨rfl, rfl, rfl⟩ := H
    try go_wp2
    replace HO_329000 := Az_ (rdz_ HO_329000.out)
    replace BK322 := Az_ (kdz_ BK322.out)
    replace BK328 := Az_ (kdz_ BK328.out)
    replace HI0 := Az_ (IsS67.drew HI0.out)
    replace HK := Az_ (keep_drew HK.out)
    replace HB := Az_ (bdz_ HB.out)
    refine start_ (n := 8) (S := fun w' => w'.cell? ⟨gb328, 0, none⟩ = some (.slice Ao8 t323.length co8)) (ds := [7]) #[false, false, false, false, false, false, false, false] (w204_) rfl rfl ((blk_cell BK328.out 0).trans rfl) (fun hHeld => ?_); refine with_tabW spec_l1Cur_puzzle.tab5 spec_l1Cur_puzzle.bits5 (fun HT_ HW_ => ?_)
    generalize wc.drew = w17 at HO_329000 BK322 BK328 HI0 HK HB hHeld ⊢
    refine pz_ 0 11 [1,7] ?_
    refine pz_ 2 13 [1,1,1,5] ?_
    refine take_ (i := 1) (N := some 12) (v := ?_) (a' := ?_) (mz_ [3,5]) rfl rfl (take_ofW HT_.out HW_.out (w204_)) (fun _ _ _ h => h) (Or.inl ⟨by rfl, ?_⟩) hHeld ?_ ?_
    rotate_left
    ·intro w' s0
     go_simp
     with_reducible rfl
    rotate_left
    ·simp only [Act.put, usz_, utz_, uvz_, i64_w, i32_w]
     rfl
    refine one_ (i := 3) (N := some 14) (mz_ [4,4]) rfl rfl (one_of HT_.out (w204_)) (by decide) (fun K hK => ?_)
    refine goes_ Tryd.func60 (w204_) rfl #[.pointer (some ⟨g, 0, none⟩)] (by rfl) rfl rfl maz_ ?_
    with_reducible refine (spec_l1Cur_clue.calls kj3 g s0_0 t330 t331 t332 t333 t334 t335 t336 w0 _ ?side1 ?side2 A15.out).mono ?_
    (case side1 => repeat (first | (with_reducible first | exact HI0.out | apply IsS67.alloc | apply IsS67.drewN | apply IsS67.drew | apply IsS67.set_1 | apply IsS67.set_2 | refine IsS67.far ?_ NB0_322.out _ | refine IsS67.far ?_ NB0_328.out _) | exact HI0.out))
    (case side2 => repeat (first | (with_reducible first | exact HB.out | apply baz_ | apply bnz_ | apply bdz_ | refine bsz_ ?_ (IsS67.ge HI0.out) | refine bsz_ ?_ GE322.out | refine bsz_ ?_ GE328.out) | exact HB.out))
    rintro e w18 ⟨rfl, hi, hb, hk⟩
    refine ⟨_, rfl, ?_⟩
    replace HO_329000 := Az_ (Kd.R_mono (Kd.R_keep (IsS67.apart (show IsS67 w0 _ g s0_0 t330 t331 from w71_) (by exact urz_ HO_329000.out) (by decide)) hk (fun _ h => h.2)) (fun _ h => h.1))
    replace BK322 := Az_ (KeepBut.blk hk (g' := gb322) (o := .cells #[.slice none 0 0] 30 (0, 0)) (by exact ukz_ BK322.out) NB322_0.out (by simp))
    replace BK328 := Az_ (KeepBut.blk hk (g' := gb328) (o := .cells #[.slice Ao8 t323.length co8] 30 (0, 0)) (by exact ukz_ BK328.out) NB328_0.out (by simp))
    replace HK := Az_ (KeepBut.trans (w96_) hk (.inl rfl))
    replace HB := Az_ (hb)
    replace HI0 := Az_ (hi)
    clear hb
    clear hk
    clear hi
    refine hK.out _ _ ((blk_cell BK328.out 0).trans rfl) (fun hHeld => ?_)
    clear hK K
    refine nz_ 14 ?_
    refine one_ (i := 4) (N := some 15) (mz_ [5,3]) rfl rfl (one_of HT_.out (w204_)) (by decide) (fun K hK => ?_)
    refine value_ (w1 := ?_) (v := ?_) (by rfl) rfl ?_ ?_
    rotate_left 2
    ·go_simp
     constructor
     ·rfl
     ·rfl
    refine hK.out _ _ ((blk_cell (kaz_ BK328.out _) 0).trans rfl) (fun hHeld => ?_)
    clear hK K
    refine nz_ 15 ?_
    refine one_ (i := 5) (N := some 16) (mz_ [6,2]) rfl rfl (one_of HT_.out (w204_)) (by decide) (fun K hK => ?_)
    refine Kd.R_append_step k40 w.heap.size (by rfl) (.tmp 12) (.tmp 15) 28 40 (.agg #[(.int .i64 0), (.int .i64 0), (.int .i64 0)]) 24 rfl Tryd.underlying28 info40 rfl (by decide) (by omega) (.slice Ao8 t323.length co8) t323 (⟨t332, t333, t334⟩ : S40) [.int .i64 t332, .int .i64 t333, .int .i64 t334] (fun _ => True) (fun _ => False) rfl rfl ?aP (fun _ hk => hk.elim) ?aF ?aO (Below.refl _ _) ?aS ?aL ?_
    (case aP => exact k40_mkM _ _ _ (⟨t332, t333, t334⟩ : S40))
    (case aF => exact (fun _ _ => trivial))
    (case aO => exact (by exact urz_ HO_329000.out))
    (case aS => exact (keep_size (w := w) (g := g) (row := none) (w96_)))
    (case aL => have := LMc16.out; omega)
    intro v338 w19 ho hb hg hat
    rw [← Ny337.out] at ho
    replace BK322 := Az_ (blk_grown (g := gb322) (o := .cells #[.slice none 0 0] 30 (0, 0)) (by exact ukz_ BK322.out) hg (Kd.R_ne HO_329000.out BK322.out (by decide)))
    replace BK328 := Az_ (blk_grown (g := gb328) (o := .cells #[.slice Ao8 t323.length co8] 30 (0, 0)) (by exact ukz_ BK328.out) hg (Kd.R_ne HO_329000.out BK328.out (by decide)))
    replace HB := Az_ (below_weaken (w108_) HL.out hb)
    replace HI0 := Az_ (IsS67.grown (show IsS67 w0 _ g s0_0 t335 t336 from w71_) hg (IsS67.own_ne HI0.out HO_329000.out (by decide)))
    replace HK := Az_ (KeepBut.trans (w96_) (KeepBut.of_grown hg g) (Kd.R_base2 HO_329000.out))
    have HO339 := Az_ (ho)
    clear HO_329000
    obtain ⟨Ao20, co20, eo20⟩ := Kd.R_slice HO339.out
    (first | subst eo20 | (injection eo20 with f1_ f2_ f3_; have f4_ := f1_.symm; have f5_ := f3_.symm; clear f1_ f2_ f3_; subst f4_; subst f5_))
    refine hK.out _ _ ((blk_cell BK328.out 0).trans rfl) (fun hHeld => ?_)
    clear hK K
    refine nz_ 16 ?_
    refine pz_ 6 17 [7,1] ?_
    refine last_ (i := 7) (N := none) (mz_ [8]) rfl rfl (one_of HT_.out (w204_)) (by decide) (fun K hK => ?_)
    have hs21 : w19.cell? ⟨gb328, 0, none⟩ = some (.slice Ao8 t323.length co8) := (blk_cell BK328.out 0).trans rfl
    have hfs21 := blk_frozen BK328.out 0
    have hns21_0 := NB322_328.out
    have hms21_0 := NB328_322.out
    refine skip_ (w1 := ?_) (by rfl) rfl ?_ ?_
    rotate_left
    ·go_simp
     rfl
    refine hK.out _ _ ?_
    clear hK K
    refine done_ (done_of HT_.out (w204_)) ?_
    have hnb22 := NB328_322.out
    have hnc22 := NB322_328.out
    have hnb23 := NB328_0.out
    have hnc23 := NB0_328.out
    have hcz24_0 := cz_ (x := .slice Ao8 t323.length co8) BK328 0
    have hfz24_0 := blk_frozen BK328.out 0
    have hnb25 := NB322_0.out
    have hnc25 := NB0_322.out
    have hcz26_0 := cz_ (x := .slice none 0 0) BK322 0
    have hfz26_0 := blk_frozen BK322.out 0
    try go_wp2
    refine bodyPost_ret (results_cell_row rfl _ _ gb322 30 #[.slice Ao20 y337.length co20] (0, 0) _ rfl (by (with_reducible repeat (first | refine knz_ ?_ _ | refine kdz_ ?_ | refine kaz_ ?_ _)); refine blk_put (cs := #[.slice none 0 0]) ?_ 0 _ rfl; (with_reducible repeat (first | refine knz_ ?_ _ | refine kdz_ ?_ | refine kaz_ ?_ _)); refine blk_far ?_ NB322_328.out _; (with_reducible repeat (first | refine knz_ ?_ _ | refine kdz_ ?_ | refine kaz_ ?_ _)); exact BK322.out) Tryd.underlying30 rfl (w204_)) rfl ?_
    exact ⟨_, w166_, by (with_reducible repeat (first | apply raz_ | apply rnz_ | apply rdz_)); exact Kd.R_mono (Kd.R_far (p := ⟨gb322, 0, none⟩) (Kd.R_far (p := ⟨gb328, 0, none⟩) (Kd.R_types (Kd.R_types HO339.out BK328.out (by decide)) BK322.out (by decide)) (fun _ hk => hk.1.2) (.slice Ao20 y337.length co20)) (fun _ hk => hk.2) (.slice Ao20 y337.length co20)) (fun _ hk => trivial), w71_, w108_, w96_⟩
   ·replace c14 := Bool.eq_false_iff.mpr c14
    subst c14
    rw [if_neg nfz_] at H
    by_cases c27 : t329 = 2
    ·rw [if_pos c27] at H
     have c27b0 : (t329 == 2) = true := beq_iff_eq.mpr c27
     have c27b1 : (t329 != 2) = false := bne_eq_false_iff_eq.mpr c27
     clear c27
     have H' := Az_ H
     clear H
     go_wp2
     go_loopg [] kj3 (fun kq w' => ∃ (x1001_2 : Int) (x1002_2 : Int) (x329000_2 : List (S40)) (u329000 : Value), Aside0 (spec_l1Cur_puzzle.l0 kq s0_0 x1001_2 x1002_2 x329000_2 = some (r1, r2, r3)) ∧ Aside0 (kq ≤ kj3) ∧ Aside0 (Kd.R k40 40 w' w.heap.size (fun _ => True) u329000 x329000_2) ∧ Aside0 (w'.heap[gb322]? = some (.cells #[(.slice none 0 0)] 30 (0, 0))) ∧ Aside0 (w'.heap[gb328]? = some (.cells #[u329000] 30 (0, 0))) ∧ Aside0 (IsS67 w0 w' g s0_0 x1001_2 x1002_2) ∧ Aside0 (KeepBut w w' g none) ∧ Aside0 (Below w0.heap.size w0 w'))
     case atStart => exact ⟨(t330), (t331), (t323), (.slice Ao8 t323.length co8), H', ⟨Nat.le_refl _⟩, ⟨by (with_reducible repeat (first | apply raz_ | apply rnz_ | apply rdz_)); exact HO_329000.out⟩, ⟨w152_⟩, ⟨w153_⟩, ⟨w71_⟩, ⟨w96_⟩, ⟨w108_⟩⟩
     case round =>
      clear H'
      clear c27b0 c27b1
      obtain ⟨x1001_2, x1002_2, x329000_2, u329000, HA, HK2, HO_329000, BK322, BK328, HI0, HK, HB⟩ := hrel
      cases gk with
      | zero => exact absurd HA.out (by simp [spec_l1Cur_puzzle.l0])
      | succ k2 =>
       have H := HA.out
       clear HA
       simp only [spec_l1Cur_puzzle.l0] at H
       replace H := bqz_ H; obtain ⟨⟨t340, t341, t342⟩, A28, H⟩ := H
       replace H : (if (x329000_2.length : Int) < (wrap64 (6 + t340)) then (if x329000_2.length < 5864062014805 then (spec_l1Cur_puzzle.l0 k2 s0_0 t341 t342 (x329000_2 ++ [(⟨3, 2, 1⟩ : S40)])) else (none)) else (some (x329000_2, t341, t342))) = some (r1, r2, r3) := H
       by_cases c29 : (x329000_2.length : Int) < (wrap64 (6 + t340)); rotate_left
       ·rw [if_neg c29] at H
        have c29b0 := decide_eq_false c29
        clear c29
        simp only [Option.some.injEq, Prod.mk.injEq] at H
        obtain ⟨rfl, rfl, rfl⟩ := H
        try go_wp2
        replace HO_329000 := Az_ (rdz_ HO_329000.out)
        replace BK322 := Az_ (kdz_ BK322.out)
        replace BK328 := Az_ (kdz_ BK328.out)
        replace HI0 := Az_ (IsS67.drew HI0.out)
        replace HK := Az_ (keep_drew HK.out)
        replace HB := Az_ (bdz_ HB.out)
        obtain ⟨Ao41, co41, eo41⟩ := Kd.R_slice HO_329000.out
        (first | subst eo41 | (injection eo41 with f1_ f2_ f3_; have f4_ := f1_.symm; have f5_ := f3_.symm; clear f1_ f2_ f3_; subst f4_; subst f5_))
        refine start_ (n := 7) (S := fun w' => w'.cell? ⟨gb328, 0, none⟩ = some (.slice Ao41 x329000_2.length co41)) (ds := []) #[false, false, false, false, false, false, false] (w204_) rfl rfl ((blk_cell BK328.out 0).trans rfl) (fun hHeld => ?_)
        generalize wr.drew = w40 at HO_329000 BK322 BK328 HI0 HK HB hHeld ⊢
        refine pzk_ 0 20 [1,6] ?_
        refine pzk_ 3 23 [1,2,1,3] ?_
        refine take_ (i := 1) (N := some 21) (v := ?_) (a' := ?_) (mz_ [2,1,1,3]) rfl rfl (w204_) (fun _ _ _ h => h) (Or.inl ⟨by rfl, ?_⟩) hHeld ?_ ?_
        rotate_left
        ·intro w' s0
         go_simp
         with_reducible rfl
        rotate_left
        ·simp only [Act.put, usz_, utz_, uvz_, i64_w, i32_w]
         rfl
        refine pzk_ 2 22 [4,3] ?_
        refine one_ (i := 4) (N := some 24) (mz_ [5,2]) rfl rfl (w204_) (by decide) (fun K hK => ?_)
        refine goes_ Tryd.func38 (w204_) rfl #[.pointer (some ⟨g, 0, none⟩), .int .i64 2] (by rfl) rfl rfl maz_ ?_
        with_reducible refine (spec_l1Cur_pick.calls g s0_0 x1001_2 x1002_2 2 t340 t341 t342 w0 _ ?side1 ?side2 A28.out).mono ?_
        (case side1 => repeat (first | (with_reducible first | exact HI0.out | apply IsS67.alloc | apply IsS67.drewN | apply IsS67.drew | apply IsS67.set_1 | apply IsS67.set_2 | refine IsS67.far ?_ NB0_322.out _ | refine IsS67.far ?_ NB0_328.out _) | exact HI0.out))
        (case side2 => repeat (first | (with_reducible first | exact HB.out | apply baz_ | apply bnz_ | apply bdz_ | refine bsz_ ?_ (IsS67.ge HI0.out) | refine bsz_ ?_ GE322.out | refine bsz_ ?_ GE328.out) | exact HB.out))
        rintro e w42 ⟨rfl, hi, hb, hk⟩
        refine ⟨_, rfl, ?_⟩
        replace HO_329000 := Az_ (Kd.R_mono (Kd.R_keep (IsS67.apart (show IsS67 w0 _ g s0_0 x1001_2 x1002_2 from w71_) (by exact urz_ HO_329000.out) (by decide)) hk (fun _ h => h.2)) (fun _ h => h.1))
        replace BK322 := Az_ (KeepBut.blk hk (g' := gb322) (o := .cells #[.slice none 0 0] 30 (0, 0)) (by exact ukz_ BK322.out) NB322_0.out (by simp))
        replace BK328 := Az_ (KeepBut.blk hk (g' := gb328) (o := .cells #[.slice Ao41 x329000_2.length co41] 30 (0, 0)) (by exact ukz_ BK328.out) NB328_0.out (by simp))
        replace HK := Az_ (KeepBut.trans (w96_) hk (.inl rfl))
        replace HB := Az_ (hb)
        replace HI0 := Az_ (hi)
        clear hb
        clear hk
        clear hi
        refine hK.out _ _ ((blk_cell BK328.out 0).trans rfl) (fun hHeld => ?_)
        clear hK K
        refine nz_ 24 ?_
        refine pzk_ 5 25 [6,1] ?_
        refine pzk_ 6 26 [7] ?_
        refine done_ (w204_) ?_
        have hnb43 := NB328_322.out
        have hnc43 := NB322_328.out
        have hnb44 := NB328_0.out
        have hnc44 := NB0_328.out
        have hcz45_0 := cz_ (x := .slice Ao41 x329000_2.length co41) BK328 0
        have hfz45_0 := blk_frozen BK328.out 0
        have hnb46 := NB322_0.out
        have hnc46 := NB0_322.out
        have hcz47_0 := cz_ (x := .slice none 0 0) BK322 0
        have hfz47_0 := blk_frozen BK322.out 0
        try go_wp2
        refine bodyPost_ret (results_cell_row rfl _ _ gb322 30 #[.slice Ao41 x329000_2.length co41] (0, 0) _ rfl (w42_) Tryd.underlying30 rfl (w204_)) rfl ?_
        exact ⟨_, w166_, by (with_reducible repeat (first | apply raz_ | apply rnz_ | apply rdz_)); exact Kd.R_mono (Kd.R_far (p := ⟨gb322, 0, none⟩) (Kd.R_types HO_329000.out BK322.out (by decide)) (fun _ hk => hk.2) (.slice Ao41 x329000_2.length co41)) (fun _ hk => trivial), w71_, w108_, w96_⟩
       rw [if_pos c29] at H
       have c29b0 := decide_eq_true c29
       clear c29
       by_cases c30 : x329000_2.length < 5864062014805; rotate_left
       ·rw [if_neg c30] at H
        exact absurd H (by simp)
       rw [if_pos c30] at H
       have LMc30 := Az_ c30
       clear c30
       obtain ⟨y343, hy343⟩ : ∃ y_ : List (S40), y_ = (x329000_2 ++ [(⟨3, 2, 1⟩ : S40)]) := ⟨_, rfl⟩
       replace H : (spec_l1Cur_puzzle.l0 k2 s0_0 t341 t342 y343) = some (r1, r2, r3) := by first | (rw [hy343]; with_reducible exact H) | (have H2_ := (Option.bind_some _ _).symm.trans H; rw [hy343]; with_reducible exact H2_) | (have H2_ := (Option.bind_some _ _).symm.trans H; with_reducible exact H2_) | with_reducible exact H | (rw [hy343]; exact H) | exact H
       have Ny343 := Az_ hy343
       clear hy343
       have H' := Az_ H
       clear H
       try go_wp2
       replace HO_329000 := Az_ (rdz_ HO_329000.out)
       replace BK322 := Az_ (kdz_ BK322.out)
       replace BK328 := Az_ (kdz_ BK328.out)
       replace HI0 := Az_ (IsS67.drew HI0.out)
       replace HK := Az_ (keep_drew HK.out)
       replace HB := Az_ (bdz_ HB.out)
       obtain ⟨Ao32, co32, eo32⟩ := Kd.R_slice HO_329000.out
       (first | subst eo32 | (injection eo32 with f1_ f2_ f3_; have f4_ := f1_.symm; have f5_ := f3_.symm; clear f1_ f2_ f3_; subst f4_; subst f5_))
       refine start_ (n := 7) (S := fun w' => w'.cell? ⟨gb328, 0, none⟩ = some (.slice Ao32 x329000_2.length co32)) (ds := []) #[false, false, false, false, false, false, false] (w204_) rfl rfl ((blk_cell BK328.out 0).trans rfl) (fun hHeld => ?_)
       generalize wr.drew = w31 at HO_329000 BK322 BK328 HI0 HK HB hHeld ⊢
       refine pzk_ 0 20 [1,6] ?_
       refine pzk_ 3 23 [1,2,1,3] ?_
       refine take_ (i := 1) (N := some 21) (v := ?_) (a' := ?_) (mz_ [2,1,1,3]) rfl rfl (w204_) (fun _ _ _ h => h) (Or.inl ⟨by rfl, ?_⟩) hHeld ?_ ?_
       rotate_left
       ·intro w' s0
        go_simp
        with_reducible rfl
       rotate_left
       ·simp only [Act.put, usz_, utz_, uvz_, i64_w, i32_w]
        rfl
       refine pzk_ 2 22 [4,3] ?_
       refine one_ (i := 4) (N := some 24) (mz_ [5,2]) rfl rfl (w204_) (by decide) (fun K hK => ?_)
       refine goes_ Tryd.func38 (w204_) rfl #[.pointer (some ⟨g, 0, none⟩), .int .i64 2] (by rfl) rfl rfl maz_ ?_
       with_reducible refine (spec_l1Cur_pick.calls g s0_0 x1001_2 x1002_2 2 t340 t341 t342 w0 _ ?side1 ?side2 A28.out).mono ?_
       (case side1 => repeat (first | (with_reducible first | exact HI0.out | apply IsS67.alloc | apply IsS67.drewN | apply IsS67.drew | apply IsS67.set_1 | apply IsS67.set_2 | refine IsS67.far ?_ NB0_322.out _ | refine IsS67.far ?_ NB0_328.out _) | exact HI0.out))
       (case side2 => repeat (first | (with_reducible first | exact HB.out | apply baz_ | apply bnz_ | apply bdz_ | refine bsz_ ?_ (IsS67.ge HI0.out) | refine bsz_ ?_ GE322.out | refine bsz_ ?_ GE328.out) | exact HB.out))
       rintro e w33 ⟨rfl, hi, hb, hk⟩
       refine ⟨_, rfl, ?_⟩
       replace HO_329000 := Az_ (Kd.R_mono (Kd.R_keep (IsS67.apart (show IsS67 w0 _ g s0_0 x1001_2 x1002_2 from w71_) (by exact urz_ HO_329000.out) (by decide)) hk (fun _ h => h.2)) (fun _ h => h.1))
       replace BK322 := Az_ (KeepBut.blk hk (g' := gb322) (o := .cells #[.slice none 0 0] 30 (0, 0)) (by exact ukz_ BK322.out) NB322_0.out (by simp))
       replace BK328 := Az_ (KeepBut.blk hk (g' := gb328) (o := .cells #[.slice Ao32 x329000_2.length co32] 30 (0, 0)) (by exact ukz_ BK328.out) NB328_0.out (by simp))
       replace HK := Az_ (KeepBut.trans (w96_) hk (.inl rfl))
       replace HB := Az_ (hb)
       replace HI0 := Az_ (hi)
       clear hb
       clear hk
       clear hi
       refine hK.out _ _ ((blk_cell BK328.out 0).trans rfl) (fun hHeld => ?_)
       clear hK K
       refine nz_ 24 ?_
       refine pzk_ 5 25 [6,1] ?_
       refine pzk_ 6 26 [7] ?_
       refine done_ (w204_) ?_
       have hnb34 := NB328_322.out
       have hnc34 := NB322_328.out
       have hnb35 := NB328_0.out
       have hnc35 := NB0_328.out
       have hcz36_0 := cz_ (x := .slice Ao32 x329000_2.length co32) BK328 0
       have hfz36_0 := blk_frozen BK328.out 0
       try go_wp2_with (((with_reducible refine gate_builtin (b := .append) (xs := #[.tmp 28, .tmp 30]) rfl ?_); at_builtin; refine Kd.R_append k40 w.heap.size rfl (.tmp 28) (.tmp 30) 28 40 (.agg #[(.int .i64 0), (.int .i64 0), (.int .i64 0)]) 24 rfl Tryd.underlying28 info40 rfl (by decide) (by omega) (.slice Ao32 x329000_2.length co32) x329000_2 (⟨3, 2, 1⟩ : S40) [.int .i64 3, .int .i64 2, .int .i64 1] (fun _ => True) (fun _ => False) rfl rfl ?aP (fun _ hk => hk.elim) ?aF ?aO (Below.refl _ _) ?aS ?aL ?_; (case aP => exact k40_mkM _ _ _ (⟨3, 2, 1⟩ : S40)); (case aF => exact (fun _ _ => trivial)); (case aO => exact (by exact urz_ HO_329000.out)); (case aS => exact (keep_size (w := w) (g := g) (row := none) (w96_))); (case aL => have := LMc30.out; omega); intro v344 w37 ho hb hg hat; rw [← Ny343.out] at ho; replace BK322 := Az_ (blk_grown (g := gb322) (o := .cells #[.slice none 0 0] 30 (0, 0)) (by exact ukz_ BK322.out) hg (Kd.R_ne HO_329000.out BK322.out (by decide))); replace BK328 := Az_ (blk_grown (g := gb328) (o := .cells #[.slice Ao32 x329000_2.length co32] 30 (0, 0)) (by exact ukz_ BK328.out) hg (Kd.R_ne HO_329000.out BK328.out (by decide))); replace HB := Az_ (below_weaken (w108_) HL.out hb); replace HI0 := Az_ (IsS67.grown (show IsS67 w0 _ g s0_0 t341 t342 from w71_) hg (IsS67.own_ne HI0.out HO_329000.out (by decide))); replace HK := Az_ (KeepBut.trans (w96_) (KeepBut.of_grown hg g) (Kd.R_base2 HO_329000.out)); have HO345 := Az_ (ho); clear HO_329000; clear ho hb hg hat; obtain ⟨Ao38, co38, eo38⟩ := Kd.R_slice HO345.out; subst eo38; have hcz39_0 := cz_ (x := .slice Ao32 x329000_2.length co32) BK328 0; have hfz39_0 := blk_frozen BK328.out 0))
       go_roundg k2
       case measure => have := HJ3.out; have := HK2.out; omega
       case rel => exact ⟨(t341), (t342), (y343), (.slice Ao38 y343.length co38), H', ⟨w172_⟩, ⟨by (with_reducible repeat (first | apply raz_ | apply rnz_ | apply rdz_)); exact Kd.R_mono (Kd.R_far (p := ⟨gb328, 0, none⟩) (Kd.R_types HO345.out BK328.out (by decide)) (fun _ hk => hk.2) (.slice Ao38 y343.length co38)) (fun _ hk => trivial)⟩, ⟨w84_⟩, ⟨by (with_reducible repeat (first | refine knz_ ?_ _ | refine kdz_ ?_ | refine kaz_ ?_ _)); refine blk_put (cs := #[.slice Ao32 x329000_2.length co32]) ?_ 0 _ rfl; (with_reducible repeat (first | refine knz_ ?_ _ | refine kdz_ ?_ | refine kaz_ ?_ _)); exact BK328.out⟩, ⟨w71_⟩, ⟨w96_⟩, ⟨w108_⟩⟩
    ·rw [if_neg c27] at H
     have c27b0 : (t329 == 2) = false := beq_eq_false_iff_ne.mpr c27
     have c27b1 : (t329 != 2) = true := bne_iff_ne.mpr c27
     simp only [Option.some.injEq, Prod.mk.injEq] at H
     obtain ⟨rfl, rfl, rfl⟩ := H
     have hnb48 := NB328_322.out
     have hnc48 := NB322_328.out
     have hnb49 := NB328_0.out
     have hnc49 := NB0_328.out
     have hcz50_0 := cz_ (x := .slice Ao8 t323.length co8) BK328 0
     have hfz50_0 := blk_frozen BK328.out 0
     have hnb51 := NB322_0.out
     have hnc51 := NB0_322.out
     have hcz52_0 := cz_ (x := .slice none 0 0) BK322 0
     have hfz52_0 := blk_frozen BK322.out 0
     go_wp2
     refine bodyPost_ret (results_cell_row rfl _ _ gb322 30 #[.slice Ao8 t323.length co8] (0, 0) _ rfl (w42_) Tryd.underlying30 rfl (w204_)) rfl ?_
     exact ⟨_, w166_, by (with_reducible repeat (first | apply raz_ | apply rnz_ | apply rdz_)); exact Kd.R_mono (Kd.R_far (p := ⟨gb322, 0, none⟩) (Kd.R_types HO_329000.out BK322.out (by decide)) (fun _ hk => hk.2) (.slice Ao8 t323.length co8)) (fun _ hk => trivial), w71_, w108_, w96_⟩


def spec_DrawHarderPuzzle.f (k : Nat) (l0 : List Int) : Option ((List (S40))) := (spec_l1Cur_one.f l0 0 0 4).bind fun bt348 => (if bt348.1 = true then ((spec_l1Cur_puzzle.f k l0 bt348.2.1 bt348.2.2).bind fun bt351 => (some bt351.1)) else ((spec_l1Cur_hidden.f l0 bt348.2.1 bt348.2.2).bind fun bt356 => ((spec_l1Cur_pick.f l0 bt356.2.2.1 bt356.2.2.2 3).bind fun bt361 => ((spec_l1Cur_pick.f l0 bt361.2.1 bt361.2.2 10000).bind fun bt364 => ((spec_MakePuzzle.f k bt356.1 bt356.2.1 bt361.1 bt364.1).bind fun bt367 => ((spec_pzOf.f k 0 0 bt356.1 bt356.2.1).bind fun bt372 => ((spec_pzOf.f k 5 0 bt356.1 bt356.2.1).bind fun bt375 => ((some (([(⟨bt372.1, bt372.2.1, bt372.2.2⟩ : S40), (⟨bt375.1, bt375.2.1, bt375.2.2⟩ : S40)] : List (S40)) : List (S40))).bind fun y378 => (if bt367.1.length + y378.length < 5864062014805 then (some (bt367.1 ++ y378)) else (none))))))))))
def spec_DrawHarderPuzzle.T5 : Bool × List (List Nat × List Nat) := (true, [([], []), ([], []), ([1], [1]), ([], []), ([3, 2], [3]), ([0, 2, 4, 4], [0, 2, 4]), ([5], [5]), ([6], [6]), ([6], [6]), ([], []), ([9, 7, 5, 0, 1, 2, 3, 4, 5, 6, 7, 9], [7, 9]), ([8, 10, 0, 1, 2, 3, 4, 5, 6, 7, 8, 9, 10], [8])])
def spec_DrawHarderPuzzle.B5 : List Nat := [0, 0, 2, 0, 14, 31, 63, 127, 127, 0, 767, 2047]
theorem spec_DrawHarderPuzzle.tab5 : rtab .any (opsOf Tryd.f16 5) = spec_DrawHarderPuzzle.T5 := by kernel_rfl
theorem spec_DrawHarderPuzzle.bits5 : waitsOk spec_DrawHarderPuzzle.T5.2 spec_DrawHarderPuzzle.B5 = true := by kernel_rfl
def spec_DrawHarderPuzzle.T6 : Bool × List (List Nat × List Nat) := (true, [([], []), ([0], [0]), ([], []), ([2], [2]), ([], []), ([4, 3], [4]), ([3, 5], [3, 5]), ([1, 6, 5], [1, 6]), ([0, 1, 2, 3, 4, 5, 6, 7], []), ([8, 7, 7, 0, 1, 2, 3, 4, 5, 6, 7], [7, 8])])
def spec_DrawHarderPuzzle.B6 : List Nat := [0, 1, 0, 4, 0, 28, 60, 127, 255, 511]
theorem spec_DrawHarderPuzzle.tab6 : rtab .any (opsOf Tryd.f16 6) = spec_DrawHarderPuzzle.T6 := by kernel_rfl
theorem spec_DrawHarderPuzzle.bits6 : waitsOk spec_DrawHarderPuzzle.T6.2 spec_DrawHarderPuzzle.B6 = true := by kernel_rfl
set_option maxHeartbeats 8000000 in
set_option maxRecDepth 100000 in
theorem spec_DrawHarderPuzzle.calls (k : Nat) (A0 : Option Addr) (c0 : Nat) (l0 : List Int) (r : List (S40)) (w : World) (hr0 : Kd.C (Kd.int .u8) w A0 l0.length l0) (hc0 : l0.length ≤ c0) (h : spec_DrawHarderPuzzle.f k l0 = some r) :
  Calls Tryd.prog 16 #[.slice A0 l0.length c0] w fun e w' => ∃ v0_ : Value, e = .returned (.agg #[v0_]) ∧ Kd.R k40 40 w' w.heap.size (fun _ => True) v0_ r ∧ Below w.heap.size w w' := by
 have hu30 := Tryd.underlying30
 have hu67 := Tryd.underlying67
 have hu25 := Tryd.underlying25
 have HR0 := Az_ hr0
 have HC0 := Az_ hc0
 clear hr0 hc0
 have HB := Az_ (Below.refl w.heap.size w)
 have H : ((spec_l1Cur_one.f l0 0 0 4).bind fun bt348 => (if bt348.1 = true then ((spec_l1Cur_puzzle.f k l0 bt348.2.1 bt348.2.2).bind fun bt351 => (some bt351.1)) else ((spec_l1Cur_hidden.f l0 bt348.2.1 bt348.2.2).bind fun bt356 => ((spec_l1Cur_pick.f l0 bt356.2.2.1 bt356.2.2.2 3).bind fun bt361 => ((spec_l1Cur_pick.f l0 bt361.2.1 bt361.2.2 10000).bind fun bt364 => ((spec_MakePuzzle.f k bt356.1 bt356.2.1 bt361.1 bt364.1).bind fun bt367 => ((spec_pzOf.f k 0 0 bt356.1 bt356.2.1).bind fun bt372 => ((spec_pzOf.f k 5 0 bt356.1 bt356.2.1).bind fun bt375 => ((some (([(⟨bt372.1, bt372.2.1, bt372.2.2⟩ : S40), (⟨bt375.1, bt375.2.1, bt375.2.2⟩ : S40)] : List (S40)) : List (S40))).bind fun y378 => (if bt367.1.length + y378.length < 5864062014805 then (some (bt367.1 ++ y378)) else (none))))))))))) = some r := h
 clear h
 replace H := bqz_ H; obtain ⟨⟨t348, t349, t350⟩, A2, H⟩ := H
 replace H : (if t348 = true then ((spec_l1Cur_puzzle.f k l0 t349 t350).bind fun bt351 => (some bt351.1)) else ((spec_l1Cur_hidden.f l0 t349 t350).bind fun bt356 => ((spec_l1Cur_pick.f l0 bt356.2.2.1 bt356.2.2.2 3).bind fun bt361 => ((spec_l1Cur_pick.f l0 bt361.2.1 bt361.2.2 10000).bind fun bt364 => ((spec_MakePuzzle.f k bt356.1 bt356.2.1 bt361.1 bt364.1).bind fun bt367 => ((spec_pzOf.f k 0 0 bt356.1 bt356.2.1).bind fun bt372 => ((spec_pzOf.f k 5 0 bt356.1 bt356.2.1).bind fun bt375 => ((some (([(⟨bt372.1, bt372.2.1, bt372.2.2⟩ : S40), (⟨bt375.1, bt375.2.1, bt375.2.2⟩ : S40)] : List (S40)) : List (S40))).bind fun y378 => (if bt367.1.length + y378.length < 5864062014805 then (some (bt367.1 ++ y378)) else (none)))))))))) = some r := H
 by_cases c3 : t348 = true
 ·subst c3
  rw [if_pos rfl] at H
  replace H := bqz_ H; obtain ⟨⟨t351, t354, t355⟩, A4, H⟩ := H
  replace H : (some t351) = some r := H
  obtain rfl := Option.some.inj H
  go_enter Tryd.func16, Tryd.ntmps16
  go_wp2_with (first | ((with_reducible refine gate_dst (N := 2) rfl ?_); refine bxe_ (N := 2) (cs := #[.slice none 0 0]) (t := 30) ?_; intro gb346 hg w5 BK346 hb; have GW346 := gez_ hg (ubz_ HB.out); have GE346 := GW346; replace HB := Az_ (btz_ (ubz_ HB.out) hb); clear hb hg) | ((with_reducible refine gate_dst (N := 9) rfl ?_); refine bxe_ (N := 9) (cs := #[.slice A0 l0.length c0, .int .i64 0, .int .u64 0]) (t := 67) ?_; intro gb347 hg w6 BK347 hb; obtain ⟨NB346_347, NB347_346⟩ := nez_ BK346 hg; have GW347 : Aside0 (w.heap.size ≤ gb347) := gez_ hg (w129_); have GE347 := GW347; replace HB := Az_ (btz_ (w129_) hb); replace BK346 := Az_ (ukbz_ BK346.out hb); clear hb hg) | ((with_reducible refine gate_callee (f := 35) rfl ?_); refine goesL_ (some 11) rfl rfl Tryd.func35 (w204_) rfl #[.pointer (some ⟨gb347, 0, none⟩), .int .i64 4] rfl maz_ ?_; have HI347 := Az_ (show IsS67 w w6 gb347 l0 0 0 from ⟨_, _, BK347.out, GE347.out, HR0.out⟩); (with_reducible refine (spec_l1Cur_one.calls gb347 l0 0 0 4 true t349 t350 w _ ?side1 ?side2 A2.out).mono ?_); (case side1 => repeat (first | (with_reducible first | exact HI347.out | apply IsS67.alloc | apply IsS67.drewN | apply IsS67.drew | apply IsS67.set_1 | apply IsS67.set_2 | refine IsS67.far ?_ NB347_346.out _) | exact HI347.out)); (case side2 => repeat (first | (with_reducible first | exact HB.out | apply baz_ | apply bnz_ | apply bdz_ | refine bsz_ ?_ (IsS67.ge HI347.out) | refine bsz_ ?_ GE346.out) | exact HB.out)); rintro e w7 ⟨rfl, hi, hb, hk⟩; refine ⟨_, rfl, ?_⟩; replace BK346 := Az_ (KeepBut.blk hk (g' := gb346) (o := .cells #[.slice none 0 0] 30 (0, 0)) (w183_) NB346_347.out (by simp)); replace HB := Az_ (hb); replace HI347 := Az_ (hi); (try clear hb); (try clear hk); (try clear hi)) | ((with_reducible refine gate_callee (f := 53) rfl ?_); refine goesL_ (some 13) rfl rfl Tryd.func53 (w204_) rfl #[.pointer (some ⟨gb347, 0, none⟩)] rfl maz_ ?_; (with_reducible refine (spec_l1Cur_puzzle.calls k gb347 l0 t349 t350 t351 t354 t355 w _ ?side1 ?side2 A4.out).mono ?_); (case side1 => repeat (first | (with_reducible first | exact HI347.out | apply IsS67.alloc | apply IsS67.drewN | apply IsS67.drew | apply IsS67.set_1 | apply IsS67.set_2 | refine IsS67.far ?_ NB347_346.out _) | exact HI347.out)); (case side2 => repeat (first | (with_reducible first | exact HB.out | apply baz_ | apply bnz_ | apply bdz_ | refine bsz_ ?_ (IsS67.ge HI347.out) | refine bsz_ ?_ GE346.out) | exact HB.out)); rintro e w8 ⟨v352, rfl, ho0, hi, hb, hk⟩; refine ⟨_, rfl, ?_⟩; replace BK346 := Az_ (KeepBut.blk hk (g' := gb346) (o := .cells #[.slice none 0 0] 30 (0, 0)) (w183_) NB346_347.out (by simp)); have HO353 := Az_ (Kd.R_lower ho0 (below_size (w114_))); replace HB := Az_ (hb); replace HI347 := Az_ (hi); (try clear hb); (try clear hk); (try clear hi); (try clear ho0); obtain ⟨Ao9, co9, eo9⟩ := Kd.R_slice HO353.out; subst eo9; have hnb10 := NB346_347.out; have hnc10 := NB347_346.out; have hcz11_0 := cz_ (x := .slice none 0 0) BK346 0; have hfz11_0 := blk_frozen BK346.out 0))
  refine bodyPost_ret (results_cell_row rfl _ _ gb346 30 #[.slice Ao9 t351.length co9] (0, 0) _ rfl (by (with_reducible repeat (first | refine knz_ ?_ _ | refine kdz_ ?_ | refine kaz_ ?_ _)); refine blk_put (cs := #[.slice none 0 0]) ?_ 0 _ rfl; (with_reducible repeat (first | refine knz_ ?_ _ | refine kdz_ ?_ | refine kaz_ ?_ _)); exact BK346.out) Tryd.underlying30 rfl (w204_)) rfl ?_
  exact ⟨_, w166_, by (with_reducible repeat (first | apply raz_ | apply rnz_ | apply rdz_)); exact Kd.R_mono (Kd.R_far (p := ⟨gb346, 0, none⟩) (Kd.R_types HO353.out BK346.out (by decide)) (fun _ hk => hk.2) (.slice Ao9 t351.length co9)) (fun _ hk => trivial), w114_⟩
 ·replace c3 := Bool.eq_false_iff.mpr c3
  subst c3
  rw [if_neg nfz_] at H
  replace H := bqz_ H; obtain ⟨⟨t356, t357, t358, t359⟩, A12, H⟩ := H
  replace H := bqz_ H; obtain ⟨⟨t361, t362, t363⟩, A13, H⟩ := H
  replace H := bqz_ H; obtain ⟨⟨t364, t365, t366⟩, A14, H⟩ := H
  replace H := bqz_ H; obtain ⟨⟨t367, t370⟩, A15, H⟩ := H
  replace H := bqz_ H; obtain ⟨⟨t372, t373, t374⟩, A16, H⟩ := H
  replace H := bqz_ H; obtain ⟨⟨t375, t376, t377⟩, A17, H⟩ := H
  replace H : ((some (([(⟨t372, t373, t374⟩ : S40), (⟨t375, t376, t377⟩ : S40)] : List (S40)) : List (S40))).bind fun y378 => (if t367.length + y378.length < 5864062014805 then (some (t367 ++ y378)) else (none))) = some r := H
  obtain ⟨y378, hy378⟩ : ∃ y_ : List (S40), y_ = (([(⟨t372, t373, t374⟩ : S40), (⟨t375, t376, t377⟩ : S40)] : List (S40))) := ⟨_, rfl⟩
  replace H : (if t367.length + y378.length < 5864062014805 then (some (t367 ++ y378)) else (none)) = some r := by first | (rw [hy378]; with_reducible exact H) | (have H2_ := (Option.bind_some _ _).symm.trans H; rw [hy378]; with_reducible exact H2_) | (have H2_ := (Option.bind_some _ _).symm.trans H; with_reducible exact H2_) | with_reducible exact H | (rw [hy378]; exact H) | exact H
  have Ny378 := Az_ hy378
  clear hy378
  by_cases c18 : t367.length + y378.length < 5864062014805
  ·rw [if_pos c18] at H
   have LMc18 := Az_ c18
   clear c18
   obtain ⟨y381, hy381⟩ : ∃ y_ : List (S40), y_ = (t367 ++ y378) := ⟨_, rfl⟩
   replace H : (some y381) = some r := by first | (rw [hy381]; with_reducible exact H) | (have H2_ := (Option.bind_some _ _).symm.trans H; rw [hy381]; with_reducible exact H2_) | (have H2_ := (Option.bind_some _ _).symm.trans H; with_reducible exact H2_) | with_reducible exact H | (rw [hy381]; exact H) | exact H
   have Ny381 := Az_ hy381
   clear hy381
   obtain rfl := Option.some.inj H
   go_enter Tryd.func16, Tryd.ntmps16
   try go_wp2_with (first | ((with_reducible refine gate_dst (N := 2) rfl ?_); refine bxe_ (N := 2) (cs := #[.slice none 0 0]) (t := 30) ?_; intro gb346 hg w19 BK346 hb; have GW346 := gez_ hg (ubz_ HB.out); have GE346 := GW346; replace HB := Az_ (btz_ (ubz_ HB.out) hb); clear hb hg) | ((with_reducible refine gate_dst (N := 9) rfl ?_); refine bxe_ (N := 9) (cs := #[.slice A0 l0.length c0, .int .i64 0, .int .u64 0]) (t := 67) ?_; intro gb347 hg w20 BK347 hb; obtain ⟨NB346_347, NB347_346⟩ := nez_ BK346 hg; have GW347 : Aside0 (w.heap.size ≤ gb347) := gez_ hg (w129_); have GE347 := GW347; replace HB := Az_ (btz_ (w129_) hb); replace BK346 := Az_ (ukbz_ BK346.out hb); clear hb hg) | ((with_reducible refine gate_callee (f := 35) rfl ?_); refine goesL_ (some 11) rfl rfl Tryd.func35 (w204_) rfl #[.pointer (some ⟨gb347, 0, none⟩), .int .i64 4] rfl maz_ ?_; have HI347 := Az_ (show IsS67 w w20 gb347 l0 0 0 from ⟨_, _, BK347.out, GE347.out, HR0.out⟩); (with_reducible refine (spec_l1Cur_one.calls gb347 l0 0 0 4 false t349 t350 w _ ?side1 ?side2 A2.out).mono ?_); (case side1 => repeat (first | (with_reducible first | exact HI347.out | apply IsS67.alloc | apply IsS67.drewN | apply IsS67.drew | apply IsS67.set_1 | apply IsS67.set_2 | refine IsS67.far ?_ NB347_346.out _) | exact HI347.out)); (case side2 => repeat (first | (with_reducible first | exact HB.out | apply baz_ | apply bnz_ | apply bdz_ | refine bsz_ ?_ (IsS67.ge HI347.out) | refine bsz_ ?_ GE346.out) | exact HB.out)); rintro e w21 ⟨rfl, hi, hb, hk⟩; refine ⟨_, rfl, ?_⟩; replace BK346 := Az_ (KeepBut.blk hk (g' := gb346) (o := .cells #[.slice none 0 0] 30 (0, 0)) (w183_) NB346_347.out (by simp)); replace HB := Az_ (hb); replace HI347 := Az_ (hi); (try clear hb); (try clear hk); (try clear hi)) | ((with_reducible refine gate_callee (f := 37) rfl ?_); refine goesL_ (some 15) rfl rfl Tryd.func37 (w204_) rfl #[.pointer (some ⟨gb347, 0, none⟩)] rfl maz_ ?_; (with_reducible refine (spec_l1Cur_hidden.calls gb347 l0 t349 t350 t356 t357 t358 t359 w _ ?side1 ?side2 A12.out).mono ?_); (case side1 => repeat (first | (with_reducible first | exact HI347.out | apply IsS67.alloc | apply IsS67.drewN | apply IsS67.drew | apply IsS67.set_1 | apply IsS67.set_2 | refine IsS67.far ?_ NB347_346.out _) | exact HI347.out)); (case side2 => repeat (first | (with_reducible first | exact HB.out | apply baz_ | apply bnz_ | apply bdz_ | refine bsz_ ?_ (IsS67.ge HI347.out) | refine bsz_ ?_ GE346.out) | exact HB.out)); rintro e w22 ⟨rfl, hi, hb, hk⟩; refine ⟨_, rfl, ?_⟩; replace BK346 := Az_ (KeepBut.blk hk (g' := gb346) (o := .cells #[.slice none 0 0] 30 (0, 0)) (w183_) NB346_347.out (by simp)); replace HB := Az_ (hb); replace HI347 := Az_ (hi); (try clear hb); (try clear hk); (try clear hi)) | ((with_reducible refine gate_dst (N := 4) rfl ?_); refine bxe_ (N := 4) (cs := #[.int .i64 0, .int .i64 0]) (t := 25) ?_; intro gb360 hg w23 BK360 hb; obtain ⟨NB346_360, NB360_346⟩ := nez_ BK346 hg; have GW360 : Aside0 (w.heap.size ≤ gb360) := gez_ hg (w114_); have GE360 := GW360; replace HB := Az_ (btz_ (w114_) hb); have NB347_360 := Az_ ((by rw [hg]; exact Nat.ne_of_lt (IsS67.lt (show IsS67 w _ gb347 l0 t358 t359 from w97_)) : gb347 ≠ gb360)); have NB360_347 := Az_ ((by rw [hg]; exact Nat.ne_of_gt (IsS67.lt (show IsS67 w _ gb347 l0 t358 t359 from w97_)) : gb360 ≠ gb347)); replace HI347 := Az_ (IsS67.below (w97_) hb); replace BK346 := Az_ (ukbz_ BK346.out hb); clear hb hg; have hnb24 := NB360_346.out; have hnc24 := NB346_360.out; have hnb25 := NB360_347.out; have hnc25 := NB347_360.out; have hcz26_0 := cz_ (x := .int .i64 0) BK360 0; have hcz26_1 := cz_ (x := .int .i64 0) BK360 1; have hfz26_0 := blk_frozen BK360.out 0; have hfz26_1 := blk_frozen BK360.out 1))
   have n0_ : Aside0 (((w23.setCell ⟨gb360, 0, none⟩ (.int .i64 t356)).setCell ⟨gb360, 1, none⟩ (.int .i64 t357)).heap[gb346]? = some (.cells #[.slice none 0 0] 30 (0, 0))) := ⟨by (with_reducible repeat (first | refine knz_ ?_ _ | refine kdz_ ?_ | refine kaz_ ?_ _)); refine blk_far ?_ NB346_360.out _; (with_reducible repeat (first | refine knz_ ?_ _ | refine kdz_ ?_ | refine kaz_ ?_ _)); refine blk_far ?_ NB346_360.out _; (with_reducible repeat (first | refine knz_ ?_ _ | refine kdz_ ?_ | refine kaz_ ?_ _)); exact BK346.out⟩
   have n1_ : Aside0 (((w23.setCell ⟨gb360, 0, none⟩ (.int .i64 t356)).setCell ⟨gb360, 1, none⟩ (.int .i64 t357)).heap[gb360]? = some (.cells #[.int .i64 t356, .int .i64 t357] 25 (0, 0))) := ⟨by (with_reducible repeat (first | refine knz_ ?_ _ | refine kdz_ ?_ | refine kaz_ ?_ _)); refine blk_put (cs := #[.int .i64 t356, .int .i64 0]) ?_ 1 _ rfl; (with_reducible repeat (first | refine knz_ ?_ _ | refine kdz_ ?_ | refine kaz_ ?_ _)); refine blk_put (cs := #[.int .i64 0, .int .i64 0]) ?_ 0 _ rfl; (with_reducible repeat (first | refine knz_ ?_ _ | refine kdz_ ?_ | refine kaz_ ?_ _)); exact BK360.out⟩
   have n2_ : Aside0 (IsS67 w ((w23.setCell ⟨gb360, 0, none⟩ (.int .i64 t356)).setCell ⟨gb360, 1, none⟩ (.int .i64 t357)) gb347 l0 t358 t359) := ⟨w37_⟩
   have n3_ : Aside0 (Below w.heap.size w ((w23.setCell ⟨gb360, 0, none⟩ (.int .i64 t356)).setCell ⟨gb360, 1, none⟩ (.int .i64 t357))) := ⟨w104_⟩
   clear BK346
   clear BK360
   clear HI347
   clear HB
   generalize ((w23.setCell ⟨gb360, 0, none⟩ (.int .i64 t356)).setCell ⟨gb360, 1, none⟩ (.int .i64 t357)) = w27 at n0_ n1_ n2_ n3_ ⊢
   have BK346 := n0_
   have BK360 := n1_
   have HI347 := n2_
   have HB := n3_
   clear n0_ n1_ n2_ n3_
   replace BK346 := Az_ (kdz_ BK346.out)
   replace BK360 := Az_ (kdz_ BK360.out)
   replace HI347 := Az_ (IsS67.drew HI347.out)
   replace HB := Az_ (bdz_ HB.out)
   refine start_ (n := 12) (S := fun w' => w'.cell? ⟨gb360, 0, none⟩ = some (.int .i64 t356) ∧ w'.cell? ⟨gb360, 1, none⟩ = some (.int .i64 t357)) (ds := []) #[false, false, false, false, false, false, false, false, false, false, false, false] (w204_) rfl rfl ⟨(blk_cell BK360.out 0).trans rfl, (blk_cell BK360.out 1).trans rfl⟩ (fun hHeld => ?_); refine with_tabW spec_DrawHarderPuzzle.tab5 spec_DrawHarderPuzzle.bits5 (fun HT_ HW_ => ?_)
   generalize w27.drew = w28 at BK346 BK360 HI347 HB hHeld ⊢
   refine pz_ 1 18 [0,1,1,10] ?_
   refine pz_ 3 20 [0,1,1,1,1,8] ?_
   refine tz2_ 0 17 [2,1,1,8] ?_
   refine join_ (σ := Value × Nat) 2 #[true, true, true, true, true, true, true, true, true, true, false, false] (fun s_ => [(19, .int .i64 t361), (21, .int .i64 t364), (22, .tuple #[.agg #[s_.1], .bool t370]), (5, .pointer (some ⟨s_.2, 0, none⟩)), (16, .tuple #[.agg #[s_.1], .bool t370]), (23, .agg #[s_.1]), (24, .bool t370)]) (fun s_ w' => (w'.cell? ⟨gb360, 0, none⟩ = some (.int .i64 t356) ∧ w'.cell? ⟨gb360, 1, none⟩ = some (.int .i64 t357)) ∧ (Kd.R k40 40 w' w.heap.size (fun _ => True) s_.1 t367) ∧ (w'.heap[gb346]? = some (.cells #[.slice none 0 0] 30 (0, 0))) ∧ (w'.heap[gb360]? = some (.cells #[.int .i64 t356, .int .i64 t357] 25 (0, 0))) ∧ (w'.heap[s_.2]? = some (.cells #[.slice none 0 0] 30 (0, 0))) ∧ (w.heap.size ≤ s_.2) ∧ (w.heap.size ≤ s_.2) ∧ (gb347 ≠ s_.2) ∧ (s_.2 ≠ gb347) ∧ (gb346 ≠ s_.2) ∧ (s_.2 ≠ gb346) ∧ (gb360 ≠ s_.2) ∧ (s_.2 ≠ gb360) ∧ (IsS67 w w' gb347 l0 t365 t366) ∧ (Below w.heap.size w w')) ?_ ?_
   rotate_left
   ·intro hCont
    refine two_ (i := 2) (j := 9) (Ni := some 19) (Nj := some 5) (mz_ [4,8]) #[true, true, false, true, false, false, false, false, false, true, false, false] rfl rfl rfl rfl (two_of HT_.out (w204_)) (by decide) (by decide) (fun K hK => ?_) (fun K hK => ?_)
    ·skip
     refine goes_ Tryd.func38 (w204_) rfl #[.pointer (some ⟨gb347, 0, none⟩), .int .i64 3] (by rfl) rfl rfl maz_ ?_
     with_reducible refine (spec_l1Cur_pick.calls gb347 l0 t358 t359 3 t361 t362 t363 w _ ?side1 ?side2 A13.out).mono ?_
     (case side1 => repeat (first | (with_reducible first | exact HI347.out | apply IsS67.alloc | apply IsS67.drewN | apply IsS67.drew | apply IsS67.set_1 | apply IsS67.set_2 | refine IsS67.far ?_ NB347_346.out _ | refine IsS67.far ?_ NB347_360.out _) | exact HI347.out))
     (case side2 => repeat (first | (with_reducible first | exact HB.out | apply baz_ | apply bnz_ | apply bdz_ | refine bsz_ ?_ (IsS67.ge HI347.out) | refine bsz_ ?_ GE346.out | refine bsz_ ?_ GE360.out) | exact HB.out))
     rintro e w29 ⟨rfl, hi, hb, hk⟩
     refine ⟨_, rfl, ?_⟩
     replace BK346 := Az_ (KeepBut.blk hk (g' := gb346) (o := .cells #[.slice none 0 0] 30 (0, 0)) (w183_) NB346_347.out (by simp))
     replace BK360 := Az_ (KeepBut.blk hk (g' := gb360) (o := .cells #[.int .i64 t356, .int .i64 t357] 25 (0, 0)) (w184_) NB360_347.out (by simp))
     replace HB := Az_ (hb)
     replace HI347 := Az_ (hi)
     clear hb
     clear hk
     clear hi
     refine hK.out _ _ ⟨(blk_cell BK360.out 0).trans rfl, (blk_cell BK360.out 1).trans rfl⟩ (fun hHeld => ?_)
     clear hK K
     refine nz_ 19 ?_
     refine two_ (i := 4) (j := 9) (Ni := some 21) (Nj := some 5) (mz_ [5,7]) #[true, true, true, true, false, false, false, false, false, true, false, false] rfl rfl rfl rfl (two_of HT_.out (w204_)) (by decide) (by decide) (fun K hK => ?_) (fun K hK => ?_)
     ·skip
      refine goes_ Tryd.func38 (w204_) rfl #[.pointer (some ⟨gb347, 0, none⟩), .int .i64 10000] (by rfl) rfl rfl maz_ ?_
      with_reducible refine (spec_l1Cur_pick.calls gb347 l0 t362 t363 10000 t364 t365 t366 w _ ?side1 ?side2 A14.out).mono ?_
      (case side1 => repeat (first | (with_reducible first | exact HI347.out | apply IsS67.alloc | apply IsS67.drewN | apply IsS67.drew | apply IsS67.set_1 | apply IsS67.set_2 | refine IsS67.far ?_ NB347_346.out _ | refine IsS67.far ?_ NB347_360.out _) | exact HI347.out))
      (case side2 => repeat (first | (with_reducible first | exact HB.out | apply baz_ | apply bnz_ | apply bdz_ | refine bsz_ ?_ (IsS67.ge HI347.out) | refine bsz_ ?_ GE346.out | refine bsz_ ?_ GE360.out) | exact HB.out))
      rintro e w30 ⟨rfl, hi, hb, hk⟩
      refine ⟨_, rfl, ?_⟩
      replace BK346 := Az_ (KeepBut.blk hk (g' := gb346) (o := .cells #[.slice none 0 0] 30 (0, 0)) (w183_) NB346_347.out (by simp))
      replace BK360 := Az_ (KeepBut.blk hk (g' := gb360) (o := .cells #[.int .i64 t356, .int .i64 t357] 25 (0, 0)) (w184_) NB360_347.out (by simp))
      replace HB := Az_ (hb)
      replace HI347 := Az_ (hi)
      clear hb
      clear hk
      clear hi
      refine hK.out _ _ ⟨(blk_cell BK360.out 0).trans rfl, (blk_cell BK360.out 1).trans rfl⟩ (fun hHeld => ?_)
      clear hK K
      refine nz_ 21 ?_
      refine two_ (i := 5) (j := 9) (Ni := some 22) (Nj := some 5) (mz_ [6,6]) #[true, true, true, true, true, false, false, false, false, true, false, false] rfl rfl rfl rfl (two_of HT_.out (w204_)) (by decide) (by decide) (fun K hK => ?_) (fun K hK => ?_)
      ·skip
       refine goes_ Tryd.func7 (w204_) rfl #[.agg #[.int .i64 t356, .int .i64 t357], .int .i64 t361, .int .i64 t364] (by rfl) rfl rfl maz_ ?_
       with_reducible refine (spec_MakePuzzle.calls k t356 t357 t361 t364 t367 t370 _ A15.out).mono ?_
       rintro e w31 ⟨v368, rfl, ho0, hb⟩
       refine ⟨_, rfl, ?_⟩
       have n0_ := Az_ (Kd.R_lower ho0 (below_size (w104_)))
       have n2_ := Az_ (IsS67.below (w37_) hb)
       have n4_ := Az_ (btz_ (w104_) hb)
       clear HI347 HB
       have HO369 := n0_
       replace BK346 := Az_ (ukbz_ BK346.out hb)
       have HI347 := n2_
       replace BK360 := Az_ (ukbz_ BK360.out hb)
       have HB := n4_
       clear n0_ n2_ n4_
       clear hb
       clear ho0
       refine hK.out _ _ ⟨(blk_cell BK360.out 0).trans rfl, (blk_cell BK360.out 1).trans rfl⟩ (fun hHeld => ?_)
       clear hK K
       refine nz_ 22 ?_
       refine pz_ 6 16 [7,5] ?_
       refine pz_ 7 23 [8,4] ?_
       refine pz_ 8 24 [9,3] ?_
       refine one_ (i := 9) (N := some 5) (mz_ [10,2]) rfl rfl (one_of HT_.out (w204_)) (by decide) (fun K hK => ?_)
       refine box_step ?hg (N := 5) ?hd (cs := #[.slice none 0 0]) (t := 30) ?hr ?_; (case hd => rfl); (case hg => rfl); (case hr => first | (go_simp; done) | (go_simp; rfl))
       intro gb371 hg w32 hbox hb
       have n0_ := Az_ (Kd.R_below (w185_) hb)
       have n2_ := Az_ (IsS67.below (w37_) hb)
       have n4_ := Az_ (btz_ (w104_) hb)
       have n5_ := Az_ (hbox)
       have n6_ := Az_ ((by rw [hg]; exact (below_size (w104_)) : w.heap.size ≤ gb371))
       have n7_ := Az_ ((by rw [hg]; exact (below_size (w104_)) : w.heap.size ≤ gb371))
       have n8_ := Az_ ((by rw [hg]; exact Nat.ne_of_lt (uklz_ BK346.out) : gb346 ≠ gb371))
       have n9_ := Az_ ((by rw [hg]; exact Nat.ne_of_gt (uklz_ BK346.out) : gb371 ≠ gb346))
       have n10_ := Az_ ((by rw [hg]; exact Nat.ne_of_lt (uklz_ BK360.out) : gb360 ≠ gb371))
       have n11_ := Az_ ((by rw [hg]; exact Nat.ne_of_gt (uklz_ BK360.out) : gb371 ≠ gb360))
       have n12_ := Az_ ((by rw [hg]; exact Nat.ne_of_lt (IsS67.lt (show IsS67 w _ gb347 l0 t365 t366 from w37_)) : gb347 ≠ gb371))
       have n13_ := Az_ ((by rw [hg]; exact Nat.ne_of_gt (IsS67.lt (show IsS67 w _ gb347 l0 t365 t366 from w37_)) : gb371 ≠ gb347))
       clear HO369 HI347 HB
       have HO369 := n0_
       replace BK346 := Az_ (ukbz_ BK346.out hb)
       have HI347 := n2_
       replace BK360 := Az_ (ukbz_ BK360.out hb)
       have HB := n4_
       have BK371 := n5_
       have GW371 := n6_
       have GE371 := n7_
       have NB346_371 := n8_
       have NB371_346 := n9_
       have NB360_371 := n10_
       have NB371_360 := n11_
       have NB347_371 := n12_
       have NB371_347 := n13_
       clear n0_ n2_ n4_ n5_ n6_ n7_ n8_ n9_ n10_ n11_ n12_ n13_ hb hbox hg
       refine hK.out _ _ ⟨(blk_cell BK360.out 0).trans rfl, (blk_cell BK360.out 1).trans rfl⟩ (fun hHeld => ?_)
       clear hK K
       refine nz_ 5 ?_
       exact norm_ (w165_) (hCont (v368, gb371) _ ⟨hHeld, (w185_), (w183_), (w184_), (w186_), GW371.out, GE371.out, NB347_371.out, NB371_347.out, NB346_371.out, NB371_346.out, NB360_371.out, NB371_360.out, (w33_), (w77_)⟩)
      ·skip
       refine box_step ?hg (N := 5) ?hd (cs := #[.slice none 0 0]) (t := 30) ?hr ?_; (case hd => rfl); (case hg => rfl); (case hr => first | (go_simp; done) | (go_simp; rfl))
       intro gb371 hg w31 hbox hb
       have n1_ := Az_ (IsS67.below (w37_) hb)
       have n3_ := Az_ (btz_ (w104_) hb)
       have n4_ := Az_ (hbox)
       have n5_ := Az_ ((by rw [hg]; exact (below_size (w104_)) : w.heap.size ≤ gb371))
       have n6_ := Az_ ((by rw [hg]; exact (below_size (w104_)) : w.heap.size ≤ gb371))
       have n7_ := Az_ ((by rw [hg]; exact Nat.ne_of_lt (uklz_ BK346.out) : gb346 ≠ gb371))
       have n8_ := Az_ ((by rw [hg]; exact Nat.ne_of_gt (uklz_ BK346.out) : gb371 ≠ gb346))
       have n9_ := Az_ ((by rw [hg]; exact Nat.ne_of_lt (uklz_ BK360.out) : gb360 ≠ gb371))
       have n10_ := Az_ ((by rw [hg]; exact Nat.ne_of_gt (uklz_ BK360.out) : gb371 ≠ gb360))
       have n11_ := Az_ ((by rw [hg]; exact Nat.ne_of_lt (IsS67.lt (show IsS67 w _ gb347 l0 t365 t366 from w37_)) : gb347 ≠ gb371))
       have n12_ := Az_ ((by rw [hg]; exact Nat.ne_of_gt (IsS67.lt (show IsS67 w _ gb347 l0 t365 t366 from w37_)) : gb371 ≠ gb347))
       clear HI347 HB
       replace BK346 := Az_ (ukbz_ BK346.out hb)
       have HI347 := n1_
       replace BK360 := Az_ (ukbz_ BK360.out hb)
       have HB := n3_
       have BK371 := n4_
       have GW371 := n5_
       have GE371 := n6_
       have NB346_371 := n7_
       have NB371_346 := n8_
       have NB360_371 := n9_
       have NB371_360 := n10_
       have NB347_371 := n11_
       have NB371_347 := n12_
       clear n1_ n3_ n4_ n5_ n6_ n7_ n8_ n9_ n10_ n11_ n12_ hb hbox hg
       refine hK.out _ _ ⟨(blk_cell BK360.out 0).trans rfl, (blk_cell BK360.out 1).trans rfl⟩ (fun hHeld => ?_)
       clear hK K
       refine nz_ 5 ?_
       refine one_ (i := 5) (N := some 22) (mz_ [6,3,1,2]) rfl rfl (one_of HT_.out (w204_)) (by decide) (fun K hK => ?_)
       refine goes_ Tryd.func7 (w204_) rfl #[.agg #[.int .i64 t356, .int .i64 t357], .int .i64 t361, .int .i64 t364] (by rfl) rfl rfl maz_ ?_
       with_reducible refine (spec_MakePuzzle.calls k t356 t357 t361 t364 t367 t370 _ A15.out).mono ?_
       rintro e w32 ⟨v368, rfl, ho0, hb⟩
       refine ⟨_, rfl, ?_⟩
       have n0_ := Az_ (Kd.R_lower ho0 (below_size (w77_)))
       have n2_ := Az_ (IsS67.below (w33_) hb)
       have n5_ := Az_ (btz_ (w77_) hb)
       clear HI347 HB
       have HO369 := n0_
       replace BK346 := Az_ (ukbz_ BK346.out hb)
       have HI347 := n2_
       replace BK360 := Az_ (ukbz_ BK360.out hb)
       replace BK371 := Az_ (ukbz_ BK371.out hb)
       have HB := n5_
       clear n0_ n2_ n5_
       clear hb
       clear ho0
       refine hK.out _ _ ⟨(blk_cell BK360.out 0).trans rfl, (blk_cell BK360.out 1).trans rfl⟩ (fun hHeld => ?_)
       clear hK K
       refine nz_ 22 ?_
       refine pz_ 6 16 [7,2,1,2] ?_
       refine pz_ 7 23 [8,1,1,2] ?_
       refine pz_ 8 24 [10,2] ?_
       exact norm_ (w165_) (hCont (v368, gb371) _ ⟨hHeld, (w185_), (w183_), (w184_), (w186_), GW371.out, GE371.out, NB347_371.out, NB371_347.out, NB346_371.out, NB371_346.out, NB360_371.out, NB371_360.out, (w33_), (w77_)⟩)
     ·skip
      refine box_step ?hg (N := 5) ?hd (cs := #[.slice none 0 0]) (t := 30) ?hr ?_; (case hd => rfl); (case hg => rfl); (case hr => first | (go_simp; done) | (go_simp; rfl))
      intro gb371 hg w30 hbox hb
      have n1_ := Az_ (IsS67.below (w37_) hb)
      have n3_ := Az_ (btz_ (w104_) hb)
      have n4_ := Az_ (hbox)
      have n5_ := Az_ ((by rw [hg]; exact (below_size (w104_)) : w.heap.size ≤ gb371))
      have n6_ := Az_ ((by rw [hg]; exact (below_size (w104_)) : w.heap.size ≤ gb371))
      have n7_ := Az_ ((by rw [hg]; exact Nat.ne_of_lt (uklz_ BK346.out) : gb346 ≠ gb371))
      have n8_ := Az_ ((by rw [hg]; exact Nat.ne_of_gt (uklz_ BK346.out) : gb371 ≠ gb346))
      have n9_ := Az_ ((by rw [hg]; exact Nat.ne_of_lt (uklz_ BK360.out) : gb360 ≠ gb371))
      have n10_ := Az_ ((by rw [hg]; exact Nat.ne_of_gt (uklz_ BK360.out) : gb371 ≠ gb360))
      have n11_ := Az_ ((by rw [hg]; exact Nat.ne_of_lt (IsS67.lt (show IsS67 w _ gb347 l0 t362 t363 from w37_)) : gb347 ≠ gb371))
      have n12_ := Az_ ((by rw [hg]; exact Nat.ne_of_gt (IsS67.lt (show IsS67 w _ gb347 l0 t362 t363 from w37_)) : gb371 ≠ gb347))
      clear HI347 HB
      replace BK346 := Az_ (ukbz_ BK346.out hb)
      have HI347 := n1_
      replace BK360 := Az_ (ukbz_ BK360.out hb)
      have HB := n3_
      have BK371 := n4_
      have GW371 := n5_
      have GE371 := n6_
      have NB346_371 := n7_
      have NB371_346 := n8_
      have NB360_371 := n9_
      have NB371_360 := n10_
      have NB347_371 := n11_
      have NB371_347 := n12_
      clear n1_ n3_ n4_ n5_ n6_ n7_ n8_ n9_ n10_ n11_ n12_ hb hbox hg
      refine hK.out _ _ ⟨(blk_cell BK360.out 0).trans rfl, (blk_cell BK360.out 1).trans rfl⟩ (fun hHeld => ?_)
      clear hK K
      refine nz_ 5 ?_
      refine one_ (i := 4) (N := some 21) (mz_ [5,4,1,2]) rfl rfl (one_of HT_.out (w204_)) (by decide) (fun K hK => ?_)
      refine goes_ Tryd.func38 (w204_) rfl #[.pointer (some ⟨gb347, 0, none⟩), .int .i64 10000] (by rfl) rfl rfl maz_ ?_
      with_reducible refine (spec_l1Cur_pick.calls gb347 l0 t362 t363 10000 t364 t365 t366 w _ ?side1 ?side2 A14.out).mono ?_
      (case side1 => repeat (first | (with_reducible first | exact HI347.out | apply IsS67.alloc | apply IsS67.drewN | apply IsS67.drew | apply IsS67.set_1 | apply IsS67.set_2 | refine IsS67.far ?_ NB347_346.out _ | refine IsS67.far ?_ NB347_360.out _ | refine IsS67.far ?_ NB347_371.out _) | exact HI347.out))
      (case side2 => repeat (first | (with_reducible first | exact HB.out | apply baz_ | apply bnz_ | apply bdz_ | refine bsz_ ?_ (IsS67.ge HI347.out) | refine bsz_ ?_ GE346.out | refine bsz_ ?_ GE360.out | refine bsz_ ?_ GE371.out) | exact HB.out))
      rintro e w31 ⟨rfl, hi, hb, hk⟩
      refine ⟨_, rfl, ?_⟩
      replace BK346 := Az_ (KeepBut.blk hk (g' := gb346) (o := .cells #[.slice none 0 0] 30 (0, 0)) (w183_) NB346_347.out (by simp))
      replace BK360 := Az_ (KeepBut.blk hk (g' := gb360) (o := .cells #[.int .i64 t356, .int .i64 t357] 25 (0, 0)) (w184_) NB360_347.out (by simp))
      replace BK371 := Az_ (KeepBut.blk hk (g' := gb371) (o := .cells #[.slice none 0 0] 30 (0, 0)) (w186_) NB371_347.out (by simp))
      replace HB := Az_ (hb)
      replace HI347 := Az_ (hi)
      clear hb
      clear hk
      clear hi
      refine hK.out _ _ ⟨(blk_cell BK360.out 0).trans rfl, (blk_cell BK360.out 1).trans rfl⟩ (fun hHeld => ?_)
      clear hK K
      refine nz_ 21 ?_
      refine one_ (i := 5) (N := some 22) (mz_ [6,3,1,2]) rfl rfl (one_of HT_.out (w204_)) (by decide) (fun K hK => ?_)
      refine goes_ Tryd.func7 (w204_) rfl #[.agg #[.int .i64 t356, .int .i64 t357], .int .i64 t361, .int .i64 t364] (by rfl) rfl rfl maz_ ?_
      with_reducible refine (spec_MakePuzzle.calls k t356 t357 t361 t364 t367 t370 _ A15.out).mono ?_
      rintro e w32 ⟨v368, rfl, ho0, hb⟩
      refine ⟨_, rfl, ?_⟩
      have n0_ := Az_ (Kd.R_lower ho0 (below_size (w77_)))
      have n2_ := Az_ (IsS67.below (w33_) hb)
      have n5_ := Az_ (btz_ (w77_) hb)
      clear HI347 HB
      have HO369 := n0_
      replace BK346 := Az_ (ukbz_ BK346.out hb)
      have HI347 := n2_
      replace BK360 := Az_ (ukbz_ BK360.out hb)
      replace BK371 := Az_ (ukbz_ BK371.out hb)
      have HB := n5_
      clear n0_ n2_ n5_
      clear hb
      clear ho0
      refine hK.out _ _ ⟨(blk_cell BK360.out 0).trans rfl, (blk_cell BK360.out 1).trans rfl⟩ (fun hHeld => ?_)
      clear hK K
      refine nz_ 22 ?_
      refine pz_ 6 16 [7,2,1,2] ?_
      refine pz_ 7 23 [8,1,1,2] ?_
      refine pz_ 8 24 [10,2] ?_
      exact norm_ (w165_) (hCont (v368, gb371) _ ⟨hHeld, (w185_), (w183_), (w184_), (w186_), GW371.out, GE371.out, NB347_371.out, NB371_347.out, NB346_371.out, NB371_346.out, NB360_371.out, NB371_360.out, (w33_), (w77_)⟩)
    ·skip
     refine box_step ?hg (N := 5) ?hd (cs := #[.slice none 0 0]) (t := 30) ?hr ?_; (case hd => rfl); (case hg => rfl); (case hr => first | (go_simp; done) | (go_simp; rfl))
     intro gb371 hg w29 hbox hb
     have n1_ := Az_ (IsS67.below (w37_) hb)
     have n3_ := Az_ (btz_ (w104_) hb)
     have n4_ := Az_ (hbox)
     have n5_ := Az_ ((by rw [hg]; exact (below_size (w104_)) : w.heap.size ≤ gb371))
     have n6_ := Az_ ((by rw [hg]; exact (below_size (w104_)) : w.heap.size ≤ gb371))
     have n7_ := Az_ ((by rw [hg]; exact Nat.ne_of_lt (uklz_ BK346.out) : gb346 ≠ gb371))
     have n8_ := Az_ ((by rw [hg]; exact Nat.ne_of_gt (uklz_ BK346.out) : gb371 ≠ gb346))
     have n9_ := Az_ ((by rw [hg]; exact Nat.ne_of_lt (uklz_ BK360.out) : gb360 ≠ gb371))
     have n10_ := Az_ ((by rw [hg]; exact Nat.ne_of_gt (uklz_ BK360.out) : gb371 ≠ gb360))
     have n11_ := Az_ ((by rw [hg]; exact Nat.ne_of_lt (IsS67.lt (show IsS67 w _ gb347 l0 t358 t359 from w37_)) : gb347 ≠ gb371))
     have n12_ := Az_ ((by rw [hg]; exact Nat.ne_of_gt (IsS67.lt (show IsS67 w _ gb347 l0 t358 t359 from w37_)) : gb371 ≠ gb347))
     clear HI347 HB
     replace BK346 := Az_ (ukbz_ BK346.out hb)
     have HI347 := n1_
     replace BK360 := Az_ (ukbz_ BK360.out hb)
     have HB := n3_
     have BK371 := n4_
     have GW371 := n5_
     have GE371 := n6_
     have NB346_371 := n7_
     have NB371_346 := n8_
     have NB360_371 := n9_
     have NB371_360 := n10_
     have NB347_371 := n11_
     have NB371_347 := n12_
     clear n1_ n3_ n4_ n5_ n6_ n7_ n8_ n9_ n10_ n11_ n12_ hb hbox hg
     refine hK.out _ _ ⟨(blk_cell BK360.out 0).trans rfl, (blk_cell BK360.out 1).trans rfl⟩ (fun hHeld => ?_)
     clear hK K
     refine nz_ 5 ?_
     refine one_ (i := 2) (N := some 19) (mz_ [4,5,1,2]) rfl rfl (one_of HT_.out (w204_)) (by decide) (fun K hK => ?_)
     refine goes_ Tryd.func38 (w204_) rfl #[.pointer (some ⟨gb347, 0, none⟩), .int .i64 3] (by rfl) rfl rfl maz_ ?_
     with_reducible refine (spec_l1Cur_pick.calls gb347 l0 t358 t359 3 t361 t362 t363 w _ ?side1 ?side2 A13.out).mono ?_
     (case side1 => repeat (first | (with_reducible first | exact HI347.out | apply IsS67.alloc | apply IsS67.drewN | apply IsS67.drew | apply IsS67.set_1 | apply IsS67.set_2 | refine IsS67.far ?_ NB347_346.out _ | refine IsS67.far ?_ NB347_360.out _ | refine IsS67.far ?_ NB347_371.out _) | exact HI347.out))
     (case side2 => repeat (first | (with_reducible first | exact HB.out | apply baz_ | apply bnz_ | apply bdz_ | refine bsz_ ?_ (IsS67.ge HI347.out) | refine bsz_ ?_ GE346.out | refine bsz_ ?_ GE360.out | refine bsz_ ?_ GE371.out) | exact HB.out))
     rintro e w30 ⟨rfl, hi, hb, hk⟩
     refine ⟨_, rfl, ?_⟩
     replace BK346 := Az_ (KeepBut.blk hk (g' := gb346) (o := .cells #[.slice none 0 0] 30 (0, 0)) (w183_) NB346_347.out (by simp))
     replace BK360 := Az_ (KeepBut.blk hk (g' := gb360) (o := .cells #[.int .i64 t356, .int .i64 t357] 25 (0, 0)) (w184_) NB360_347.out (by simp))
     replace BK371 := Az_ (KeepBut.blk hk (g' := gb371) (o := .cells #[.slice none 0 0] 30 (0, 0)) (w186_) NB371_347.out (by simp))
     replace HB := Az_ (hb)
     replace HI347 := Az_ (hi)
     clear hb
     clear hk
     clear hi
     refine hK.out _ _ ⟨(blk_cell BK360.out 0).trans rfl, (blk_cell BK360.out 1).trans rfl⟩ (fun hHeld => ?_)
     clear hK K
     refine nz_ 19 ?_
     refine one_ (i := 4) (N := some 21) (mz_ [5,4,1,2]) rfl rfl (one_of HT_.out (w204_)) (by decide) (fun K hK => ?_)
     refine goes_ Tryd.func38 (w204_) rfl #[.pointer (some ⟨gb347, 0, none⟩), .int .i64 10000] (by rfl) rfl rfl maz_ ?_
     with_reducible refine (spec_l1Cur_pick.calls gb347 l0 t362 t363 10000 t364 t365 t366 w _ ?side1 ?side2 A14.out).mono ?_
     (case side1 => repeat (first | (with_reducible first | exact HI347.out | apply IsS67.alloc | apply IsS67.drewN | apply IsS67.drew | apply IsS67.set_1 | apply IsS67.set_2 | refine IsS67.far ?_ NB347_346.out _ | refine IsS67.far ?_ NB347_360.out _ | refine IsS67.far ?_ NB347_371.out _) | exact HI347.out))
     (case side2 => repeat (first | (with_reducible first | exact HB.out | apply baz_ | apply bnz_ | apply bdz_ | refine bsz_ ?_ (IsS67.ge HI347.out) | refine bsz_ ?_ GE346.out | refine bsz_ ?_ GE360.out | refine bsz_ ?_ GE371.out) | exact HB.out))
     rintro e w31 ⟨rfl, hi, hb, hk⟩
     refine ⟨_, rfl, ?_⟩
     replace BK346 := Az_ (KeepBut.blk hk (g' := gb346) (o := .cells #[.slice none 0 0] 30 (0, 0)) (w183_) NB346_347.out (by simp))
     replace BK360 := Az_ (KeepBut.blk hk (g' := gb360) (o := .cells #[.int .i64 t356, .int .i64 t357] 25 (0, 0)) (w184_) NB360_347.out (by simp))
     replace BK371 := Az_ (KeepBut.blk hk (g' := gb371) (o := .cells #[.slice none 0 0] 30 (0, 0)) (w186_) NB371_347.out (by simp))
     replace HB := Az_ (hb)
     replace HI347 := Az_ (hi)
     clear hb
     clear hk
     clear hi
     refine hK.out _ _ ⟨(blk_cell BK360.out 0).trans rfl, (blk_cell BK360.out 1).trans rfl⟩ (fun hHeld => ?_)
     clear hK K
     refine nz_ 21 ?_
     refine one_ (i := 5) (N := some 22) (mz_ [6,3,1,2]) rfl rfl (one_of HT_.out (w204_)) (by decide) (fun K hK => ?_)
     refine goes_ Tryd.func7 (w204_) rfl #[.agg #[.int .i64 t356, .int .i64 t357], .int .i64 t361, .int .i64 t364] (by rfl) rfl rfl maz_ ?_
     with_reducible refine (spec_MakePuzzle.calls k t356 t357 t361 t364 t367 t370 _ A15.out).mono ?_
     rintro e w32 ⟨v368, rfl, ho0, hb⟩
     refine ⟨_, rfl, ?_⟩
     have n0_ := Az_ (Kd.R_lower ho0 (below_size (w77_)))
     have n2_ := Az_ (IsS67.below (w33_) hb)
     have n5_ := Az_ (btz_ (w77_) hb)
     clear HI347 HB
     have HO369 := n0_
     replace BK346 := Az_ (ukbz_ BK346.out hb)
     have HI347 := n2_
     replace BK360 := Az_ (ukbz_ BK360.out hb)
     replace BK371 := Az_ (ukbz_ BK371.out hb)
     have HB := n5_
     clear n0_ n2_ n5_
     clear hb
     clear ho0
     refine hK.out _ _ ⟨(blk_cell BK360.out 0).trans rfl, (blk_cell BK360.out 1).trans rfl⟩ (fun hHeld => ?_)
     clear hK K
     refine nz_ 22 ?_
     refine pz_ 6 16 [7,2,1,2] ?_
     refine pz_ 7 23 [8,1,1,2] ?_
     refine pz_ 8 24 [10,2] ?_
     exact norm_ (w165_) (hCont (v368, gb371) _ ⟨hHeld, (w185_), (w183_), (w184_), (w186_), GW371.out, GE371.out, NB347_371.out, NB371_347.out, NB346_371.out, NB371_346.out, NB360_371.out, NB371_360.out, (w33_), (w77_)⟩)
   rintro ⟨v368, gb371⟩ w33 ⟨hS_, h0_, h1_, h2_, h3_, h4_, h5_, h6_, h7_, h8_, h9_, h10_, h11_, h12_, h13_⟩
   have n0_ : Aside0 (Kd.R k40 40 w33 w.heap.size (fun _ => True) v368 t367) := ⟨h0_⟩
   have n1_ : Aside0 (w33.heap[gb346]? = some (.cells #[.slice none 0 0] 30 (0, 0))) := ⟨h1_⟩
   have n2_ : Aside0 (w33.heap[gb360]? = some (.cells #[.int .i64 t356, .int .i64 t357] 25 (0, 0))) := ⟨h2_⟩
   have n3_ : Aside0 (w33.heap[gb371]? = some (.cells #[.slice none 0 0] 30 (0, 0))) := ⟨h3_⟩
   have n4_ : Aside0 (w.heap.size ≤ gb371) := ⟨h4_⟩
   have n5_ : Aside0 (w.heap.size ≤ gb371) := ⟨h5_⟩
   have n6_ : Aside0 (gb347 ≠ gb371) := ⟨h6_⟩
   have n7_ : Aside0 (gb371 ≠ gb347) := ⟨h7_⟩
   have n8_ : Aside0 (gb346 ≠ gb371) := ⟨h8_⟩
   have n9_ : Aside0 (gb371 ≠ gb346) := ⟨h9_⟩
   have n10_ : Aside0 (gb360 ≠ gb371) := ⟨h10_⟩
   have n11_ : Aside0 (gb371 ≠ gb360) := ⟨h11_⟩
   have n12_ : Aside0 (IsS67 w w33 gb347 l0 t365 t366) := ⟨h12_⟩
   have n13_ : Aside0 (Below w.heap.size w w33) := ⟨h13_⟩
   clear BK346 BK360 HI347 HB h0_ h1_ h2_ h3_ h4_ h5_ h6_ h7_ h8_ h9_ h10_ h11_ h12_ h13_
   have HO369 := n0_
   have BK346 := n1_
   have BK360 := n2_
   have BK371 := n3_
   have GW371 := n4_
   have GE371 := n5_
   have NB347_371 := n6_
   have NB371_347 := n7_
   have NB346_371 := n8_
   have NB371_346 := n9_
   have NB360_371 := n10_
   have NB371_360 := n11_
   have HI347 := n12_
   have HB := n13_
   clear n0_ n1_ n2_ n3_ n4_ n5_ n6_ n7_ n8_ n9_ n10_ n11_ n12_ n13_
   have hHeld : w33.cell? ⟨gb360, 0, none⟩ = some (.int .i64 t356) ∧ w33.cell? ⟨gb360, 1, none⟩ = some (.int .i64 t357) := hS_
   obtain ⟨Ao34, co34, eo34⟩ := Kd.R_slice HO369.out
   (first | subst eo34 | (injection eo34 with f1_ f2_ f3_; have f4_ := f1_.symm; have f5_ := f3_.symm; clear f1_ f2_ f3_; subst f4_; subst f5_))
   refine norm_ (a' := ?_) ?_ ?_
   rotate_left
   ·simp only [putAll, Act.put, List.setIfInBounds_toArray, List.set_cons_zero, List.set_cons_succ]
    rfl
   refine one_ (i := 10) (N := none) (mz_ [11,1]) rfl rfl (one_of HT_.out (w204_)) (by decide) (fun K hK => ?_)
   have hs35 : w33.cell? ⟨gb371, 0, none⟩ = some (.slice none 0 0) := (blk_cell BK371.out 0).trans rfl
   have hfs35 := blk_frozen BK371.out 0
   have hns35_0 := NB346_371.out
   have hns35_1 := NB360_371.out
   have hms35_0 := NB371_346.out
   have hms35_1 := NB371_360.out
   refine skip_ (w1 := ?_) (by rfl) rfl ?_ ?_
   rotate_left
   ·go_simp
    rfl
   refine hK.out _ _ ⟨((cell_far (p := ⟨gb371, _, none⟩) NB360_371.out _).trans (hHeld.1)), ((cell_far (p := ⟨gb371, _, none⟩) NB360_371.out _).trans (hHeld.2))⟩ (fun hHeld => ?_)
   clear hK K
   refine pz_ 11 6 [12] ?_
   refine done_ (done_of HT_.out (w204_)) ?_
   try go_wp2
   have n0_ : Aside0 (Kd.R k40 40 (w33.setCell ⟨gb371, 0, none⟩ (.slice Ao34 t367.length co34)) w.heap.size (fun _ => True) (.slice Ao34 t367.length co34) t367) := ⟨by (with_reducible repeat (first | apply raz_ | apply rnz_ | apply rdz_)); exact Kd.R_mono (Kd.R_far (p := ⟨gb371, 0, none⟩) (Kd.R_types HO369.out BK371.out (by decide)) (fun _ hk => hk.2) (.slice Ao34 t367.length co34)) (fun _ hk => trivial)⟩
   have n1_ : Aside0 ((w33.setCell ⟨gb371, 0, none⟩ (.slice Ao34 t367.length co34)).heap[gb346]? = some (.cells #[.slice none 0 0] 30 (0, 0))) := ⟨by (with_reducible repeat (first | refine knz_ ?_ _ | refine kdz_ ?_ | refine kaz_ ?_ _)); refine blk_far ?_ NB346_371.out _; (with_reducible repeat (first | refine knz_ ?_ _ | refine kdz_ ?_ | refine kaz_ ?_ _)); exact BK346.out⟩
   have n2_ : Aside0 ((w33.setCell ⟨gb371, 0, none⟩ (.slice Ao34 t367.length co34)).heap[gb360]? = some (.cells #[.int .i64 t356, .int .i64 t357] 25 (0, 0))) := ⟨by (with_reducible repeat (first | refine knz_ ?_ _ | refine kdz_ ?_ | refine kaz_ ?_ _)); refine blk_far ?_ NB360_371.out _; (with_reducible repeat (first | refine knz_ ?_ _ | refine kdz_ ?_ | refine kaz_ ?_ _)); exact BK360.out⟩
   have n3_ : Aside0 ((w33.setCell ⟨gb371, 0, none⟩ (.slice Ao34 t367.length co34)).heap[gb371]? = some (.cells #[.slice Ao34 t367.length co34] 30 (0, 0))) := ⟨by (with_reducible repeat (first | refine knz_ ?_ _ | refine kdz_ ?_ | refine kaz_ ?_ _)); refine blk_put (cs := #[.slice none 0 0]) ?_ 0 _ rfl; (with_reducible repeat (first | refine knz_ ?_ _ | refine kdz_ ?_ | refine kaz_ ?_ _)); exact BK371.out⟩
   have n4_ : Aside0 (IsS67 w (w33.setCell ⟨gb371, 0, none⟩ (.slice Ao34 t367.length co34)) gb347 l0 t365 t366) := ⟨w33_⟩
   have n5_ : Aside0 (Below w.heap.size w (w33.setCell ⟨gb371, 0, none⟩ (.slice Ao34 t367.length co34))) := ⟨w77_⟩
   clear HO369
   clear BK346
   clear BK360
   clear BK371
   clear HI347
   clear HB
   generalize (w33.setCell ⟨gb371, 0, none⟩ (.slice Ao34 t367.length co34)) = w36 at n0_ n1_ n2_ n3_ n4_ n5_ ⊢
   have HO369 := n0_
   have BK346 := n1_
   have BK360 := n2_
   have BK371 := n3_
   have HI347 := n4_
   have HB := n5_
   clear n0_ n1_ n2_ n3_ n4_ n5_
   replace HO369 := Az_ (rdz_ HO369.out)
   replace BK346 := Az_ (kdz_ BK346.out)
   replace BK360 := Az_ (kdz_ BK360.out)
   replace BK371 := Az_ (kdz_ BK371.out)
   replace HI347 := Az_ (IsS67.drew HI347.out)
   replace HB := Az_ (bdz_ HB.out)
   refine start_ (n := 10) (S := fun w' => w'.cell? ⟨gb371, 0, none⟩ = some (.slice Ao34 t367.length co34) ∧ w'.cell? ⟨gb360, 0, none⟩ = some (.int .i64 t356) ∧ w'.cell? ⟨gb360, 1, none⟩ = some (.int .i64 t357)) (ds := [9]) #[false, false, false, false, false, false, false, false, false, false] (w204_) rfl rfl ⟨(blk_cell BK371.out 0).trans rfl, (blk_cell BK360.out 0).trans rfl, (blk_cell BK360.out 1).trans rfl⟩ (fun hHeld => ?_); refine with_tabW spec_DrawHarderPuzzle.tab6 spec_DrawHarderPuzzle.bits6 (fun HT_ HW_ => ?_)
   generalize w36.drew = w37 at HO369 BK346 BK360 BK371 HI347 HB hHeld ⊢
   refine pz_ 0 25 [1,9] ?_
   refine take_ (i := 1) (N := some 26) (v := ?_) (a' := ?_) (mz_ [2,8]) rfl rfl (take_ofW HT_.out HW_.out (w204_)) (fun _ _ _ h => h) (Or.inl ⟨by rfl, ?_⟩) hHeld ?_ ?_
   rotate_left
   ·rintro w' ⟨s0, s1, s2⟩
    go_simp
    with_reducible rfl
   rotate_left
   ·simp only [Act.put, usz_, utz_, uvz_, i64_w, i32_w]
    rfl
   refine take_ (i := 2) (N := some 27) (v := ?_) (a' := ?_) (mz_ [3,7]) rfl rfl (take_ofW HT_.out HW_.out (w204_)) (fun _ _ _ h => h) (Or.inl ⟨by rfl, ?_⟩) hHeld ?_ ?_
   rotate_left
   ·rintro w' ⟨s0, s1, s2⟩
    go_simp
    with_reducible rfl
   rotate_left
   ·simp only [Act.put, usz_, utz_, uvz_, i64_w, i32_w]
    rfl
   refine take_ (i := 4) (N := some 29) (v := ?_) (a' := ?_) (mz_ [3,1,1,5]) rfl rfl (take_ofW HT_.out HW_.out (w204_)) (fun _ _ _ h => h) (Or.inl ⟨by rfl, ?_⟩) hHeld ?_ ?_
   rotate_left
   ·rintro w' ⟨s0, s1, s2⟩
    go_simp
    with_reducible rfl
   rotate_left
   ·simp only [Act.put, usz_, utz_, uvz_, i64_w, i32_w]
    rfl
   refine one_ (i := 3) (N := some 28) (mz_ [5,5]) rfl rfl (one_of HT_.out (w204_)) (by decide) (fun K hK => ?_)
   refine goes_ Tryd.func45 (w204_) rfl #[.int .i64 0, .int .i64 0, .agg #[.int .i64 t356, .int .i64 t357]] (by rfl) rfl rfl maz_ ?_
   with_reducible refine (spec_pzOf.calls k 0 0 t356 t357 t372 t373 t374 _ A16.out).mono ?_
   rintro e w38 ⟨rfl, hb⟩
   refine ⟨_, rfl, ?_⟩
   have n0_ := Az_ (Kd.R_below (w185_) hb)
   have n2_ := Az_ (IsS67.below (w33_) hb)
   have n5_ := Az_ (btz_ (w77_) hb)
   clear HO369 HI347 HB
   have HO369 := n0_
   replace BK346 := Az_ (ukbz_ BK346.out hb)
   have HI347 := n2_
   replace BK360 := Az_ (ukbz_ BK360.out hb)
   replace BK371 := Az_ (ukbz_ BK371.out hb)
   have HB := n5_
   clear n0_ n2_ n5_
   clear hb
   refine hK.out _ _ ⟨(blk_cell BK371.out 0).trans rfl, (blk_cell BK360.out 0).trans rfl, (blk_cell BK360.out 1).trans rfl⟩ (fun hHeld => ?_)
   clear hK K
   refine nz_ 28 ?_
   refine one_ (i := 5) (N := some 30) (mz_ [6,4]) rfl rfl (one_of HT_.out (w204_)) (by decide) (fun K hK => ?_)
   refine goes_ Tryd.func45 (w204_) rfl #[.int .i64 5, .int .i64 0, .agg #[.int .i64 t356, .int .i64 t357]] (by rfl) rfl rfl maz_ ?_
   with_reducible refine (spec_pzOf.calls k 5 0 t356 t357 t375 t376 t377 _ A17.out).mono ?_
   rintro e w39 ⟨rfl, hb⟩
   refine ⟨_, rfl, ?_⟩
   have n0_ := Az_ (Kd.R_below (w185_) hb)
   have n2_ := Az_ (IsS67.below (w33_) hb)
   have n5_ := Az_ (btz_ (w77_) hb)
   clear HO369 HI347 HB
   have HO369 := n0_
   replace BK346 := Az_ (ukbz_ BK346.out hb)
   have HI347 := n2_
   replace BK360 := Az_ (ukbz_ BK360.out hb)
   replace BK371 := Az_ (ukbz_ BK371.out hb)
   have HB := n5_
   clear n0_ n2_ n5_
   clear hb
   refine hK.out _ _ ⟨(blk_cell BK371.out 0).trans rfl, (blk_cell BK360.out 0).trans rfl, (blk_cell BK360.out 1).trans rfl⟩ (fun hHeld => ?_)
   clear hK K
   refine nz_ 30 ?_
   refine one_ (i := 6) (N := some 31) (mz_ [7,3]) rfl rfl (one_of HT_.out (w204_)) (by decide) (fun K hK => ?_)
   refine Kd.R_lit_step k40 _ 40 ?hg (N := 31) ?hd (xs := ([(⟨t372, t373, t374⟩ : S40), (⟨t375, t376, t377⟩ : S40)] : List (S40))) (inner := [.int .i64 t372, .int .i64 t373, .int .i64 t374, .int .i64 t375, .int .i64 t376, .int .i64 t377]) (ok := fun _ => True) (okp := fun _ => True) ?hr ?hp (fun _ hk => hk) trivial (Below.refl _ _) (Nat.le_refl _) (by simp) ?_; (case hd => rfl); (case hg => rfl); (case hr => first | (go_simp; done) | (go_simp; rfl)); (case hp => exact (Reps.c3 (show Kd.M k40 _ _ _ (⟨t372, t373, t374⟩ : S40) [.int .i64 t372, .int .i64 t373, .int .i64 t374] from (k40_mkM _ _ _ (⟨t372, t373, t374⟩ : S40) )) (Reps.c3 (show Kd.M k40 _ _ _ (⟨t375, t376, t377⟩ : S40) [.int .i64 t375, .int .i64 t376, .int .i64 t377] from (k40_mkM _ _ _ (⟨t375, t376, t377⟩ : S40) )) (Reps.none _ _))))
   intro v379 w40 ho41 hb hg_ hnew_
   clear hg_ hnew_
   (first | rw [← Ny378.out] at ho41 | (simp only [Int.reduceToNat] at ho41; rw [← Ny378.out] at ho41))
   have n0_ := Az_ (rez_ (w185_) (Kd.R_base ho41) hb)
   have n1_ := Az_ (Kd.R_lower (Kd.R_new' ho41 (Kd.R_lt (w185_))) (below_size (w77_)))
   have n3_ := Az_ (IsS67.below (w33_) hb)
   have n6_ := Az_ (btz_ (w77_) hb)
   clear HO369 HI347 HB
   have HO369 := n0_
   have HO380 := n1_
   replace BK346 := Az_ (ukbz_ BK346.out hb)
   have HI347 := n3_
   replace BK360 := Az_ (ukbz_ BK360.out hb)
   replace BK371 := Az_ (ukbz_ BK371.out hb)
   have HB := n6_
   clear n0_ n1_ n3_ n6_ hb ho41
   obtain ⟨Ao43, co43, eo43⟩ := Kd.R_slice HO380.out
   (first | subst eo43 | (injection eo43 with f1_ f2_ f3_; have f4_ := f1_.symm; have f5_ := f3_.symm; clear f1_ f2_ f3_; subst f4_; subst f5_))
   refine hK.out _ _ ⟨(blk_cell BK371.out 0).trans rfl, (blk_cell BK360.out 0).trans rfl, (blk_cell BK360.out 1).trans rfl⟩ (fun hHeld => ?_)
   clear hK K
   refine nz_ 31 ?_
   refine one_ (i := 7) (N := some 32) (mz_ [8,2]) rfl rfl (one_of HT_.out (w204_)) (by decide) (fun K hK => ?_)
   refine Kd.R_append_rows_step k40 (w0 := w) w.heap.size (by rfl) (.tmp 26) (.tmp 31) 28 40 (.agg #[(.int .i64 0), (.int .i64 0), (.int .i64 0)]) 24 rfl Tryd.underlying28 info40 rfl (by decide) (by omega) (.slice Ao34 t367.length co34) t367 y378 _ _ _ (fun k_ => some k_ ≠ (.slice Ao43 y378.length co43 : Value).ownBlock) (fun _ => False) rfl rfl ?aO ?aR (fun _ _ h => h) (fun _ h => h.elim) ?aF ?aB ?aS ?aL ?_
   (case aR => repeat (first | exact (Kd.R_reads' HO380.out).2.2 | (with_reducible refine Kd.C_alloc ?_ _) | (with_reducible refine Kd.C_drewN ?_ _) | (with_reducible refine Kd.C_drew ?_)))
   (case aB => exact (w77_))
   (case aF => exact (fun k_ hk => Kd.fresh' (Kd.R_lt (by exact urz_ HO380.out)) k_ hk))
   (case aO => exact (by (with_reducible repeat (first | apply raz_ | apply rnz_ | apply rdz_)); exact Kd.R_mono HO369.out (fun _ hk => hk.2)))
   (case aS => exact (below_size (w77_)))
   (case aL => have := LMc18.out; omega)
   intro v382 w42 ho hb hg hat
   rw [← Ny381.out] at ho
   replace BK346 := Az_ (blk_grown (g := gb346) (o := .cells #[.slice none 0 0] 30 (0, 0)) (w183_) hg (Kd.R_ne HO369.out BK346.out (by decide)))
   replace HI347 := Az_ (IsS67.grown (show IsS67 w _ gb347 l0 t365 t366 from w33_) hg (IsS67.own_ne HI347.out HO369.out (by decide)))
   replace BK360 := Az_ (blk_grown (g := gb360) (o := .cells #[.int .i64 t356, .int .i64 t357] 25 (0, 0)) (w184_) hg (Kd.R_ne HO369.out BK360.out (by decide)))
   replace BK371 := Az_ (blk_grown (g := gb371) (o := .cells #[.slice Ao34 t367.length co34] 30 (0, 0)) (w186_) hg (Kd.R_ne HO369.out BK371.out (by decide)))
   replace HO380 := Az_ (Kd.R_after (ok := (fun _ => True)) (by exact urz_ HO380.out) hg hat)
   replace HB := Az_ (hb)
   have HO383 := Az_ (ho)
   clear HO369
   obtain ⟨Ao44, co44, eo44⟩ := Kd.R_slice HO383.out
   (first | subst eo44 | (injection eo44 with f1_ f2_ f3_; have f4_ := f1_.symm; have f5_ := f3_.symm; clear f1_ f2_ f3_; subst f4_; subst f5_))
   refine hK.out _ _ ⟨(blk_cell BK371.out 0).trans rfl, (blk_cell BK360.out 0).trans rfl, (blk_cell BK360.out 1).trans rfl⟩ (fun hHeld => ?_)
   clear hK K
   refine nz_ 32 ?_
   refine pz_ 8 33 [9,1] ?_
   refine last_ (i := 9) (N := none) (mz_ [10]) rfl rfl (one_of HT_.out (w204_)) (by decide) (fun K hK => ?_)
   have hs45 : w42.cell? ⟨gb371, 0, none⟩ = some (.slice Ao34 t367.length co34) := (blk_cell BK371.out 0).trans rfl
   have hfs45 := blk_frozen BK371.out 0
   have hns45_0 := NB346_371.out
   have hns45_1 := NB360_371.out
   have hms45_0 := NB371_346.out
   have hms45_1 := NB371_360.out
   refine skip_ (w1 := ?_) (by rfl) rfl ?_ ?_
   rotate_left
   ·go_simp
    rfl
   refine hK.out _ _ ?_
   clear hK K
   refine done_ (done_of HT_.out (w204_)) ?_
   have hnb46 := NB371_346.out
   have hnc46 := NB346_371.out
   have hnb47 := NB371_360.out
   have hnc47 := NB360_371.out
   have hnb48 := NB371_347.out
   have hnc48 := NB347_371.out
   have hcz49_0 := cz_ (x := .slice Ao34 t367.length co34) BK371 0
   have hfz49_0 := blk_frozen BK371.out 0
   have hnb50 := NB346_347.out
   have hnc50 := NB347_346.out
   have hcz51_0 := cz_ (x := .slice none 0 0) BK346 0
   have hfz51_0 := blk_frozen BK346.out 0
   try go_wp2
   refine bodyPost_ret (results_cell_row rfl _ _ gb346 30 #[.slice Ao44 y381.length co44] (0, 0) _ rfl (by (with_reducible repeat (first | refine knz_ ?_ _ | refine kdz_ ?_ | refine kaz_ ?_ _)); refine blk_put (cs := #[.slice none 0 0]) ?_ 0 _ rfl; (with_reducible repeat (first | refine knz_ ?_ _ | refine kdz_ ?_ | refine kaz_ ?_ _)); refine blk_far ?_ NB346_371.out _; (with_reducible repeat (first | refine knz_ ?_ _ | refine kdz_ ?_ | refine kaz_ ?_ _)); exact BK346.out) Tryd.underlying30 rfl (w204_)) rfl ?_
   exact ⟨_, w166_, by (with_reducible repeat (first | apply raz_ | apply rnz_ | apply rdz_)); exact Kd.R_mono (Kd.R_far (p := ⟨gb346, 0, none⟩) (Kd.R_far (p := ⟨gb371, 0, none⟩) (Kd.R_types (Kd.R_types HO383.out BK371.out (by decide)) BK346.out (by decide)) (fun _ hk => hk.1.2) (.slice Ao44 y381.length co44)) (fun _ hk => hk.2) (.slice Ao44 y381.length co44)) (fun _ hk => trivial), w77_⟩
  ·rw [if_neg c18] at H
   exact absurd H (by simp)

end Go.Proofs.YtodacdcbeleleaaDoor.P
end

section
namespace Go.Proofs.YtodacdcbeleleaaDoor.P
open Go.Shelf Go.RowKit Go.Proofs.YtodacdcbeleleaaDoorW.PrintWords Go.Proofs.YtodacdcbeleleaaDoorW.PrintLast Go.Proofs.YtodacdcbeleleaaDoorW.PrintMore
set_option linter.unusedVariables false
set_option linter.unusedSimpArgs false

def PredClue (g : Nat) (lb : Array Value) (p : S40 → Bool) (l : List S40) (w : World) : Prop :=
  ∀ (W : World) (x : S40), x ∈ l → Below w.heap.size w W → Calls Tryd.prog g (#[.agg #[.int .i64 x.f0, .int .i64 x.f1, .int .i64 x.f2]] ++ lb) W fun e w' => e = .returned (.bool (p x)) ∧ Below W.heap.size W w'
def IdxPost (b : Bool) (e : Ending) : Prop := ∃ i : Int, e = .returned (.int .i64 i) ∧ decide (0 ≤ i) = b

theorem any_hit {α : Type} (l : List α) (z : α) (p : α → Bool) (i : Nat) (hi : i < l.length) (h : p (l.getD i z) = true) : l.any p = true := by
  rw [List.any_eq_true]
  refine ⟨l[i], List.getElem_mem hi, ?_⟩
  rw [List.getD_eq_getElem?_getD, List.getElem?_eq_getElem hi] at h
  exact h
theorem any_miss {α : Type} (l : List α) (z : α) (p : α → Bool) (h : ∀ j, j < l.length → p (l.getD j z) = false) : l.any p = false := by
  rw [List.any_eq_false]
  intro x hx
  obtain ⟨i, hi, rfl⟩ := List.mem_iff_getElem.1 hx
  have := h i hi
  rw [List.getD_eq_getElem?_getD, List.getElem?_eq_getElem hi] at this
  simpa using this

set_option maxHeartbeats 2000000 in
set_option maxRecDepth 100000 in
theorem indexFunc_clue (g : Nat) (lb : Array Value) (p : S40 → Bool) (eg : ∀ args w, (callFunc g args).run Tryd.prog w = .ok (.enter g args) w) (A : Option Addr) (c : Nat) (l : List S40) (w : World)
    (hr : Kd.C k40 w A l.length l) (hp : PredClue g lb p l w) :
    Calls Tryd.prog 68 #[.slice A l.length c, .func (.func g) #[] lb] w fun e w' => IdxPost (l.any p) e ∧ Below w.heap.size w w' := by
  have hu31 := Tryd.underlying40
  have hbig : l.length ≤ 9223372036854775807 := hr.2.1
  have HR := Aside0.mk hr
  have HP := Aside0.mk hp
  clear hr hp
  go_enter Tryd.func68, Tryd.ntmps68
  go_wp2
  go_loopg [5, 8] l.length (fun gg _ s8 wr => ∃ x : Int, s8 = .int .i64 x ∧ Aside0 (0 ≤ x ∧ x ≤ l.length ∧ l.length - x.toNat ≤ gg) ∧ Aside0 (Below w.heap.size w wr) ∧ Aside0 (∀ j, j < x.toNat → p (l.getD j z40) = false))
  case atStart => exact ⟨0, rfl, ⟨by omega, by omega, by simp⟩, ⟨Below.refl _ w⟩, ⟨fun j hj => absurd hj (by simp)⟩⟩
  case round =>
    obtain ⟨x, rfl, HX, HB, HM⟩ := hrel
    by_cases hlt : x < (l.length : Int)
    · have h0 : 0 ≤ x := HX.out.1
      obtain ⟨ad, e, hx0, hx1, hx2⟩ := at_T40 HR.out x h0 hlt
      cases e
      replace hx0 := hbz_ HB.out hx0
      replace hx1 := hbz_ HB.out hx1
      replace hx2 := hbz_ HB.out hx2
      have hmem : rd_T40 l x ∈ l := by
        unfold rd_T40
        rw [List.getD_eq_getElem?_getD, List.getElem?_eq_getElem (by omega)]
        exact List.getElem_mem _
      have hcall := HP.out wr (rd_T40 l x) hmem HB.out
      have HQ := Aside0.mk (show rd_T40 l x = l.getD x.toNat z40 from rfl)
      generalize rd_T40 l x = y at hx0 hx1 hx2 hcall HQ
      clear hmem
      cases hq : p y with
      | true =>
        rw [hq] at hcall
        go_wp2_with (go_at_fn g; refine hcall.mono ?_; rintro e w' ⟨rfl, hb'⟩)
        go_ret
        refine ⟨⟨x, rfl, ?_⟩, below_step HB.out hb'⟩
        rw [any_hit l z40 p x.toNat (by omega) (by rw [← HQ.out]; exact hq)]
        exact decide_eq_true h0
      | false =>
        rw [hq] at hcall
        go_wp2_with (go_at_fn g; refine hcall.mono ?_; rintro e w' ⟨rfl, hb'⟩)
        go_roundg (l.length - (x + 1).toNat)
        case measure => have := HX.out; omega
        case rel =>
          refine ⟨x + 1, by go_num, ⟨by omega, by omega, Nat.le_refl _⟩, ⟨below_step HB.out hb'⟩, ⟨fun j hj => ?_⟩⟩
          by_cases e : j = x.toNat; rotate_left
          · exact HM.out j (by omega)
          subst e
          rw [← HQ.out]; exact hq
    · have hx : x = (l.length : Int) := by have := HX.out; omega
      go_wp2
      go_ret
      refine ⟨⟨-1, rfl, ?_⟩, HB.out⟩
      rw [any_miss l z40 p (fun j hj => HM.out j (by omega))]
      rfl

set_option maxHeartbeats 2000000 in
set_option maxRecDepth 100000 in
theorem containsFunc_clue (g : Nat) (lb : Array Value) (p : S40 → Bool) (eg : ∀ args w, (callFunc g args).run Tryd.prog w = .ok (.enter g args) w) (A : Option Addr) (c : Nat) (l : List S40) (w : World)
    (hr : Kd.C k40 w A l.length l) (hp : PredClue g lb p l w) :
    Calls Tryd.prog 51 #[.slice A l.length c, .func (.func g) #[] lb] w fun e w' => e = .returned (.bool (l.any p)) ∧ Below w.heap.size w w' := by
  have hc := indexFunc_clue g lb p eg A c l w hr hp
  clear hr hp
  go_enter Tryd.func51, Tryd.ntmps51
  go_wp2_with (go_at_call 68; refine hc.mono ?_; rintro e w' ⟨⟨i, rfl, hi⟩, hb'⟩; have HI := Aside0.mk hi; clear hi)
  go_ret
  exact ⟨by first | rfl | (rw [HI.out]; rfl), hb'⟩
end Go.Proofs.YtodacdcbeleleaaDoor.P
end

section
namespace Go.Proofs.YtodacdcbeleleaaDoor.P
open Go.RowKit Go.Proofs.YtodacdcbeleleaaDoorW.PrintWords Go.Proofs.YtodacdcbeleleaaDoorW.PrintLast Go.Proofs.YtodacdcbeleleaaDoorW.PrintMore
set_option linter.unusedVariables false
set_option linter.unusedSimpArgs false

def badClue (x : S40) : Bool := (impl_IsPuzzle_1.f 1 x.f0 x.f1 x.f2).getD false
def impl_IsPuzzle.f (l : List S40) : Option Bool :=
  if 6 < l.length then some false else if l.all (fun x => (impl_IsPuzzle_1.f 1 x.f0 x.f1 x.f2).isSome) = true then some (!l.any badClue) else none
theorem badClue_some {x : S40} (h : (impl_IsPuzzle_1.f 1 x.f0 x.f1 x.f2).isSome = true) : impl_IsPuzzle_1.f 1 x.f0 x.f1 x.f2 = some (badClue x) := by
  unfold badClue
  cases e : impl_IsPuzzle_1.f 1 x.f0 x.f1 x.f2 with
  | none => rw [e] at h; cases h
  | some b => rfl

set_option maxHeartbeats 2000000 in
set_option maxRecDepth 100000 in
theorem impl_IsPuzzle.calls (A0_0 : Option Addr) (c0_0 : Nat) (l0_0 : List S40) (r : Bool) (w : World) (hr0_0 : Kd.C k40 w A0_0 l0_0.length l0_0) (hc0_0 : l0_0.length ≤ c0_0) (h : impl_IsPuzzle.f l0_0 = some r) :
    Calls Tryd.prog 15 #[.agg #[.slice A0_0 l0_0.length c0_0]] w fun e w' => e = .returned (.bool r) ∧ Below w.heap.size w w' := by
  have hu41 := Tryd.underlying30
  unfold impl_IsPuzzle.f at h
  have HR := Aside0.mk hr0_0
  clear hr0_0
  by_cases c2 : 6 < l0_0.length
  · rw [if_pos c2] at h
    obtain rfl := Option.some.inj h
    have c3 : (6 : Int) < (l0_0.length : Int) := by omega
    go_enter Tryd.func15, Tryd.ntmps15
    go_wp2
    go_ret
    exact ⟨rfl, (Below.refl _ _).alloc (Nat.le_refl _) _⟩
  rw [if_neg c2] at h
  have c3 : (l0_0.length : Int) ≤ 6 := by omega
  by_cases c4 : l0_0.all (fun x => (impl_IsPuzzle_1.f 1 x.f0 x.f1 x.f2).isSome) = true; rotate_left
  · rw [if_neg c4] at h
    cases h
  rw [if_pos c4] at h
  have HS := Aside0.mk (Option.some.inj h)
  clear h
  have eg := enters_of Tryd.func52 (w204_) rfl
  have hcall : ∀ W, Below w.heap.size w W → Calls Tryd.prog 51 #[.slice A0_0 l0_0.length c0_0, .func (.func 52) #[] #[]] W fun e w' => e = .returned (.bool (l0_0.any badClue)) ∧ Below W.heap.size W w' := fun W hW =>
    containsFunc_clue 52 #[] badClue eg A0_0 c0_0 l0_0 W (Kd.C_below HR.out hW) (fun W' x hx _ => impl_IsPuzzle_1.calls 1 x.f0 x.f1 x.f2 (badClue x) W' (badClue_some (List.all_eq_true.1 c4 x hx)))
  have hcall1 := hcall _ ((Below.refl w.heap.size w).alloc (Nat.le_refl _) (.cells #[.slice A0_0 l0_0.length c0_0] 30))
  clear hcall c4 eg
  go_enter Tryd.func15, Tryd.ntmps15
  go_wp2_with (go_at_call 51; refine hcall1.mono ?_; rintro e w' ⟨rfl, hb'⟩)
  go_ret
  exact ⟨by first | rfl | (rw [HS.out]; rfl), below_step ((Below.refl _ _).alloc (Nat.le_refl _) _) hb'⟩

def hit (p l : Int) (c : S40) : Bool := (impl_Hidden_fits.f 100 p l c.f0 c.f1 c.f2).getD false
def told (p l : Int) (c : S40) : Bool := (impl_Hidden_fits.f 100 p l c.f0 c.f1 c.f2).isSome
def missed (cs : List S40) (p l : Int) : Bool := cs.any fun c => !hit p l c
theorem hit_some {p l : Int} {c : S40} (h : told p l c = true) : impl_Hidden_fits.f 100 p l c.f0 c.f1 c.f2 = some (hit p l c) := by
  unfold told at h
  unfold hit
  cases e : impl_Hidden_fits.f 100 p l c.f0 c.f1 c.f2 with
  | none => rw [e] at h; cases h
  | some b => rfl
mutual
def impl_solutions.l0 : Nat → List S40 → List S25 → Int → Option (List S25)
  | 0, _, _, _ => none
  | k + 1, x0, x3, x4 => if x4 ≤ 40 then impl_solutions.l1 k x0 x3 x4 1 else some x3
def impl_solutions.l1 : Nat → List S40 → List S25 → Int → Int → Option (List S25)
  | 0, _, _, _, _ => none
  | k + 1, x0, x3, x4, x5 => if x5 ≤ wrap64 (Int.tdiv x4 2) then (if x0.all (told x4 x5) = true then (if missed x0 x4 x5 = true then impl_solutions.l1 k x0 x3 x4 (wrap64 (x5 + 1)) else (if x3.length < 8796093022208 then impl_solutions.l1 k x0 (x3 ++ [(⟨x4, x5⟩ : S25)]) x4 (wrap64 (x5 + 1)) else none)) else none) else impl_solutions.l0 k x0 x3 (wrap64 (x4 + 1))
end
def impl_solutions.f (l0 : List S40) : Option (List S25) := impl_solutions.l0 1000 l0 [] 2

set_option maxHeartbeats 4000000 in
set_option maxRecDepth 100000 in
theorem solutions_1_calls (p l : Int) (g : Nat) (x : S40) (b : Bool) (w : World) (hb : w.heap[g]? = some (.cells #[.int .i64 p, .int .i64 l] 25 (0, 0))) (h : impl_Hidden_fits.f 100 p l x.f0 x.f1 x.f2 = some b) :
    Calls Tryd.prog 71 #[.agg #[.int .i64 x.f0, .int .i64 x.f1, .int .i64 x.f2], .pointer (some ⟨g, 0, none⟩)] w fun e w' => e = .returned (.bool (!b)) ∧ Below w.heap.size w w' := by
  have hu28 := Tryd.underlying40
  have hu30 := Tryd.underlying25
  have HB := Aside0.mk (Below.refl w.heap.size w)
  have BK := Aside0.mk hb
  have A2 := Aside0.mk h
  clear hb h
  obtain ⟨a0_0, a0_1, a0_2⟩ := x
  simp only at A2
  go_enter Tryd.func71, Tryd.ntmps71
  go_wp2_with (first | ((with_reducible refine gate_dst (N := 2) rfl ?_); refine box_event ?hg (N := 2) ?hd (cs := #[.int .i64 a0_0, .int .i64 a0_1, .int .i64 a0_2]) (t := 40) ?hr ?_; (case hd => rfl); (case hg => rfl); (case hr => first | (go_simp; done) | (go_simp; rfl)); intro gb136 hg w3 hbox hb; have n0_ := Aside0.mk (below_step (w134_) hb); have n1_ := Aside0.mk (hbox); have n2_ := Aside0.mk (blk_below (by (with_reducible repeat (first | refine blk_drewN ?_ _ | refine blk_drew ?_ | refine blk_alloc ?_ _)); exact BK.out) hb); clear HB BK; have HB := n0_; have BK136 := n1_; have BK := n2_; clear n0_ n1_ n2_; clear hb hbox hg; have hcz4_0 : w3.cell? ⟨gb136, 0, none⟩ = some (.int .i64 a0_0) := (blk_cell BK136.out 0).trans rfl; have hcz4_1 : w3.cell? ⟨gb136, 1, none⟩ = some (.int .i64 a0_1) := (blk_cell BK136.out 1).trans rfl; have hcz4_2 : w3.cell? ⟨gb136, 2, none⟩ = some (.int .i64 a0_2) := (blk_cell BK136.out 2).trans rfl; have hfz4_0 := blk_frozen BK136.out 0; have hfz4_1 := blk_frozen BK136.out 1; have hfz4_2 := blk_frozen BK136.out 2; have hcz5_0 : w3.cell? ⟨g, 0, none⟩ = some (.int .i64 p) := (blk_cell BK.out 0).trans rfl; have hcz5_1 : w3.cell? ⟨g, 1, none⟩ = some (.int .i64 l) := (blk_cell BK.out 1).trans rfl; have hfz5_0 := blk_frozen BK.out 0; have hfz5_1 := blk_frozen BK.out 1) | (go_at_call 49; (with_reducible refine (impl_Hidden_fits.calls 100 p l a0_0 a0_1 a0_2 b _ A2.out).mono ?_); rintro e w5 ⟨rfl, hb⟩; have n1_ := Aside0.mk (below_step (w134_) hb); clear HB; have HB := n1_; clear n1_; (try clear hb)))
  go_ret
  exact ⟨by first | rfl | (simp [*]; done), w134_⟩

set_option maxHeartbeats 8000000 in
set_option maxRecDepth 100000 in
theorem impl_solutions.calls (A0 : Option Addr) (c0 : Nat) (l0 : List S40) (r : List S25) (w : World) (hr0 : Kd.C k40 w A0 l0.length l0) (hc0 : l0.length ≤ c0) (h : impl_solutions.f l0 = some r) :
    Calls Tryd.prog 56 #[.slice A0 l0.length c0] w fun e w' => ∃ v0_ : Value, e = .returned (v0_) ∧ Kd.R k25 25 w' w.heap.size (fun _ => True) v0_ r ∧ Below w.heap.size w w' := by
  have hu30 := Tryd.underlying25
  have hu28 := Tryd.underlying40
  have HR0 := Aside0.mk hr0
  clear hr0 hc0
  have HB := Aside0.mk (Below.refl w.heap.size w)
  have H' := Aside0.mk (show impl_solutions.l0 1000 l0 [] 2 = some r from h)
  clear h
  have EG := Aside0.mk (enters_of Tryd.func71 (w204_) rfl)
  go_enter Tryd.func56, Tryd.ntmps56
  go_wp2_with (((with_reducible refine gate_dst (N := 7) rfl ?_); refine Kd.R_lit k25 _ 25 ?hg (N := 7) ?hd (xs := ([] : List S25)) (inner := []) (ok := fun _ => True) (okp := fun _ => True) ?hr ?hp (fun _ hk => hk) trivial (Below.refl _ _) (Nat.le_refl _) (by simp) ?_; (case hd => rfl); (case hg => rfl); (case hr => first | (go_simp; done) | (go_simp; rfl)); (case hp => exact (Reps.none _ _)); intro v195 w3 ho4 hb hg_ hnew_; clear hg_ hnew_; have HO196 := Aside0.mk (Kd.R_lower ho4 (below_size (w134_))); replace HB := Aside0.mk (below_step (w134_) hb); clear hb ho4))
  go_loopg [3, 4] 1000 (fun kq v3 v4 w' => ∃ (x3_1 : List S25) (x4_1 : Int), v4 = .int .i64 x4_1 ∧ Aside0 (impl_solutions.l0 kq l0 x3_1 x4_1 = some r) ∧ Aside0 (kq ≤ 1000) ∧ Aside0 (Kd.R k25 25 w' w.heap.size (fun _ => True) v3 x3_1) ∧ Aside0 (Below w.heap.size w w'))
  case atStart => exact ⟨([] : List S25), 2, (w171_), H', ⟨Nat.le_refl _⟩, ⟨by (with_reducible repeat (first | apply Kd.R_alloc | apply Kd.R_drewN | apply Kd.R_drew)); exact HO196.out⟩, ⟨w134_⟩⟩
  case round =>
    clear H'
    obtain ⟨x3_1, x4_1, rfl, HA, HK1, HO_3, HB⟩ := hrel
    cases gk with
    | zero => exact absurd HA.out (by simp [impl_solutions.l0])
    | succ k1 =>
      have H := HA.out
      clear HA
      simp only [impl_solutions.l0] at H
      by_cases c2 : x4_1 ≤ 40; rotate_left
      · rw [if_neg c2] at H
        have c2b0 : decide (x4_1 ≤ 40) = false := decide_eq_false c2
        clear c2
        obtain rfl := Option.some.inj H
        clear H
        go_wp2
        go_ret
        exact ⟨_, rfl, w154_, w134_⟩
      rw [if_pos c2] at H
      have c2b0 : decide (x4_1 ≤ 40) = true := decide_eq_true c2
      clear c2
      have H' := Aside0.mk H
      clear H
      go_wp2
      go_loopg [3, 5] k1 (fun kq v3 v5 w' => ∃ (x3_2 : List S25) (x5_2 : Int), v5 = .int .i64 x5_2 ∧ Aside0 (impl_solutions.l1 kq l0 x3_2 x4_1 x5_2 = some r) ∧ Aside0 (kq ≤ k1) ∧ Aside0 (Kd.R k25 25 w' w.heap.size (fun _ => True) v3 x3_2) ∧ Aside0 (Below w.heap.size w w'))
      case atStart => exact ⟨(x3_1), (1), (w171_), H', ⟨Nat.le_refl _⟩, ⟨w154_⟩, ⟨w134_⟩⟩
      case round =>
        clear H'
        try clear c2b0
        obtain ⟨x3_2, x5_2, rfl, HA, HK2, HO_3, HB⟩ := hrel
        cases gk with
        | zero => exact absurd HA.out (by simp [impl_solutions.l1])
        | succ k2 =>
          have H := HA.out
          clear HA
          simp only [impl_solutions.l1] at H
          by_cases c3 : x5_2 ≤ (wrap64 (Int.tdiv x4_1 2)); rotate_left
          · rw [if_neg c3] at H
            have c3b0 : decide (x5_2 ≤ (wrap64 (Int.tdiv x4_1 2))) = false := decide_eq_false c3
            clear c3
            have H' := Aside0.mk H
            clear H
            go_wp2
            go_roundg k2
            case measure => have := HK1.out; have := HK2.out; omega
            case rel => exact ⟨(x3_2), (wrap64 (x4_1 + 1)), (w171_), H', ⟨by have := HK1.out; have := HK2.out; omega⟩, ⟨w154_⟩, ⟨w134_⟩⟩
          rw [if_pos c3] at H
          have c3b0 : decide (x5_2 ≤ (wrap64 (Int.tdiv x4_1 2))) = true := decide_eq_true c3
          clear c3
          by_cases c4 : l0.all (told x4_1 x5_2) = true; rotate_left
          · rw [if_neg c4] at H
            exact absurd H (by simp)
          rw [if_pos c4] at H
          have HT := Aside0.mk (List.all_eq_true.1 c4)
          clear c4
          have hcall : ∀ (g : Nat) (W : World), Kd.C k40 W A0 l0.length l0 → W.heap[g]? = some (.cells #[.int .i64 x4_1, .int .i64 x5_2] 25 (0, 0)) →
              Calls Tryd.prog 51 #[.slice A0 l0.length c0, .func (.func 71) #[] #[.pointer (some ⟨g, 0, none⟩)]] W fun e w' => e = .returned (.bool (missed l0 x4_1 x5_2)) ∧ Below W.heap.size W w' := fun g W hW hbk =>
            containsFunc_clue 71 #[.pointer (some ⟨g, 0, none⟩)] (fun c => !hit x4_1 x5_2 c) EG.out A0 c0 l0 W hW (fun W' x hx hb => solutions_1_calls x4_1 x5_2 g x (hit x4_1 x5_2 x) W' (blk_below hbk hb) (hit_some (HT.out x hx)))
          have HC := Aside0.mk hcall
          clear hcall
          cases hm : missed l0 x4_1 x5_2 with
          | true =>
            rw [if_pos hm] at H
            have HM := Aside0.mk hm
            clear hm
            have H' := Aside0.mk H
            clear H
            rw [HM.out] at HC
            go_wp2_with (first | ((with_reducible refine gate_dst (N := 6) rfl ?_); refine box_event ?hg (N := 6) ?hd (cs := #[.int .i64 0, .int .i64 0]) (t := 25) ?hr ?_; (case hd => rfl); (case hg => rfl); (case hr => first | (go_simp; done) | (go_simp; rfl)); intro gb237 hg w4 hbox hb; replace HO_3 := Aside0.mk (Kd.R_below (Kd.R_elderB (w154_) gb237 (Nat.le_of_eq hg.symm)) hb); have BK237 := Aside0.mk (hbox); have GE237 := Aside0.mk ((by rw [hg]; exact (below_size (w134_)) : w.heap.size ≤ gb237)); replace HB := Aside0.mk (below_step (w134_) hb); clear hb hbox hg; have hcz5_0 : w4.cell? ⟨gb237, 0, none⟩ = some (.int .i64 0) := (blk_cell BK237.out 0).trans rfl; have hcz5_1 : w4.cell? ⟨gb237, 1, none⟩ = some (.int .i64 0) := (blk_cell BK237.out 1).trans rfl; have hfz5_0 := blk_frozen BK237.out 0; have hfz5_1 := blk_frozen BK237.out 1) | (go_at_call 51; refine (HC.out gb237 _ (Kd.C_below HR0.out (w125_)) (w17_)).mono ?_; rintro e w15 ⟨rfl, hb⟩; have n0_ := Aside0.mk (Kd.R_below (w20_) hb); have n1_ := Aside0.mk (blk_below (g := gb237) (o := .cells #[.int .i64 x4_1, .int .i64 x5_2] 25 (0, 0)) (w17_) hb); have n2_ := Aside0.mk (below_step (w125_) hb); clear HO_3 BK237 HB; have HO_3 := n0_; have BK237 := n1_; have HB := n2_; clear n0_ n1_ n2_; (try clear hb)))
            go_roundg k2
            case measure => have := HK1.out; have := HK2.out; omega
            case rel => exact ⟨(x3_2), (wrap64 (x5_2 + 1)), (w171_), H', ⟨by have := HK1.out; have := HK2.out; omega⟩, ⟨by (with_reducible repeat (first | apply Kd.R_alloc | apply Kd.R_drewN | apply Kd.R_drew)); exact Kd.R_mono HO_3.out (fun _ hk => trivial)⟩, ⟨w125_⟩⟩
          | false =>
            rw [if_neg (by rw [hm]; simp)] at H
            have HM := Aside0.mk hm
            clear hm
            rw [HM.out] at HC
            by_cases c20 : x3_2.length < 8796093022208; rotate_left
            · rw [if_neg c20] at H
              exact absurd H (by simp)
            rw [if_pos c20] at H
            have LMc20 := Aside0.mk c20
            clear c20
            obtain ⟨y241, hy241⟩ : ∃ y_ : List S25, y_ = (x3_2 ++ [(⟨x4_1, x5_2⟩ : S25)]) := ⟨_, rfl⟩
            rw [← hy241] at H
            have Ny241 := Aside0.mk hy241
            clear hy241
            have H' := Aside0.mk H
            clear H
            go_wp2_with (first | ((with_reducible refine gate_dst (N := 6) rfl ?_); refine box_event ?hg (N := 6) ?hd (cs := #[.int .i64 0, .int .i64 0]) (t := 25) ?hr ?_; (case hd => rfl); (case hg => rfl); (case hr => first | (go_simp; done) | (go_simp; rfl)); intro gb237 hg w4 hbox hb; replace HO_3 := Aside0.mk (Kd.R_below (Kd.R_elderB (w154_) gb237 (Nat.le_of_eq hg.symm)) hb); have BK237 := Aside0.mk (hbox); have GE237 := Aside0.mk ((by rw [hg]; exact (below_size (w134_)) : w.heap.size ≤ gb237)); replace HB := Aside0.mk (below_step (w134_) hb); clear hb hbox hg; have hcz5_0 : w4.cell? ⟨gb237, 0, none⟩ = some (.int .i64 0) := (blk_cell BK237.out 0).trans rfl; have hcz5_1 : w4.cell? ⟨gb237, 1, none⟩ = some (.int .i64 0) := (blk_cell BK237.out 1).trans rfl; have hfz5_0 := blk_frozen BK237.out 0; have hfz5_1 := blk_frozen BK237.out 1) | (go_at_call 51; refine (HC.out gb237 _ (Kd.C_below HR0.out (w125_)) (w17_)).mono ?_; rintro e w15 ⟨rfl, hb⟩; have n0_ := Aside0.mk (Kd.R_below (w20_) hb); have n1_ := Aside0.mk (blk_below (g := gb237) (o := .cells #[.int .i64 x4_1, .int .i64 x5_2] 25 (0, 0)) (w17_) hb); have n2_ := Aside0.mk (below_step (w125_) hb); clear HO_3 BK237 HB; have HO_3 := n0_; have BK237 := n1_; have HB := n2_; clear n0_ n1_ n2_; (try clear hb); have hcz21_0 : w15.cell? ⟨gb237, 0, none⟩ = some (.int .i64 x4_1) := (blk_cell BK237.out 0).trans rfl; have hcz21_1 : w15.cell? ⟨gb237, 1, none⟩ = some (.int .i64 x5_2) := (blk_cell BK237.out 1).trans rfl; have hfz21_0 := blk_frozen BK237.out 0; have hfz21_1 := blk_frozen BK237.out 1) | ((with_reducible refine gate_builtin (b := .append) (xs := #[.tmp 25, .tmp 27]) rfl ?_); at_builtin; refine Kd.R_append k25 (w0 := w) w.heap.size rfl (.tmp 25) (.tmp 27) 46 25 (.agg #[(.int .i64 0), (.int .i64 0)]) 16 rfl Tryd.underlying46 info25 rfl (by decide) (by omega) u3 x3_2 (⟨x4_1, x5_2⟩ : S25) [.int .i64 x4_1, .int .i64 x5_2] (fun k_ => k_ ≠ gb237) (fun _ => False) rfl rfl ?aP (fun _ hk => hk.elim) ?aF ?aO ?aB ?aS ?aL ?_; (case aP => exact k25_mkM _ _ _ (⟨x4_1, x5_2⟩ : S25)); (case aB => exact (w125_)); (case aF => exact (fun k_ hk => Kd.freshB (g := gb237) (o := .cells #[.int .i64 x4_1, .int .i64 x5_2] 25 (0, 0)) (by (with_reducible repeat (first | refine blk_drewN ?_ _ | refine blk_drew ?_ | refine blk_alloc ?_ _)); exact BK237.out) k_ hk)); (case aO => exact (w154_)); (case aS => exact (below_size (w125_))); (case aL => have := LMc20.out; omega); intro v242 w22 ho hb hg hat; rw [← Ny241.out] at ho; have n1_ := Aside0.mk (hb); have n2_ := Aside0.mk (ho); clear HB; clear HO_3; have HB := n1_; have HO243 := n2_; clear n1_ n2_; clear ho hb hg hat))
            go_roundg k2
            case measure => have := HK1.out; have := HK2.out; omega
            case rel => exact ⟨(y241), (wrap64 (x5_2 + 1)), (w171_), H', ⟨by have := HK1.out; have := HK2.out; omega⟩, ⟨by (with_reducible repeat (first | apply Kd.R_alloc | apply Kd.R_drewN | apply Kd.R_drew)); exact Kd.R_mono HO243.out (fun _ hk => trivial)⟩, ⟨w125_⟩⟩
end Go.Proofs.YtodacdcbeleleaaDoor.P
end

section
namespace Go.Proofs.YtodacdcbeleleaaDoor.P
open Go.RowKit Go.Proofs.YtodacdcbeleleaaDoorW.PrintWords Go.Proofs.YtodacdcbeleleaaDoorW.PrintLast Go.Proofs.YtodacdcbeleleaaDoorW.PrintMore
attribute [local go_sem] max2_int min2_int max_two min_two max_three min_three max_four min_four   -- for this text's walks alone
set_option linter.unusedVariables false
set_option linter.unusedSimpArgs false

def impl_Solutions.f (l0_0 : List (S40)) : Option ((List (S25)) × Bool) := (impl_IsPuzzle.f l0_0).bind fun t385 => (if t385 = true then ((impl_solutions.f l0_0).bind fun t386 => (some (t386, true))) else (some (([] : List (S25)), false)))
set_option maxHeartbeats 8000000 in
set_option maxRecDepth 100000 in
theorem impl_Solutions.calls (A0_0 : Option Addr) (c0_0 : Nat) (l0_0 : List (S40)) (r1 : List (S25)) (r2 : Bool) (w : World) (hr0_0 : Kd.C k40 w A0_0 l0_0.length l0_0) (hc0_0 : l0_0.length ≤ c0_0) (h : impl_Solutions.f l0_0 = some (r1, r2)) :
  Calls Tryd.prog 20 #[.agg #[.slice A0_0 l0_0.length c0_0]] w fun e w' => ∃ v0_ : Value, e = .returned (.tuple #[v0_, .bool r2]) ∧ Kd.R k25 25 w' w.heap.size (fun _ => True) v0_ r1 ∧ Below w.heap.size w w' := by
 have hu30 := Tryd.underlying30
 have HR0_0 := Az_ hr0_0
 have HC0_0 := Az_ hc0_0
 clear hr0_0 hc0_0
 have HB := Az_ (Below.refl w.heap.size w)
 have H : ((impl_IsPuzzle.f l0_0).bind fun t385 => (if t385 = true then ((impl_solutions.f l0_0).bind fun t386 => (some (t386, true))) else (some (([] : List (S25)), false)))) = some (r1, r2) := h
 clear h
 replace H := bqz_ H; obtain ⟨t385, A2, H⟩ := H
 replace H : (if t385 = true then ((impl_solutions.f l0_0).bind fun t386 => (some (t386, true))) else (some (([] : List (S25)), false))) = some (r1, r2) := H
 by_cases c3 : t385 = true
 ·subst c3
  rw [if_pos rfl] at H
  replace H := bqz_ H; obtain ⟨t386, A4, H⟩ := H
  replace H : (some (t386, true)) = some (r1, r2) := H
  simp only [Option.some.injEq, Prod.mk.injEq] at H
  obtain ⟨rfl, rfl⟩ := H
  go_enter Tryd.func20, Tryd.ntmps20
  go_wp2_with (first | ((with_reducible refine gate_dst (N := 1) rfl ?_); refine bxe_ (N := 1) (cs := #[.slice A0_0 l0_0.length c0_0]) (t := 30) ?_; intro gb384 hg w5 BK384 hb; have GW384 := gez_ hg (ubz_ HB.out); have GE384 := GW384; replace HB := Az_ (btz_ (ubz_ HB.out) hb); clear hb hg; have hcz6_0 := cz_ (x := .slice A0_0 l0_0.length c0_0) BK384 0; have hfz6_0 := blk_frozen BK384.out 0) | ((with_reducible refine gate_callee (f := 15) rfl ?_); refine goesL_ (some 5) rfl rfl Tryd.func15 (w204_) rfl #[.agg #[.slice A0_0 l0_0.length c0_0]] rfl maz_ ?_; (with_reducible refine (impl_IsPuzzle.calls _ _ l0_0 true _ ?side1 ?side2 A2.out).mono ?_); (case side1 => exact ucz_ ((Kd.C_below HR0_0.out HB.out))); (case side2 => exact HC0_0.out); rintro e w7 ⟨rfl, hb⟩; refine ⟨_, rfl, ?_⟩; have n1_ := Az_ (btz_ (w129_) hb); clear HB; replace BK384 := Az_ (ukbz_ BK384.out hb); have HB := n1_; clear n1_; (try clear hb); have hcz8_0 := cz_ (x := .slice A0_0 l0_0.length c0_0) BK384 0; have hfz8_0 := blk_frozen BK384.out 0) | ((with_reducible refine gate_callee (f := 56) rfl ?_); refine goesL_ (some 9) rfl rfl Tryd.func56 (w204_) rfl #[.slice A0_0 l0_0.length c0_0] rfl maz_ ?_; (with_reducible refine (impl_solutions.calls _ _ l0_0 t386 _ ?side1 ?side2 A4.out).mono ?_); (case side1 => exact ucz_ ((Kd.C_below HR0_0.out HB.out))); (case side2 => exact HC0_0.out); rintro e w9 ⟨v387, rfl, ho0, hb⟩; refine ⟨_, rfl, ?_⟩; have n0_ := Az_ (Kd.R_lower ho0 (below_size (w129_))); have n2_ := Az_ (btz_ (w129_) hb); clear HB; have HO388 := n0_; replace BK384 := Az_ (ukbz_ BK384.out hb); have HB := n2_; clear n0_ n2_; (try clear hb); (try clear ho0)))
  go_ret2
  exact ⟨_, w166_, by (with_reducible repeat (first | apply raz_ | apply rnz_ | apply rdz_)); exact HO388.out, w129_⟩
 ·replace c3 := Bool.eq_false_iff.mpr c3
  subst c3
  rw [if_neg nfz_] at H
  simp only [Option.some.injEq, Prod.mk.injEq] at H
  obtain ⟨rfl, rfl⟩ := H
  go_enter Tryd.func20, Tryd.ntmps20
  go_wp2_with (first | ((with_reducible refine gate_dst (N := 1) rfl ?_); refine bxe_ (N := 1) (cs := #[.slice A0_0 l0_0.length c0_0]) (t := 30) ?_; intro gb384 hg w10 BK384 hb; have GW384 := gez_ hg (ubz_ HB.out); have GE384 := GW384; replace HB := Az_ (btz_ (ubz_ HB.out) hb); clear hb hg; have hcz11_0 := cz_ (x := .slice A0_0 l0_0.length c0_0) BK384 0; have hfz11_0 := blk_frozen BK384.out 0) | ((with_reducible refine gate_callee (f := 15) rfl ?_); refine goesL_ (some 5) rfl rfl Tryd.func15 (w204_) rfl #[.agg #[.slice A0_0 l0_0.length c0_0]] rfl maz_ ?_; (with_reducible refine (impl_IsPuzzle.calls _ _ l0_0 false _ ?side1 ?side2 A2.out).mono ?_); (case side1 => exact ucz_ ((Kd.C_below HR0_0.out HB.out))); (case side2 => exact HC0_0.out); rintro e w12 ⟨rfl, hb⟩; refine ⟨_, rfl, ?_⟩; have n1_ := Az_ (btz_ (w129_) hb); clear HB; replace BK384 := Az_ (ukbz_ BK384.out hb); have HB := n1_; clear n1_; (try clear hb)))
  go_ret2
  exact ⟨_, w166_, w130_, w129_⟩

def impl_IsSolved.f (l0_0 : List (S40)) : Option (Bool × Bool) := (impl_Solutions.f l0_0).bind fun bt390 => (some (((bt390.1.length : Int) == 1), bt390.2))
set_option maxHeartbeats 8000000 in
set_option maxRecDepth 100000 in
theorem impl_IsSolved.calls (A0_0 : Option Addr) (c0_0 : Nat) (l0_0 : List (S40)) (r1 : Bool) (r2 : Bool) (w : World) (hr0_0 : Kd.C k40 w A0_0 l0_0.length l0_0) (hc0_0 : l0_0.length ≤ c0_0) (h : impl_IsSolved.f l0_0 = some (r1, r2)) :
  Calls Tryd.prog 19 #[.agg #[.slice A0_0 l0_0.length c0_0]] w fun e w' => e = .returned (.tuple #[.bool r1, .bool r2]) ∧ Below w.heap.size w w' := by
 have hu30 := Tryd.underlying30
 have HR0_0 := Az_ hr0_0
 have HC0_0 := Az_ hc0_0
 clear hr0_0 hc0_0
 have HB := Az_ (Below.refl w.heap.size w)
 have H : ((impl_Solutions.f l0_0).bind fun bt390 => (some (((bt390.1.length : Int) == 1), bt390.2))) = some (r1, r2) := h
 clear h
 replace H := bqz_ H; obtain ⟨⟨t390, t393⟩, A2, H⟩ := H
 replace H : (some (((t390.length : Int) == 1), t393)) = some (r1, r2) := H
 simp only [Option.some.injEq, Prod.mk.injEq] at H
 obtain ⟨rfl, rfl⟩ := H
 go_enter Tryd.func19, Tryd.ntmps19
 go_wp2_with (first | ((with_reducible refine gate_dst (N := 1) rfl ?_); refine bxe_ (N := 1) (cs := #[.slice A0_0 l0_0.length c0_0]) (t := 30) ?_; intro gb389 hg w3 BK389 hb; have GW389 := gez_ hg (ubz_ HB.out); have GE389 := GW389; replace HB := Az_ (btz_ (ubz_ HB.out) hb); clear hb hg; have hcz4_0 := cz_ (x := .slice A0_0 l0_0.length c0_0) BK389 0; have hfz4_0 := blk_frozen BK389.out 0) | ((with_reducible refine gate_callee (f := 20) rfl ?_); refine goesL_ (some 8) rfl rfl Tryd.func20 (w204_) rfl #[.agg #[.slice A0_0 l0_0.length c0_0]] rfl maz_ ?_; (with_reducible refine (impl_Solutions.calls _ _ l0_0 t390 t393 _ ?side1 ?side2 A2.out).mono ?_); (case side1 => exact ucz_ ((Kd.C_below HR0_0.out HB.out))); (case side2 => exact HC0_0.out); rintro e w5 ⟨v391, rfl, ho0, hb⟩; refine ⟨_, rfl, ?_⟩; have n0_ := Az_ (Kd.R_lower ho0 (below_size (w129_))); have n2_ := Az_ (btz_ (w129_) hb); clear HB; have HO392 := n0_; replace BK389 := Az_ (ukbz_ BK389.out hb); have HB := n2_; clear n0_ n2_; (try clear hb); (try clear ho0); obtain ⟨Ao6, co6, eo6⟩ := Kd.R_slice HO392.out; subst eo6))
 go_ret2
 exact ⟨w166_, w129_⟩

end Go.Proofs.YtodacdcbeleleaaDoor.P
end

section
namespace Go.Proofs.YtodacdcbeleleaaDoor.P
open Go.RowKit Go.Proofs.YtodacdcbeleleaaDoorW.PrintWords Go.Proofs.YtodacdcbeleleaaDoorW.PrintLast Go.Proofs.YtodacdcbeleleaaDoorW.PrintMore
set_option linter.unusedVariables false
set_option linter.unusedSimpArgs false

def clone_Clue.f (l0 : List S40) : Option (List S40) := if l0.length < 5864062014805 then some l0 else none
theorem info_cloneClue : (Tryd.prog.info? 40).map (fun i => (i.zero, i.size, i.bytes)) = some (some (.agg #[(.int .i64 0), (.int .i64 0), (.int .i64 0)]), 3, 24) := by kernel_rfl
set_option maxHeartbeats 8000000 in
set_option maxRecDepth 100000 in
theorem clone_Clue.calls (A0 : Option Addr) (c0 : Nat) (l0 : List S40) (r : List S40) (w : World) (hr0 : Kd.C k40 w A0 l0.length l0) (hc0 : l0.length ≤ c0) (h : clone_Clue.f l0 = some r) :
    Calls Tryd.prog 54 #[.slice A0 l0.length c0] w fun e w' => ∃ v0_ : Value, e = .returned (v0_) ∧ Kd.R k40 40 w' w.heap.size (fun _ => True) v0_ r ∧ Below w.heap.size w w' := by
  unfold clone_Clue.f at h
  by_cases c2 : l0.length < 5864062014805; rotate_left
  · rw [if_neg c2] at h
    cases h
  rw [if_pos c2] at h
  obtain rfl := Option.some.inj h
  have hnil := fun W => Lib.run_eql_slice_nil (P := Tryd.prog) W 28 40 A0 l0.length c0 0 0 Tryd.underlying28
  have HR0 := Aside0.mk hr0
  have LMc2 := Aside0.mk c2
  have HB := Aside0.mk (Below.refl w.heap.size w)
  clear hr0 c2 h hc0
  cases A0 with
  | none =>
    have e : l0 = [] := by
      cases l0 with
      | nil => rfl
      | cons x l =>
        obtain ⟨ad, he, _⟩ := HR0.out.2.2 (by simp)
        cases he
    subst e
    simp only [Option.isNone_none, List.length_nil] at hnil
    simp only [List.length_nil]
    go_enter Tryd.func54, Tryd.ntmps54
    go_wp2
    go_ret
    exact ⟨_, rfl, Kd.R_nil _ _ _ _ _, HB.out⟩
  | some ad =>
    simp only [Option.isNone_some] at hnil
    go_enter Tryd.func54, Tryd.ntmps54
    go_wp2_with (first | ((with_reducible refine gate_dst (N := 5) rfl ?_); refine Kd.R_lit k40 _ 40 ?hg (N := 5) ?hd (xs := ([] : List S40)) (inner := []) (ok := fun _ => True) (okp := fun _ => True) ?hr ?hp (fun _ hk => hk) trivial (Below.refl _ _) (Nat.le_refl _) (by simp) ?_; (case hd => rfl); (case hg => rfl); (case hr => first | (go_simp; done) | (go_simp; rfl)); (case hp => exact (Reps.none _ _)); intro v195 w3 ho4 hb hg_ hnew_; clear hg_ hnew_; have HO196 := Aside0.mk (Kd.R_lower ho4 (below_size (w134_))); replace HB := Aside0.mk (below_step (w134_) hb); clear hb ho4) | ((with_reducible refine gate_builtin (b := .append) (xs := #[.tmp 5, .tmp 6]) rfl ?_); at_builtin; refine Kd.R_append_rows k40 (w0 := w) w.heap.size rfl (.tmp 5) (.tmp 6) 28 40 (.agg #[(.int .i64 0), (.int .i64 0), (.int .i64 0)]) 24 rfl Tryd.underlying28 info_cloneClue rfl (by decide) (by omega) v195 [] l0 _ _ _ (fun _ => True) (fun _ => False) rfl rfl ?aO ?aR (fun _ _ h => h) (fun _ h => h.elim) ?aF ?aB ?aS ?aL ?_; (case aR => repeat (first | exact (Kd.C_below HR0.out HB.out) | (with_reducible refine Kd.C_alloc ?_ _) | (with_reducible refine Kd.C_drewN ?_ _) | (with_reducible refine Kd.C_drew ?_))); (case aB => exact (w134_)); (case aF => exact (fun _ _ => trivial)); (case aO => exact (by (with_reducible repeat (first | apply Kd.R_alloc | apply Kd.R_drewN | apply Kd.R_drew)); exact HO196.out)); (case aS => exact (below_size (w134_))); (case aL => have := LMc2.out; simp; omega); intro v198 w5 ho hb hg hat; rw [List.nil_append] at ho; replace HB := Aside0.mk (hb); have HO199 := Aside0.mk (ho); clear HO196; clear ho hb hg hat))
    go_ret
    exact ⟨_, rfl, by (with_reducible repeat (first | apply Kd.R_alloc | apply Kd.R_drewN | apply Kd.R_drew)); exact HO199.out, w134_⟩

theorem info_delClue : (Tryd.prog.info? 40).map (fun i => (i.zero, i.size, i.bytes)) = some (some (.agg #[(.int .i64 0), (.int .i64 0), (.int .i64 0)]), 3, 24) := by kernel_rfl
def DelPostClue (g n c i j : Nat) (cur : Array Value) (w w' : World) : Prop :=
  ∃ cur' : Array Value, w'.heap[g]? = some (.cells cur' 40 (0, 0)) ∧ cur'.size = cur.size ∧ cur'.toList.take ((n - (j - i)) * 3) = cur.toList.take (i * 3) ++ (cur.toList.take (n * 3)).drop (j * 3) ∧ w.grownBy w' (some g)
theorem zero_delClue (W : World) : (zeroValue 40).run Tryd.prog W = .ok (.agg #[(.int .i64 0), (.int .i64 0), (.int .i64 0)]) W := by kernel_rfl
theorem grownBy_setClue (w : World) (g o : Nat) (vs : List Value) : w.grownBy (w.setCells g o vs) (some g) := by
  obtain ⟨s1, s2, s3, s4⟩ := setCells_same g vs o w
  exact ⟨s1, s2, s3, by rw [s4]; exact Nat.le_refl _, fun k _ hk => setCells_far vs _ k (fun he => hk (by rw [he]))⟩
def zeros_Clue (n : Nat) : List Value := (Builtin.zeroCells (Value.cells (.agg #[(.int .i64 0), (.int .i64 0), (.int .i64 0)])) n).toList
theorem zeros_lenClue (n : Nat) : (zeros_Clue n).length = n * 3 := by simp [zeros_Clue, Builtin.zeroCells, Value.cells]
theorem zeros_oneClue (n : Nat) : ∀ v ∈ zeros_Clue n, v.oneCell' = true := by
  intro v hv
  simp only [zeros_Clue, Builtin.zeroCells, Array.toList_map, List.mem_map] at hv
  obtain ⟨q, _, rfl⟩ := hv
  have hq : q % (Value.cells (.agg #[(.int .i64 0), (.int .i64 0), (.int .i64 0)])).size < 3 := Nat.mod_lt _ (by decide)
  generalize q % (Value.cells (.agg #[(.int .i64 0), (.int .i64 0), (.int .i64 0)])).size = r at hq ⊢
  match r, hq with
  | 0, _ => rfl
  | 1, _ => rfl
  | 2, _ => rfl
theorem clear_runClue (W : World) (ty : TypeId) (g o n c : Nat) (cur : Array Value) (hh : W.heap[g]? = some (.cells cur 40 (0, 0))) (hn : 0 < n) (ho : o + n * 3 ≤ cur.size) :
    (Builtin.clear_ #[28] ty #[.slice (some ⟨g, o, none⟩) n c]).run Tryd.prog W = .ok (.tuple #[]) (W.setCells g o (zeros_Clue n)) := by
  have hz := zeros_lenClue n
  have hst := run_storeCells_cells (P := Tryd.prog) g o (zeros_Clue n) 0 W (fun j hj => by rw [cell_of_row W g _ cur _ (0, 0) hh]; rw [hz] at hj; simp; omega) (fun j _ => blk_frozen hh _) (zeros_oneClue n)
  simp only [Nat.add_zero] at hst
  unfold zeros_Clue at hst ⊢
  obtain ⟨m, rfl⟩ : ∃ m, n = m + 1 := ⟨n - 1, by omega⟩
  have hzr := zero_delClue
  have hu := Tryd.underlying28
  simp [Builtin.clear_, run_underlying hu, hzr, hst]

set_option maxHeartbeats 4000000 in
set_option maxRecDepth 1000000 in
theorem delete_Clue (g n c i j : Nat) (cur : Array Value) (w : World) (hh : w.heap[g]? = some (.cells cur 40 (0, 0))) (hcs : cur.size = c * 3) (hn : n ≤ c) (hc : c ≤ 9223372036854775807) (hij : i < j) (hj : j ≤ n) (hone : ∀ u ∈ cur.toList.take (n * 3), u.oneCell' = true) :
    Calls Tryd.prog 70 #[.slice (some ⟨g, 0, none⟩) n c, .int .i64 i, .int .i64 j] w fun e w' => e = .returned (.slice (some ⟨g, 0, none⟩) (n - (j - i)) c) ∧ DelPostClue g n c i j cur w w' := by
  obtain ⟨i0, hi0, hz0, hz1, hz2⟩ := info_parts info_delClue
  obtain ⟨news, hnews⟩ : ∃ news, news = (cur.toList.take (n * 3)).drop (j * 3) := ⟨_, rfl⟩
  have hlc : cur.toList.length = c * 3 := by simpa using hcs
  have hlen : news.length = (n - j) * 3 := by
    rw [hnews, List.length_drop, List.length_take, hlc]
    omega
  have hmem : ∀ u ∈ news, u ∈ cur.toList.take (n * 3) := fun u hu => List.mem_of_mem_drop (by rw [hnews] at hu; exact hu)
  have hget : ∀ t u, news[t]? = some u → cur[j * 3 + t]? = some u := by
    intro t u hu
    have ht := (List.getElem?_eq_some_iff.1 hu).1
    rw [hlen] at ht
    rw [hnews, List.getElem?_drop, List.getElem?_take, if_pos (by omega)] at hu
    simpa using hu
  obtain ⟨A, hA, hsrc⟩ : ∃ A : Addr, (if c = j then some (⟨g, 0, none⟩ : Addr) else (some (⟨g, 0, none⟩ : Addr)).map (·.add (j * 3))) = some A ∧ Hid (∀ t u, news[t]? = some u → w.drew.cell? (A.add t) = some u) := by
    by_cases h : c = j; rotate_left
    · refine ⟨⟨g, 0 + j * 3, none⟩, by simp [h, add_at], fun t u hu => ?_⟩
      rw [add_at, cell_of_row w.drew g _ cur _ (0, 0) hh, Nat.zero_add]
      exact hget t u hu
    refine ⟨⟨g, 0, none⟩, by simp [h], fun t u hu => ?_⟩
    have h0 : news.length = 0 := by rw [hlen]; omega
    rw [List.length_eq_zero_iff.1 h0] at hu
    simp at hu
  have hcutF := cut_from (P := Tryd.prog) 28 40 .i64 Tryd.underlying28 hi0 3 hz1 (some ⟨g, 0, none⟩) n c (j : Int) (by omega) (by omega)
  have hcutT := cut_to (P := Tryd.prog) 28 40 .i64 Tryd.underlying28 hi0 (some ⟨g, 0, none⟩) n c (i : Int) (by omega) (by omega) hn
  simp only [Int.toNat_natCast] at hcutF hcutT
  rw [hA] at hcutF
  have s1 : Hid (news.length = (n - j) * 3) := hlen
  have s2 : Hid (∀ u ∈ news, u.oneCell' = true) := fun u hu => hone u (hmem u hu)
  have s3 : Hid (∀ t, t < news.length → (w.drew.cell? ⟨g, 0 + i * 3 + t, none⟩).isSome = true ∧ w.drew.frozen? ⟨g, 0 + i * 3 + t, none⟩ = false) := by
    intro t ht
    rw [hlen] at ht
    refine ⟨?_, blk_frozen (w := w.drew) hh _⟩
    rw [cell_of_row w.drew g _ cur _ (0, 0) hh]
    simp
    omega
  obtain ⟨W1, hW1⟩ : ∃ W1, W1 = w.drew.setCells g (0 + i * 3) news := ⟨_, rfl⟩
  obtain ⟨cur1, h3, h4, h5⟩ := setCells_row news (0 + i * 3) w.drew cur hh (by omega)
  rw [← hW1] at h3
  obtain ⟨m, hm0⟩ : ∃ m, m = i + (n - j) := ⟨_, rfl⟩
  have hcl := fun ty => clear_runClue W1 ty g (m * 3) (n - m) (c - m) cur1 h3 (by omega) (by omega)
  (try simp only [Nat.mul_one] at hcl)
  have hmid : ∀ W : World, (Instr.slice 28 (.slice (some ⟨g, 0, none⟩) m c) (some (.int .i64 (m : Int))) (some (.int .i64 (n : Int))) none).run Tryd.prog W = .ok (.slice (some ⟨g, 0 + m * 3, none⟩) (n - m) (c - m)) W := by
    intro W
    have hu := Tryd.underlying28
    have hel : Tryd.prog.elem 28 = 40 := by simp [Program.elem, hu]
    have hu' : Tryd.prog.underlying 28 = some (.slice (Tryd.prog.elem 28)) := by rw [hel]; exact hu
    have hne : ¬ c = m := by omega
    rw [run_slice_lh W 28 (some ⟨g, 0, none⟩) m c hu' .i64 .i64 (m : Int) (n : Int) (by omega) (by omega) (by omega), hel]
    simp [sizeOf, typeInfo, hi0, hz1, sliced, Result.andThen, hne, add_at]
  have hm : Hid (m = i + (n - j)) := hm0
  have hW : Hid (W1 = w.drew.setCells g (0 + i * 3) news) := hW1
  have h5' : Hid (cur1.toList = cur.toList.take (0 + i * 3) ++ news ++ cur.toList.drop (0 + i * 3 + news.length)) := h5
  have h3' : Hid (W1.heap[g]? = some (.cells cur1 40 (0, 0))) := h3
  have h4' : Hid (cur1.size = cur.size) := h4
  have hl' : Hid (news.length = (n - j) * 3) := hlen
  have hn' : Hid (news = (cur.toList.take (n * 3)).drop (j * 3)) := hnews
  have hlc' : Hid (cur.toList.length = c * 3) := hlc
  have hne : ¬ (i : Int) = (j : Int) := by omega
  have hic : i ≤ c := by omega
  have hjc : j ≤ c := by omega
  clear hm0 hW1 h5 h3 h4 hlen hnews hlc hcs hget hmem hone hh hA
  go_enter Tryd.func70, Tryd.ntmps70
  go_wp2_with fail
  go_region_law (refine step_append_room rfl (.tmp 22) (.tmp 25) 28 rfl 40 i0 3 Tryd.underlying28 hi0 hz1 g 0 i c (by simp [Act.eval, Act.put]) A (n - j) (c - j) news (by simp [Act.eval, Act.put]) s1.out hsrc.out s2.out (by omega) s3.out ?_; rw [← hW.out, ← hm.out])
  go_wp2
  go_ret
  have hlz := zeros_lenClue (n - m)
  have hmv := hm.out
  have e1 := hl'.out
  have e2 := hlc'.out
  have e3 := h4'.out
  have e4 : cur1.toList.length = c * 3 := by
    rw [Array.length_toList, e3, ← Array.length_toList, e2]
  obtain ⟨cur2, f3, f4, f5⟩ := setCells_row (zeros_Clue (n - m)) (m * 3) W1 cur1 h3'.out (by rw [hlz, ← Array.length_toList, e4]; omega)
  have g1 : w.grownBy W1 (some g) := by
    rw [hW.out]
    have b := grownBy_setClue w.drew g (0 + i * 3) news
    exact ⟨b.os, b.tape, b.output, b.size, b.block⟩
  (try simp only [Nat.mul_one] at f3)
  refine ⟨by rw [show n - (j - i) = m by omega]; rfl, cur2, f3, by rw [f4, e3], ?_, ?_⟩
  · rw [f5, show (n - (j - i)) * 3 = m * 3 by rw [show n - (j - i) = m by omega], List.append_assoc, List.take_append_of_le_length (by rw [List.length_take, e4]; omega), List.take_take, Nat.min_self, h5'.out, List.take_append_of_le_length (by rw [List.length_append, List.length_take, e1, e2]; omega), List.take_of_length_le (by rw [List.length_append, List.length_take, e1, e2]; omega), Nat.zero_add, hn'.out]
  · obtain ⟨a1, a2, a3, a4, a5⟩ := g1
    obtain ⟨b1, b2, b3, b4, b5⟩ := grownBy_setClue W1 g (m * 3) (zeros_Clue (n - m))
    exact ⟨b1.trans a1, b2.trans a2, b3.trans a3, Nat.le_trans a4 b4, fun k hk hne => (b5 k (by omega) hne).trans (a5 k hk hne)⟩
theorem deleteR_Clue (i j : Nat) (v : Value) (xs : List S40) (base : Nat) (w : World) (HO : Kd.R k40 40 w base (fun _ => True) v xs) (hij : i < j) (hj : j ≤ xs.length) :
    Calls Tryd.prog 70 #[v, .int .i64 i, .int .i64 j] w fun e w' => ∃ v1 : Value, e = .returned v1 ∧ Kd.R k40 40 w' base (fun _ => True) v1 (xs.take i ++ xs.drop j) ∧ w.grownBy w' v.ownBlock := by
  obtain ⟨_, inner, hown, hr⟩ := HO
  rcases hown.2 with ⟨_, h0⟩ | ⟨g, c, cur, rfl, hb, hh, hnc, hcm, hcs, htake⟩
  · omega
  have hsz : (k40).sz = 3 := rfl
  rw [hsz] at hr htake hcs
  have hone : ∀ u ∈ cur.toList.take (xs.length * 3), u.oneCell' = true := by
    intro u hu
    rw [htake] at hu
    obtain ⟨q, hq, rfl⟩ := List.mem_iff_getElem.1 hu
    have hql : q / 3 < xs.length := by
      rw [Nat.div_lt_iff_lt_mul (by decide), ← hr.1]
      exact hq
    refine (k40).K_one ((k40).K_of_M (hr.2 (q / 3) _ (List.getElem?_eq_getElem hql))) _ ?_
    rw [List.mem_iff_getElem?]
    refine ⟨q % 3, ?_⟩
    rw [List.getElem?_take, if_pos (Nat.mod_lt _ (by decide)), List.getElem?_drop, Nat.mul_comm, Nat.div_add_mod, List.getElem?_eq_getElem hq]
  refine (delete_Clue g xs.length c i j cur w hh hcs hnc (by unfold maxLen at hcm; omega) hij hj hone).mono fun e w' ⟨he, cur', h1, h2, h3, h4⟩ => ?_
  have hlen : (xs.take i ++ xs.drop j).length = xs.length - (j - i) := by rw [List.length_append, List.length_take, List.length_drop]; omega
  refine ⟨_, he, ⟨fun _ _ => trivial, inner.take (i * 3) ++ inner.drop (j * 3), ⟨?_, .inr ⟨g, c, cur', by rw [hlen], hb, h1, by rw [hlen]; omega, hcm, by rw [h2, hcs]; rfl, ?_⟩⟩, ?_⟩, by simpa [Value.ownBlock] using h4⟩
  · have hi := hr.1
    rw [hsz, hlen, List.length_append, List.length_take, List.length_drop, hi]
    omega
  · rw [hsz, hlen, h3, htake, ← htake, List.take_take, Nat.min_eq_left (by omega)]
  · have hmv : ∀ p q, (k40).M w base (fun k' => True ∧ some k' ≠ (Value.slice (some ⟨g, 0, none⟩) xs.length c).ownBlock) p q → (k40).M w' base (fun k' => True ∧ some k' ≠ (Value.slice (some ⟨g, 0, none⟩) (xs.length - (j - i)) c).ownBlock) p q := fun p q hp => hp
    exact Kd.reps_append ((Kd.reps_take hr (by omega)).imp_ hmv) ((Kd.reps_drop hr).imp_ hmv)

def impl_without.f (l0 : List S40) (a1 : Int) : Option (List S40) :=
  if 0 ≤ a1 ∧ a1 < l0.length ∧ l0.length < 5864062014805 then some (l0.take a1.toNat ++ l0.drop (a1.toNat + 1)) else none
set_option maxHeartbeats 2000000 in
set_option maxRecDepth 100000 in
theorem impl_without.calls (A0 : Option Addr) (c0 : Nat) (l0 : List S40) (a1 : Int) (r : List S40) (w : World) (hr0 : Kd.C k40 w A0 l0.length l0) (hc0 : l0.length ≤ c0) (h : impl_without.f l0 a1 = some r) :
    Calls Tryd.prog 55 #[.slice A0 l0.length c0, .int .i64 a1] w fun e w' => ∃ v0_ : Value, e = .returned (v0_) ∧ Kd.R k40 40 w' w.heap.size (fun _ => True) v0_ r ∧ Below w.heap.size w w' := by
  unfold impl_without.f at h
  split at h
  · rename_i hc
    obtain rfl := Option.some.inj h
    obtain ⟨k, rfl⟩ := Int.eq_ofNat_of_zero_le hc.1
    have hclone := clone_Clue.calls A0 c0 l0 l0 w hr0 hc0 (by unfold clone_Clue.f; rw [if_pos hc.2.2])
    have hk : k < l0.length := by omega
    have hsum : IntKind.i64.wrap ((k : Int) + 1) = ((k + 1 : Nat) : Int) := by rw [i64_w]; unfold wrap64; omega
    have HK := Aside0.mk hk
    have hdel : ∀ v w1, Kd.R k40 40 w1 w.heap.size (fun _ => True) v l0 → _ := fun v w1 HO => deleteR_Clue k (k + 1) v l0 w.heap.size w1 HO (by omega) (by omega)
    have HD := Aside0.mk hdel
    clear hdel hk hr0 hc h
    go_enter Tryd.func55, Tryd.ntmps55
    go_wp2_with (first
      | (go_at_call 54; refine hclone.mono ?_; rintro e w1 ⟨v, rfl, hO0, hB0⟩; have HO := Aside0.mk hO0; have HB := Aside0.mk hB0; have HV := Aside0.mk (Kd.R_base2 hO0); clear hO0 hB0)
      | (go_at_call 70; refine (HD.out _ _ HO.out).mono ?_; rintro e w2 ⟨v1, rfl, hO1, hG1⟩; have HO1 := Aside0.mk hO1; have HG1 := Aside0.mk hG1; clear hO1 hG1))
    go_ret
    refine ⟨_, rfl, ?_, HB.out.grown HG1.out HB.out.size ?_⟩
    · simpa using HO1.out
    · intro q hq
      rcases HV.out with h0 | ⟨q', h1, h2⟩
      · rw [h0] at hq; cases hq
      · rw [h1] at hq; injection hq with hq; omega
  · cases h
end Go.Proofs.YtodacdcbeleleaaDoor.P
end

section
namespace Go.Proofs.YtodacdcbeleleaaDoor.P
open Go.RowKit Go.Proofs.YtodacdcbeleleaaDoorW.PrintWords Go.Proofs.YtodacdcbeleleaaDoorW.PrintLast Go.Proofs.YtodacdcbeleleaaDoorW.PrintMore
attribute [local go_sem] max2_int min2_int max_two min_two max_three min_three max_four min_four   -- for this text's walks alone
set_option linter.unusedVariables false
set_option linter.unusedSimpArgs false

mutual
def impl_HarderPuzzle.j0 : Nat → Bool → List (S40) → Option ((List (S40)) × Bool)
 | 0, _, _ => none
 | k + 1, x19, x395000 => if x19 = true then (some (([] : List (S40)), false)) else ((clone_Clue.f x395000).bind fun t398 => (impl_HarderPuzzle.l0 k t398 0))
def impl_HarderPuzzle.l0 : Nat → List (S40) → Int → Option ((List (S40)) × Bool)
 | 0, _, _ => none
 | k + 1, x6, x7 => if x7 < (x6.length : Int) then ((impl_without.f x6 x7).bind fun t401 => ((impl_solutions.f t401).bind fun t404 => (if (t404.length : Int) = 1 then (impl_HarderPuzzle.l0 k t401 x7) else (impl_HarderPuzzle.l0 k x6 (wrap64 (x7 + 1)))))) else (some (x6, true))
end
def impl_HarderPuzzle.f (k : Nat) (l0_0 : List (S40)) : Option ((List (S40)) × Bool) := (impl_IsSolved.f l0_0).bind fun bt396 => (if bt396.2 = true then (impl_HarderPuzzle.j0 k (!bt396.1) l0_0) else (impl_HarderPuzzle.j0 k true l0_0))
set_option maxHeartbeats 8000000 in
set_option maxRecDepth 100000 in
theorem impl_HarderPuzzle.calls (k : Nat) (A0_0 : Option Addr) (c0_0 : Nat) (l0_0 : List (S40)) (r1 : List (S40)) (r2 : Bool) (w : World) (hr0_0 : Kd.C k40 w A0_0 l0_0.length l0_0) (hc0_0 : l0_0.length ≤ c0_0) (h : impl_HarderPuzzle.f k l0_0 = some (r1, r2)) :
  Calls Tryd.prog 17 #[.agg #[.slice A0_0 l0_0.length c0_0]] w fun e w' => ∃ v0_ : Value, e = .returned (.tuple #[.agg #[v0_], .bool r2]) ∧ Kd.R k40 40 w' w.heap.size (fun _ => True) v0_ r1 ∧ Below w.heap.size w w' := by
 have hu30 := Tryd.underlying30
 have HR0_0 := Az_ hr0_0
 have HC0_0 := Az_ hc0_0
 clear hr0_0 hc0_0
 have HB := Az_ (Below.refl w.heap.size w)
 have H : ((impl_IsSolved.f l0_0).bind fun bt396 => (if bt396.2 = true then (j0 k (!bt396.1) l0_0) else (j0 k true l0_0))) = some (r1, r2) := h
 clear h
 replace H := bqz_ H; obtain ⟨⟨t396, t397⟩, A2, H⟩ := H
 replace H : (if t397 = true then (j0 k (!t396) l0_0) else (j0 k true l0_0)) = some (r1, r2) := H
 have HC3 := Az_ H
 clear H
 go_enter Tryd.func17, Tryd.ntmps17
 go_upto_region 2 with (first | ((with_reducible refine gate_dst (N := 1) rfl ?_); refine bxe_ (N := 1) (cs := #[.slice A0_0 l0_0.length c0_0]) (t := 30) ?_; intro gb394 hg w4 BK394 hb; have GW394 := gez_ hg (ubz_ HB.out); have GE394 := GW394; replace HB := Az_ (btz_ (ubz_ HB.out) hb); clear hb hg) | ((with_reducible refine gate_dst (N := 2) rfl ?_); refine bxe_ (N := 2) (cs := #[.slice none 0 0]) (t := 30) ?_; intro gb395 hg w5 BK395 hb; obtain ⟨NB394_395, NB395_394⟩ := nez_ BK394 hg; have GW395 : Aside0 (w.heap.size ≤ gb395) := gez_ hg (w129_); have GE395 := GW395; replace HB := Az_ (btz_ (w129_) hb); replace BK394 := Az_ (ukbz_ BK394.out hb); clear hb hg; have hnb6 := NB394_395.out; have hnc6 := NB395_394.out; have hcz7_0 := cz_ (x := .slice A0_0 l0_0.length c0_0) BK394 0; have hfz7_0 := blk_frozen BK394.out 0) | ((with_reducible refine gate_callee (f := 19) rfl ?_); refine goesL_ (some 11) rfl rfl Tryd.func19 (w204_) rfl #[.agg #[.slice A0_0 l0_0.length c0_0]] rfl maz_ ?_; (with_reducible refine (impl_IsSolved.calls _ _ l0_0 t396 t397 _ ?side1 ?side2 A2.out).mono ?_); (case side1 => exact ucz_ ((Kd.C_below HR0_0.out HB.out))); (case side2 => exact HC0_0.out); rintro e w8 ⟨rfl, hb⟩; refine ⟨_, rfl, ?_⟩; have n2_ := Az_ (btz_ (w129_) hb); clear HB; replace BK394 := Az_ (ukbz_ BK394.out hb); replace BK395 := Az_ (ukbz_ BK395.out hb); have HB := n2_; clear n2_; (try clear hb)))
 (try simp only [Act.put, List.setIfInBounds_toArray, List.set_cons_zero, List.set_cons_succ])
 go_cut [19] (fun v19 wc => ∃ (kq : Nat) (x19_2 : Bool), v19 = .bool x19_2 ∧ Aside0 (j0 kq x19_2 l0_0 = some (r1, r2)) ∧ Aside0 (kq ≤ k) ∧ Aside0 (wc.heap[gb394]? = some (.cells #[(.slice A0_0 l0_0.length c0_0)] 30 (0, 0))) ∧ Aside0 (wc.heap[gb395]? = some (.cells #[(.slice none 0 0)] 30 (0, 0))) ∧ Aside0 (Below w.heap.size w wc))
 case first =>
  have H := HC3.out
  clear HC3
  by_cases c9 : t397 = true
  ·subst c9
   rw [if_pos rfl] at H
   have H' := Az_ H
   clear H
   go_wp2
   go_meet
   case rel => exact ⟨_, (!t396), qaz_, H', ⟨w173_⟩, ⟨w155_⟩, ⟨w156_⟩, ⟨w129_⟩⟩
  replace c9 := Bool.eq_false_iff.mpr c9
  subst c9
  rw [if_neg nfz_] at H
  have H' := Az_ H
  clear H
  go_wp2
  go_meet
  case rel => exact ⟨_, (true), qaz_, H', ⟨w173_⟩, ⟨w155_⟩, ⟨w156_⟩, ⟨w129_⟩⟩
 case rest =>
  clear HC3
  clear hcz7_0 hfz7_0
  obtain ⟨kq, x19_2, rfl, HA, HJ2, BK394, BK395, HB⟩ := hcut
  cases kq with
  | zero => exact absurd HA.out (by simp [j0])
  | succ kj2 =>
   have H := HA.out
   clear HA
   simp only [j0] at H
   by_cases c10 : x19_2 = true
   ·subst c10
    rw [if_pos rfl] at H
    simp only [Option.some.injEq, Prod.mk.injEq] at H
    obtain ⟨rfl, rfl⟩ := H
    have hnb11 := NB395_394.out
    have hnc11 := NB394_395.out
    have hcz12_0 := cz_ (x := .slice none 0 0) BK395 0
    have hfz12_0 := blk_frozen BK395.out 0
    go_wp2
    refine bodyPost_ret (results_ct rfl _ _ gb395 30 #[.slice none 0 0] (0, 0) _ rfl (w43_) Tryd.underlying30 rfl (w204_)) rfl ?_
    exact ⟨_, w166_, w130_, w129_⟩
   ·replace c10 := Bool.eq_false_iff.mpr c10
    subst c10
    rw [if_neg nfz_] at H
    replace H := bqz_ H; obtain ⟨t398, A13, H⟩ := H
    replace H : (impl_HarderPuzzle.l0 kj2 t398 0) = some (r1, r2) := H
    have H' := Az_ H
    clear H
    have hnb14 := NB394_395.out
    have hnc14 := NB395_394.out
    have hcz15_0 := cz_ (x := .slice A0_0 l0_0.length c0_0) BK394 0
    have hfz15_0 := blk_frozen BK394.out 0
    go_wp2_with (((with_reducible refine gate_callee (f := 54) rfl ?_); refine goesL_ (some 23) rfl rfl Tryd.func54 (w204_) rfl #[.slice A0_0 l0_0.length c0_0] rfl maz_ ?_; (with_reducible refine (clone_Clue.calls _ _ l0_0 t398 _ ?side1 ?side2 A13.out).mono ?_); (case side1 => exact ucz_ ((Kd.C_below HR0_0.out HB.out))); (case side2 => exact HC0_0.out); rintro e w16 ⟨v399, rfl, ho0, hb⟩; refine ⟨_, rfl, ?_⟩; have n0_ := Az_ (Kd.R_lower ho0 (below_size (w129_))); have n3_ := Az_ (btz_ (w129_) hb); clear HB; have HO400 := n0_; replace BK394 := Az_ (ukbz_ BK394.out hb); replace BK395 := Az_ (ukbz_ BK395.out hb); have HB := n3_; clear n0_ n3_; (try clear hb); (try clear ho0)))
    go_loopg [6, 7] kj2 (fun kq v6 v7 w' => ∃ (x6_2 : List (S40)) (x7_2 : Int), v7 = .int .i64 x7_2 ∧ Aside0 (impl_HarderPuzzle.l0 kq x6_2 x7_2 = some (r1, r2)) ∧ Aside0 (kq ≤ kj2) ∧ Aside0 (Kd.R k40 40 w' w.heap.size (fun _ => True) v6 x6_2) ∧ Aside0 (w'.heap[gb394]? = some (.cells #[(.slice A0_0 l0_0.length c0_0)] 30 (0, 0))) ∧ Aside0 (w'.heap[gb395]? = some (.cells #[(.slice none 0 0)] 30 (0, 0))) ∧ Aside0 (Below w.heap.size w w'))
    case atStart => exact ⟨(t398), (0), qaz_, H', ⟨Nat.le_refl _⟩, ⟨by (with_reducible repeat (first | apply raz_ | apply rnz_ | apply rdz_)); exact HO400.out⟩, ⟨w155_⟩, ⟨w156_⟩, ⟨w129_⟩⟩
    case round =>
     clear H'
     clear hcz15_0 hfz15_0
     obtain ⟨x6_2, x7_2, rfl, HA, HK2, HO_6, BK394, BK395, HB⟩ := hrel
     cases gk with
     | zero => exact absurd HA.out (by simp [impl_HarderPuzzle.l0])
     | succ k2 =>
      have H := HA.out
      clear HA
      simp only [impl_HarderPuzzle.l0] at H
      by_cases c17 : x7_2 < (x6_2.length : Int)
      ·rw [if_pos c17] at H
       have c17b0 := decide_eq_true c17
       clear c17
       replace H := bqz_ H; obtain ⟨t401, A18, H⟩ := H
       replace H := bqz_ H; obtain ⟨t404, A19, H⟩ := H
       replace H : (if (t404.length : Int) = 1 then (impl_HarderPuzzle.l0 k2 t401 x7_2) else (impl_HarderPuzzle.l0 k2 x6_2 (wrap64 (x7_2 + 1)))) = some (r1, r2) := H
       by_cases c20 : (t404.length : Int) = 1; rotate_left
       ·rw [if_neg c20] at H
        have c20b0 : ((t404.length : Int) == 1) = false := beq_eq_false_iff_ne.mpr c20
        have c20b1 : ((t404.length : Int) != 1) = true := bne_iff_ne.mpr c20
        have H' := Az_ H
        clear H
        obtain ⟨Ao26, co26, eo26⟩ := Kd.R_slice HO_6.out
        subst eo26
        go_wp2_with (first | ((with_reducible refine gate_callee (f := 55) rfl ?_); refine goesL_ (some 30) rfl rfl Tryd.func55 (w204_) rfl #[.slice Ao26 x6_2.length co26, .int .i64 x7_2] rfl maz_ ?_; (with_reducible refine (impl_without.calls _ _ x6_2 x7_2 t401 _ ?side1 ?side2 A18.out).mono ?_); (case side1 => exact ucz_ ((Kd.R_reads' HO_6.out).2.2)); (case side2 => exact (Kd.R_reads' HO_6.out).2.1); rintro e w27 ⟨v402, rfl, ho0, hb⟩; refine ⟨_, rfl, ?_⟩; have n0_ := Az_ (rez_ (w201_) (Kd.R_base ho0) hb); have n1_ := Az_ (Kd.R_lower (Kd.R_new' ho0 (Kd.R_lt (w201_))) (below_size (w129_))); have n4_ := Az_ (btz_ (w129_) hb); clear HO_6; clear HB; have HO_6 := n0_; have HO403 := n1_; replace BK394 := Az_ (ukbz_ BK394.out hb); replace BK395 := Az_ (ukbz_ BK395.out hb); have HB := n4_; clear n0_ n1_ n4_; (try clear hb); (try clear ho0); obtain ⟨Ao28, co28, eo28⟩ := Kd.R_slice HO403.out; subst eo28) | ((with_reducible refine gate_callee (f := 56) rfl ?_); refine goesL_ (some 32) rfl rfl Tryd.func56 (w204_) rfl #[.slice Ao28 t401.length co28] rfl maz_ ?_; (with_reducible refine (impl_solutions.calls _ _ t401 t404 _ ?side1 ?side2 A19.out).mono ?_); (case side1 => exact ucz_ ((Kd.R_reads' HO403.out).2.2)); (case side2 => exact (Kd.R_reads' HO403.out).2.1); rintro e w29 ⟨v405, rfl, ho0, hb⟩; refine ⟨_, rfl, ?_⟩; have n0_ := Az_ (Kd.R_below (w201_) hb); have n1_ := Az_ (Kd.R_below (by exact urz_ HO403.out) hb); have n2_ := Az_ (Kd.R_lower ho0 (below_size (w129_))); have n5_ := Az_ (btz_ (w129_) hb); clear HO_6; clear HO403; clear HB; have HO_6 := n0_; have HO403 := n1_; have HO406 := n2_; replace BK394 := Az_ (ukbz_ BK394.out hb); replace BK395 := Az_ (ukbz_ BK395.out hb); have HB := n5_; clear n0_ n1_ n2_ n5_; (try clear hb); (try clear ho0); obtain ⟨Ao30, co30, eo30⟩ := Kd.R_slice HO406.out; subst eo30))
        go_roundg k2
        case measure => have := HJ2.out; have := HK2.out; omega
        case rel => exact ⟨(x6_2), (wrap64 (x7_2 + 1)), qaz_, H', ⟨by have := HJ2.out; have := HK2.out; omega⟩, ⟨by (with_reducible repeat (first | apply raz_ | apply rnz_ | apply rdz_)); exact Kd.R_mono HO_6.out (fun _ hk => trivial)⟩, ⟨w155_⟩, ⟨w156_⟩, ⟨w129_⟩⟩
       rw [if_pos c20] at H
       have c20b0 : ((t404.length : Int) == 1) = true := beq_iff_eq.mpr c20
       have c20b1 : ((t404.length : Int) != 1) = false := bne_eq_false_iff_eq.mpr c20
       clear c20
       have H' := Az_ H
       clear H
       obtain ⟨Ao21, co21, eo21⟩ := Kd.R_slice HO_6.out
       subst eo21
       go_wp2_with (first | ((with_reducible refine gate_callee (f := 55) rfl ?_); refine goesL_ (some 30) rfl rfl Tryd.func55 (w204_) rfl #[.slice Ao21 x6_2.length co21, .int .i64 x7_2] rfl maz_ ?_; (with_reducible refine (impl_without.calls _ _ x6_2 x7_2 t401 _ ?side1 ?side2 A18.out).mono ?_); (case side1 => exact ucz_ ((Kd.R_reads' HO_6.out).2.2)); (case side2 => exact (Kd.R_reads' HO_6.out).2.1); rintro e w22 ⟨v402, rfl, ho0, hb⟩; refine ⟨_, rfl, ?_⟩; have n0_ := Az_ (rez_ (w201_) (Kd.R_base ho0) hb); have n1_ := Az_ (Kd.R_lower (Kd.R_new' ho0 (Kd.R_lt (w201_))) (below_size (w129_))); have n4_ := Az_ (btz_ (w129_) hb); clear HO_6; clear HB; have HO_6 := n0_; have HO403 := n1_; replace BK394 := Az_ (ukbz_ BK394.out hb); replace BK395 := Az_ (ukbz_ BK395.out hb); have HB := n4_; clear n0_ n1_ n4_; (try clear hb); (try clear ho0); obtain ⟨Ao23, co23, eo23⟩ := Kd.R_slice HO403.out; subst eo23) | ((with_reducible refine gate_callee (f := 56) rfl ?_); refine goesL_ (some 32) rfl rfl Tryd.func56 (w204_) rfl #[.slice Ao23 t401.length co23] rfl maz_ ?_; (with_reducible refine (impl_solutions.calls _ _ t401 t404 _ ?side1 ?side2 A19.out).mono ?_); (case side1 => exact ucz_ ((Kd.R_reads' HO403.out).2.2)); (case side2 => exact (Kd.R_reads' HO403.out).2.1); rintro e w24 ⟨v405, rfl, ho0, hb⟩; refine ⟨_, rfl, ?_⟩; have n0_ := Az_ (Kd.R_below (w201_) hb); have n1_ := Az_ (Kd.R_below (by exact urz_ HO403.out) hb); have n2_ := Az_ (Kd.R_lower ho0 (below_size (w129_))); have n5_ := Az_ (btz_ (w129_) hb); clear HO_6; clear HO403; clear HB; have HO_6 := n0_; have HO403 := n1_; have HO406 := n2_; replace BK394 := Az_ (ukbz_ BK394.out hb); replace BK395 := Az_ (ukbz_ BK395.out hb); have HB := n5_; clear n0_ n1_ n2_ n5_; (try clear hb); (try clear ho0); obtain ⟨Ao25, co25, eo25⟩ := Kd.R_slice HO406.out; subst eo25))
       go_roundg k2
       case measure => have := HJ2.out; have := HK2.out; omega
       case rel => exact ⟨(t401), (x7_2), qaz_, H', ⟨by have := HJ2.out; have := HK2.out; omega⟩, ⟨by (with_reducible repeat (first | apply raz_ | apply rnz_ | apply rdz_)); exact Kd.R_mono HO403.out (fun _ hk => trivial)⟩, ⟨w155_⟩, ⟨w156_⟩, ⟨w129_⟩⟩
      ·rw [if_neg c17] at H
       have c17b0 := decide_eq_false c17
       clear c17
       simp only [Option.some.injEq, Prod.mk.injEq] at H
       obtain ⟨rfl, rfl⟩ := H
       obtain ⟨Ao31, co31, eo31⟩ := Kd.R_slice HO_6.out
       subst eo31
       have hnb32 := NB395_394.out
       have hnc32 := NB394_395.out
       have hcz33_0 := cz_ (x := .slice none 0 0) BK395 0
       have hfz33_0 := blk_frozen BK395.out 0
       go_wp2
       refine bodyPost_ret (results_ct rfl _ _ gb395 30 #[.slice Ao31 x6_2.length co31] (0, 0) _ rfl (w43_) Tryd.underlying30 rfl (w204_)) rfl ?_
       exact ⟨_, w166_, by (with_reducible repeat (first | apply raz_ | apply rnz_ | apply rdz_)); exact Kd.R_mono (Kd.R_far (p := ⟨gb395, 0, none⟩) (Kd.R_types HO_6.out BK395.out (by decide)) (fun _ hk => hk.2) (.slice Ao31 x6_2.length co31)) (fun _ hk => trivial), w129_⟩


def spec_pzClue.j0 : Nat → Int → Bool → Int → Int → Int → Option (Bool)
 | 0, _, _, _, _, _ => none
 | k + 1, x8, x9, x408000, x408001, x408002 => if x9 = true then (some (x408001 == 0)) else (if x8 = 2 then ((spec_l1In.f x408001 0 9).bind fun t409 => (some t409)) else (if x8 = 3 then ((spec_l1In.f x408001 1 40).bind fun t410 => (if t410 = true then (some (decide (x408002 < 2))) else (some false))) else (if x8 = 4 then ((spec_l1In.f x408001 2 9).bind fun t411 => (if t411 = true then (some (decide (x408002 < 2))) else (some false))) else (some false))))
def spec_pzClue.f (k : Nat) (a0_0 : Int) (a0_1 : Int) (a0_2 : Int) : Option (Bool) := (spec_l1In.f a0_2 0 1000).bind fun t408 => (if t408 = true then (if a0_0 = 0 then (spec_pzClue.j0 k a0_0 (a0_0 == 0) a0_0 a0_1 a0_2) else (if a0_0 = 1 then (spec_pzClue.j0 k a0_0 (a0_0 == 1) a0_0 a0_1 a0_2) else (spec_pzClue.j0 k a0_0 (a0_0 == 5) a0_0 a0_1 a0_2))) else (some false))
set_option maxHeartbeats 8000000 in
set_option maxRecDepth 100000 in
theorem spec_pzClue.calls (k : Nat) (a0_0 : Int) (a0_1 : Int) (a0_2 : Int) (r : Bool) (w : World) (h : spec_pzClue.f k a0_0 a0_1 a0_2 = some r) :
  Calls Tryd.prog 61 #[.agg #[.int .i64 a0_0, .int .i64 a0_1, .int .i64 a0_2]] w fun e w' => e = .returned (.bool r) ∧ Below w.heap.size w w' := by
 have hu40 := Tryd.underlying40
 have HB := Az_ (Below.refl w.heap.size w)
 have H : ((spec_l1In.f a0_2 0 1000).bind fun t408 => (if t408 = true then (if a0_0 = 0 then (j0 k a0_0 (a0_0 == 0) a0_0 a0_1 a0_2) else (if a0_0 = 1 then (j0 k a0_0 (a0_0 == 1) a0_0 a0_1 a0_2) else (j0 k a0_0 (a0_0 == 5) a0_0 a0_1 a0_2))) else (some false))) = some r := h
 clear h
 replace H := bqz_ H; obtain ⟨t408, A2, H⟩ := H
 replace H : (if t408 = true then (if a0_0 = 0 then (j0 k a0_0 (a0_0 == 0) a0_0 a0_1 a0_2) else (if a0_0 = 1 then (j0 k a0_0 (a0_0 == 1) a0_0 a0_1 a0_2) else (j0 k a0_0 (a0_0 == 5) a0_0 a0_1 a0_2))) else (some false)) = some r := H
 by_cases c3 : t408 = true
 ·subst c3
  rw [if_pos rfl] at H
  have HC4 := Az_ H
  clear H
  go_enter Tryd.func61, Tryd.ntmps61
  go_upto_if 9 with (first | ((with_reducible refine gate_dst (N := 1) rfl ?_); refine bxe_ (N := 1) (cs := #[.int .i64 a0_0, .int .i64 a0_1, .int .i64 a0_2]) (t := 40) ?_; intro gb407 hg w5 BK407 hb; have GW407 := gez_ hg (ubz_ HB.out); have GE407 := GW407; replace HB := Az_ (btz_ (ubz_ HB.out) hb); clear hb hg; have hcz6_0 := cz_ (x := .int .i64 a0_0) BK407 0; have hcz6_1 := cz_ (x := .int .i64 a0_1) BK407 1; have hcz6_2 := cz_ (x := .int .i64 a0_2) BK407 2; have hfz6_0 := blk_frozen BK407.out 0; have hfz6_1 := blk_frozen BK407.out 1; have hfz6_2 := blk_frozen BK407.out 2) | ((with_reducible refine gate_callee (f := 43) rfl ?_); refine goesL_ (some 5) rfl rfl Tryd.func43 (w204_) rfl #[.int .i64 a0_2, .int .i64 0, .int .i64 1000] rfl maz_ ?_; (with_reducible refine (spec_l1In.calls a0_2 0 1000 true _ A2.out).mono ?_); rintro e w' ⟨rfl, ⟨nd, rfl⟩⟩; refine ⟨_, rfl, ?_⟩))
  (try simp only [Act.put, List.setIfInBounds_toArray, List.set_cons_zero, List.set_cons_succ])
  go_cut [9] (fun v9 wc => ∃ (kq : Nat) (x9_3 : Bool), v9 = .bool x9_3 ∧ Aside0 (j0 kq a0_0 x9_3 a0_0 a0_1 a0_2 = some r) ∧ Aside0 (kq ≤ k) ∧ Aside0 (wc.heap[gb407]? = some (.cells #[.int .i64 a0_0, .int .i64 a0_1, .int .i64 a0_2] 40 (0, 0))) ∧ Aside0 (Below w.heap.size w wc))
  case first =>
   have H := HC4.out
   clear HC4
   by_cases c7 : a0_0 = 0
   ·rw [if_pos c7] at H
    have c7b0 : (a0_0 == 0) = true := beq_iff_eq.mpr c7
    have c7b1 : (a0_0 != 0) = false := bne_eq_false_iff_eq.mpr c7
    clear c7
    (first | rw [c7b0] | (simp only [i64_w, i32_w]; rw [c7b0]) | skip)
    have H' := Az_ H
    clear H
    go_wp2
    go_meet
    case rel => exact ⟨_, ((a0_0 == 0)), qaz_, H', ⟨w173_⟩, ⟨w157_⟩, ⟨w129_⟩⟩
   rw [if_neg c7] at H
   have c7b0 : (a0_0 == 0) = false := beq_eq_false_iff_ne.mpr c7
   have c7b1 : (a0_0 != 0) = true := bne_iff_ne.mpr c7
   (first | rw [c7b0] | (simp only [i64_w, i32_w]; rw [c7b0]) | skip)
   by_cases c8 : a0_0 = 1; rotate_left
   ·rw [if_neg c8] at H
    have c8b0 : (a0_0 == 1) = false := beq_eq_false_iff_ne.mpr c8
    have c8b1 : (a0_0 != 1) = true := bne_iff_ne.mpr c8
    have H' := Az_ H
    clear H
    go_wp2
    go_meet
    case rel => exact ⟨_, ((a0_0 == 5)), qaz_, H', ⟨w173_⟩, ⟨w157_⟩, ⟨w129_⟩⟩
   rw [if_pos c8] at H
   have c8b0 : (a0_0 == 1) = true := beq_iff_eq.mpr c8
   have c8b1 : (a0_0 != 1) = false := bne_eq_false_iff_eq.mpr c8
   clear c8
   have H' := Az_ H
   clear H
   go_wp2
   go_meet
   case rel => exact ⟨_, ((a0_0 == 1)), qaz_, H', ⟨w173_⟩, ⟨w157_⟩, ⟨w129_⟩⟩
  case rest =>
   clear HC4
   clear hcz6_0 hcz6_1 hcz6_2 hfz6_0 hfz6_1 hfz6_2
   obtain ⟨kq, x9_3, rfl, HA, HJ3, BK407, HB⟩ := hcut
   cases kq with
   | zero => exact absurd HA.out (by simp [j0])
   | succ kj3 =>
    have H := HA.out
    clear HA
    simp only [j0] at H
    by_cases c9 : x9_3 = true
    ·subst c9
     rw [if_pos rfl] at H
     obtain rfl := Option.some.inj H
     have hcz10_0 := cz_ (x := .int .i64 a0_0) BK407 0
     have hcz10_1 := cz_ (x := .int .i64 a0_1) BK407 1
     have hcz10_2 := cz_ (x := .int .i64 a0_2) BK407 2
     have hfz10_0 := blk_frozen BK407.out 0
     have hfz10_1 := blk_frozen BK407.out 1
     have hfz10_2 := blk_frozen BK407.out 2
     go_wp2
     go_ret
     exact ⟨w166_, w129_⟩
    replace c9 := Bool.eq_false_iff.mpr c9
    subst c9
    rw [if_neg nfz_] at H
    by_cases c11 : a0_0 = 2
    ·rw [if_pos c11] at H
     have c11b0 : (a0_0 == 2) = true := beq_iff_eq.mpr c11
     have c11b1 : (a0_0 != 2) = false := bne_eq_false_iff_eq.mpr c11
     clear c11
     replace H := bqz_ H; obtain ⟨t409, A12, H⟩ := H
     replace H : (some t409) = some r := H
     obtain rfl := Option.some.inj H
     have hcz13_0 := cz_ (x := .int .i64 a0_0) BK407 0
     have hcz13_1 := cz_ (x := .int .i64 a0_1) BK407 1
     have hcz13_2 := cz_ (x := .int .i64 a0_2) BK407 2
     have hfz13_0 := blk_frozen BK407.out 0
     have hfz13_1 := blk_frozen BK407.out 1
     have hfz13_2 := blk_frozen BK407.out 2
     go_wp2_with (((with_reducible refine gate_callee (f := 43) rfl ?_); refine goesL_ (some 20) rfl rfl Tryd.func43 (w204_) rfl #[.int .i64 a0_1, .int .i64 0, .int .i64 9] rfl maz_ ?_; (with_reducible refine (spec_l1In.calls a0_1 0 9 t409 _ A12.out).mono ?_); rintro e w' ⟨rfl, ⟨nd, rfl⟩⟩; refine ⟨_, rfl, ?_⟩))
     go_ret
     exact ⟨w166_, w129_⟩
    rw [if_neg c11] at H
    have c11b0 : (a0_0 == 2) = false := beq_eq_false_iff_ne.mpr c11
    have c11b1 : (a0_0 != 2) = true := bne_iff_ne.mpr c11
    by_cases c14 : a0_0 = 3
    ·rw [if_pos c14] at H
     have c14b0 : (a0_0 == 3) = true := beq_iff_eq.mpr c14
     have c14b1 : (a0_0 != 3) = false := bne_eq_false_iff_eq.mpr c14
     clear c14
     replace H := bqz_ H; obtain ⟨t410, A15, H⟩ := H
     replace H : (if t410 = true then (some (decide (a0_2 < 2))) else (some false)) = some r := H
     by_cases c16 : t410 = true
     ·subst c16
      rw [if_pos rfl] at H
      obtain rfl := Option.some.inj H
      have hcz17_0 := cz_ (x := .int .i64 a0_0) BK407 0
      have hcz17_1 := cz_ (x := .int .i64 a0_1) BK407 1
      have hcz17_2 := cz_ (x := .int .i64 a0_2) BK407 2
      have hfz17_0 := blk_frozen BK407.out 0
      have hfz17_1 := blk_frozen BK407.out 1
      have hfz17_2 := blk_frozen BK407.out 2
      go_wp2_with (((with_reducible refine gate_callee (f := 43) rfl ?_); refine goesL_ (some 25) rfl rfl Tryd.func43 (w204_) rfl #[.int .i64 a0_1, .int .i64 1, .int .i64 40] rfl maz_ ?_; (with_reducible refine (spec_l1In.calls a0_1 1 40 true _ A15.out).mono ?_); rintro e w' ⟨rfl, ⟨nd, rfl⟩⟩; refine ⟨_, rfl, ?_⟩))
      go_ret
      exact ⟨w166_, w129_⟩
     replace c16 := Bool.eq_false_iff.mpr c16
     subst c16
     rw [if_neg nfz_] at H
     obtain rfl := Option.some.inj H
     have hcz18_0 := cz_ (x := .int .i64 a0_0) BK407 0
     have hcz18_1 := cz_ (x := .int .i64 a0_1) BK407 1
     have hcz18_2 := cz_ (x := .int .i64 a0_2) BK407 2
     have hfz18_0 := blk_frozen BK407.out 0
     have hfz18_1 := blk_frozen BK407.out 1
     have hfz18_2 := blk_frozen BK407.out 2
     go_wp2_with (((with_reducible refine gate_callee (f := 43) rfl ?_); refine goesL_ (some 25) rfl rfl Tryd.func43 (w204_) rfl #[.int .i64 a0_1, .int .i64 1, .int .i64 40] rfl maz_ ?_; (with_reducible refine (spec_l1In.calls a0_1 1 40 false _ A15.out).mono ?_); rintro e w' ⟨rfl, ⟨nd, rfl⟩⟩; refine ⟨_, rfl, ?_⟩))
     go_ret
     exact ⟨w166_, w129_⟩
    rw [if_neg c14] at H
    have c14b0 : (a0_0 == 3) = false := beq_eq_false_iff_ne.mpr c14
    have c14b1 : (a0_0 != 3) = true := bne_iff_ne.mpr c14
    by_cases c19 : a0_0 = 4; rotate_left
    ·rw [if_neg c19] at H
     have c19b0 : (a0_0 == 4) = false := beq_eq_false_iff_ne.mpr c19
     have c19b1 : (a0_0 != 4) = true := bne_iff_ne.mpr c19
     obtain rfl := Option.some.inj H
     go_wp2
     go_ret
     exact ⟨w166_, w129_⟩
    rw [if_pos c19] at H
    have c19b0 : (a0_0 == 4) = true := beq_iff_eq.mpr c19
    have c19b1 : (a0_0 != 4) = false := bne_eq_false_iff_eq.mpr c19
    clear c19
    replace H := bqz_ H; obtain ⟨t411, A20, H⟩ := H
    replace H : (if t411 = true then (some (decide (a0_2 < 2))) else (some false)) = some r := H
    by_cases c21 : t411 = true
    ·subst c21
     rw [if_pos rfl] at H
     obtain rfl := Option.some.inj H
     have hcz22_0 := cz_ (x := .int .i64 a0_0) BK407 0
     have hcz22_1 := cz_ (x := .int .i64 a0_1) BK407 1
     have hcz22_2 := cz_ (x := .int .i64 a0_2) BK407 2
     have hfz22_0 := blk_frozen BK407.out 0
     have hfz22_1 := blk_frozen BK407.out 1
     have hfz22_2 := blk_frozen BK407.out 2
     go_wp2_with (((with_reducible refine gate_callee (f := 43) rfl ?_); refine goesL_ (some 35) rfl rfl Tryd.func43 (w204_) rfl #[.int .i64 a0_1, .int .i64 2, .int .i64 9] rfl maz_ ?_; (with_reducible refine (spec_l1In.calls a0_1 2 9 true _ A20.out).mono ?_); rintro e w' ⟨rfl, ⟨nd, rfl⟩⟩; refine ⟨_, rfl, ?_⟩))
     go_ret
     exact ⟨w166_, w129_⟩
    replace c21 := Bool.eq_false_iff.mpr c21
    subst c21
    rw [if_neg nfz_] at H
    obtain rfl := Option.some.inj H
    have hcz23_0 := cz_ (x := .int .i64 a0_0) BK407 0
    have hcz23_1 := cz_ (x := .int .i64 a0_1) BK407 1
    have hcz23_2 := cz_ (x := .int .i64 a0_2) BK407 2
    have hfz23_0 := blk_frozen BK407.out 0
    have hfz23_1 := blk_frozen BK407.out 1
    have hfz23_2 := blk_frozen BK407.out 2
    go_wp2_with (((with_reducible refine gate_callee (f := 43) rfl ?_); refine goesL_ (some 35) rfl rfl Tryd.func43 (w204_) rfl #[.int .i64 a0_1, .int .i64 2, .int .i64 9] rfl maz_ ?_; (with_reducible refine (spec_l1In.calls a0_1 2 9 false _ A20.out).mono ?_); rintro e w' ⟨rfl, ⟨nd, rfl⟩⟩; refine ⟨_, rfl, ?_⟩))
    go_ret
    exact ⟨w166_, w129_⟩
 ·replace c3 := Bool.eq_false_iff.mpr c3
  subst c3
  rw [if_neg nfz_] at H
  obtain rfl := Option.some.inj H
  go_enter Tryd.func61, Tryd.ntmps61
  go_wp2_with (first | ((with_reducible refine gate_dst (N := 1) rfl ?_); refine bxe_ (N := 1) (cs := #[.int .i64 a0_0, .int .i64 a0_1, .int .i64 a0_2]) (t := 40) ?_; intro gb407 hg w24 BK407 hb; have GW407 := gez_ hg (ubz_ HB.out); have GE407 := GW407; replace HB := Az_ (btz_ (ubz_ HB.out) hb); clear hb hg; have hcz25_0 := cz_ (x := .int .i64 a0_0) BK407 0; have hcz25_1 := cz_ (x := .int .i64 a0_1) BK407 1; have hcz25_2 := cz_ (x := .int .i64 a0_2) BK407 2; have hfz25_0 := blk_frozen BK407.out 0; have hfz25_1 := blk_frozen BK407.out 1; have hfz25_2 := blk_frozen BK407.out 2) | ((with_reducible refine gate_callee (f := 43) rfl ?_); refine goesL_ (some 5) rfl rfl Tryd.func43 (w204_) rfl #[.int .i64 a0_2, .int .i64 0, .int .i64 1000] rfl maz_ ?_; (with_reducible refine (spec_l1In.calls a0_2 0 1000 false _ A2.out).mono ?_); rintro e w' ⟨rfl, ⟨nd, rfl⟩⟩; refine ⟨_, rfl, ?_⟩))
  go_ret
  exact ⟨w166_, w129_⟩

def spec_pzGood.l0 : Nat → List (S40) → Int → Int → Option (Bool)
 | 0, _, _, _ => none
 | k + 1, x10, x11, x12 => if x12 < x11 then (if 0 ≤ x12 then (if x12 < (x10.length : Int) then ((spec_pzClue.f k ((rd_T40 x10 x12).f0) ((rd_T40 x10 x12).f1) ((rd_T40 x10 x12).f2)).bind fun t415 => (if t415 = true then (spec_pzGood.l0 k x10 x11 (wrap64 (x12 + 1))) else (some false))) else (none)) else (none)) else (some true)
def spec_pzGood.f (k : Nat) (l0_0 : List (S40)) : Option (Bool) := if (l0_0.length : Int) > 6 then (some false) else (spec_pzGood.l0 k l0_0 (l0_0.length : Int) 0)
set_option maxHeartbeats 8000000 in
set_option maxRecDepth 100000 in
theorem spec_pzGood.calls (k : Nat) (A0_0 : Option Addr) (c0_0 : Nat) (l0_0 : List (S40)) (r : Bool) (w : World) (hr0_0 : Kd.C k40 w A0_0 l0_0.length l0_0) (hc0_0 : l0_0.length ≤ c0_0) (h : spec_pzGood.f k l0_0 = some r) :
  Calls Tryd.prog 57 #[.agg #[.slice A0_0 l0_0.length c0_0]] w fun e w' => e = .returned (.bool r) ∧ Below w.heap.size w w' := by
 have hu30 := Tryd.underlying30
 have hu40 := Tryd.underlying40
 have HR0_0 := Az_ hr0_0
 have HC0_0 := Az_ hc0_0
 clear hr0_0 hc0_0
 have HB := Az_ (Below.refl w.heap.size w)
 have H : (if (l0_0.length : Int) > 6 then (some false) else (spec_pzGood.l0 k l0_0 (l0_0.length : Int) 0)) = some r := h
 clear h
 by_cases c2 : (l0_0.length : Int) > 6
 ·rw [if_pos c2] at H
  have c2b0 := decide_eq_true c2
  have c2b1 : decide (6 < l0_0.length) = true := decide_eq_true (by omega)
  clear c2
  obtain rfl := Option.some.inj H
  go_enter Tryd.func57, Tryd.ntmps57
  go_wp2_with (((with_reducible refine gate_dst (N := 1) rfl ?_); refine bxe_ (N := 1) (cs := #[.slice A0_0 l0_0.length c0_0]) (t := 30) ?_; intro gb412 hg w3 BK412 hb; have GW412 := gez_ hg (ubz_ HB.out); have GE412 := GW412; replace HB := Az_ (btz_ (ubz_ HB.out) hb); clear hb hg; have hcz4_0 := cz_ (x := .slice A0_0 l0_0.length c0_0) BK412 0; have hfz4_0 := blk_frozen BK412.out 0))
  go_ret
  exact ⟨w166_, w129_⟩
 ·rw [if_neg c2] at H
  have c2b0 := decide_eq_false c2
  have c2b1 : decide (6 < l0_0.length) = false := decide_eq_false (by omega)
  clear c2
  have H' := Az_ H
  clear H
  go_enter Tryd.func57, Tryd.ntmps57
  go_wp2_with (((with_reducible refine gate_dst (N := 1) rfl ?_); refine bxe_ (N := 1) (cs := #[.slice A0_0 l0_0.length c0_0]) (t := 30) ?_; intro gb412 hg w5 BK412 hb; have GW412 := gez_ hg (ubz_ HB.out); have GE412 := GW412; replace HB := Az_ (btz_ (ubz_ HB.out) hb); clear hb hg; have hcz6_0 := cz_ (x := .slice A0_0 l0_0.length c0_0) BK412 0; have hfz6_0 := blk_frozen BK412.out 0))
  go_loopg [12] k (fun kq v12 w' => ∃ (x12_1 : Int), v12 = .int .i64 x12_1 ∧ Aside0 (spec_pzGood.l0 kq l0_0 (l0_0.length : Int) x12_1 = some r) ∧ Aside0 (kq ≤ k) ∧ Aside0 (w'.heap[gb412]? = some (.cells #[(.slice A0_0 l0_0.length c0_0)] 30 (0, 0))) ∧ Aside0 (Below w.heap.size w w'))
  case atStart => exact ⟨(0), qaz_, H', ⟨Nat.le_refl _⟩, ⟨by (with_reducible repeat (first | refine knz_ ?_ _ | refine kdz_ ?_ | refine kaz_ ?_ _)); exact BK412.out⟩, ⟨w129_⟩⟩
  case round =>
   clear H'
   clear c2b0 c2b1 hcz6_0 hfz6_0
   obtain ⟨x12_1, rfl, HA, HK1, BK412, HB⟩ := hrel
   cases gk with
   | zero => exact absurd HA.out (by simp [spec_pzGood.l0])
   | succ k1 =>
    have H := HA.out
    clear HA
    simp only [spec_pzGood.l0] at H
    by_cases c7 : x12_1 < (l0_0.length : Int)
    ·rw [if_pos c7] at H
     have c7b0 := decide_eq_true c7
     clear c7
     by_cases c8 : 0 ≤ x12_1; rotate_left
     ·rw [if_neg c8] at H
      exact absurd H (by simp)
     rw [if_pos c8] at H
     have c8b0 := decide_eq_true c8
     clear c8
     by_cases c9 : x12_1 < (l0_0.length : Int); rotate_left
     ·rw [if_neg c9] at H
      exact absurd H (by simp)
     rw [if_pos c9] at H
     have c9b0 := decide_eq_true c9
     clear c9
     replace H := bqz_ H; obtain ⟨t415, A10, H⟩ := H
     replace H : (if t415 = true then (spec_pzGood.l0 k1 l0_0 (l0_0.length : Int) (wrap64 (x12_1 + 1))) else (some false)) = some r := H
     by_cases c11 : t415 = true; rotate_left
     ·replace c11 := Bool.eq_false_iff.mpr c11
      subst c11
      rw [if_neg nfz_] at H
      obtain rfl := Option.some.inj H
      have p413 : 0 ≤ (x12_1 : Int) := od_
      have q413 : x12_1 < (l0_0.length : Int) := od_
      obtain ⟨ad413, e413, hx413_0, hx413_1, hx413_2⟩ := at_T40 HR0_0.out x12_1 p413 q413
      cases e413
      replace hx413_0 := hbz_ HB.out hx413_0
      replace hx413_1 := hbz_ HB.out hx413_1
      replace hx413_2 := hbz_ HB.out hx413_2
      replace p413 := eq_true p413
      replace q413 := eq_true q413
      go_wp2_with (first | ((with_reducible refine gate_dst (N := 4) rfl ?_); refine bxe_ (N := 4) (cs := #[.int .i64 0, .int .i64 0, .int .i64 0]) (t := 40) ?_; intro gb414 hg w16 BK414 hb; obtain ⟨NB412_414, NB414_412⟩ := nez_ BK412 hg; have GW414 : Aside0 (w.heap.size ≤ gb414) := gez_ hg (w129_); have GE414 := GW414; replace HB := Az_ (btz_ (w129_) hb); replace BK412 := Az_ (ukbz_ BK412.out hb); clear hb hg; have hnb17 := NB414_412.out; have hnc17 := NB412_414.out; have hcz18_0 := cz_ (x := .int .i64 0) BK414 0; have hcz18_1 := cz_ (x := .int .i64 0) BK414 1; have hcz18_2 := cz_ (x := .int .i64 0) BK414 2; have hfz18_0 := blk_frozen BK414.out 0; have hfz18_1 := blk_frozen BK414.out 1; have hfz18_2 := blk_frozen BK414.out 2) | ((with_reducible refine gate_callee (f := 61) rfl ?_); refine goesL_ (some 17) rfl rfl Tryd.func61 (w204_) rfl #[.agg #[.int .i64 ((rd_T40 l0_0 x12_1).f0), .int .i64 ((rd_T40 l0_0 x12_1).f1), .int .i64 ((rd_T40 l0_0 x12_1).f2)]] rfl maz_ ?_; (with_reducible refine (spec_pzClue.calls k1 ((rd_T40 l0_0 x12_1).f0) ((rd_T40 l0_0 x12_1).f1) ((rd_T40 l0_0 x12_1).f2) false _ A10.out).mono ?_); rintro e w19 ⟨rfl, hb⟩; refine ⟨_, rfl, ?_⟩; replace BK412 := Az_ (kbz_ (g := gb412) (o := .cells #[.slice (some ad413) l0_0.length c0_0] 30 (0, 0)) (w9_) hb); replace BK414 := Az_ (kbz_ (g := gb414) (o := .cells #[.int .i64 ((rd_T40 l0_0 x12_1).f0), .int .i64 ((rd_T40 l0_0 x12_1).f1), .int .i64 ((rd_T40 l0_0 x12_1).f2)] 40 (0, 0)) (w6_) hb); replace HB := Az_ (btz_ (w129_) hb); (try clear hb)))
      go_ret
      exact ⟨w166_, w129_⟩
     subst c11
     rw [if_pos rfl] at H
     have H' := Az_ H
     clear H
     have p413 : 0 ≤ (x12_1 : Int) := od_
     have q413 : x12_1 < (l0_0.length : Int) := od_
     obtain ⟨ad413, e413, hx413_0, hx413_1, hx413_2⟩ := at_T40 HR0_0.out x12_1 p413 q413
     cases e413
     replace hx413_0 := hbz_ HB.out hx413_0
     replace hx413_1 := hbz_ HB.out hx413_1
     replace hx413_2 := hbz_ HB.out hx413_2
     replace p413 := eq_true p413
     replace q413 := eq_true q413
     go_wp2_with (first | ((with_reducible refine gate_dst (N := 4) rfl ?_); refine bxe_ (N := 4) (cs := #[.int .i64 0, .int .i64 0, .int .i64 0]) (t := 40) ?_; intro gb414 hg w12 BK414 hb; obtain ⟨NB412_414, NB414_412⟩ := nez_ BK412 hg; have GW414 : Aside0 (w.heap.size ≤ gb414) := gez_ hg (w129_); have GE414 := GW414; replace HB := Az_ (btz_ (w129_) hb); replace BK412 := Az_ (ukbz_ BK412.out hb); clear hb hg; have hnb13 := NB414_412.out; have hnc13 := NB412_414.out; have hcz14_0 := cz_ (x := .int .i64 0) BK414 0; have hcz14_1 := cz_ (x := .int .i64 0) BK414 1; have hcz14_2 := cz_ (x := .int .i64 0) BK414 2; have hfz14_0 := blk_frozen BK414.out 0; have hfz14_1 := blk_frozen BK414.out 1; have hfz14_2 := blk_frozen BK414.out 2) | ((with_reducible refine gate_callee (f := 61) rfl ?_); refine goesL_ (some 17) rfl rfl Tryd.func61 (w204_) rfl #[.agg #[.int .i64 ((rd_T40 l0_0 x12_1).f0), .int .i64 ((rd_T40 l0_0 x12_1).f1), .int .i64 ((rd_T40 l0_0 x12_1).f2)]] rfl maz_ ?_; (with_reducible refine (spec_pzClue.calls k1 ((rd_T40 l0_0 x12_1).f0) ((rd_T40 l0_0 x12_1).f1) ((rd_T40 l0_0 x12_1).f2) true _ A10.out).mono ?_); rintro e w15 ⟨rfl, hb⟩; refine ⟨_, rfl, ?_⟩; replace BK412 := Az_ (kbz_ (g := gb412) (o := .cells #[.slice (some ad413) l0_0.length c0_0] 30 (0, 0)) (w9_) hb); replace BK414 := Az_ (kbz_ (g := gb414) (o := .cells #[.int .i64 ((rd_T40 l0_0 x12_1).f0), .int .i64 ((rd_T40 l0_0 x12_1).f1), .int .i64 ((rd_T40 l0_0 x12_1).f2)] 40 (0, 0)) (w6_) hb); replace HB := Az_ (btz_ (w129_) hb); (try clear hb)))
     go_roundg k1
     case measure => have := HK1.out; omega
     case rel => exact ⟨(wrap64 (x12_1 + 1)), qaz_, H', ⟨w177_⟩, ⟨by (with_reducible repeat (first | refine knz_ ?_ _ | refine kdz_ ?_ | refine kaz_ ?_ _)); exact BK412.out⟩, ⟨w129_⟩⟩
    ·rw [if_neg c7] at H
     have c7b0 := decide_eq_false c7
     clear c7
     obtain rfl := Option.some.inj H
     go_wp2
     go_ret
     exact ⟨w166_, w129_⟩

end Go.Proofs.YtodacdcbeleleaaDoor.P
end
