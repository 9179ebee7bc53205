/- Lean functions with the answers of the program's Go functions, and for each the proof that the Go code comes to these answers; no condition. -/
import Derived.Test.YtodacdcbeleleaaDoorZbh21
import Derived.Test.YtodacdcbeleleaaDoorZbh22
import Derived.Test.YtodacdcbeleleaaDoorZbh23
import Derived.Test.YtodacdcbeleleaaDoorZbh24
section
namespace Go.Proofs.YtodacdcbeleleaaDoor.P
open Go.RowKit Go.Proofs.YtodacdcbeleleaaDoorW.PrintWords Go.Proofs.YtodacdcbeleleaaDoorW.PrintLast Go.Proofs.YtodacdcbeleleaaDoorW.PrintMore
attribute [local go_sem] max2_int min2_int max_two min_two max_three min_three max_four min_four   -- for this text's walks alone
set_option linter.unusedVariables false
set_option linter.unusedSimpArgs false

def spec_DrawDoesFit.j0 : Nat → Bool → List Int → Int → Int → Int → Int → List (S40) → Option (Int × Int × Int × Int × Int)
 | 0, _, _, _, _, _, _, _ => none
 | k + 1, x24, x553000, x553001, x553002, x558000, x558001, x566000 => if x24 = true then (if 0 < (x566000.length : Int) then (some ((rd_T40 x566000 0).f0, (rd_T40 x566000 0).f1, (rd_T40 x566000 0).f2, x558000, x558001)) else (none)) else ((spec_l1Cur_one.f x553000 x553001 x553002 10).bind fun bt570 => (if bt570.1 = true then ((spec_l1Cur_among.f x553000 bt570.2.1 bt570.2.2 (([(-1), 0, 21, 4611686018427387904] : List Int))).bind fun bt576 => ((spec_l1Cur_clue.f k x553000 bt576.2.1 bt576.2.2).bind fun bt579 => (some (bt579.1, bt579.2.1, bt579.2.2.1, x558000, bt576.1)))) else ((spec_l1Cur_clue.f k x553000 bt570.2.1 bt570.2.2).bind fun bt584 => (some (bt584.1, bt584.2.1, bt584.2.2.1, x558000, x558001)))))
def spec_DrawDoesFit.f (k : Nat) (l0 : List Int) : Option (Int × Int × Int × Int × Int) := (spec_l1Cur_hidden.f l0 0 0).bind fun bt553 => ((spec_l1Cur_pick.f l0 bt553.2.2.1 bt553.2.2.2 10000).bind fun bt558 => ((spec_MakePuzzle.f k bt553.1 bt553.2.1 1 bt558.1).bind fun bt561 => (if bt561.2 = true then ((spec_l1Cur_one.f l0 bt558.2.1 bt558.2.2 3).bind fun bt566 => (spec_DrawDoesFit.j0 k bt566.1 l0 bt566.2.1 bt566.2.2 bt553.1 bt553.2.1 bt561.1)) else (spec_DrawDoesFit.j0 k false l0 bt558.2.1 bt558.2.2 bt553.1 bt553.2.1 bt561.1))))
def spec_DrawDoesFit.T3 : Bool × List (List Nat × List Nat) := (true, [([], []), ([], []), ([1], [1]), ([0, 2, 2], [0, 2]), ([3], [3]), ([4], [4]), ([4], [4]), ([], []), ([7, 5, 3, 0, 1, 2, 3, 4, 5, 7], [5, 7]), ([6, 8, 0, 1, 2, 3, 4, 5, 6, 7, 8], [6])])
def spec_DrawDoesFit.B3 : List Nat := [0, 0, 2, 7, 15, 31, 31, 0, 191, 511]
theorem spec_DrawDoesFit.tab3 : rtab .any (opsOf Tryd.f29 3) = spec_DrawDoesFit.T3 := by kernel_rfl
theorem spec_DrawDoesFit.bits3 : waitsOk spec_DrawDoesFit.T3.2 spec_DrawDoesFit.B3 = true := by kernel_rfl
set_option maxHeartbeats 8000000 in
set_option maxRecDepth 100000 in
theorem spec_DrawDoesFit.calls (k : Nat) (A0 : Option Addr) (c0 : Nat) (l0 : List Int) (r1 : Int) (r2 : Int) (r3 : Int) (r4 : Int) (r5 : Int) (w : World) (hr0 : Kd.C (Kd.int .u8) w A0 l0.length l0) (hc0 : l0.length ≤ c0) (h : spec_DrawDoesFit.f k l0 = some (r1, r2, r3, r4, r5)) :
  Calls Tryd.prog 29 #[.slice A0 l0.length c0] w fun e w' => e = .returned (.tuple #[.agg #[.int .i64 r1, .int .i64 r2, .int .i64 r3], .agg #[.int .i64 r4, .int .i64 r5]]) ∧ Below w.heap.size w w' := by
 have hu40 := Tryd.underlying40
 have hu25 := Tryd.underlying25
 have hu67 := Tryd.underlying67
 have hu30 := Tryd.underlying30
 have HR0 := Az_ hr0
 have HC0 := Az_ hc0
 clear hr0 hc0
 have HB := Az_ (Below.refl w.heap.size w)
 have H : ((spec_l1Cur_hidden.f l0 0 0).bind fun bt553 => ((spec_l1Cur_pick.f l0 bt553.2.2.1 bt553.2.2.2 10000).bind fun bt558 => ((spec_MakePuzzle.f k bt553.1 bt553.2.1 1 bt558.1).bind fun bt561 => (if bt561.2 = true then ((spec_l1Cur_one.f l0 bt558.2.1 bt558.2.2 3).bind fun bt566 => (j0 k bt566.1 l0 bt566.2.1 bt566.2.2 bt553.1 bt553.2.1 bt561.1)) else (j0 k false l0 bt558.2.1 bt558.2.2 bt553.1 bt553.2.1 bt561.1))))) = some (r1, r2, r3, r4, r5) := h
 clear h
 replace H := bqz_ H; obtain ⟨⟨t553, t554, t555, t556⟩, A2, H⟩ := H
 replace H := bqz_ H; obtain ⟨⟨t558, t559, t560⟩, A3, H⟩ := H
 replace H := bqz_ H; obtain ⟨⟨t561, t564⟩, A4, H⟩ := H
 replace H : (if t564 = true then ((spec_l1Cur_one.f l0 t559 t560 3).bind fun bt566 => (j0 k bt566.1 l0 bt566.2.1 bt566.2.2 t553 t554 t561)) else (j0 k false l0 t559 t560 t553 t554 t561)) = some (r1, r2, r3, r4, r5) := H
 have HC5 := Az_ H
 clear H
 go_enter Tryd.func29, Tryd.ntmps29
 try go_wp2_with (first | ((with_reducible refine gate_dst (N := 2) rfl ?_); refine bxe_ (N := 2) (cs := #[.int .i64 0, .int .i64 0, .int .i64 0]) (t := 40) ?_; intro gb550 hg w6 BK550 hb; have GW550 := gez_ hg (ubz_ HB.out); have GE550 := GW550; replace HB := Az_ (btz_ (ubz_ HB.out) hb); clear hb hg) | ((with_reducible refine gate_dst (N := 3) rfl ?_); refine bxe_ (N := 3) (cs := #[.int .i64 0, .int .i64 0]) (t := 25) ?_; intro gb551 hg w7 BK551 hb; obtain ⟨NB550_551, NB551_550⟩ := nez_ BK550 hg; have GW551 : Aside0 (w.heap.size ≤ gb551) := gez_ hg (w129_); have GE551 := GW551; replace HB := Az_ (btz_ (w129_) hb); replace BK550 := Az_ (ukbz_ BK550.out hb); clear hb hg) | ((with_reducible refine gate_dst (N := 10) rfl ?_); refine bxe_ (N := 10) (cs := #[.slice A0 l0.length c0, .int .i64 0, .int .u64 0]) (t := 67) ?_; intro gb552 hg w8 BK552 hb; obtain ⟨NB550_552, NB552_550⟩ := nez_ BK550 hg; obtain ⟨NB551_552, NB552_551⟩ := nez_ BK551 hg; have GW552 : Aside0 (w.heap.size ≤ gb552) := gez_ hg (w129_); have GE552 := GW552; replace HB := Az_ (btz_ (w129_) hb); replace BK550 := Az_ (ukbz_ BK550.out hb); replace BK551 := Az_ (ukbz_ BK551.out hb); clear hb hg) | ((with_reducible refine gate_callee (f := 37) rfl ?_); refine goesL_ (some 12) rfl rfl Tryd.func37 (w204_) rfl #[.pointer (some ⟨gb552, 0, none⟩)] rfl maz_ ?_; have HI552 := Az_ (show IsS67 w w8 gb552 l0 0 0 from ⟨_, _, BK552.out, GE552.out, HR0.out⟩); (with_reducible refine (spec_l1Cur_hidden.calls gb552 l0 0 0 t553 t554 t555 t556 w _ ?side1 ?side2 A2.out).mono ?_); (case side1 => repeat (first | (with_reducible first | exact HI552.out | apply IsS67.alloc | apply IsS67.drewN | apply IsS67.drew | apply IsS67.set_1 | apply IsS67.set_2 | refine IsS67.far ?_ NB552_550.out _ | refine IsS67.far ?_ NB552_551.out _) | exact HI552.out)); (case side2 => repeat (first | (with_reducible first | exact HB.out | apply baz_ | apply bnz_ | apply bdz_ | refine bsz_ ?_ (IsS67.ge HI552.out) | refine bsz_ ?_ GE550.out | refine bsz_ ?_ GE551.out) | exact HB.out)); rintro e w9 ⟨rfl, hi, hb, hk⟩; refine ⟨_, rfl, ?_⟩; replace BK550 := Az_ (KeepBut.blk hk (g' := gb550) (o := .cells #[.int .i64 0, .int .i64 0, .int .i64 0] 40 (0, 0)) (w189_) NB550_552.out (by simp)); replace BK551 := Az_ (KeepBut.blk hk (g' := gb551) (o := .cells #[.int .i64 0, .int .i64 0] 25 (0, 0)) (w190_) NB551_552.out (by simp)); replace HB := Az_ (hb); replace HI552 := Az_ (hi); (try clear hb); (try clear hk); (try clear hi)) | ((with_reducible refine gate_dst (N := 5) rfl ?_); refine bxe_ (N := 5) (cs := #[.int .i64 0, .int .i64 0]) (t := 25) ?_; intro gb557 hg w10 BK557 hb; obtain ⟨NB550_557, NB557_550⟩ := nez_ BK550 hg; obtain ⟨NB551_557, NB557_551⟩ := nez_ BK551 hg; have GW557 : Aside0 (w.heap.size ≤ gb557) := gez_ hg (w106_); have GE557 := GW557; replace HB := Az_ (btz_ (w106_) hb); have NB552_557 := Az_ ((by rw [hg]; exact Nat.ne_of_lt (IsS67.lt (show IsS67 w _ gb552 l0 t555 t556 from w38_)) : gb552 ≠ gb557)); have NB557_552 := Az_ ((by rw [hg]; exact Nat.ne_of_gt (IsS67.lt (show IsS67 w _ gb552 l0 t555 t556 from w38_)) : gb557 ≠ gb552)); replace HI552 := Az_ (IsS67.below (w38_) hb); replace BK550 := Az_ (ukbz_ BK550.out hb); replace BK551 := Az_ (ukbz_ BK551.out hb); clear hb hg; have hnb11 := NB557_550.out; have hnc11 := NB550_557.out; have hnb12 := NB557_551.out; have hnc12 := NB551_557.out; have hnb13 := NB557_552.out; have hnc13 := NB552_557.out; have hcz14_0 := cz_ (x := .int .i64 0) BK557 0; have hcz14_1 := cz_ (x := .int .i64 0) BK557 1; have hfz14_0 := blk_frozen BK557.out 0; have hfz14_1 := blk_frozen BK557.out 1))
 have n0_ : Aside0 (((w10.setCell ⟨gb557, 0, none⟩ (.int .i64 t553)).setCell ⟨gb557, 1, none⟩ (.int .i64 t554)).heap[gb550]? = some (.cells #[.int .i64 0, .int .i64 0, .int .i64 0] 40 (0, 0))) := ⟨by (with_reducible repeat (first | refine knz_ ?_ _ | refine kdz_ ?_ | refine kaz_ ?_ _)); refine blk_far ?_ NB550_557.out _; (with_reducible repeat (first | refine knz_ ?_ _ | refine kdz_ ?_ | refine kaz_ ?_ _)); refine blk_far ?_ NB550_557.out _; (with_reducible repeat (first | refine knz_ ?_ _ | refine kdz_ ?_ | refine kaz_ ?_ _)); exact BK550.out⟩
 have n1_ : Aside0 (((w10.setCell ⟨gb557, 0, none⟩ (.int .i64 t553)).setCell ⟨gb557, 1, none⟩ (.int .i64 t554)).heap[gb551]? = some (.cells #[.int .i64 0, .int .i64 0] 25 (0, 0))) := ⟨by (with_reducible repeat (first | refine knz_ ?_ _ | refine kdz_ ?_ | refine kaz_ ?_ _)); refine blk_far ?_ NB551_557.out _; (with_reducible repeat (first | refine knz_ ?_ _ | refine kdz_ ?_ | refine kaz_ ?_ _)); refine blk_far ?_ NB551_557.out _; (with_reducible repeat (first | refine knz_ ?_ _ | refine kdz_ ?_ | refine kaz_ ?_ _)); exact BK551.out⟩
 have n2_ : Aside0 (((w10.setCell ⟨gb557, 0, none⟩ (.int .i64 t553)).setCell ⟨gb557, 1, none⟩ (.int .i64 t554)).heap[gb557]? = some (.cells #[.int .i64 t553, .int .i64 t554] 25 (0, 0))) := ⟨by (with_reducible repeat (first | refine knz_ ?_ _ | refine kdz_ ?_ | refine kaz_ ?_ _)); refine blk_put (cs := #[.int .i64 t553, .int .i64 0]) ?_ 1 _ rfl; (with_reducible repeat (first | refine knz_ ?_ _ | refine kdz_ ?_ | refine kaz_ ?_ _)); refine blk_put (cs := #[.int .i64 0, .int .i64 0]) ?_ 0 _ rfl; (with_reducible repeat (first | refine knz_ ?_ _ | refine kdz_ ?_ | refine kaz_ ?_ _)); exact BK557.out⟩
 have n3_ : Aside0 (IsS67 w ((w10.setCell ⟨gb557, 0, none⟩ (.int .i64 t553)).setCell ⟨gb557, 1, none⟩ (.int .i64 t554)) gb552 l0 t555 t556) := ⟨w34_⟩
 have n4_ : Aside0 (Below w.heap.size w ((w10.setCell ⟨gb557, 0, none⟩ (.int .i64 t553)).setCell ⟨gb557, 1, none⟩ (.int .i64 t554))) := ⟨w78_⟩
 clear BK550
 clear BK551
 clear BK557
 clear HI552
 clear HB
 generalize ((w10.setCell ⟨gb557, 0, none⟩ (.int .i64 t553)).setCell ⟨gb557, 1, none⟩ (.int .i64 t554)) = w15 at n0_ n1_ n2_ n3_ n4_ ⊢
 have BK550 := n0_
 have BK551 := n1_
 have BK557 := n2_
 have HI552 := n3_
 have HB := n4_
 clear n0_ n1_ n2_ n3_ n4_
 replace BK550 := Az_ (kdz_ BK550.out)
 replace BK551 := Az_ (kdz_ BK551.out)
 replace BK557 := Az_ (kdz_ BK557.out)
 replace HI552 := Az_ (IsS67.drew HI552.out)
 replace HB := Az_ (bdz_ HB.out)
 refine start_ (n := 10) (S := fun w' => w'.cell? ⟨gb557, 0, none⟩ = some (.int .i64 t553) ∧ w'.cell? ⟨gb557, 1, none⟩ = some (.int .i64 t554)) (ds := []) #[false, false, false, false, false, false, false, false, false, false] (w204_) rfl rfl ⟨(blk_cell BK557.out 0).trans rfl, (blk_cell BK557.out 1).trans rfl⟩ (fun hHeld => ?_); refine with_tabW spec_DrawDoesFit.tab3 spec_DrawDoesFit.bits3 (fun HT_ HW_ => ?_)
 generalize w15.drew = w16 at BK550 BK551 BK557 HI552 HB hHeld ⊢
 refine pz_ 1 15 [0,1,1,8] ?_
 refine tz2_ 0 14 [2,8] ?_
 refine join_ (σ := Value × Nat) 2 #[true, true, true, true, true, true, true, true, false, false] (fun s_ => [(16, .int .i64 t558), (17, .tuple #[.agg #[s_.1], .bool t564]), (6, .pointer (some ⟨s_.2, 0, none⟩)), (13, .tuple #[.agg #[s_.1], .bool t564]), (18, .agg #[s_.1]), (19, .bool t564)]) (fun s_ w' => (w'.cell? ⟨gb557, 0, none⟩ = some (.int .i64 t553) ∧ w'.cell? ⟨gb557, 1, none⟩ = some (.int .i64 t554)) ∧ (Kd.R k40 40 w' w.heap.size (fun k_ => k_ ≠ gb550) s_.1 t561) ∧ (w'.heap[gb550]? = some (.cells #[.int .i64 0, .int .i64 0, .int .i64 0] 40 (0, 0))) ∧ (w'.heap[gb551]? = some (.cells #[.int .i64 0, .int .i64 0] 25 (0, 0))) ∧ (w'.heap[gb557]? = some (.cells #[.int .i64 t553, .int .i64 t554] 25 (0, 0))) ∧ (w'.heap[s_.2]? = some (.cells #[.slice none 0 0] 30 (0, 0))) ∧ (w.heap.size ≤ s_.2) ∧ (w.heap.size ≤ s_.2) ∧ (gb552 ≠ s_.2) ∧ (s_.2 ≠ gb552) ∧ (gb550 ≠ s_.2) ∧ (s_.2 ≠ gb550) ∧ (gb551 ≠ s_.2) ∧ (s_.2 ≠ gb551) ∧ (gb557 ≠ s_.2) ∧ (s_.2 ≠ gb557) ∧ (IsS67 w w' gb552 l0 t559 t560) ∧ (Below w.heap.size w w')) ?_ ?_
 rotate_left
 ·intro hCont
  refine two_ (i := 2) (j := 7) (Ni := some 16) (Nj := some 6) (mz_ [3,7]) #[true, true, false, false, false, false, false, true, false, false] rfl rfl rfl rfl (two_of HT_.out (w204_)) (by decide) (by decide) (fun K hK => ?_) (fun K hK => ?_)
  ·skip
   refine goes_ Tryd.func38 (w204_) rfl #[.pointer (some ⟨gb552, 0, none⟩), .int .i64 10000] (by rfl) rfl rfl maz_ ?_
   with_reducible refine (spec_l1Cur_pick.calls gb552 l0 t555 t556 10000 t558 t559 t560 w _ ?side1 ?side2 A3.out).mono ?_
   (case side1 => repeat (first | (with_reducible first | exact HI552.out | apply IsS67.alloc | apply IsS67.drewN | apply IsS67.drew | apply IsS67.set_1 | apply IsS67.set_2 | refine IsS67.far ?_ NB552_550.out _ | refine IsS67.far ?_ NB552_551.out _ | refine IsS67.far ?_ NB552_557.out _) | exact HI552.out))
   (case side2 => repeat (first | (with_reducible first | exact HB.out | apply baz_ | apply bnz_ | apply bdz_ | refine bsz_ ?_ (IsS67.ge HI552.out) | refine bsz_ ?_ GE550.out | refine bsz_ ?_ GE551.out | refine bsz_ ?_ GE557.out) | exact HB.out))
   rintro e w17 ⟨rfl, hi, hb, hk⟩
   refine ⟨_, rfl, ?_⟩
   replace BK550 := Az_ (KeepBut.blk hk (g' := gb550) (o := .cells #[.int .i64 0, .int .i64 0, .int .i64 0] 40 (0, 0)) (w189_) NB550_552.out (by simp))
   replace BK551 := Az_ (KeepBut.blk hk (g' := gb551) (o := .cells #[.int .i64 0, .int .i64 0] 25 (0, 0)) (w190_) NB551_552.out (by simp))
   replace BK557 := Az_ (KeepBut.blk hk (g' := gb557) (o := .cells #[.int .i64 t553, .int .i64 t554] 25 (0, 0)) (w191_) NB557_552.out (by simp))
   replace HB := Az_ (hb)
   replace HI552 := Az_ (hi)
   clear hb
   clear hk
   clear hi
   refine hK.out _ _ ⟨(blk_cell BK557.out 0).trans rfl, (blk_cell BK557.out 1).trans rfl⟩ (fun hHeld => ?_)
   clear hK K
   refine nz_ 16 ?_
   refine two_ (i := 3) (j := 7) (Ni := some 17) (Nj := some 6) (mz_ [4,6]) #[true, true, true, false, false, false, false, true, false, false] rfl rfl rfl rfl (two_of HT_.out (w204_)) (by decide) (by decide) (fun K hK => ?_) (fun K hK => ?_)
   ·skip
    refine goes_ Tryd.func7 (w204_) rfl #[.agg #[.int .i64 t553, .int .i64 t554], .int .i64 1, .int .i64 t558] (by rfl) rfl rfl maz_ ?_
    with_reducible refine (spec_MakePuzzle.calls k t553 t554 1 t558 t561 t564 _ A4.out).mono ?_
    rintro e w18 ⟨v562, rfl, ho0, hb⟩
    refine ⟨_, rfl, ?_⟩
    have n0_ := Az_ (Kd.R_lower (Kd.R_newB ho0 (g := gb550) (o := .cells #[.int .i64 0, .int .i64 0, .int .i64 0] 40 (0, 0)) (w189_)) (below_size (w78_)))
    have n3_ := Az_ (IsS67.below (w34_) hb)
    have n5_ := Az_ (btz_ (w78_) hb)
    clear HI552 HB
    have HO563 := n0_
    replace BK550 := Az_ (ukbz_ BK550.out hb)
    replace BK551 := Az_ (ukbz_ BK551.out hb)
    have HI552 := n3_
    replace BK557 := Az_ (ukbz_ BK557.out hb)
    have HB := n5_
    clear n0_ n3_ n5_
    clear hb
    clear ho0
    refine hK.out _ _ ⟨(blk_cell BK557.out 0).trans rfl, (blk_cell BK557.out 1).trans rfl⟩ (fun hHeld => ?_)
    clear hK K
    refine nz_ 17 ?_
    refine pz_ 4 13 [5,5] ?_
    refine pz_ 5 18 [6,4] ?_
    refine pz_ 6 19 [7,3] ?_
    refine one_ (i := 7) (N := some 6) (mz_ [8,2]) rfl rfl (one_of HT_.out (w204_)) (by decide) (fun K hK => ?_)
    refine box_step ?hg (N := 6) ?hd (cs := #[.slice none 0 0]) (t := 30) ?hr ?_; (case hd => rfl); (case hg => rfl); (case hr => first | (go_simp; done) | (go_simp; rfl))
    intro gb565 hg w19 hbox hb
    have n0_ := Az_ (Kd.R_below (by exact urz_ HO563.out) hb)
    have n3_ := Az_ (IsS67.below (w34_) hb)
    have n5_ := Az_ (btz_ (w78_) hb)
    have n6_ := Az_ (hbox)
    have n7_ := Az_ ((by rw [hg]; exact (below_size (w78_)) : w.heap.size ≤ gb565))
    have n8_ := Az_ ((by rw [hg]; exact (below_size (w78_)) : w.heap.size ≤ gb565))
    have n9_ := Az_ ((by rw [hg]; exact Nat.ne_of_lt (uklz_ BK550.out) : gb550 ≠ gb565))
    have n10_ := Az_ ((by rw [hg]; exact Nat.ne_of_gt (uklz_ BK550.out) : gb565 ≠ gb550))
    have n11_ := Az_ ((by rw [hg]; exact Nat.ne_of_lt (uklz_ BK551.out) : gb551 ≠ gb565))
    have n12_ := Az_ ((by rw [hg]; exact Nat.ne_of_gt (uklz_ BK551.out) : gb565 ≠ gb551))
    have n13_ := Az_ ((by rw [hg]; exact Nat.ne_of_lt (uklz_ BK557.out) : gb557 ≠ gb565))
    have n14_ := Az_ ((by rw [hg]; exact Nat.ne_of_gt (uklz_ BK557.out) : gb565 ≠ gb557))
    have n15_ := Az_ ((by rw [hg]; exact Nat.ne_of_lt (IsS67.lt (show IsS67 w _ gb552 l0 t559 t560 from w34_)) : gb552 ≠ gb565))
    have n16_ := Az_ ((by rw [hg]; exact Nat.ne_of_gt (IsS67.lt (show IsS67 w _ gb552 l0 t559 t560 from w34_)) : gb565 ≠ gb552))
    clear HO563 HI552 HB
    have HO563 := n0_
    replace BK550 := Az_ (ukbz_ BK550.out hb)
    replace BK551 := Az_ (ukbz_ BK551.out hb)
    have HI552 := n3_
    replace BK557 := Az_ (ukbz_ BK557.out hb)
    have HB := n5_
    have BK565 := n6_
    have GW565 := n7_
    have GE565 := n8_
    have NB550_565 := n9_
    have NB565_550 := n10_
    have NB551_565 := n11_
    have NB565_551 := n12_
    have NB557_565 := n13_
    have NB565_557 := n14_
    have NB552_565 := n15_
    have NB565_552 := n16_
    clear n0_ n3_ n5_ n6_ n7_ n8_ n9_ n10_ n11_ n12_ n13_ n14_ n15_ n16_ hb hbox hg
    refine hK.out _ _ ⟨(blk_cell BK557.out 0).trans rfl, (blk_cell BK557.out 1).trans rfl⟩ (fun hHeld => ?_)
    clear hK K
    refine nz_ 6 ?_
    exact norm_ (w165_) (hCont (v562, gb565) _ ⟨hHeld, (w144_), (w189_), (w190_), (w191_), (w192_), GW565.out, GE565.out, NB552_565.out, NB565_552.out, NB550_565.out, NB565_550.out, NB551_565.out, NB565_551.out, NB557_565.out, NB565_557.out, (w32_), (w36_)⟩)
   ·skip
    refine box_step ?hg (N := 6) ?hd (cs := #[.slice none 0 0]) (t := 30) ?hr ?_; (case hd => rfl); (case hg => rfl); (case hr => first | (go_simp; done) | (go_simp; rfl))
    intro gb565 hg w18 hbox hb
    have n2_ := Az_ (IsS67.below (w34_) hb)
    have n4_ := Az_ (btz_ (w78_) hb)
    have n5_ := Az_ (hbox)
    have n6_ := Az_ ((by rw [hg]; exact (below_size (w78_)) : w.heap.size ≤ gb565))
    have n7_ := Az_ ((by rw [hg]; exact (below_size (w78_)) : w.heap.size ≤ gb565))
    have n8_ := Az_ ((by rw [hg]; exact Nat.ne_of_lt (uklz_ BK550.out) : gb550 ≠ gb565))
    have n9_ := Az_ ((by rw [hg]; exact Nat.ne_of_gt (uklz_ BK550.out) : gb565 ≠ gb550))
    have n10_ := Az_ ((by rw [hg]; exact Nat.ne_of_lt (uklz_ BK551.out) : gb551 ≠ gb565))
    have n11_ := Az_ ((by rw [hg]; exact Nat.ne_of_gt (uklz_ BK551.out) : gb565 ≠ gb551))
    have n12_ := Az_ ((by rw [hg]; exact Nat.ne_of_lt (uklz_ BK557.out) : gb557 ≠ gb565))
    have n13_ := Az_ ((by rw [hg]; exact Nat.ne_of_gt (uklz_ BK557.out) : gb565 ≠ gb557))
    have n14_ := Az_ ((by rw [hg]; exact Nat.ne_of_lt (IsS67.lt (show IsS67 w _ gb552 l0 t559 t560 from w34_)) : gb552 ≠ gb565))
    have n15_ := Az_ ((by rw [hg]; exact Nat.ne_of_gt (IsS67.lt (show IsS67 w _ gb552 l0 t559 t560 from w34_)) : gb565 ≠ gb552))
    clear HI552 HB
    replace BK550 := Az_ (ukbz_ BK550.out hb)
    replace BK551 := Az_ (ukbz_ BK551.out hb)
    have HI552 := n2_
    replace BK557 := Az_ (ukbz_ BK557.out hb)
    have HB := n4_
    have BK565 := n5_
    have GW565 := n6_
    have GE565 := n7_
    have NB550_565 := n8_
    have NB565_550 := n9_
    have NB551_565 := n10_
    have NB565_551 := n11_
    have NB557_565 := n12_
    have NB565_557 := n13_
    have NB552_565 := n14_
    have NB565_552 := n15_
    clear n2_ n4_ n5_ n6_ n7_ n8_ n9_ n10_ n11_ n12_ n13_ n14_ n15_ hb hbox hg
    refine hK.out _ _ ⟨(blk_cell BK557.out 0).trans rfl, (blk_cell BK557.out 1).trans rfl⟩ (fun hHeld => ?_)
    clear hK K
    refine nz_ 6 ?_
    refine one_ (i := 3) (N := some 17) (mz_ [4,3,1,2]) rfl rfl (one_of HT_.out (w204_)) (by decide) (fun K hK => ?_)
    refine goes_ Tryd.func7 (w204_) rfl #[.agg #[.int .i64 t553, .int .i64 t554], .int .i64 1, .int .i64 t558] (by rfl) rfl rfl maz_ ?_
    with_reducible refine (spec_MakePuzzle.calls k t553 t554 1 t558 t561 t564 _ A4.out).mono ?_
    rintro e w19 ⟨v562, rfl, ho0, hb⟩
    refine ⟨_, rfl, ?_⟩
    have n0_ := Az_ (Kd.R_lower (Kd.R_newB ho0 (g := gb550) (o := .cells #[.int .i64 0, .int .i64 0, .int .i64 0] 40 (0, 0)) (w189_)) (below_size (w36_)))
    have n3_ := Az_ (IsS67.below (w32_) hb)
    have n6_ := Az_ (btz_ (w36_) hb)
    clear HI552 HB
    have HO563 := n0_
    replace BK550 := Az_ (ukbz_ BK550.out hb)
    replace BK551 := Az_ (ukbz_ BK551.out hb)
    have HI552 := n3_
    replace BK557 := Az_ (ukbz_ BK557.out hb)
    replace BK565 := Az_ (ukbz_ BK565.out hb)
    have HB := n6_
    clear n0_ n3_ n6_
    clear hb
    clear ho0
    refine hK.out _ _ ⟨(blk_cell BK557.out 0).trans rfl, (blk_cell BK557.out 1).trans rfl⟩ (fun hHeld => ?_)
    clear hK K
    refine nz_ 17 ?_
    refine pz_ 4 13 [5,2,1,2] ?_
    refine pz_ 5 18 [6,1,1,2] ?_
    refine pz_ 6 19 [8,2] ?_
    exact norm_ (w165_) (hCont (v562, gb565) _ ⟨hHeld, (w144_), (w189_), (w190_), (w191_), (w192_), GW565.out, GE565.out, NB552_565.out, NB565_552.out, NB550_565.out, NB565_550.out, NB551_565.out, NB565_551.out, NB557_565.out, NB565_557.out, (w32_), (w36_)⟩)
  ·skip
   refine box_step ?hg (N := 6) ?hd (cs := #[.slice none 0 0]) (t := 30) ?hr ?_; (case hd => rfl); (case hg => rfl); (case hr => first | (go_simp; done) | (go_simp; rfl))
   intro gb565 hg w17 hbox hb
   have n2_ := Az_ (IsS67.below (w34_) hb)
   have n4_ := Az_ (btz_ (w78_) hb)
   have n5_ := Az_ (hbox)
   have n6_ := Az_ ((by rw [hg]; exact (below_size (w78_)) : w.heap.size ≤ gb565))
   have n7_ := Az_ ((by rw [hg]; exact (below_size (w78_)) : w.heap.size ≤ gb565))
   have n8_ := Az_ ((by rw [hg]; exact Nat.ne_of_lt (uklz_ BK550.out) : gb550 ≠ gb565))
   have n9_ := Az_ ((by rw [hg]; exact Nat.ne_of_gt (uklz_ BK550.out) : gb565 ≠ gb550))
   have n10_ := Az_ ((by rw [hg]; exact Nat.ne_of_lt (uklz_ BK551.out) : gb551 ≠ gb565))
   have n11_ := Az_ ((by rw [hg]; exact Nat.ne_of_gt (uklz_ BK551.out) : gb565 ≠ gb551))
   have n12_ := Az_ ((by rw [hg]; exact Nat.ne_of_lt (uklz_ BK557.out) : gb557 ≠ gb565))
   have n13_ := Az_ ((by rw [hg]; exact Nat.ne_of_gt (uklz_ BK557.out) : gb565 ≠ gb557))
   have n14_ := Az_ ((by rw [hg]; exact Nat.ne_of_lt (IsS67.lt (show IsS67 w _ gb552 l0 t555 t556 from w34_)) : gb552 ≠ gb565))
   have n15_ := Az_ ((by rw [hg]; exact Nat.ne_of_gt (IsS67.lt (show IsS67 w _ gb552 l0 t555 t556 from w34_)) : gb565 ≠ gb552))
   clear HI552 HB
   replace BK550 := Az_ (ukbz_ BK550.out hb)
   replace BK551 := Az_ (ukbz_ BK551.out hb)
   have HI552 := n2_
   replace BK557 := Az_ (ukbz_ BK557.out hb)
   have HB := n4_
   have BK565 := n5_
   have GW565 := n6_
   have GE565 := n7_
   have NB550_565 := n8_
   have NB565_550 := n9_
   have NB551_565 := n10_
   have NB565_551 := n11_
   have NB557_565 := n12_
   have NB565_557 := n13_
   have NB552_565 := n14_
   have NB565_552 := n15_
   clear n2_ n4_ n5_ n6_ n7_ n8_ n9_ n10_ n11_ n12_ n13_ n14_ n15_ hb hbox hg
   refine hK.out _ _ ⟨(blk_cell BK557.out 0).trans rfl, (blk_cell BK557.out 1).trans rfl⟩ (fun hHeld => ?_)
   clear hK K
   refine nz_ 6 ?_
   refine one_ (i := 2) (N := some 16) (mz_ [3,4,1,2]) rfl rfl (one_of HT_.out (w204_)) (by decide) (fun K hK => ?_)
   refine goes_ Tryd.func38 (w204_) rfl #[.pointer (some ⟨gb552, 0, none⟩), .int .i64 10000] (by rfl) rfl rfl maz_ ?_
   with_reducible refine (spec_l1Cur_pick.calls gb552 l0 t555 t556 10000 t558 t559 t560 w _ ?side1 ?side2 A3.out).mono ?_
   (case side1 => repeat (first | (with_reducible first | exact HI552.out | apply IsS67.alloc | apply IsS67.drewN | apply IsS67.drew | apply IsS67.set_1 | apply IsS67.set_2 | refine IsS67.far ?_ NB552_550.out _ | refine IsS67.far ?_ NB552_551.out _ | refine IsS67.far ?_ NB552_557.out _ | refine IsS67.far ?_ NB552_565.out _) | exact HI552.out))
   (case side2 => repeat (first | (with_reducible first | exact HB.out | apply baz_ | apply bnz_ | apply bdz_ | refine bsz_ ?_ (IsS67.ge HI552.out) | refine bsz_ ?_ GE550.out | refine bsz_ ?_ GE551.out | refine bsz_ ?_ GE557.out | refine bsz_ ?_ GE565.out) | exact HB.out))
   rintro e w18 ⟨rfl, hi, hb, hk⟩
   refine ⟨_, rfl, ?_⟩
   replace BK550 := Az_ (KeepBut.blk hk (g' := gb550) (o := .cells #[.int .i64 0, .int .i64 0, .int .i64 0] 40 (0, 0)) (w189_) NB550_552.out (by simp))
   replace BK551 := Az_ (KeepBut.blk hk (g' := gb551) (o := .cells #[.int .i64 0, .int .i64 0] 25 (0, 0)) (w190_) NB551_552.out (by simp))
   replace BK557 := Az_ (KeepBut.blk hk (g' := gb557) (o := .cells #[.int .i64 t553, .int .i64 t554] 25 (0, 0)) (w191_) NB557_552.out (by simp))
   replace BK565 := Az_ (KeepBut.blk hk (g' := gb565) (o := .cells #[.slice none 0 0] 30 (0, 0)) (w192_) NB565_552.out (by simp))
   replace HB := Az_ (hb)
   replace HI552 := Az_ (hi)
   clear hb
   clear hk
   clear hi
   refine hK.out _ _ ⟨(blk_cell BK557.out 0).trans rfl, (blk_cell BK557.out 1).trans rfl⟩ (fun hHeld => ?_)
   clear hK K
   refine nz_ 16 ?_
   refine one_ (i := 3) (N := some 17) (mz_ [4,3,1,2]) rfl rfl (one_of HT_.out (w204_)) (by decide) (fun K hK => ?_)
   refine goes_ Tryd.func7 (w204_) rfl #[.agg #[.int .i64 t553, .int .i64 t554], .int .i64 1, .int .i64 t558] (by rfl) rfl rfl maz_ ?_
   with_reducible refine (spec_MakePuzzle.calls k t553 t554 1 t558 t561 t564 _ A4.out).mono ?_
   rintro e w19 ⟨v562, rfl, ho0, hb⟩
   refine ⟨_, rfl, ?_⟩
   have n0_ := Az_ (Kd.R_lower (Kd.R_newB ho0 (g := gb550) (o := .cells #[.int .i64 0, .int .i64 0, .int .i64 0] 40 (0, 0)) (w189_)) (below_size (w36_)))
   have n3_ := Az_ (IsS67.below (w32_) hb)
   have n6_ := Az_ (btz_ (w36_) hb)
   clear HI552 HB
   have HO563 := n0_
   replace BK550 := Az_ (ukbz_ BK550.out hb)
   replace BK551 := Az_ (ukbz_ BK551.out hb)
   have HI552 := n3_
   replace BK557 := Az_ (ukbz_ BK557.out hb)
   replace BK565 := Az_ (ukbz_ BK565.out hb)
   have HB := n6_
   clear n0_ n3_ n6_
   clear hb
   clear ho0
   refine hK.out _ _ ⟨(blk_cell BK557.out 0).trans rfl, (blk_cell BK557.out 1).trans rfl⟩ (fun hHeld => ?_)
   clear hK K
   refine nz_ 17 ?_
   refine pz_ 4 13 [5,2,1,2] ?_
   refine pz_ 5 18 [6,1,1,2] ?_
   refine pz_ 6 19 [8,2] ?_
   exact norm_ (w165_) (hCont (v562, gb565) _ ⟨hHeld, (w144_), (w189_), (w190_), (w191_), (w192_), GW565.out, GE565.out, NB552_565.out, NB565_552.out, NB550_565.out, NB565_550.out, NB551_565.out, NB565_551.out, NB557_565.out, NB565_557.out, (w32_), (w36_)⟩)
 rintro ⟨v562, gb565⟩ w20 ⟨hS_, h0_, h1_, h2_, h3_, h4_, h5_, h6_, h7_, h8_, h9_, h10_, h11_, h12_, h13_, h14_, h15_, h16_⟩
 have n0_ : Aside0 (Kd.R k40 40 w20 w.heap.size (fun k_ => k_ ≠ gb550) v562 t561) := ⟨h0_⟩
 have n1_ : Aside0 (w20.heap[gb550]? = some (.cells #[.int .i64 0, .int .i64 0, .int .i64 0] 40 (0, 0))) := ⟨h1_⟩
 have n2_ : Aside0 (w20.heap[gb551]? = some (.cells #[.int .i64 0, .int .i64 0] 25 (0, 0))) := ⟨h2_⟩
 have n3_ : Aside0 (w20.heap[gb557]? = some (.cells #[.int .i64 t553, .int .i64 t554] 25 (0, 0))) := ⟨h3_⟩
 have n4_ : Aside0 (w20.heap[gb565]? = some (.cells #[.slice none 0 0] 30 (0, 0))) := ⟨h4_⟩
 have n5_ : Aside0 (w.heap.size ≤ gb565) := ⟨h5_⟩
 have n6_ : Aside0 (w.heap.size ≤ gb565) := ⟨h6_⟩
 have n7_ : Aside0 (gb552 ≠ gb565) := ⟨h7_⟩
 have n8_ : Aside0 (gb565 ≠ gb552) := ⟨h8_⟩
 have n9_ : Aside0 (gb550 ≠ gb565) := ⟨h9_⟩
 have n10_ : Aside0 (gb565 ≠ gb550) := ⟨h10_⟩
 have n11_ : Aside0 (gb551 ≠ gb565) := ⟨h11_⟩
 have n12_ : Aside0 (gb565 ≠ gb551) := ⟨h12_⟩
 have n13_ : Aside0 (gb557 ≠ gb565) := ⟨h13_⟩
 have n14_ : Aside0 (gb565 ≠ gb557) := ⟨h14_⟩
 have n15_ : Aside0 (IsS67 w w20 gb552 l0 t559 t560) := ⟨h15_⟩
 have n16_ : Aside0 (Below w.heap.size w w20) := ⟨h16_⟩
 clear BK550 BK551 BK557 HI552 HB h0_ h1_ h2_ h3_ h4_ h5_ h6_ h7_ h8_ h9_ h10_ h11_ h12_ h13_ h14_ h15_ h16_
 have HO563 := n0_
 have BK550 := n1_
 have BK551 := n2_
 have BK557 := n3_
 have BK565 := n4_
 have GW565 := n5_
 have GE565 := n6_
 have NB552_565 := n7_
 have NB565_552 := n8_
 have NB550_565 := n9_
 have NB565_550 := n10_
 have NB551_565 := n11_
 have NB565_551 := n12_
 have NB557_565 := n13_
 have NB565_557 := n14_
 have HI552 := n15_
 have HB := n16_
 clear n0_ n1_ n2_ n3_ n4_ n5_ n6_ n7_ n8_ n9_ n10_ n11_ n12_ n13_ n14_ n15_ n16_
 have hHeld : w20.cell? ⟨gb557, 0, none⟩ = some (.int .i64 t553) ∧ w20.cell? ⟨gb557, 1, none⟩ = some (.int .i64 t554) := hS_
 obtain ⟨Ao21, co21, eo21⟩ := Kd.R_slice HO563.out
 (first | subst eo21 | (injection eo21 with f1_ f2_ f3_; have f4_ := f1_.symm; have f5_ := f3_.symm; clear f1_ f2_ f3_; subst f4_; subst f5_))
 refine norm_ (a' := ?_) ?_ ?_
 rotate_left
 ·simp only [putAll, Act.put, List.setIfInBounds_toArray, List.set_cons_zero, List.set_cons_succ]
  rfl
 refine one_ (i := 8) (N := none) (mz_ [9,1]) rfl rfl (one_of HT_.out (w204_)) (by decide) (fun K hK => ?_)
 have hs22 : w20.cell? ⟨gb565, 0, none⟩ = some (.slice none 0 0) := (blk_cell BK565.out 0).trans rfl
 have hfs22 := blk_frozen BK565.out 0
 have hns22_0 := NB550_565.out
 have hns22_1 := NB551_565.out
 have hns22_2 := NB557_565.out
 have hms22_0 := NB565_550.out
 have hms22_1 := NB565_551.out
 have hms22_2 := NB565_557.out
 refine skip_ (w1 := ?_) (by rfl) rfl ?_ ?_
 rotate_left
 ·go_simp
  rfl
 refine hK.out _ _ ⟨((cell_far (p := ⟨gb565, _, none⟩) NB557_565.out _).trans (hHeld.1)), ((cell_far (p := ⟨gb565, _, none⟩) NB557_565.out _).trans (hHeld.2))⟩ (fun hHeld => ?_)
 clear hK K
 refine pz_ 9 7 [10] ?_
 refine done_ (done_of HT_.out (w204_)) ?_
 go_upto_region 4 with (fail)
 go_cut [24] (fun v24 wc => ∃ (kq : Nat) (x24_4 : Bool) (x553001_4 : Int) (x553002_4 : Int), v24 = .bool x24_4 ∧ Aside0 (j0 kq x24_4 l0 x553001_4 x553002_4 t553 t554 t561 = some (r1, r2, r3, r4, r5)) ∧ Aside0 (kq ≤ k) ∧ Aside0 (Kd.R k40 40 wc w.heap.size (fun k_ => k_ ≠ gb550) (.slice Ao21 t561.length co21) t561) ∧ Aside0 (wc.heap[gb550]? = some (.cells #[.int .i64 0, .int .i64 0, .int .i64 0] 40 (0, 0))) ∧ Aside0 (wc.heap[gb551]? = some (.cells #[.int .i64 0, .int .i64 0] 25 (0, 0))) ∧ Aside0 (wc.heap[gb557]? = some (.cells #[.int .i64 t553, .int .i64 t554] 25 (0, 0))) ∧ Aside0 (wc.heap[gb565]? = some (.cells #[(.slice Ao21 t561.length co21)] 30 (0, 0))) ∧ Aside0 (IsS67 w wc gb552 l0 x553001_4 x553002_4) ∧ Aside0 (Below w.heap.size w wc))
 case first =>
  have H := HC5.out
  clear HC5
  by_cases c23 : t564 = true; rotate_left
  ·replace c23 := Bool.eq_false_iff.mpr c23
   subst c23
   rw [if_neg nfz_] at H
   have H' := Az_ H
   clear H
   go_wp2
   go_meet
   case rel => exact ⟨_, (false), (t559), (t560), qaz_, H', ⟨w173_⟩, ⟨by (with_reducible repeat (first | apply raz_ | apply rnz_ | apply rdz_)); exact Kd.R_mono (Kd.R_far (p := ⟨gb565, 0, none⟩) (Kd.R_types HO563.out BK565.out (by decide)) (fun _ hk => hk.2) (.slice Ao21 t561.length co21)) (fun _ hk => hk.1)⟩, ⟨w85_⟩, ⟨w86_⟩, ⟨w87_⟩, ⟨w49_⟩, ⟨w32_⟩, ⟨w36_⟩⟩
  subst c23
  rw [if_pos rfl] at H
  replace H := bqz_ H; obtain ⟨⟨t566, t567, t568⟩, A24, H⟩ := H
  replace H : (j0 k t566 l0 t567 t568 t553 t554 t561) = some (r1, r2, r3, r4, r5) := H
  have H' := Az_ H
  clear H
  go_wp2_with ((go_at_call 35; (with_reducible refine (spec_l1Cur_one.calls gb552 l0 t559 t560 3 t566 t567 t568 w _ ?side1 ?side2 A24.out).mono ?_); (case side1 => repeat (first | (with_reducible first | exact HI552.out | apply IsS67.alloc | apply IsS67.drewN | apply IsS67.drew | apply IsS67.set_1 | apply IsS67.set_2 | refine IsS67.far ?_ NB552_550.out _ | refine IsS67.far ?_ NB552_551.out _ | refine IsS67.far ?_ NB552_557.out _ | refine IsS67.far ?_ NB552_565.out _) | exact HI552.out)); (case side2 => repeat (first | (with_reducible first | exact HB.out | apply baz_ | apply bnz_ | apply bdz_ | refine bsz_ ?_ (IsS67.ge HI552.out) | refine bsz_ ?_ GE550.out | refine bsz_ ?_ GE551.out | refine bsz_ ?_ GE557.out | refine bsz_ ?_ GE565.out) | exact HB.out)); rintro e w25 ⟨rfl, hi, hb, hk⟩; replace BK550 := Az_ (KeepBut.blk hk (g' := gb550) (o := .cells #[.int .i64 0, .int .i64 0, .int .i64 0] 40 (0, 0)) (w85_) NB550_552.out (by simp)); replace BK551 := Az_ (KeepBut.blk hk (g' := gb551) (o := .cells #[.int .i64 0, .int .i64 0] 25 (0, 0)) (w86_) NB551_552.out (by simp)); replace BK557 := Az_ (KeepBut.blk hk (g' := gb557) (o := .cells #[.int .i64 t553, .int .i64 t554] 25 (0, 0)) (w87_) NB557_552.out (by simp)); replace HO563 := Az_ (Kd.R_mono (Kd.R_keep (IsS67.apart (show IsS67 w _ gb552 l0 t559 t560 from w32_) (by (with_reducible repeat (first | apply raz_ | apply rnz_ | apply rdz_)); exact (Kd.R_mono (Kd.R_far (p := ⟨gb565, 0, none⟩) (Kd.R_types HO563.out BK565.out (by decide)) (fun _ hk => hk.2) (.slice Ao21 t561.length co21)) (fun _ h_ => h_.1))) (by decide)) hk (fun _ h => h.2)) (fun _ h => h.1)); replace BK565 := Az_ (KeepBut.blk hk (g' := gb565) (o := .cells #[.slice Ao21 t561.length co21] 30 (0, 0)) (w49_) NB565_552.out (by simp)); replace HB := Az_ (hb); replace HI552 := Az_ (hi); (try clear hb); (try clear hk); (try clear hi)))
  go_meet
  case rel => exact ⟨_, (t566), (t567), (t568), qaz_, H', ⟨w173_⟩, ⟨by (with_reducible repeat (first | apply raz_ | apply rnz_ | apply rdz_)); exact HO563.out⟩, ⟨by (with_reducible repeat (first | refine knz_ ?_ _ | refine kdz_ ?_ | refine kaz_ ?_ _)); exact BK550.out⟩, ⟨by (with_reducible repeat (first | refine knz_ ?_ _ | refine kdz_ ?_ | refine kaz_ ?_ _)); exact BK551.out⟩, ⟨by (with_reducible repeat (first | refine knz_ ?_ _ | refine kdz_ ?_ | refine kaz_ ?_ _)); exact BK557.out⟩, ⟨by (with_reducible repeat (first | refine knz_ ?_ _ | refine kdz_ ?_ | refine kaz_ ?_ _)); exact BK565.out⟩, ⟨w32_⟩, ⟨w36_⟩⟩
 case rest =>
  clear HC5
  clear hcz14_0 hcz14_1 hfz14_0 hfz14_1
  obtain ⟨kq, x24_4, x553001_4, x553002_4, rfl, HA, HJ4, HO_566000, BK550, BK551, BK557, BK565, HI552, HB⟩ := hcut
  cases kq with
  | zero => exact absurd HA.out (by simp [j0])
  | succ kj4 =>
   have H := HA.out
   clear HA
   simp only [j0] at H
   by_cases c26 : x24_4 = true
   ·subst c26
    rw [if_pos rfl] at H
    by_cases c27 : 0 < (t561.length : Int); rotate_left
    ·rw [if_neg c27] at H
     exact absurd H (by simp)
    rw [if_pos c27] at H
    have c27b0 := decide_eq_true c27
    have c27b1 : decide (0 < t561.length) = true := decide_eq_true (by omega)
    clear c27
    simp only [Option.some.injEq, Prod.mk.injEq] at H
    obtain ⟨rfl, rfl, rfl, rfl, rfl⟩ := H
    try go_wp2
    replace HO_566000 := Az_ (rdz_ HO_566000.out)
    replace BK550 := Az_ (kdz_ BK550.out)
    replace BK551 := Az_ (kdz_ BK551.out)
    replace BK557 := Az_ (kdz_ BK557.out)
    replace BK565 := Az_ (kdz_ BK565.out)
    replace HI552 := Az_ (IsS67.drew HI552.out)
    replace HB := Az_ (bdz_ HB.out)
    have p569 : 0 ≤ (0 : Int) := (by omega)
    have q569 : 0 < (t561.length : Int) := od_
    obtain ⟨ad569, e569, hx569_0, hx569_1, hx569_2⟩ := at_T40 (Kd.R_reads' HO_566000.out).2.2 0 p569 q569
    cases e569
    have qi569 : (0 < t561.length) = True := eq_true (by omega)
    (try rw [show ((0 : Int)).toNat = 0 from rfl] at hx569_0)
    (try rw [show 0 * 3 = 0 from rfl] at hx569_0)
    (try rw [Addr.add_zero'] at hx569_0)
    (try rw [show ((0 : Int)).toNat = 0 from rfl] at hx569_1)
    (try rw [show 0 * 3 = 0 from rfl] at hx569_1)
    (try rw [Addr.add_zero'] at hx569_1)
    (try rw [show ((0 : Int)).toNat = 0 from rfl] at hx569_2)
    (try rw [show 0 * 3 = 0 from rfl] at hx569_2)
    (try rw [Addr.add_zero'] at hx569_2)
    replace p569 := eq_true p569
    replace q569 := eq_true q569
    refine start_ (n := 7) (S := fun w' => w'.cell? ⟨gb565, 0, none⟩ = some (.slice (some ad569) t561.length co21) ∧ w'.cell? ⟨gb557, 0, none⟩ = some (.int .i64 t553) ∧ w'.cell? ⟨gb557, 1, none⟩ = some (.int .i64 t554) ∧ w'.cell? ad569 = some (.int .i64 ((rd_T40 t561 0).f0)) ∧ w'.cell? ⟨ad569.block, ad569.off + 1, none⟩ = some (.int .i64 ((rd_T40 t561 0).f1)) ∧ w'.cell? ⟨ad569.block, ad569.off + 2, none⟩ = some (.int .i64 ((rd_T40 t561 0).f2))) (ds := []) #[false, false, false, false, false, false, false] (w204_) rfl rfl ⟨(blk_cell BK565.out 0).trans rfl, (blk_cell BK557.out 0).trans rfl, (blk_cell BK557.out 1).trans rfl, hx569_0, hx569_1, hx569_2⟩ (fun hHeld => ?_)
    generalize wc.drew = w28 at HO_566000 BK550 BK551 BK557 BK565 HI552 HB hx569_0 hx569_1 hx569_2 hHeld ⊢
    refine pzk_ 0 25 [1,6] ?_
    refine take_ (i := 1) (N := some 26) (v := ?_) (a' := ?_) (mz_ [2,5]) rfl rfl (w204_) (fun _ _ _ h => h) (Or.inl ⟨by rfl, ?_⟩) hHeld ?_ ?_
    rotate_left
    ·rintro w' ⟨s0, s1, s2, s3, s4, s5⟩
     go_simp
     with_reducible rfl
    rotate_left
    ·simp only [Act.put, usz_, utz_, uvz_, i64_w, i32_w]
     rfl
    refine pzk_ 2 27 [3,4] ?_
    refine take_ (i := 3) (N := some 28) (v := ?_) (a' := ?_) (mz_ [4,3]) rfl rfl (w204_) (fun _ _ _ h => h) (Or.inl ⟨by rfl, ?_⟩) hHeld ?_ ?_
    rotate_left
    ·rintro w' ⟨s0, s1, s2, s3, s4, s5⟩
     go_simp
     with_reducible rfl
    rotate_left
    ·simp only [Act.put, usz_, utz_, uvz_, i64_w, i32_w]
     rfl
    refine take_ (i := 4) (N := some 29) (v := ?_) (a' := ?_) (mz_ [5,2]) rfl rfl (w204_) (fun _ _ _ h => h) (Or.inl ⟨by rfl, ?_⟩) hHeld ?_ ?_
    rotate_left
    ·rintro w' ⟨s0, s1, s2, s3, s4, s5⟩
     go_simp
     with_reducible rfl
    rotate_left
    ·simp only [Act.put, usz_, utz_, uvz_, i64_w, i32_w]
     rfl
    refine one_ (i := 5) (N := none) (mz_ [6,1]) rfl rfl (w204_) (by decide) (fun K hK => ?_)
    have hs29 : w28.cell? ⟨gb550, 0, none⟩ = some (.int .i64 0) := (blk_cell BK550.out 0).trans rfl
    have hfs29 := blk_frozen BK550.out 0
    have hns29_1 := NB551_550.out
    have hns29_2 := NB557_550.out
    have hns29_3 := NB565_550.out
    have hms29_1 := NB550_551.out
    have hms29_2 := NB550_557.out
    have hms29_3 := NB550_565.out
    have hs30 : w28.cell? ⟨gb550, 1, none⟩ = some (.int .i64 0) := (blk_cell BK550.out 1).trans rfl
    have hfs30 := blk_frozen BK550.out 1
    have hns30_1 := NB551_550.out
    have hns30_2 := NB557_550.out
    have hns30_3 := NB565_550.out
    have hms30_1 := NB550_551.out
    have hms30_2 := NB550_557.out
    have hms30_3 := NB550_565.out
    have hs31 : w28.cell? ⟨gb550, 2, none⟩ = some (.int .i64 0) := (blk_cell BK550.out 2).trans rfl
    have hfs31 := blk_frozen BK550.out 2
    have hns31_1 := NB551_550.out
    have hns31_2 := NB557_550.out
    have hns31_3 := NB565_550.out
    have hms31_1 := NB550_551.out
    have hms31_2 := NB550_557.out
    have hms31_3 := NB550_565.out
    refine skip_ (w1 := ?_) (by rfl) rfl ?_ ?_
    rotate_left
    ·go_simp
     rfl
    refine hK.out _ _ ⟨((cell_far (p := ⟨gb550, _, none⟩) NB565_550.out _).trans (((cell_far (p := ⟨gb550, _, none⟩) NB565_550.out _).trans (((cell_far (p := ⟨gb550, _, none⟩) NB565_550.out _).trans (hHeld.1)))))), ((cell_far (p := ⟨gb550, _, none⟩) NB557_550.out _).trans (((cell_far (p := ⟨gb550, _, none⟩) NB557_550.out _).trans (((cell_far (p := ⟨gb550, _, none⟩) NB557_550.out _).trans (hHeld.2.1)))))), ((cell_far (p := ⟨gb550, _, none⟩) NB557_550.out _).trans (((cell_far (p := ⟨gb550, _, none⟩) NB557_550.out _).trans (((cell_far (p := ⟨gb550, _, none⟩) NB557_550.out _).trans (hHeld.2.2.1)))))), ((cell_far (p := ⟨gb550, _, none⟩) (w31_) _).trans (((cell_far (p := ⟨gb550, _, none⟩) (w31_) _).trans (((cell_far (p := ⟨gb550, _, none⟩) (w31_) _).trans (hHeld.2.2.2.1)))))), ((cell_far (p := ⟨gb550, _, none⟩) (w31_) _).trans (((cell_far (p := ⟨gb550, _, none⟩) (w31_) _).trans (((cell_far (p := ⟨gb550, _, none⟩) (w31_) _).trans (hHeld.2.2.2.2.1)))))), ((cell_far (p := ⟨gb550, _, none⟩) (w31_) _).trans (((cell_far (p := ⟨gb550, _, none⟩) (w31_) _).trans (((cell_far (p := ⟨gb550, _, none⟩) (w31_) _).trans (hHeld.2.2.2.2.2))))))⟩ (fun hHeld => ?_)
    clear hK K
    refine one_ (i := 6) (N := none) (mz_ [7]) rfl rfl (w204_) (by decide) (fun K hK => ?_)
    have hs32 : w28.cell? ⟨gb551, 0, none⟩ = some (.int .i64 0) := (blk_cell BK551.out 0).trans rfl
    have hfs32 := blk_frozen BK551.out 0
    have hns32_0 := NB550_551.out
    have hns32_2 := NB557_551.out
    have hns32_3 := NB565_551.out
    have hms32_0 := NB551_550.out
    have hms32_2 := NB551_557.out
    have hms32_3 := NB551_565.out
    have hs33 : w28.cell? ⟨gb551, 1, none⟩ = some (.int .i64 0) := (blk_cell BK551.out 1).trans rfl
    have hfs33 := blk_frozen BK551.out 1
    have hns33_0 := NB550_551.out
    have hns33_2 := NB557_551.out
    have hns33_3 := NB565_551.out
    have hms33_0 := NB551_550.out
    have hms33_2 := NB551_557.out
    have hms33_3 := NB551_565.out
    refine skip_ (w1 := ?_) (by rfl) rfl ?_ ?_
    rotate_left
    ·go_simp
     rfl
    refine hK.out _ _ ⟨((cell_far (p := ⟨gb551, _, none⟩) NB565_551.out _).trans (((cell_far (p := ⟨gb551, _, none⟩) NB565_551.out _).trans (hHeld.1)))), ((cell_far (p := ⟨gb551, _, none⟩) NB557_551.out _).trans (((cell_far (p := ⟨gb551, _, none⟩) NB557_551.out _).trans (hHeld.2.1)))), ((cell_far (p := ⟨gb551, _, none⟩) NB557_551.out _).trans (((cell_far (p := ⟨gb551, _, none⟩) NB557_551.out _).trans (hHeld.2.2.1)))), ((cell_far (p := ⟨gb551, _, none⟩) (w3_) _).trans (((cell_far (p := ⟨gb551, _, none⟩) (w3_) _).trans (hHeld.2.2.2.1)))), ((cell_far (p := ⟨gb551, _, none⟩) (w3_) _).trans (((cell_far (p := ⟨gb551, _, none⟩) (w3_) _).trans (hHeld.2.2.2.2.1)))), ((cell_far (p := ⟨gb551, _, none⟩) (w3_) _).trans (((cell_far (p := ⟨gb551, _, none⟩) (w3_) _).trans (hHeld.2.2.2.2.2))))⟩ (fun hHeld => ?_)
    clear hK K
    refine done_ (w204_) ?_
    try go_wp2
    refine bodyPost_ret (results_cc rfl _ _ gb550 gb551 40 25 #[.int .i64 ((rd_T40 t561 0).f0), .int .i64 ((rd_T40 t561 0).f1), .int .i64 ((rd_T40 t561 0).f2)] #[.int .i64 t553, .int .i64 t554] (0, 0) (0, 0) _ _ rfl (by (with_reducible repeat (first | refine knz_ ?_ _ | refine kdz_ ?_ | refine kaz_ ?_ _)); refine blk_far ?_ NB550_551.out _; (with_reducible repeat (first | refine knz_ ?_ _ | refine kdz_ ?_ | refine kaz_ ?_ _)); refine blk_far ?_ NB550_551.out _; (with_reducible repeat (first | refine knz_ ?_ _ | refine kdz_ ?_ | refine kaz_ ?_ _)); refine blk_put (cs := #[.int .i64 ((rd_T40 t561 0).f0), .int .i64 ((rd_T40 t561 0).f1), .int .i64 0]) ?_ 2 _ rfl; (with_reducible repeat (first | refine knz_ ?_ _ | refine kdz_ ?_ | refine kaz_ ?_ _)); refine blk_put (cs := #[.int .i64 ((rd_T40 t561 0).f0), .int .i64 0, .int .i64 0]) ?_ 1 _ rfl; (with_reducible repeat (first | refine knz_ ?_ _ | refine kdz_ ?_ | refine kaz_ ?_ _)); refine blk_put (cs := #[.int .i64 0, .int .i64 0, .int .i64 0]) ?_ 0 _ rfl; (with_reducible repeat (first | refine knz_ ?_ _ | refine kdz_ ?_ | refine kaz_ ?_ _)); exact BK550.out) Tryd.underlying40 rfl (w204_) rfl (w1_) Tryd.underlying25 rfl (w204_)) rfl ?_
    exact ⟨w166_, w36_⟩
   ·replace c26 := Bool.eq_false_iff.mpr c26
    subst c26
    rw [if_neg nfz_] at H
    replace H := bqz_ H; obtain ⟨⟨t570, t571, t572⟩, A34, H⟩ := H
    replace H : (if t570 = true then ((spec_l1Cur_among.f l0 t571 t572 (([(-1), 0, 21, 4611686018427387904] : List Int))).bind fun bt576 => ((spec_l1Cur_clue.f kj4 l0 bt576.2.1 bt576.2.2).bind fun bt579 => (some (bt579.1, bt579.2.1, bt579.2.2.1, t553, bt576.1)))) else ((spec_l1Cur_clue.f kj4 l0 t571 t572).bind fun bt584 => (some (bt584.1, bt584.2.1, bt584.2.2.1, t553, t554)))) = some (r1, r2, r3, r4, r5) := H
    by_cases c35 : t570 = true
    ·subst c35
     rw [if_pos rfl] at H
     obtain ⟨y573, hy573⟩ : ∃ y_ : List Int, y_ = (([(-1), 0, 21, 4611686018427387904] : List Int)) := ⟨_, rfl⟩
     replace H : ((spec_l1Cur_among.f l0 t571 t572 y573).bind fun bt576 => ((spec_l1Cur_clue.f kj4 l0 bt576.2.1 bt576.2.2).bind fun bt579 => (some (bt579.1, bt579.2.1, bt579.2.2.1, t553, bt576.1)))) = some (r1, r2, r3, r4, r5) := by first | (rw [hy573]; with_reducible exact H) | (have H2_ := (Option.bind_some _ _).symm.trans H; rw [hy573]; with_reducible exact H2_) | (have H2_ := (Option.bind_some _ _).symm.trans H; with_reducible exact H2_) | with_reducible exact H | (rw [hy573]; exact H) | exact H
     have Ny573 := Az_ hy573
     clear hy573
     replace H := bqz_ H; obtain ⟨⟨t576, t577, t578⟩, A36, H⟩ := H
     replace H := bqz_ H; obtain ⟨⟨t579, t580, t581, t582, t583⟩, A37, H⟩ := H
     replace H : (some (t579, t580, t581, t553, t576)) = some (r1, r2, r3, r4, r5) := H
     simp only [Option.some.injEq, Prod.mk.injEq] at H
     obtain ⟨rfl, rfl, rfl, rfl, rfl⟩ := H
     try go_wp2_with (first | ((with_reducible refine gate_callee (f := 35) rfl ?_); refine goesL_ (some 31) rfl rfl Tryd.func35 (w204_) rfl #[.pointer (some ⟨gb552, 0, none⟩), .int .i64 10] rfl maz_ ?_; (with_reducible refine (spec_l1Cur_one.calls gb552 l0 x553001_4 x553002_4 10 true t571 t572 w _ ?side1 ?side2 A34.out).mono ?_); (case side1 => repeat (first | (with_reducible first | exact HI552.out | apply IsS67.alloc | apply IsS67.drewN | apply IsS67.drew | apply IsS67.set_1 | apply IsS67.set_2 | refine IsS67.far ?_ NB552_550.out _ | refine IsS67.far ?_ NB552_551.out _ | refine IsS67.far ?_ NB552_557.out _ | refine IsS67.far ?_ NB552_565.out _) | exact HI552.out)); (case side2 => repeat (first | (with_reducible first | exact HB.out | apply baz_ | apply bnz_ | apply bdz_ | refine bsz_ ?_ (IsS67.ge HI552.out) | refine bsz_ ?_ GE550.out | refine bsz_ ?_ GE551.out | refine bsz_ ?_ GE557.out | refine bsz_ ?_ GE565.out) | exact HB.out)); rintro e w38 ⟨rfl, hi, hb, hk⟩; refine ⟨_, rfl, ?_⟩; replace HO_566000 := Az_ (Kd.R_mono (Kd.R_keep (IsS67.apart (show IsS67 w _ gb552 l0 x553001_4 x553002_4 from w32_) (by exact urz_ HO_566000.out) (by decide)) hk (fun _ h => h.2)) (fun _ h => h.1)); replace BK550 := Az_ (KeepBut.blk hk (g' := gb550) (o := .cells #[.int .i64 0, .int .i64 0, .int .i64 0] 40 (0, 0)) (w189_) NB550_552.out (by simp)); replace BK551 := Az_ (KeepBut.blk hk (g' := gb551) (o := .cells #[.int .i64 0, .int .i64 0] 25 (0, 0)) (w190_) NB551_552.out (by simp)); replace BK557 := Az_ (KeepBut.blk hk (g' := gb557) (o := .cells #[.int .i64 t553, .int .i64 t554] 25 (0, 0)) (w191_) NB557_552.out (by simp)); replace BK565 := Az_ (KeepBut.blk hk (g' := gb565) (o := .cells #[.slice Ao21 t561.length co21] 30 (0, 0)) (w192_) NB565_552.out (by simp)); replace HB := Az_ (hb); replace HI552 := Az_ (hi); (try clear hb); (try clear hk); (try clear hi)) | ((with_reducible refine gate_dst (N := 33) rfl ?_); refine Kd.R_lit (Kd.int .i64) _ 3 ?hg (N := 33) ?hd (xs := ([(-1), 0, 21, 4611686018427387904] : List Int)) (inner := [.int .i64 (-1), .int .i64 0, .int .i64 21, .int .i64 4611686018427387904]) (ok := fun _ => True) (okp := fun _ => True) ?hr ?hp (fun _ hk => hk) trivial (Below.refl _ _) (Nat.le_refl _) (by simp) ?_; (case hd => rfl); (case hg => rfl); (case hr => first | (go_simp; done) | (go_simp; rfl)); (case hp => exact (Reps.one (show Kd.M (Kd.int .i64) _ _ _ (-1) [.int .i64 (-1)] from rfl) (Reps.one (show Kd.M (Kd.int .i64) _ _ _ 0 [.int .i64 0] from rfl) (Reps.one (show Kd.M (Kd.int .i64) _ _ _ 21 [.int .i64 21] from rfl) (Reps.one (show Kd.M (Kd.int .i64) _ _ _ 4611686018427387904 [.int .i64 4611686018427387904] from rfl) (Reps.none _ _)))))); intro v574 w39 ho40 hb hg_ hnew_; clear hg_ hnew_; (first | rw [← Ny573.out] at ho40 | (simp only [Int.reduceToNat] at ho40; rw [← Ny573.out] at ho40)); have n0_ := Az_ (Kd.R_below (by exact urz_ HO_566000.out) hb); have n1_ := Az_ (Kd.R_lower ho40 (below_size (w36_))); have n6_ := Az_ (IsS67.below (w32_) hb); have n7_ := Az_ (btz_ (w36_) hb); clear HO_566000; clear HI552; clear HB; have HO_566000 := n0_; have HO575 := n1_; replace BK550 := Az_ (ukbz_ BK550.out hb); replace BK551 := Az_ (ukbz_ BK551.out hb); replace BK557 := Az_ (ukbz_ BK557.out hb); replace BK565 := Az_ (ukbz_ BK565.out hb); have HI552 := n6_; have HB := n7_; clear n0_ n1_ n6_ n7_; clear hb ho40; obtain ⟨Ao41, co41, eo41⟩ := Kd.R_slice HO575.out; subst eo41) | ((with_reducible refine gate_callee (f := 36) rfl ?_); refine goesL_ (some 34) rfl rfl Tryd.func36 (w204_) rfl #[.pointer (some ⟨gb552, 0, none⟩), .slice Ao41 y573.length co41] rfl maz_ ?_; (with_reducible refine (spec_l1Cur_among.calls gb552 l0 t571 t572 _ _ y573 t576 t577 t578 w _ ?side1 ?side2 ?side3 ?side4 ?side5 A36.out).mono ?_); (case side1 => repeat (first | (with_reducible first | exact HI552.out | apply IsS67.alloc | apply IsS67.drewN | apply IsS67.drew | apply IsS67.set_1 | apply IsS67.set_2 | refine IsS67.far ?_ NB552_550.out _ | refine IsS67.far ?_ NB552_551.out _ | refine IsS67.far ?_ NB552_557.out _ | refine IsS67.far ?_ NB552_565.out _) | exact HI552.out)); (case side2 => repeat (first | (with_reducible first | exact HB.out | apply baz_ | apply bnz_ | apply bdz_ | refine bsz_ ?_ (IsS67.ge HI552.out) | refine bsz_ ?_ GE550.out | refine bsz_ ?_ GE551.out | refine bsz_ ?_ GE557.out | refine bsz_ ?_ GE565.out) | exact HB.out)); (case side3 => exact ucz_ ((Kd.R_reads' HO575.out).2.2)); (case side4 => exact (Kd.R_reads' HO575.out).2.1); (case side5 => exact far_slice (IsS67.own_ne HI552.out HO575.out (by decide))); rintro e w42 ⟨rfl, hi, hb, hk⟩; refine ⟨_, rfl, ?_⟩; replace HO_566000 := Az_ (Kd.R_mono (Kd.R_keep (IsS67.apart (show IsS67 w _ gb552 l0 t571 t572 from w32_) (by exact urz_ HO_566000.out) (by decide)) hk (fun _ h => h.2)) (fun _ h => h.1)); replace BK550 := Az_ (KeepBut.blk hk (g' := gb550) (o := .cells #[.int .i64 0, .int .i64 0, .int .i64 0] 40 (0, 0)) (w189_) NB550_552.out (by simp)); replace BK551 := Az_ (KeepBut.blk hk (g' := gb551) (o := .cells #[.int .i64 0, .int .i64 0] 25 (0, 0)) (w190_) NB551_552.out (by simp)); replace BK557 := Az_ (KeepBut.blk hk (g' := gb557) (o := .cells #[.int .i64 t553, .int .i64 t554] 25 (0, 0)) (w191_) NB557_552.out (by simp)); replace BK565 := Az_ (KeepBut.blk hk (g' := gb565) (o := .cells #[.slice Ao21 t561.length co21] 30 (0, 0)) (w192_) NB565_552.out (by simp)); replace HO575 := Az_ (Kd.R_mono (Kd.R_keep (IsS67.apart (show IsS67 w _ gb552 l0 t571 t572 from w32_) (by exact urz_ HO575.out) (by decide)) hk (fun _ h => h.2)) (fun _ h => h.1)); replace HB := Az_ (hb); replace HI552 := Az_ (hi); (try clear hb); (try clear hk); (try clear hi); have hnb43 := NB557_550.out; have hnc43 := NB550_557.out; have hnb44 := NB557_551.out; have hnc44 := NB551_557.out; have hnb45 := NB557_565.out; have hnc45 := NB565_557.out; have hnb46 := NB557_552.out; have hnc46 := NB552_557.out; have hcz47_0 := cz_ (x := .int .i64 t553) BK557 0; have hcz47_1 := cz_ (x := .int .i64 t554) BK557 1; have hfz47_0 := blk_frozen BK557.out 0; have hfz47_1 := blk_frozen BK557.out 1))
     have n0_ : Aside0 (Kd.R k40 40 (w42.setCell ⟨gb557, 1, none⟩ (.int .i64 t576)) w.heap.size (fun k_ => k_ ≠ gb550) (.slice Ao21 t561.length co21) t561) := ⟨by (with_reducible repeat (first | apply raz_ | apply rnz_ | apply rdz_)); exact Kd.R_mono (Kd.R_far (p := ⟨gb557, 1, none⟩) (Kd.R_types HO_566000.out BK557.out (by decide)) (fun _ hk => hk.2) (.int .i64 t576)) (fun _ hk => hk.1)⟩
     have n1_ : Aside0 (Kd.R (Kd.int .i64) 3 (w42.setCell ⟨gb557, 1, none⟩ (.int .i64 t576)) w.heap.size (fun _ => True) (.slice Ao41 y573.length co41) y573) := ⟨by (with_reducible repeat (first | apply raz_ | apply rnz_ | apply rdz_)); exact Kd.R_mono (Kd.R_far (p := ⟨gb557, 1, none⟩) (Kd.R_types HO575.out BK557.out (by decide)) (fun _ hk => hk.2) (.int .i64 t576)) (fun _ hk => trivial)⟩
     have n2_ : Aside0 ((w42.setCell ⟨gb557, 1, none⟩ (.int .i64 t576)).heap[gb550]? = some (.cells #[.int .i64 0, .int .i64 0, .int .i64 0] 40 (0, 0))) := ⟨by (with_reducible repeat (first | refine knz_ ?_ _ | refine kdz_ ?_ | refine kaz_ ?_ _)); refine blk_far ?_ NB550_557.out _; (with_reducible repeat (first | refine knz_ ?_ _ | refine kdz_ ?_ | refine kaz_ ?_ _)); exact BK550.out⟩
     have n3_ : Aside0 ((w42.setCell ⟨gb557, 1, none⟩ (.int .i64 t576)).heap[gb551]? = some (.cells #[.int .i64 0, .int .i64 0] 25 (0, 0))) := ⟨by (with_reducible repeat (first | refine knz_ ?_ _ | refine kdz_ ?_ | refine kaz_ ?_ _)); refine blk_far ?_ NB551_557.out _; (with_reducible repeat (first | refine knz_ ?_ _ | refine kdz_ ?_ | refine kaz_ ?_ _)); exact BK551.out⟩
     have n4_ : Aside0 ((w42.setCell ⟨gb557, 1, none⟩ (.int .i64 t576)).heap[gb557]? = some (.cells #[.int .i64 t553, .int .i64 t576] 25 (0, 0))) := ⟨by (with_reducible repeat (first | refine knz_ ?_ _ | refine kdz_ ?_ | refine kaz_ ?_ _)); refine blk_put (cs := #[.int .i64 t553, .int .i64 t554]) ?_ 1 _ rfl; (with_reducible repeat (first | refine knz_ ?_ _ | refine kdz_ ?_ | refine kaz_ ?_ _)); exact BK557.out⟩
     have n5_ : Aside0 ((w42.setCell ⟨gb557, 1, none⟩ (.int .i64 t576)).heap[gb565]? = some (.cells #[.slice Ao21 t561.length co21] 30 (0, 0))) := ⟨by (with_reducible repeat (first | refine knz_ ?_ _ | refine kdz_ ?_ | refine kaz_ ?_ _)); refine blk_far ?_ NB565_557.out _; (with_reducible repeat (first | refine knz_ ?_ _ | refine kdz_ ?_ | refine kaz_ ?_ _)); exact BK565.out⟩
     have n6_ : Aside0 (IsS67 w (w42.setCell ⟨gb557, 1, none⟩ (.int .i64 t576)) gb552 l0 t577 t578) := ⟨w32_⟩
     have n7_ : Aside0 (Below w.heap.size w (w42.setCell ⟨gb557, 1, none⟩ (.int .i64 t576))) := ⟨w36_⟩
     clear HO_566000
     clear HO575
     clear BK550
     clear BK551
     clear BK557
     clear BK565
     clear HI552
     clear HB
     generalize (w42.setCell ⟨gb557, 1, none⟩ (.int .i64 t576)) = w48 at n0_ n1_ n2_ n3_ n4_ n5_ n6_ n7_ ⊢
     have HO_566000 := n0_
     have HO575 := n1_
     have BK550 := n2_
     have BK551 := n3_
     have BK557 := n4_
     have BK565 := n5_
     have HI552 := n6_
     have HB := n7_
     clear n0_ n1_ n2_ n3_ n4_ n5_ n6_ n7_
     replace HO_566000 := Az_ (rdz_ HO_566000.out)
     replace HO575 := Az_ (rdz_ HO575.out)
     replace BK550 := Az_ (kdz_ BK550.out)
     replace BK551 := Az_ (kdz_ BK551.out)
     replace BK557 := Az_ (kdz_ BK557.out)
     replace BK565 := Az_ (kdz_ BK565.out)
     replace HI552 := Az_ (IsS67.drew HI552.out)
     replace HB := Az_ (bdz_ HB.out)
     refine start_ (n := 5) (S := fun w' => w'.cell? ⟨gb557, 0, none⟩ = some (.int .i64 t553) ∧ w'.cell? ⟨gb557, 1, none⟩ = some (.int .i64 t576)) (ds := []) #[false, false, false, false, false] (w204_) rfl rfl ⟨(blk_cell BK557.out 0).trans rfl, (blk_cell BK557.out 1).trans rfl⟩ (fun hHeld => ?_)
     generalize w48.drew = w49 at HO_566000 HO575 BK550 BK551 BK557 BK565 HI552 HB hHeld ⊢
     refine pzk_ 0 36 [1,4] ?_
     refine tzk2_ 2 38 [1,1,1,2] ?_
     refine one_ (i := 1) (N := some 37) (mz_ [3,2]) rfl rfl (w204_) (by decide) (fun K hK => ?_)
     refine goes_ Tryd.func60 (w204_) rfl #[.pointer (some ⟨gb552, 0, none⟩)] (by rfl) rfl rfl maz_ ?_
     with_reducible refine (spec_l1Cur_clue.calls kj4 gb552 l0 t577 t578 t579 t580 t581 t582 t583 w _ ?side1 ?side2 A37.out).mono ?_
     (case side1 => repeat (first | (with_reducible first | exact HI552.out | apply IsS67.alloc | apply IsS67.drewN | apply IsS67.drew | apply IsS67.set_1 | apply IsS67.set_2 | refine IsS67.far ?_ NB552_550.out _ | refine IsS67.far ?_ NB552_551.out _ | refine IsS67.far ?_ NB552_557.out _ | refine IsS67.far ?_ NB552_565.out _) | exact HI552.out))
     (case side2 => repeat (first | (with_reducible first | exact HB.out | apply baz_ | apply bnz_ | apply bdz_ | refine bsz_ ?_ (IsS67.ge HI552.out) | refine bsz_ ?_ GE550.out | refine bsz_ ?_ GE551.out | refine bsz_ ?_ GE557.out | refine bsz_ ?_ GE565.out) | exact HB.out))
     rintro e w50 ⟨rfl, hi, hb, hk⟩
     refine ⟨_, rfl, ?_⟩
     replace HO_566000 := Az_ (Kd.R_mono (Kd.R_keep (IsS67.apart (show IsS67 w _ gb552 l0 t577 t578 from w32_) (by exact urz_ HO_566000.out) (by decide)) hk (fun _ h => h.2)) (fun _ h => h.1))
     replace BK550 := Az_ (KeepBut.blk hk (g' := gb550) (o := .cells #[.int .i64 0, .int .i64 0, .int .i64 0] 40 (0, 0)) (w189_) NB550_552.out (by simp))
     replace BK551 := Az_ (KeepBut.blk hk (g' := gb551) (o := .cells #[.int .i64 0, .int .i64 0] 25 (0, 0)) (w190_) NB551_552.out (by simp))
     replace BK557 := Az_ (KeepBut.blk hk (g' := gb557) (o := .cells #[.int .i64 t553, .int .i64 t576] 25 (0, 0)) (w191_) NB557_552.out (by simp))
     replace BK565 := Az_ (KeepBut.blk hk (g' := gb565) (o := .cells #[.slice Ao21 t561.length co21] 30 (0, 0)) (w192_) NB565_552.out (by simp))
     replace HO575 := Az_ (Kd.R_mono (Kd.R_keep (IsS67.apart (show IsS67 w _ gb552 l0 t577 t578 from w32_) (by exact urz_ HO575.out) (by decide)) hk (fun _ h => h.2)) (fun _ h => h.1))
     replace HB := Az_ (hb)
     replace HI552 := Az_ (hi)
     clear hb
     clear hk
     clear hi
     refine hK.out _ _ ⟨(blk_cell BK557.out 0).trans rfl, (blk_cell BK557.out 1).trans rfl⟩ (fun hHeld => ?_)
     clear hK K
     refine nz_ 37 ?_
     refine one_ (i := 3) (N := none) (mz_ [4,1]) rfl rfl (w204_) (by decide) (fun K hK => ?_)
     have hs51 : w50.cell? ⟨gb550, 0, none⟩ = some (.int .i64 0) := (blk_cell BK550.out 0).trans rfl
     have hfs51 := blk_frozen BK550.out 0
     have hns51_1 := NB551_550.out
     have hns51_2 := NB557_550.out
     have hns51_3 := NB565_550.out
     have hms51_1 := NB550_551.out
     have hms51_2 := NB550_557.out
     have hms51_3 := NB550_565.out
     have hs52 : w50.cell? ⟨gb550, 1, none⟩ = some (.int .i64 0) := (blk_cell BK550.out 1).trans rfl
     have hfs52 := blk_frozen BK550.out 1
     have hns52_1 := NB551_550.out
     have hns52_2 := NB557_550.out
     have hns52_3 := NB565_550.out
     have hms52_1 := NB550_551.out
     have hms52_2 := NB550_557.out
     have hms52_3 := NB550_565.out
     have hs53 : w50.cell? ⟨gb550, 2, none⟩ = some (.int .i64 0) := (blk_cell BK550.out 2).trans rfl
     have hfs53 := blk_frozen BK550.out 2
     have hns53_1 := NB551_550.out
     have hns53_2 := NB557_550.out
     have hns53_3 := NB565_550.out
     have hms53_1 := NB550_551.out
     have hms53_2 := NB550_557.out
     have hms53_3 := NB550_565.out
     refine skip_ (w1 := ?_) (by rfl) rfl ?_ ?_
     rotate_left
     ·go_simp
      rfl
     refine hK.out _ _ ⟨((cell_far (p := ⟨gb550, _, none⟩) NB557_550.out _).trans (((cell_far (p := ⟨gb550, _, none⟩) NB557_550.out _).trans (((cell_far (p := ⟨gb550, _, none⟩) NB557_550.out _).trans (hHeld.1)))))), ((cell_far (p := ⟨gb550, _, none⟩) NB557_550.out _).trans (((cell_far (p := ⟨gb550, _, none⟩) NB557_550.out _).trans (((cell_far (p := ⟨gb550, _, none⟩) NB557_550.out _).trans (hHeld.2))))))⟩ (fun hHeld => ?_)
     clear hK K
     refine one_ (i := 4) (N := none) (mz_ [5]) rfl rfl (w204_) (by decide) (fun K hK => ?_)
     have hs54 : w50.cell? ⟨gb551, 0, none⟩ = some (.int .i64 0) := (blk_cell BK551.out 0).trans rfl
     have hfs54 := blk_frozen BK551.out 0
     have hns54_0 := NB550_551.out
     have hns54_2 := NB557_551.out
     have hns54_3 := NB565_551.out
     have hms54_0 := NB551_550.out
     have hms54_2 := NB551_557.out
     have hms54_3 := NB551_565.out
     have hs55 : w50.cell? ⟨gb551, 1, none⟩ = some (.int .i64 0) := (blk_cell BK551.out 1).trans rfl
     have hfs55 := blk_frozen BK551.out 1
     have hns55_0 := NB550_551.out
     have hns55_2 := NB557_551.out
     have hns55_3 := NB565_551.out
     have hms55_0 := NB551_550.out
     have hms55_2 := NB551_557.out
     have hms55_3 := NB551_565.out
     refine skip_ (w1 := ?_) (by rfl) rfl ?_ ?_
     rotate_left
     ·go_simp
      rfl
     refine hK.out _ _ ⟨((cell_far (p := ⟨gb551, _, none⟩) NB557_551.out _).trans (((cell_far (p := ⟨gb551, _, none⟩) NB557_551.out _).trans (hHeld.1)))), ((cell_far (p := ⟨gb551, _, none⟩) NB557_551.out _).trans (((cell_far (p := ⟨gb551, _, none⟩) NB557_551.out _).trans (hHeld.2))))⟩ (fun hHeld => ?_)
     clear hK K
     refine done_ (w204_) ?_
     try go_wp2
     refine bodyPost_ret (results_cc rfl _ _ gb550 gb551 40 25 #[.int .i64 t579, .int .i64 t580, .int .i64 t581] #[.int .i64 t553, .int .i64 t576] (0, 0) (0, 0) _ _ rfl (by (with_reducible repeat (first | refine knz_ ?_ _ | refine kdz_ ?_ | refine kaz_ ?_ _)); refine blk_far ?_ NB550_551.out _; (with_reducible repeat (first | refine knz_ ?_ _ | refine kdz_ ?_ | refine kaz_ ?_ _)); refine blk_far ?_ NB550_551.out _; (with_reducible repeat (first | refine knz_ ?_ _ | refine kdz_ ?_ | refine kaz_ ?_ _)); refine blk_put (cs := #[.int .i64 t579, .int .i64 t580, .int .i64 0]) ?_ 2 _ rfl; (with_reducible repeat (first | refine knz_ ?_ _ | refine kdz_ ?_ | refine kaz_ ?_ _)); refine blk_put (cs := #[.int .i64 t579, .int .i64 0, .int .i64 0]) ?_ 1 _ rfl; (with_reducible repeat (first | refine knz_ ?_ _ | refine kdz_ ?_ | refine kaz_ ?_ _)); refine blk_put (cs := #[.int .i64 0, .int .i64 0, .int .i64 0]) ?_ 0 _ rfl; (with_reducible repeat (first | refine knz_ ?_ _ | refine kdz_ ?_ | refine kaz_ ?_ _)); exact BK550.out) Tryd.underlying40 rfl (w204_) rfl (w1_) Tryd.underlying25 rfl (w204_)) rfl ?_
     exact ⟨w166_, w36_⟩
    ·replace c35 := Bool.eq_false_iff.mpr c35
     subst c35
     rw [if_neg nfz_] at H
     replace H := bqz_ H; obtain ⟨⟨t584, t585, t586, t587, t588⟩, A56, H⟩ := H
     replace H : (some (t584, t585, t586, t553, t554)) = some (r1, r2, r3, r4, r5) := H
     simp only [Option.some.injEq, Prod.mk.injEq] at H
     obtain ⟨rfl, rfl, rfl, rfl, rfl⟩ := H
     try go_wp2_with (((with_reducible refine gate_callee (f := 35) rfl ?_); refine goesL_ (some 31) rfl rfl Tryd.func35 (w204_) rfl #[.pointer (some ⟨gb552, 0, none⟩), .int .i64 10] rfl maz_ ?_; (with_reducible refine (spec_l1Cur_one.calls gb552 l0 x553001_4 x553002_4 10 false t571 t572 w _ ?side1 ?side2 A34.out).mono ?_); (case side1 => repeat (first | (with_reducible first | exact HI552.out | apply IsS67.alloc | apply IsS67.drewN | apply IsS67.drew | apply IsS67.set_1 | apply IsS67.set_2 | refine IsS67.far ?_ NB552_550.out _ | refine IsS67.far ?_ NB552_551.out _ | refine IsS67.far ?_ NB552_557.out _ | refine IsS67.far ?_ NB552_565.out _) | exact HI552.out)); (case side2 => repeat (first | (with_reducible first | exact HB.out | apply baz_ | apply bnz_ | apply bdz_ | refine bsz_ ?_ (IsS67.ge HI552.out) | refine bsz_ ?_ GE550.out | refine bsz_ ?_ GE551.out | refine bsz_ ?_ GE557.out | refine bsz_ ?_ GE565.out) | exact HB.out)); rintro e w57 ⟨rfl, hi, hb, hk⟩; refine ⟨_, rfl, ?_⟩; replace HO_566000 := Az_ (Kd.R_mono (Kd.R_keep (IsS67.apart (show IsS67 w _ gb552 l0 x553001_4 x553002_4 from w32_) (by exact urz_ HO_566000.out) (by decide)) hk (fun _ h => h.2)) (fun _ h => h.1)); replace BK550 := Az_ (KeepBut.blk hk (g' := gb550) (o := .cells #[.int .i64 0, .int .i64 0, .int .i64 0] 40 (0, 0)) (w189_) NB550_552.out (by simp)); replace BK551 := Az_ (KeepBut.blk hk (g' := gb551) (o := .cells #[.int .i64 0, .int .i64 0] 25 (0, 0)) (w190_) NB551_552.out (by simp)); replace BK557 := Az_ (KeepBut.blk hk (g' := gb557) (o := .cells #[.int .i64 t553, .int .i64 t554] 25 (0, 0)) (w191_) NB557_552.out (by simp)); replace BK565 := Az_ (KeepBut.blk hk (g' := gb565) (o := .cells #[.slice Ao21 t561.length co21] 30 (0, 0)) (w192_) NB565_552.out (by simp)); replace HB := Az_ (hb); replace HI552 := Az_ (hi); (try clear hb); (try clear hk); (try clear hi)))
     replace HO_566000 := Az_ (rdz_ HO_566000.out)
     replace BK550 := Az_ (kdz_ BK550.out)
     replace BK551 := Az_ (kdz_ BK551.out)
     replace BK557 := Az_ (kdz_ BK557.out)
     replace BK565 := Az_ (kdz_ BK565.out)
     replace HI552 := Az_ (IsS67.drew HI552.out)
     replace HB := Az_ (bdz_ HB.out)
     refine start_ (n := 5) (S := fun w' => w'.cell? ⟨gb557, 0, none⟩ = some (.int .i64 t553) ∧ w'.cell? ⟨gb557, 1, none⟩ = some (.int .i64 t554)) (ds := []) #[false, false, false, false, false] (w204_) rfl rfl ⟨(blk_cell BK557.out 0).trans rfl, (blk_cell BK557.out 1).trans rfl⟩ (fun hHeld => ?_)
     generalize w57.drew = w58 at HO_566000 BK550 BK551 BK557 BK565 HI552 HB hHeld ⊢
     refine pzk_ 0 36 [1,4] ?_
     refine tzk2_ 2 38 [1,1,1,2] ?_
     refine one_ (i := 1) (N := some 37) (mz_ [3,2]) rfl rfl (w204_) (by decide) (fun K hK => ?_)
     refine goes_ Tryd.func60 (w204_) rfl #[.pointer (some ⟨gb552, 0, none⟩)] (by rfl) rfl rfl maz_ ?_
     with_reducible refine (spec_l1Cur_clue.calls kj4 gb552 l0 t571 t572 t584 t585 t586 t587 t588 w _ ?side1 ?side2 A56.out).mono ?_
     (case side1 => repeat (first | (with_reducible first | exact HI552.out | apply IsS67.alloc | apply IsS67.drewN | apply IsS67.drew | apply IsS67.set_1 | apply IsS67.set_2 | refine IsS67.far ?_ NB552_550.out _ | refine IsS67.far ?_ NB552_551.out _ | refine IsS67.far ?_ NB552_557.out _ | refine IsS67.far ?_ NB552_565.out _) | exact HI552.out))
     (case side2 => repeat (first | (with_reducible first | exact HB.out | apply baz_ | apply bnz_ | apply bdz_ | refine bsz_ ?_ (IsS67.ge HI552.out) | refine bsz_ ?_ GE550.out | refine bsz_ ?_ GE551.out | refine bsz_ ?_ GE557.out | refine bsz_ ?_ GE565.out) | exact HB.out))
     rintro e w59 ⟨rfl, hi, hb, hk⟩
     refine ⟨_, rfl, ?_⟩
     replace HO_566000 := Az_ (Kd.R_mono (Kd.R_keep (IsS67.apart (show IsS67 w _ gb552 l0 t571 t572 from w32_) (by exact urz_ HO_566000.out) (by decide)) hk (fun _ h => h.2)) (fun _ h => h.1))
     replace BK550 := Az_ (KeepBut.blk hk (g' := gb550) (o := .cells #[.int .i64 0, .int .i64 0, .int .i64 0] 40 (0, 0)) (w189_) NB550_552.out (by simp))
     replace BK551 := Az_ (KeepBut.blk hk (g' := gb551) (o := .cells #[.int .i64 0, .int .i64 0] 25 (0, 0)) (w190_) NB551_552.out (by simp))
     replace BK557 := Az_ (KeepBut.blk hk (g' := gb557) (o := .cells #[.int .i64 t553, .int .i64 t554] 25 (0, 0)) (w191_) NB557_552.out (by simp))
     replace BK565 := Az_ (KeepBut.blk hk (g' := gb565) (o := .cells #[.slice Ao21 t561.length co21] 30 (0, 0)) (w192_) NB565_552.out (by simp))
     replace HB := Az_ (hb)
     replace HI552 := Az_ (hi)
     clear hb
     clear hk
     clear hi
     refine hK.out _ _ ⟨(blk_cell BK557.out 0).trans rfl, (blk_cell BK557.out 1).trans rfl⟩ (fun hHeld => ?_)
     clear hK K
     refine nz_ 37 ?_
     refine one_ (i := 3) (N := none) (mz_ [4,1]) rfl rfl (w204_) (by decide) (fun K hK => ?_)
     have hs60 : w59.cell? ⟨gb550, 0, none⟩ = some (.int .i64 0) := (blk_cell BK550.out 0).trans rfl
     have hfs60 := blk_frozen BK550.out 0
     have hns60_1 := NB551_550.out
     have hns60_2 := NB557_550.out
     have hns60_3 := NB565_550.out
     have hms60_1 := NB550_551.out
     have hms60_2 := NB550_557.out
     have hms60_3 := NB550_565.out
     have hs61 : w59.cell? ⟨gb550, 1, none⟩ = some (.int .i64 0) := (blk_cell BK550.out 1).trans rfl
     have hfs61 := blk_frozen BK550.out 1
     have hns61_1 := NB551_550.out
     have hns61_2 := NB557_550.out
     have hns61_3 := NB565_550.out
     have hms61_1 := NB550_551.out
     have hms61_2 := NB550_557.out
     have hms61_3 := NB550_565.out
     have hs62 : w59.cell? ⟨gb550, 2, none⟩ = some (.int .i64 0) := (blk_cell BK550.out 2).trans rfl
     have hfs62 := blk_frozen BK550.out 2
     have hns62_1 := NB551_550.out
     have hns62_2 := NB557_550.out
     have hns62_3 := NB565_550.out
     have hms62_1 := NB550_551.out
     have hms62_2 := NB550_557.out
     have hms62_3 := NB550_565.out
     refine skip_ (w1 := ?_) (by rfl) rfl ?_ ?_
     rotate_left
     ·go_simp
      rfl
     refine hK.out _ _ ⟨((cell_far (p := ⟨gb550, _, none⟩) NB557_550.out _).trans (((cell_far (p := ⟨gb550, _, none⟩) NB557_550.out _).trans (((cell_far (p := ⟨gb550, _, none⟩) NB557_550.out _).trans (hHeld.1)))))), ((cell_far (p := ⟨gb550, _, none⟩) NB557_550.out _).trans (((cell_far (p := ⟨gb550, _, none⟩) NB557_550.out _).trans (((cell_far (p := ⟨gb550, _, none⟩) NB557_550.out _).trans (hHeld.2))))))⟩ (fun hHeld => ?_)
     clear hK K
     refine one_ (i := 4) (N := none) (mz_ [5]) rfl rfl (w204_) (by decide) (fun K hK => ?_)
     have hs63 : w59.cell? ⟨gb551, 0, none⟩ = some (.int .i64 0) := (blk_cell BK551.out 0).trans rfl
     have hfs63 := blk_frozen BK551.out 0
     have hns63_0 := NB550_551.out
     have hns63_2 := NB557_551.out
     have hns63_3 := NB565_551.out
     have hms63_0 := NB551_550.out
     have hms63_2 := NB551_557.out
     have hms63_3 := NB551_565.out
     have hs64 : w59.cell? ⟨gb551, 1, none⟩ = some (.int .i64 0) := (blk_cell BK551.out 1).trans rfl
     have hfs64 := blk_frozen BK551.out 1
     have hns64_0 := NB550_551.out
     have hns64_2 := NB557_551.out
     have hns64_3 := NB565_551.out
     have hms64_0 := NB551_550.out
     have hms64_2 := NB551_557.out
     have hms64_3 := NB551_565.out
     refine skip_ (w1 := ?_) (by rfl) rfl ?_ ?_
     rotate_left
     ·go_simp
      rfl
     refine hK.out _ _ ⟨((cell_far (p := ⟨gb551, _, none⟩) NB557_551.out _).trans (((cell_far (p := ⟨gb551, _, none⟩) NB557_551.out _).trans (hHeld.1)))), ((cell_far (p := ⟨gb551, _, none⟩) NB557_551.out _).trans (((cell_far (p := ⟨gb551, _, none⟩) NB557_551.out _).trans (hHeld.2))))⟩ (fun hHeld => ?_)
     clear hK K
     refine done_ (w204_) ?_
     try go_wp2
     refine bodyPost_ret (results_cc rfl _ _ gb550 gb551 40 25 #[.int .i64 t584, .int .i64 t585, .int .i64 t586] #[.int .i64 t553, .int .i64 t554] (0, 0) (0, 0) _ _ rfl (by (with_reducible repeat (first | refine knz_ ?_ _ | refine kdz_ ?_ | refine kaz_ ?_ _)); refine blk_far ?_ NB550_551.out _; (with_reducible repeat (first | refine knz_ ?_ _ | refine kdz_ ?_ | refine kaz_ ?_ _)); refine blk_far ?_ NB550_551.out _; (with_reducible repeat (first | refine knz_ ?_ _ | refine kdz_ ?_ | refine kaz_ ?_ _)); refine blk_put (cs := #[.int .i64 t584, .int .i64 t585, .int .i64 0]) ?_ 2 _ rfl; (with_reducible repeat (first | refine knz_ ?_ _ | refine kdz_ ?_ | refine kaz_ ?_ _)); refine blk_put (cs := #[.int .i64 t584, .int .i64 0, .int .i64 0]) ?_ 1 _ rfl; (with_reducible repeat (first | refine knz_ ?_ _ | refine kdz_ ?_ | refine kaz_ ?_ _)); refine blk_put (cs := #[.int .i64 0, .int .i64 0, .int .i64 0]) ?_ 0 _ rfl; (with_reducible repeat (first | refine knz_ ?_ _ | refine kdz_ ?_ | refine kaz_ ?_ _)); exact BK550.out) Tryd.underlying40 rfl (w204_) rfl (w1_) Tryd.underlying25 rfl (w204_)) rfl ?_
     exact ⟨w166_, w36_⟩


def spec_DoesFit.f (k : Nat) (a0_0 : Int) (a0_1 : Int) (a0_2 : Int) (a1_0 : Int) (a1_1 : Int) : Option (Bool × Bool) := (spec_pzBook.f a1_0 a1_1).bind fun t591 => (if t591 = true then ((spec_pzClue.f k a0_0 a0_1 a0_2).bind fun t592 => (if t592 = true then ((spec_pzFits.f k a0_0 a0_1 a0_2 a1_0 a1_1).bind fun t593 => (some (t593, true))) else (some (false, false)))) else (some (false, false)))
set_option maxHeartbeats 8000000 in
set_option maxRecDepth 100000 in
theorem spec_DoesFit.calls (k : Nat) (a0_0 : Int) (a0_1 : Int) (a0_2 : Int) (a1_0 : Int) (a1_1 : Int) (r1 : Bool) (r2 : Bool) (w : World) (h : spec_DoesFit.f k a0_0 a0_1 a0_2 a1_0 a1_1 = some (r1, r2)) :
  Calls Tryd.prog 30 #[.agg #[.int .i64 a0_0, .int .i64 a0_1, .int .i64 a0_2], .agg #[.int .i64 a1_0, .int .i64 a1_1]] w fun e w' => e = .returned (.tuple #[.bool r1, .bool r2]) ∧ Below w.heap.size w w' := by
 have hu40 := Tryd.underlying40
 have hu25 := Tryd.underlying25
 have HB := Az_ (Below.refl w.heap.size w)
 have H : ((spec_pzBook.f a1_0 a1_1).bind fun t591 => (if t591 = true then ((spec_pzClue.f k a0_0 a0_1 a0_2).bind fun t592 => (if t592 = true then ((spec_pzFits.f k a0_0 a0_1 a0_2 a1_0 a1_1).bind fun t593 => (some (t593, true))) else (some (false, false)))) else (some (false, false)))) = some (r1, r2) := h
 clear h
 replace H := bqz_ H; obtain ⟨t591, A3, H⟩ := H
 replace H : (if t591 = true then ((spec_pzClue.f k a0_0 a0_1 a0_2).bind fun t592 => (if t592 = true then ((spec_pzFits.f k a0_0 a0_1 a0_2 a1_0 a1_1).bind fun t593 => (some (t593, true))) else (some (false, false)))) else (some (false, false))) = some (r1, r2) := H
 by_cases c4 : t591 = true
 ·subst c4
  rw [if_pos rfl] at H
  replace H := bqz_ H; obtain ⟨t592, A5, H⟩ := H
  replace H : (if t592 = true then ((spec_pzFits.f k a0_0 a0_1 a0_2 a1_0 a1_1).bind fun t593 => (some (t593, true))) else (some (false, false))) = some (r1, r2) := H
  by_cases c6 : t592 = true; rotate_left
  ·replace c6 := Bool.eq_false_iff.mpr c6
   subst c6
   rw [if_neg nfz_] at H
   simp only [Option.some.injEq, Prod.mk.injEq] at H
   obtain ⟨rfl, rfl⟩ := H
   go_enter Tryd.func30, Tryd.ntmps30
   go_wp2_with (first | ((with_reducible refine gate_dst (N := 2) rfl ?_); refine bxe_ (N := 2) (cs := #[.int .i64 a0_0, .int .i64 a0_1, .int .i64 a0_2]) (t := 40) ?_; intro gb589 hg w18 BK589 hb; have GW589 := gez_ hg (ubz_ HB.out); have GE589 := GW589; replace HB := Az_ (btz_ (ubz_ HB.out) hb); clear hb hg) | ((with_reducible refine gate_dst (N := 3) rfl ?_); refine bxe_ (N := 3) (cs := #[.int .i64 a1_0, .int .i64 a1_1]) (t := 25) ?_; intro gb590 hg w19 BK590 hb; obtain ⟨NB589_590, NB590_589⟩ := nez_ BK589 hg; have GW590 : Aside0 (w.heap.size ≤ gb590) := gez_ hg (w129_); have GE590 := GW590; replace HB := Az_ (btz_ (w129_) hb); replace BK589 := Az_ (ukbz_ BK589.out hb); clear hb hg; have hnb20 := NB590_589.out; have hnc20 := NB589_590.out; have hcz21_0 := cz_ (x := .int .i64 a1_0) BK590 0; have hcz21_1 := cz_ (x := .int .i64 a1_1) BK590 1; have hfz21_0 := blk_frozen BK590.out 0; have hfz21_1 := blk_frozen BK590.out 1) | ((with_reducible refine gate_callee (f := 42) rfl ?_); refine goesL_ (some 7) rfl rfl Tryd.func42 (w204_) rfl #[.agg #[.int .i64 a1_0, .int .i64 a1_1]] rfl maz_ ?_; (with_reducible refine (spec_pzBook.calls a1_0 a1_1 true _ A3.out).mono ?_); rintro e w22 ⟨rfl, hb⟩; refine ⟨_, rfl, ?_⟩; have n2_ := Az_ (btz_ (w129_) hb); clear HB; replace BK589 := Az_ (ukbz_ BK589.out hb); replace BK590 := Az_ (ukbz_ BK590.out hb); have HB := n2_; clear n2_; (try clear hb); have hcz23_0 := cz_ (x := .int .i64 a0_0) BK589 0; have hcz23_1 := cz_ (x := .int .i64 a0_1) BK589 1; have hcz23_2 := cz_ (x := .int .i64 a0_2) BK589 2; have hfz23_0 := blk_frozen BK589.out 0; have hfz23_1 := blk_frozen BK589.out 1; have hfz23_2 := blk_frozen BK589.out 2) | (go_at_call 61; (with_reducible refine (spec_pzClue.calls k a0_0 a0_1 a0_2 false _ A5.out).mono ?_); rintro e w24 ⟨rfl, hb⟩; have n2_ := Az_ (btz_ (w129_) hb); clear HB; replace BK589 := Az_ (ukbz_ BK589.out hb); replace BK590 := Az_ (ukbz_ BK590.out hb); have HB := n2_; clear n2_; (try clear hb)))
   go_ret2
   exact ⟨w166_, w129_⟩
  subst c6
  rw [if_pos rfl] at H
  replace H := bqz_ H; obtain ⟨t593, A7, H⟩ := H
  replace H : (some (t593, true)) = some (r1, r2) := H
  simp only [Option.some.injEq, Prod.mk.injEq] at H
  obtain ⟨rfl, rfl⟩ := H
  go_enter Tryd.func30, Tryd.ntmps30
  go_wp2_with (first | ((with_reducible refine gate_dst (N := 2) rfl ?_); refine bxe_ (N := 2) (cs := #[.int .i64 a0_0, .int .i64 a0_1, .int .i64 a0_2]) (t := 40) ?_; intro gb589 hg w8 BK589 hb; have GW589 := gez_ hg (ubz_ HB.out); have GE589 := GW589; replace HB := Az_ (btz_ (ubz_ HB.out) hb); clear hb hg) | ((with_reducible refine gate_dst (N := 3) rfl ?_); refine bxe_ (N := 3) (cs := #[.int .i64 a1_0, .int .i64 a1_1]) (t := 25) ?_; intro gb590 hg w9 BK590 hb; obtain ⟨NB589_590, NB590_589⟩ := nez_ BK589 hg; have GW590 : Aside0 (w.heap.size ≤ gb590) := gez_ hg (w129_); have GE590 := GW590; replace HB := Az_ (btz_ (w129_) hb); replace BK589 := Az_ (ukbz_ BK589.out hb); clear hb hg; have hnb10 := NB590_589.out; have hnc10 := NB589_590.out; have hcz11_0 := cz_ (x := .int .i64 a1_0) BK590 0; have hcz11_1 := cz_ (x := .int .i64 a1_1) BK590 1; have hfz11_0 := blk_frozen BK590.out 0; have hfz11_1 := blk_frozen BK590.out 1) | ((with_reducible refine gate_callee (f := 42) rfl ?_); refine goesL_ (some 7) rfl rfl Tryd.func42 (w204_) rfl #[.agg #[.int .i64 a1_0, .int .i64 a1_1]] rfl maz_ ?_; (with_reducible refine (spec_pzBook.calls a1_0 a1_1 true _ A3.out).mono ?_); rintro e w12 ⟨rfl, hb⟩; refine ⟨_, rfl, ?_⟩; have n2_ := Az_ (btz_ (w129_) hb); clear HB; replace BK589 := Az_ (ukbz_ BK589.out hb); replace BK590 := Az_ (ukbz_ BK590.out hb); have HB := n2_; clear n2_; (try clear hb); have hcz13_0 := cz_ (x := .int .i64 a0_0) BK589 0; have hcz13_1 := cz_ (x := .int .i64 a0_1) BK589 1; have hcz13_2 := cz_ (x := .int .i64 a0_2) BK589 2; have hfz13_0 := blk_frozen BK589.out 0; have hfz13_1 := blk_frozen BK589.out 1; have hfz13_2 := blk_frozen BK589.out 2) | (go_at_call 61; (with_reducible refine (spec_pzClue.calls k a0_0 a0_1 a0_2 true _ A5.out).mono ?_); rintro e w14 ⟨rfl, hb⟩; have n2_ := Az_ (btz_ (w129_) hb); clear HB; replace BK589 := Az_ (ukbz_ BK589.out hb); replace BK590 := Az_ (ukbz_ BK590.out hb); have HB := n2_; clear n2_; (try clear hb); have hcz15_0 := cz_ (x := .int .i64 a0_0) BK589 0; have hcz15_1 := cz_ (x := .int .i64 a0_1) BK589 1; have hcz15_2 := cz_ (x := .int .i64 a0_2) BK589 2; have hfz15_0 := blk_frozen BK589.out 0; have hfz15_1 := blk_frozen BK589.out 1; have hfz15_2 := blk_frozen BK589.out 2; have hcz16_0 := cz_ (x := .int .i64 a1_0) BK590 0; have hcz16_1 := cz_ (x := .int .i64 a1_1) BK590 1; have hfz16_0 := blk_frozen BK590.out 0; have hfz16_1 := blk_frozen BK590.out 1) | ((with_reducible refine gate_callee (f := 62) rfl ?_); refine goesL_ (some 16) rfl rfl Tryd.func62 (w204_) rfl #[.agg #[.int .i64 a0_0, .int .i64 a0_1, .int .i64 a0_2], .agg #[.int .i64 a1_0, .int .i64 a1_1]] rfl maz_ ?_; (with_reducible refine (spec_pzFits.calls k a0_0 a0_1 a0_2 a1_0 a1_1 t593 _ A7.out).mono ?_); rintro e w17 ⟨rfl, hb⟩; refine ⟨_, rfl, ?_⟩; have n2_ := Az_ (btz_ (w129_) hb); clear HB; replace BK589 := Az_ (ukbz_ BK589.out hb); replace BK590 := Az_ (ukbz_ BK590.out hb); have HB := n2_; clear n2_; (try clear hb)))
  go_ret2
  exact ⟨w166_, w129_⟩
 ·replace c4 := Bool.eq_false_iff.mpr c4
  subst c4
  rw [if_neg nfz_] at H
  simp only [Option.some.injEq, Prod.mk.injEq] at H
  obtain ⟨rfl, rfl⟩ := H
  go_enter Tryd.func30, Tryd.ntmps30
  go_wp2_with (first | ((with_reducible refine gate_dst (N := 2) rfl ?_); refine bxe_ (N := 2) (cs := #[.int .i64 a0_0, .int .i64 a0_1, .int .i64 a0_2]) (t := 40) ?_; intro gb589 hg w25 BK589 hb; have GW589 := gez_ hg (ubz_ HB.out); have GE589 := GW589; replace HB := Az_ (btz_ (ubz_ HB.out) hb); clear hb hg) | ((with_reducible refine gate_dst (N := 3) rfl ?_); refine bxe_ (N := 3) (cs := #[.int .i64 a1_0, .int .i64 a1_1]) (t := 25) ?_; intro gb590 hg w26 BK590 hb; obtain ⟨NB589_590, NB590_589⟩ := nez_ BK589 hg; have GW590 : Aside0 (w.heap.size ≤ gb590) := gez_ hg (w129_); have GE590 := GW590; replace HB := Az_ (btz_ (w129_) hb); replace BK589 := Az_ (ukbz_ BK589.out hb); clear hb hg; have hnb27 := NB590_589.out; have hnc27 := NB589_590.out; have hcz28_0 := cz_ (x := .int .i64 a1_0) BK590 0; have hcz28_1 := cz_ (x := .int .i64 a1_1) BK590 1; have hfz28_0 := blk_frozen BK590.out 0; have hfz28_1 := blk_frozen BK590.out 1) | ((with_reducible refine gate_callee (f := 42) rfl ?_); refine goesL_ (some 7) rfl rfl Tryd.func42 (w204_) rfl #[.agg #[.int .i64 a1_0, .int .i64 a1_1]] rfl maz_ ?_; (with_reducible refine (spec_pzBook.calls a1_0 a1_1 false _ A3.out).mono ?_); rintro e w29 ⟨rfl, hb⟩; refine ⟨_, rfl, ?_⟩; have n2_ := Az_ (btz_ (w129_) hb); clear HB; replace BK589 := Az_ (ukbz_ BK589.out hb); replace BK590 := Az_ (ukbz_ BK590.out hb); have HB := n2_; clear n2_; (try clear hb)))
  go_ret2
  exact ⟨w166_, w129_⟩

def spec_DrawIsClue.f (k : Nat) (l0 : List Int) : Option (Int × Int × Int) := (spec_l1Cur_one.f l0 0 0 3).bind fun bt596 => (if bt596.1 = true then ((spec_l1Cur_pick.f l0 bt596.2.1 bt596.2.2 7).bind fun bt599 => ((spec_l1Cur_pick.f l0 bt599.2.1 bt599.2.2 9).bind fun bt602 => ((spec_l1Cur_among.f l0 bt602.2.1 bt602.2.2 (([(-1), 0, 0, 1, 2, 9, 10, 40, 41, 4611686018427387904] : List Int))).bind fun bt608 => ((spec_l1Cur_among.f l0 bt608.2.1 bt608.2.2 (([(-1), 0, 1, 2, 1000, 1001] : List Int))).bind fun bt614 => (some (wrap64 (bt599.1 - (wrap64 (Int.tdiv bt602.1 8))), bt608.1, bt614.1)))))) else ((spec_l1Cur_clue.f k l0 bt596.2.1 bt596.2.2).bind fun bt617 => (some (bt617.1, bt617.2.1, bt617.2.2.1))))
set_option maxHeartbeats 8000000 in
set_option maxRecDepth 100000 in
theorem spec_DrawIsClue.calls (k : Nat) (A0 : Option Addr) (c0 : Nat) (l0 : List Int) (r1 : Int) (r2 : Int) (r3 : Int) (w : World) (hr0 : Kd.C (Kd.int .u8) w A0 l0.length l0) (hc0 : l0.length ≤ c0) (h : spec_DrawIsClue.f k l0 = some (r1, r2, r3)) :
  Calls Tryd.prog 31 #[.slice A0 l0.length c0] w fun e w' => e = .returned (.agg #[.int .i64 r1, .int .i64 r2, .int .i64 r3]) ∧ Below w.heap.size w w' := by
 have hu40 := Tryd.underlying40
 have hu67 := Tryd.underlying67
 have HR0 := Az_ hr0
 have HC0 := Az_ hc0
 clear hr0 hc0
 have HB := Az_ (Below.refl w.heap.size w)
 have H : ((spec_l1Cur_one.f l0 0 0 3).bind fun bt596 => (if bt596.1 = true then ((spec_l1Cur_pick.f l0 bt596.2.1 bt596.2.2 7).bind fun bt599 => ((spec_l1Cur_pick.f l0 bt599.2.1 bt599.2.2 9).bind fun bt602 => ((spec_l1Cur_among.f l0 bt602.2.1 bt602.2.2 (([(-1), 0, 0, 1, 2, 9, 10, 40, 41, 4611686018427387904] : List Int))).bind fun bt608 => ((spec_l1Cur_among.f l0 bt608.2.1 bt608.2.2 (([(-1), 0, 1, 2, 1000, 1001] : List Int))).bind fun bt614 => (some (wrap64 (bt599.1 - (wrap64 (Int.tdiv bt602.1 8))), bt608.1, bt614.1)))))) else ((spec_l1Cur_clue.f k l0 bt596.2.1 bt596.2.2).bind fun bt617 => (some (bt617.1, bt617.2.1, bt617.2.2.1))))) = some (r1, r2, r3) := h
 clear h
 replace H := bqz_ H; obtain ⟨⟨t596, t597, t598⟩, A2, H⟩ := H
 replace H : (if t596 = true then ((spec_l1Cur_pick.f l0 t597 t598 7).bind fun bt599 => ((spec_l1Cur_pick.f l0 bt599.2.1 bt599.2.2 9).bind fun bt602 => ((spec_l1Cur_among.f l0 bt602.2.1 bt602.2.2 (([(-1), 0, 0, 1, 2, 9, 10, 40, 41, 4611686018427387904] : List Int))).bind fun bt608 => ((spec_l1Cur_among.f l0 bt608.2.1 bt608.2.2 (([(-1), 0, 1, 2, 1000, 1001] : List Int))).bind fun bt614 => (some (wrap64 (bt599.1 - (wrap64 (Int.tdiv bt602.1 8))), bt608.1, bt614.1)))))) else ((spec_l1Cur_clue.f k l0 t597 t598).bind fun bt617 => (some (bt617.1, bt617.2.1, bt617.2.2.1)))) = some (r1, r2, r3) := H
 by_cases c3 : t596 = true
 ·subst c3
  rw [if_pos rfl] at H
  replace H := bqz_ H; obtain ⟨⟨t599, t600, t601⟩, A4, H⟩ := H
  replace H := bqz_ H; obtain ⟨⟨t602, t603, t604⟩, A5, H⟩ := H
  replace H : ((spec_l1Cur_among.f l0 t603 t604 (([(-1), 0, 0, 1, 2, 9, 10, 40, 41, 4611686018427387904] : List Int))).bind fun bt608 => ((spec_l1Cur_among.f l0 bt608.2.1 bt608.2.2 (([(-1), 0, 1, 2, 1000, 1001] : List Int))).bind fun bt614 => (some (wrap64 (t599 - (wrap64 (Int.tdiv t602 8))), bt608.1, bt614.1)))) = some (r1, r2, r3) := H
  obtain ⟨y605, hy605⟩ : ∃ y_ : List Int, y_ = (([(-1), 0, 0, 1, 2, 9, 10, 40, 41, 4611686018427387904] : List Int)) := ⟨_, rfl⟩
  replace H : ((spec_l1Cur_among.f l0 t603 t604 y605).bind fun bt608 => ((spec_l1Cur_among.f l0 bt608.2.1 bt608.2.2 (([(-1), 0, 1, 2, 1000, 1001] : List Int))).bind fun bt614 => (some (wrap64 (t599 - (wrap64 (Int.tdiv t602 8))), bt608.1, bt614.1)))) = some (r1, r2, r3) := by first | (rw [hy605]; with_reducible exact H) | (have H2_ := (Option.bind_some _ _).symm.trans H; rw [hy605]; with_reducible exact H2_) | (have H2_ := (Option.bind_some _ _).symm.trans H; with_reducible exact H2_) | with_reducible exact H | (rw [hy605]; exact H) | exact H
  have Ny605 := Az_ hy605
  clear hy605
  replace H := bqz_ H; obtain ⟨⟨t608, t609, t610⟩, A6, H⟩ := H
  replace H : ((spec_l1Cur_among.f l0 t609 t610 (([(-1), 0, 1, 2, 1000, 1001] : List Int))).bind fun bt614 => (some (wrap64 (t599 - (wrap64 (Int.tdiv t602 8))), t608, bt614.1))) = some (r1, r2, r3) := H
  obtain ⟨y611, hy611⟩ : ∃ y_ : List Int, y_ = (([(-1), 0, 1, 2, 1000, 1001] : List Int)) := ⟨_, rfl⟩
  replace H : ((spec_l1Cur_among.f l0 t609 t610 y611).bind fun bt614 => (some (wrap64 (t599 - (wrap64 (Int.tdiv t602 8))), t608, bt614.1))) = some (r1, r2, r3) := by first | (rw [hy611]; with_reducible exact H) | (have H2_ := (Option.bind_some _ _).symm.trans H; rw [hy611]; with_reducible exact H2_) | (have H2_ := (Option.bind_some _ _).symm.trans H; with_reducible exact H2_) | with_reducible exact H | (rw [hy611]; exact H) | exact H
  have Ny611 := Az_ hy611
  clear hy611
  replace H := bqz_ H; obtain ⟨⟨t614, t615, t616⟩, A7, H⟩ := H
  replace H : (some (wrap64 (t599 - (wrap64 (Int.tdiv t602 8))), t608, t614)) = some (r1, r2, r3) := H
  simp only [Option.some.injEq, Prod.mk.injEq] at H
  obtain ⟨rfl, rfl, rfl⟩ := H
  go_enter Tryd.func31, Tryd.ntmps31
  go_wp2_with (first | ((with_reducible refine gate_dst (N := 2) rfl ?_); refine bxe_ (N := 2) (cs := #[.int .i64 0, .int .i64 0, .int .i64 0]) (t := 40) ?_; intro gb594 hg w8 BK594 hb; have GW594 := gez_ hg (ubz_ HB.out); have GE594 := GW594; replace HB := Az_ (btz_ (ubz_ HB.out) hb); clear hb hg) | ((with_reducible refine gate_dst (N := 6) rfl ?_); refine bxe_ (N := 6) (cs := #[.slice A0 l0.length c0, .int .i64 0, .int .u64 0]) (t := 67) ?_; intro gb595 hg w9 BK595 hb; obtain ⟨NB594_595, NB595_594⟩ := nez_ BK594 hg; have GW595 : Aside0 (w.heap.size ≤ gb595) := gez_ hg (w129_); have GE595 := GW595; replace HB := Az_ (btz_ (w129_) hb); replace BK594 := Az_ (ukbz_ BK594.out hb); clear hb hg) | ((with_reducible refine gate_callee (f := 35) rfl ?_); refine goesL_ (some 8) rfl rfl Tryd.func35 (w204_) rfl #[.pointer (some ⟨gb595, 0, none⟩), .int .i64 3] rfl maz_ ?_; have HI595 := Az_ (show IsS67 w w9 gb595 l0 0 0 from ⟨_, _, BK595.out, GE595.out, HR0.out⟩); (with_reducible refine (spec_l1Cur_one.calls gb595 l0 0 0 3 true t597 t598 w _ ?side1 ?side2 A2.out).mono ?_); (case side1 => repeat (first | (with_reducible first | exact HI595.out | apply IsS67.alloc | apply IsS67.drewN | apply IsS67.drew | apply IsS67.set_1 | apply IsS67.set_2 | refine IsS67.far ?_ NB595_594.out _) | exact HI595.out)); (case side2 => repeat (first | (with_reducible first | exact HB.out | apply baz_ | apply bnz_ | apply bdz_ | refine bsz_ ?_ (IsS67.ge HI595.out) | refine bsz_ ?_ GE594.out) | exact HB.out)); rintro e w10 ⟨rfl, hi, hb, hk⟩; refine ⟨_, rfl, ?_⟩; replace BK594 := Az_ (KeepBut.blk hk (g' := gb594) (o := .cells #[.int .i64 0, .int .i64 0, .int .i64 0] 40 (0, 0)) (by exact ukz_ BK594.out) NB594_595.out (by simp)); replace HB := Az_ (hb); replace HI595 := Az_ (hi); (try clear hb); (try clear hk); (try clear hi)) | ((with_reducible refine gate_callee (f := 38) rfl ?_); refine goesL_ (some 10) rfl rfl Tryd.func38 (w204_) rfl #[.pointer (some ⟨gb595, 0, none⟩), .int .i64 7] rfl maz_ ?_; (with_reducible refine (spec_l1Cur_pick.calls gb595 l0 t597 t598 7 t599 t600 t601 w _ ?side1 ?side2 A4.out).mono ?_); (case side1 => repeat (first | (with_reducible first | exact HI595.out | apply IsS67.alloc | apply IsS67.drewN | apply IsS67.drew | apply IsS67.set_1 | apply IsS67.set_2 | refine IsS67.far ?_ NB595_594.out _) | exact HI595.out)); (case side2 => repeat (first | (with_reducible first | exact HB.out | apply baz_ | apply bnz_ | apply bdz_ | refine bsz_ ?_ (IsS67.ge HI595.out) | refine bsz_ ?_ GE594.out) | exact HB.out)); rintro e w11 ⟨rfl, hi, hb, hk⟩; refine ⟨_, rfl, ?_⟩; replace BK594 := Az_ (KeepBut.blk hk (g' := gb594) (o := .cells #[.int .i64 0, .int .i64 0, .int .i64 0] 40 (0, 0)) (by exact ukz_ BK594.out) NB594_595.out (by simp)); replace HB := Az_ (hb); replace HI595 := Az_ (hi); (try clear hb); (try clear hk); (try clear hi)) | ((with_reducible refine gate_callee (f := 38) rfl ?_); refine goesL_ (some 12) rfl rfl Tryd.func38 (w204_) rfl #[.pointer (some ⟨gb595, 0, none⟩), .int .i64 9] rfl maz_ ?_; (with_reducible refine (spec_l1Cur_pick.calls gb595 l0 t600 t601 9 t602 t603 t604 w _ ?side1 ?side2 A5.out).mono ?_); (case side1 => repeat (first | (with_reducible first | exact HI595.out | apply IsS67.alloc | apply IsS67.drewN | apply IsS67.drew | apply IsS67.set_1 | apply IsS67.set_2 | refine IsS67.far ?_ NB595_594.out _) | exact HI595.out)); (case side2 => repeat (first | (with_reducible first | exact HB.out | apply baz_ | apply bnz_ | apply bdz_ | refine bsz_ ?_ (IsS67.ge HI595.out) | refine bsz_ ?_ GE594.out) | exact HB.out)); rintro e w12 ⟨rfl, hi, hb, hk⟩; refine ⟨_, rfl, ?_⟩; replace BK594 := Az_ (KeepBut.blk hk (g' := gb594) (o := .cells #[.int .i64 0, .int .i64 0, .int .i64 0] 40 (0, 0)) (by exact ukz_ BK594.out) NB594_595.out (by simp)); replace HB := Az_ (hb); replace HI595 := Az_ (hi); (try clear hb); (try clear hk); (try clear hi)) | ((with_reducible refine gate_dst (N := 16) rfl ?_); refine Kd.R_lit (Kd.int .i64) _ 3 ?hg (N := 16) ?hd (xs := ([(-1), 0, 0, 1, 2, 9, 10, 40, 41, 4611686018427387904] : List Int)) (inner := [.int .i64 (-1), .int .i64 0, .int .i64 0, .int .i64 1, .int .i64 2, .int .i64 9, .int .i64 10, .int .i64 40, .int .i64 41, .int .i64 4611686018427387904]) (ok := fun _ => True) (okp := fun _ => True) ?hr ?hp (fun _ hk => hk) trivial (Below.refl _ _) (Nat.le_refl _) (by simp) ?_; (case hd => rfl); (case hg => rfl); (case hr => first | (go_simp; done) | (go_simp; rfl)); (case hp => exact (Reps.one (show Kd.M (Kd.int .i64) _ _ _ (-1) [.int .i64 (-1)] from rfl) (Reps.one (show Kd.M (Kd.int .i64) _ _ _ 0 [.int .i64 0] from rfl) (Reps.one (show Kd.M (Kd.int .i64) _ _ _ 0 [.int .i64 0] from rfl) (Reps.one (show Kd.M (Kd.int .i64) _ _ _ 1 [.int .i64 1] from rfl) (Reps.one (show Kd.M (Kd.int .i64) _ _ _ 2 [.int .i64 2] from rfl) (Reps.one (show Kd.M (Kd.int .i64) _ _ _ 9 [.int .i64 9] from rfl) (Reps.one (show Kd.M (Kd.int .i64) _ _ _ 10 [.int .i64 10] from rfl) (Reps.one (show Kd.M (Kd.int .i64) _ _ _ 40 [.int .i64 40] from rfl) (Reps.one (show Kd.M (Kd.int .i64) _ _ _ 41 [.int .i64 41] from rfl) (Reps.one (show Kd.M (Kd.int .i64) _ _ _ 4611686018427387904 [.int .i64 4611686018427387904] from rfl) (Reps.none _ _)))))))))))); intro v606 w13 ho14 hb hg_ hnew_; clear hg_ hnew_; (first | rw [← Ny605.out] at ho14 | (simp only [Int.reduceToNat] at ho14; rw [← Ny605.out] at ho14)); have n0_ := Az_ (Kd.R_lower ho14 (below_size (w116_))); have n2_ := Az_ (IsS67.below (w99_) hb); have n3_ := Az_ (btz_ (w116_) hb); clear HI595; clear HB; have HO607 := n0_; replace BK594 := Az_ (ukbz_ BK594.out hb); have HI595 := n2_; have HB := n3_; clear n0_ n2_ n3_; clear hb ho14; obtain ⟨Ao15, co15, eo15⟩ := Kd.R_slice HO607.out; subst eo15) | ((with_reducible refine gate_callee (f := 36) rfl ?_); refine goesL_ (some 17) rfl rfl Tryd.func36 (w204_) rfl #[.pointer (some ⟨gb595, 0, none⟩), .slice Ao15 y605.length co15] rfl maz_ ?_; (with_reducible refine (spec_l1Cur_among.calls gb595 l0 t603 t604 _ _ y605 t608 t609 t610 w _ ?side1 ?side2 ?side3 ?side4 ?side5 A6.out).mono ?_); (case side1 => repeat (first | (with_reducible first | exact HI595.out | apply IsS67.alloc | apply IsS67.drewN | apply IsS67.drew | apply IsS67.set_1 | apply IsS67.set_2 | refine IsS67.far ?_ NB595_594.out _) | exact HI595.out)); (case side2 => repeat (first | (with_reducible first | exact HB.out | apply baz_ | apply bnz_ | apply bdz_ | refine bsz_ ?_ (IsS67.ge HI595.out) | refine bsz_ ?_ GE594.out) | exact HB.out)); (case side3 => exact ucz_ ((Kd.R_reads' HO607.out).2.2)); (case side4 => exact (Kd.R_reads' HO607.out).2.1); (case side5 => exact far_slice (IsS67.own_ne HI595.out HO607.out (by decide))); rintro e w16 ⟨rfl, hi, hb, hk⟩; refine ⟨_, rfl, ?_⟩; replace BK594 := Az_ (KeepBut.blk hk (g' := gb594) (o := .cells #[.int .i64 0, .int .i64 0, .int .i64 0] 40 (0, 0)) (by exact ukz_ BK594.out) NB594_595.out (by simp)); replace HO607 := Az_ (Kd.R_mono (Kd.R_keep (IsS67.apart (show IsS67 w _ gb595 l0 t603 t604 from w99_) (by exact urz_ HO607.out) (by decide)) hk (fun _ h => h.2)) (fun _ h => h.1)); replace HB := Az_ (hb); replace HI595 := Az_ (hi); (try clear hb); (try clear hk); (try clear hi)) | ((with_reducible refine gate_dst (N := 19) rfl ?_); refine Kd.R_lit (Kd.int .i64) _ 3 ?hg (N := 19) ?hd (xs := ([(-1), 0, 1, 2, 1000, 1001] : List Int)) (inner := [.int .i64 (-1), .int .i64 0, .int .i64 1, .int .i64 2, .int .i64 1000, .int .i64 1001]) (ok := fun _ => True) (okp := fun _ => True) ?hr ?hp (fun _ hk => hk) trivial (Below.refl _ _) (Nat.le_refl _) (by simp) ?_; (case hd => rfl); (case hg => rfl); (case hr => first | (go_simp; done) | (go_simp; rfl)); (case hp => exact (Reps.one (show Kd.M (Kd.int .i64) _ _ _ (-1) [.int .i64 (-1)] from rfl) (Reps.one (show Kd.M (Kd.int .i64) _ _ _ 0 [.int .i64 0] from rfl) (Reps.one (show Kd.M (Kd.int .i64) _ _ _ 1 [.int .i64 1] from rfl) (Reps.one (show Kd.M (Kd.int .i64) _ _ _ 2 [.int .i64 2] from rfl) (Reps.one (show Kd.M (Kd.int .i64) _ _ _ 1000 [.int .i64 1000] from rfl) (Reps.one (show Kd.M (Kd.int .i64) _ _ _ 1001 [.int .i64 1001] from rfl) (Reps.none _ _)))))))); intro v612 w17 ho18 hb hg_ hnew_; clear hg_ hnew_; (first | rw [← Ny611.out] at ho18 | (simp only [Int.reduceToNat] at ho18; rw [← Ny611.out] at ho18)); have n0_ := Az_ (rez_ (by exact urz_ HO607.out) (Kd.R_base ho18) hb); have n1_ := Az_ (Kd.R_lower (Kd.R_new' ho18 (Kd.R_lt (by exact urz_ HO607.out))) (below_size (w116_))); have n3_ := Az_ (IsS67.below (w99_) hb); have n4_ := Az_ (btz_ (w116_) hb); clear HO607; clear HI595; clear HB; have HO607 := n0_; have HO613 := n1_; replace BK594 := Az_ (ukbz_ BK594.out hb); have HI595 := n3_; have HB := n4_; clear n0_ n1_ n3_ n4_; clear hb ho18; obtain ⟨Ao19, co19, eo19⟩ := Kd.R_slice HO613.out; subst eo19) | ((with_reducible refine gate_callee (f := 36) rfl ?_); refine goesL_ (some 20) rfl rfl Tryd.func36 (w204_) rfl #[.pointer (some ⟨gb595, 0, none⟩), .slice Ao19 y611.length co19] rfl maz_ ?_; (with_reducible refine (spec_l1Cur_among.calls gb595 l0 t609 t610 _ _ y611 t614 t615 t616 w _ ?side1 ?side2 ?side3 ?side4 ?side5 A7.out).mono ?_); (case side1 => repeat (first | (with_reducible first | exact HI595.out | apply IsS67.alloc | apply IsS67.drewN | apply IsS67.drew | apply IsS67.set_1 | apply IsS67.set_2 | refine IsS67.far ?_ NB595_594.out _) | exact HI595.out)); (case side2 => repeat (first | (with_reducible first | exact HB.out | apply baz_ | apply bnz_ | apply bdz_ | refine bsz_ ?_ (IsS67.ge HI595.out) | refine bsz_ ?_ GE594.out) | exact HB.out)); (case side3 => exact ucz_ ((Kd.R_reads' HO613.out).2.2)); (case side4 => exact (Kd.R_reads' HO613.out).2.1); (case side5 => exact far_slice (IsS67.own_ne HI595.out HO613.out (by decide))); rintro e w20 ⟨rfl, hi, hb, hk⟩; refine ⟨_, rfl, ?_⟩; replace BK594 := Az_ (KeepBut.blk hk (g' := gb594) (o := .cells #[.int .i64 0, .int .i64 0, .int .i64 0] 40 (0, 0)) (by exact ukz_ BK594.out) NB594_595.out (by simp)); replace HO607 := Az_ (Kd.R_mono (Kd.R_keep (IsS67.apart (show IsS67 w _ gb595 l0 t609 t610 from w99_) (by exact urz_ HO607.out) (by decide)) hk (fun _ h => h.2)) (fun _ h => h.1)); replace HO613 := Az_ (Kd.R_mono (Kd.R_keep (IsS67.apart (show IsS67 w _ gb595 l0 t609 t610 from w99_) (by exact urz_ HO613.out) (by decide)) hk (fun _ h => h.2)) (fun _ h => h.1)); replace HB := Az_ (hb); replace HI595 := Az_ (hi); (try clear hb); (try clear hk); (try clear hi); have hnb21 := NB594_595.out; have hnc21 := NB595_594.out; have hcz22_0 := cz_ (x := .int .i64 0) BK594 0; have hcz22_1 := cz_ (x := .int .i64 0) BK594 1; have hcz22_2 := cz_ (x := .int .i64 0) BK594 2; have hfz22_0 := blk_frozen BK594.out 0; have hfz22_1 := blk_frozen BK594.out 1; have hfz22_2 := blk_frozen BK594.out 2))
  refine bodyPost_ret (results_cell_row rfl _ _ gb594 40 #[.int .i64 (wrap64 (t599 - (wrap64 (Int.tdiv t602 8)))), .int .i64 t608, .int .i64 t614] (0, 0) _ rfl (by (with_reducible repeat (first | refine knz_ ?_ _ | refine kdz_ ?_ | refine kaz_ ?_ _)); refine blk_put (cs := #[.int .i64 (wrap64 (t599 - (wrap64 (Int.tdiv t602 8)))), .int .i64 t608, .int .i64 0]) ?_ 2 _ rfl; (with_reducible repeat (first | refine knz_ ?_ _ | refine kdz_ ?_ | refine kaz_ ?_ _)); refine blk_put (cs := #[.int .i64 (wrap64 (t599 - (wrap64 (Int.tdiv t602 8)))), .int .i64 0, .int .i64 0]) ?_ 1 _ rfl; (with_reducible repeat (first | refine knz_ ?_ _ | refine kdz_ ?_ | refine kaz_ ?_ _)); refine blk_put (cs := #[.int .i64 0, .int .i64 0, .int .i64 0]) ?_ 0 _ rfl; (with_reducible repeat (first | refine knz_ ?_ _ | refine kdz_ ?_ | refine kaz_ ?_ _)); exact BK594.out) Tryd.underlying40 rfl (w204_)) rfl ?_
  exact ⟨w166_, w116_⟩
 ·replace c3 := Bool.eq_false_iff.mpr c3
  subst c3
  rw [if_neg nfz_] at H
  replace H := bqz_ H; obtain ⟨⟨t617, t618, t619, t620, t621⟩, A23, H⟩ := H
  replace H : (some (t617, t618, t619)) = some (r1, r2, r3) := H
  simp only [Option.some.injEq, Prod.mk.injEq] at H
  obtain ⟨rfl, rfl, rfl⟩ := H
  go_enter Tryd.func31, Tryd.ntmps31
  go_wp2_with (first | ((with_reducible refine gate_dst (N := 2) rfl ?_); refine bxe_ (N := 2) (cs := #[.int .i64 0, .int .i64 0, .int .i64 0]) (t := 40) ?_; intro gb594 hg w24 BK594 hb; have GW594 := gez_ hg (ubz_ HB.out); have GE594 := GW594; replace HB := Az_ (btz_ (ubz_ HB.out) hb); clear hb hg) | ((with_reducible refine gate_dst (N := 6) rfl ?_); refine bxe_ (N := 6) (cs := #[.slice A0 l0.length c0, .int .i64 0, .int .u64 0]) (t := 67) ?_; intro gb595 hg w25 BK595 hb; obtain ⟨NB594_595, NB595_594⟩ := nez_ BK594 hg; have GW595 : Aside0 (w.heap.size ≤ gb595) := gez_ hg (w129_); have GE595 := GW595; replace HB := Az_ (btz_ (w129_) hb); replace BK594 := Az_ (ukbz_ BK594.out hb); clear hb hg) | ((with_reducible refine gate_callee (f := 35) rfl ?_); refine goesL_ (some 8) rfl rfl Tryd.func35 (w204_) rfl #[.pointer (some ⟨gb595, 0, none⟩), .int .i64 3] rfl maz_ ?_; have HI595 := Az_ (show IsS67 w w25 gb595 l0 0 0 from ⟨_, _, BK595.out, GE595.out, HR0.out⟩); (with_reducible refine (spec_l1Cur_one.calls gb595 l0 0 0 3 false t597 t598 w _ ?side1 ?side2 A2.out).mono ?_); (case side1 => repeat (first | (with_reducible first | exact HI595.out | apply IsS67.alloc | apply IsS67.drewN | apply IsS67.drew | apply IsS67.set_1 | apply IsS67.set_2 | refine IsS67.far ?_ NB595_594.out _) | exact HI595.out)); (case side2 => repeat (first | (with_reducible first | exact HB.out | apply baz_ | apply bnz_ | apply bdz_ | refine bsz_ ?_ (IsS67.ge HI595.out) | refine bsz_ ?_ GE594.out) | exact HB.out)); rintro e w26 ⟨rfl, hi, hb, hk⟩; refine ⟨_, rfl, ?_⟩; replace BK594 := Az_ (KeepBut.blk hk (g' := gb594) (o := .cells #[.int .i64 0, .int .i64 0, .int .i64 0] 40 (0, 0)) (by exact ukz_ BK594.out) NB594_595.out (by simp)); replace HB := Az_ (hb); replace HI595 := Az_ (hi); (try clear hb); (try clear hk); (try clear hi)) | ((with_reducible refine gate_callee (f := 60) rfl ?_); refine goesL_ (some 23) rfl rfl Tryd.func60 (w204_) rfl #[.pointer (some ⟨gb595, 0, none⟩)] rfl maz_ ?_; (with_reducible refine (spec_l1Cur_clue.calls k gb595 l0 t597 t598 t617 t618 t619 t620 t621 w _ ?side1 ?side2 A23.out).mono ?_); (case side1 => repeat (first | (with_reducible first | exact HI595.out | apply IsS67.alloc | apply IsS67.drewN | apply IsS67.drew | apply IsS67.set_1 | apply IsS67.set_2 | refine IsS67.far ?_ NB595_594.out _) | exact HI595.out)); (case side2 => repeat (first | (with_reducible first | exact HB.out | apply baz_ | apply bnz_ | apply bdz_ | refine bsz_ ?_ (IsS67.ge HI595.out) | refine bsz_ ?_ GE594.out) | exact HB.out)); rintro e w27 ⟨rfl, hi, hb, hk⟩; refine ⟨_, rfl, ?_⟩; replace BK594 := Az_ (KeepBut.blk hk (g' := gb594) (o := .cells #[.int .i64 0, .int .i64 0, .int .i64 0] 40 (0, 0)) (by exact ukz_ BK594.out) NB594_595.out (by simp)); replace HB := Az_ (hb); replace HI595 := Az_ (hi); (try clear hb); (try clear hk); (try clear hi); have hnb28 := NB594_595.out; have hnc28 := NB595_594.out; have hcz29_0 := cz_ (x := .int .i64 0) BK594 0; have hcz29_1 := cz_ (x := .int .i64 0) BK594 1; have hcz29_2 := cz_ (x := .int .i64 0) BK594 2; have hfz29_0 := blk_frozen BK594.out 0; have hfz29_1 := blk_frozen BK594.out 1; have hfz29_2 := blk_frozen BK594.out 2))
  refine bodyPost_ret (results_cell_row rfl _ _ gb594 40 #[.int .i64 t617, .int .i64 t618, .int .i64 t619] (0, 0) _ rfl (by (with_reducible repeat (first | refine knz_ ?_ _ | refine kdz_ ?_ | refine kaz_ ?_ _)); refine blk_put (cs := #[.int .i64 t617, .int .i64 t618, .int .i64 0]) ?_ 2 _ rfl; (with_reducible repeat (first | refine knz_ ?_ _ | refine kdz_ ?_ | refine kaz_ ?_ _)); refine blk_put (cs := #[.int .i64 t617, .int .i64 0, .int .i64 0]) ?_ 1 _ rfl; (with_reducible repeat (first | refine knz_ ?_ _ | refine kdz_ ?_ | refine kaz_ ?_ _)); refine blk_put (cs := #[.int .i64 0, .int .i64 0, .int .i64 0]) ?_ 0 _ rfl; (with_reducible repeat (first | refine knz_ ?_ _ | refine kdz_ ?_ | refine kaz_ ?_ _)); exact BK594.out) Tryd.underlying40 rfl (w204_)) rfl ?_
  exact ⟨w166_, w116_⟩

def spec_DrawIsHidden.f (l0 : List Int) : Option (Int × Int) := (spec_l1Cur_one.f l0 0 0 3).bind fun bt624 => (if bt624.1 = true then ((spec_l1Cur_among.f l0 bt624.2.1 bt624.2.2 (([(-1), 0, 1, 2, 3, 40, 41, 4611686018427387904] : List Int))).bind fun bt630 => ((spec_l1Cur_among.f l0 bt630.2.1 bt630.2.2 (([(-1), 0, 1, 2, 20, 21, 4611686018427387904] : List Int))).bind fun bt636 => (some (bt630.1, bt636.1)))) else ((spec_l1Cur_hidden.f l0 bt624.2.1 bt624.2.2).bind fun bt639 => (some (bt639.1, bt639.2.1))))
set_option maxHeartbeats 8000000 in
set_option maxRecDepth 100000 in
theorem spec_DrawIsHidden.calls (A0 : Option Addr) (c0 : Nat) (l0 : List Int) (r1 : Int) (r2 : Int) (w : World) (hr0 : Kd.C (Kd.int .u8) w A0 l0.length l0) (hc0 : l0.length ≤ c0) (h : spec_DrawIsHidden.f l0 = some (r1, r2)) :
  Calls Tryd.prog 32 #[.slice A0 l0.length c0] w fun e w' => e = .returned (.agg #[.int .i64 r1, .int .i64 r2]) ∧ Below w.heap.size w w' := by
 have hu25 := Tryd.underlying25
 have hu67 := Tryd.underlying67
 have HR0 := Az_ hr0
 have HC0 := Az_ hc0
 clear hr0 hc0
 have HB := Az_ (Below.refl w.heap.size w)
 have H : ((spec_l1Cur_one.f l0 0 0 3).bind fun bt624 => (if bt624.1 = true then ((spec_l1Cur_among.f l0 bt624.2.1 bt624.2.2 (([(-1), 0, 1, 2, 3, 40, 41, 4611686018427387904] : List Int))).bind fun bt630 => ((spec_l1Cur_among.f l0 bt630.2.1 bt630.2.2 (([(-1), 0, 1, 2, 20, 21, 4611686018427387904] : List Int))).bind fun bt636 => (some (bt630.1, bt636.1)))) else ((spec_l1Cur_hidden.f l0 bt624.2.1 bt624.2.2).bind fun bt639 => (some (bt639.1, bt639.2.1))))) = some (r1, r2) := h
 clear h
 replace H := bqz_ H; obtain ⟨⟨t624, t625, t626⟩, A2, H⟩ := H
 replace H : (if t624 = true then ((spec_l1Cur_among.f l0 t625 t626 (([(-1), 0, 1, 2, 3, 40, 41, 4611686018427387904] : List Int))).bind fun bt630 => ((spec_l1Cur_among.f l0 bt630.2.1 bt630.2.2 (([(-1), 0, 1, 2, 20, 21, 4611686018427387904] : List Int))).bind fun bt636 => (some (bt630.1, bt636.1)))) else ((spec_l1Cur_hidden.f l0 t625 t626).bind fun bt639 => (some (bt639.1, bt639.2.1)))) = some (r1, r2) := H
 by_cases c3 : t624 = true
 ·subst c3
  rw [if_pos rfl] at H
  obtain ⟨y627, hy627⟩ : ∃ y_ : List Int, y_ = (([(-1), 0, 1, 2, 3, 40, 41, 4611686018427387904] : List Int)) := ⟨_, rfl⟩
  replace H : ((spec_l1Cur_among.f l0 t625 t626 y627).bind fun bt630 => ((spec_l1Cur_among.f l0 bt630.2.1 bt630.2.2 (([(-1), 0, 1, 2, 20, 21, 4611686018427387904] : List Int))).bind fun bt636 => (some (bt630.1, bt636.1)))) = some (r1, r2) := by first | (rw [hy627]; with_reducible exact H) | (have H2_ := (Option.bind_some _ _).symm.trans H; rw [hy627]; with_reducible exact H2_) | (have H2_ := (Option.bind_some _ _).symm.trans H; with_reducible exact H2_) | with_reducible exact H | (rw [hy627]; exact H) | exact H
  have Ny627 := Az_ hy627
  clear hy627
  replace H := bqz_ H; obtain ⟨⟨t630, t631, t632⟩, A4, H⟩ := H
  replace H : ((spec_l1Cur_among.f l0 t631 t632 (([(-1), 0, 1, 2, 20, 21, 4611686018427387904] : List Int))).bind fun bt636 => (some (t630, bt636.1))) = some (r1, r2) := H
  obtain ⟨y633, hy633⟩ : ∃ y_ : List Int, y_ = (([(-1), 0, 1, 2, 20, 21, 4611686018427387904] : List Int)) := ⟨_, rfl⟩
  replace H : ((spec_l1Cur_among.f l0 t631 t632 y633).bind fun bt636 => (some (t630, bt636.1))) = some (r1, r2) := by first | (rw [hy633]; with_reducible exact H) | (have H2_ := (Option.bind_some _ _).symm.trans H; rw [hy633]; with_reducible exact H2_) | (have H2_ := (Option.bind_some _ _).symm.trans H; with_reducible exact H2_) | with_reducible exact H | (rw [hy633]; exact H) | exact H
  have Ny633 := Az_ hy633
  clear hy633
  replace H := bqz_ H; obtain ⟨⟨t636, t637, t638⟩, A5, H⟩ := H
  replace H : (some (t630, t636)) = some (r1, r2) := H
  simp only [Option.some.injEq, Prod.mk.injEq] at H
  obtain ⟨rfl, rfl⟩ := H
  go_enter Tryd.func32, Tryd.ntmps32
  go_wp2_with (first | ((with_reducible refine gate_dst (N := 2) rfl ?_); refine bxe_ (N := 2) (cs := #[.int .i64 0, .int .i64 0]) (t := 25) ?_; intro gb622 hg w6 BK622 hb; have GW622 := gez_ hg (ubz_ HB.out); have GE622 := GW622; replace HB := Az_ (btz_ (ubz_ HB.out) hb); clear hb hg) | ((with_reducible refine gate_dst (N := 6) rfl ?_); refine bxe_ (N := 6) (cs := #[.slice A0 l0.length c0, .int .i64 0, .int .u64 0]) (t := 67) ?_; intro gb623 hg w7 BK623 hb; obtain ⟨NB622_623, NB623_622⟩ := nez_ BK622 hg; have GW623 : Aside0 (w.heap.size ≤ gb623) := gez_ hg (w129_); have GE623 := GW623; replace HB := Az_ (btz_ (w129_) hb); replace BK622 := Az_ (ukbz_ BK622.out hb); clear hb hg) | ((with_reducible refine gate_callee (f := 35) rfl ?_); refine goesL_ (some 8) rfl rfl Tryd.func35 (w204_) rfl #[.pointer (some ⟨gb623, 0, none⟩), .int .i64 3] rfl maz_ ?_; have HI623 := Az_ (show IsS67 w w7 gb623 l0 0 0 from ⟨_, _, BK623.out, GE623.out, HR0.out⟩); (with_reducible refine (spec_l1Cur_one.calls gb623 l0 0 0 3 true t625 t626 w _ ?side1 ?side2 A2.out).mono ?_); (case side1 => repeat (first | (with_reducible first | exact HI623.out | apply IsS67.alloc | apply IsS67.drewN | apply IsS67.drew | apply IsS67.set_1 | apply IsS67.set_2 | refine IsS67.far ?_ NB623_622.out _) | exact HI623.out)); (case side2 => repeat (first | (with_reducible first | exact HB.out | apply baz_ | apply bnz_ | apply bdz_ | refine bsz_ ?_ (IsS67.ge HI623.out) | refine bsz_ ?_ GE622.out) | exact HB.out)); rintro e w8 ⟨rfl, hi, hb, hk⟩; refine ⟨_, rfl, ?_⟩; replace BK622 := Az_ (KeepBut.blk hk (g' := gb622) (o := .cells #[.int .i64 0, .int .i64 0] 25 (0, 0)) (by exact ukz_ BK622.out) NB622_623.out (by simp)); replace HB := Az_ (hb); replace HI623 := Az_ (hi); (try clear hb); (try clear hk); (try clear hi)) | ((with_reducible refine gate_dst (N := 10) rfl ?_); refine Kd.R_lit (Kd.int .i64) _ 3 ?hg (N := 10) ?hd (xs := ([(-1), 0, 1, 2, 3, 40, 41, 4611686018427387904] : List Int)) (inner := [.int .i64 (-1), .int .i64 0, .int .i64 1, .int .i64 2, .int .i64 3, .int .i64 40, .int .i64 41, .int .i64 4611686018427387904]) (ok := fun _ => True) (okp := fun _ => True) ?hr ?hp (fun _ hk => hk) trivial (Below.refl _ _) (Nat.le_refl _) (by simp) ?_; (case hd => rfl); (case hg => rfl); (case hr => first | (go_simp; done) | (go_simp; rfl)); (case hp => exact (Reps.one (show Kd.M (Kd.int .i64) _ _ _ (-1) [.int .i64 (-1)] from rfl) (Reps.one (show Kd.M (Kd.int .i64) _ _ _ 0 [.int .i64 0] from rfl) (Reps.one (show Kd.M (Kd.int .i64) _ _ _ 1 [.int .i64 1] from rfl) (Reps.one (show Kd.M (Kd.int .i64) _ _ _ 2 [.int .i64 2] from rfl) (Reps.one (show Kd.M (Kd.int .i64) _ _ _ 3 [.int .i64 3] from rfl) (Reps.one (show Kd.M (Kd.int .i64) _ _ _ 40 [.int .i64 40] from rfl) (Reps.one (show Kd.M (Kd.int .i64) _ _ _ 41 [.int .i64 41] from rfl) (Reps.one (show Kd.M (Kd.int .i64) _ _ _ 4611686018427387904 [.int .i64 4611686018427387904] from rfl) (Reps.none _ _)))))))))); intro v628 w9 ho10 hb hg_ hnew_; clear hg_ hnew_; (first | rw [← Ny627.out] at ho10 | (simp only [Int.reduceToNat] at ho10; rw [← Ny627.out] at ho10)); have n0_ := Az_ (Kd.R_lower ho10 (below_size (w117_))); have n2_ := Az_ (IsS67.below (w100_) hb); have n3_ := Az_ (btz_ (w117_) hb); clear HI623; clear HB; have HO629 := n0_; replace BK622 := Az_ (ukbz_ BK622.out hb); have HI623 := n2_; have HB := n3_; clear n0_ n2_ n3_; clear hb ho10; obtain ⟨Ao11, co11, eo11⟩ := Kd.R_slice HO629.out; subst eo11) | ((with_reducible refine gate_callee (f := 36) rfl ?_); refine goesL_ (some 11) rfl rfl Tryd.func36 (w204_) rfl #[.pointer (some ⟨gb623, 0, none⟩), .slice Ao11 y627.length co11] rfl maz_ ?_; (with_reducible refine (spec_l1Cur_among.calls gb623 l0 t625 t626 _ _ y627 t630 t631 t632 w _ ?side1 ?side2 ?side3 ?side4 ?side5 A4.out).mono ?_); (case side1 => repeat (first | (with_reducible first | exact HI623.out | apply IsS67.alloc | apply IsS67.drewN | apply IsS67.drew | apply IsS67.set_1 | apply IsS67.set_2 | refine IsS67.far ?_ NB623_622.out _) | exact HI623.out)); (case side2 => repeat (first | (with_reducible first | exact HB.out | apply baz_ | apply bnz_ | apply bdz_ | refine bsz_ ?_ (IsS67.ge HI623.out) | refine bsz_ ?_ GE622.out) | exact HB.out)); (case side3 => exact ucz_ ((Kd.R_reads' HO629.out).2.2)); (case side4 => exact (Kd.R_reads' HO629.out).2.1); (case side5 => exact far_slice (IsS67.own_ne HI623.out HO629.out (by decide))); rintro e w12 ⟨rfl, hi, hb, hk⟩; refine ⟨_, rfl, ?_⟩; replace BK622 := Az_ (KeepBut.blk hk (g' := gb622) (o := .cells #[.int .i64 0, .int .i64 0] 25 (0, 0)) (by exact ukz_ BK622.out) NB622_623.out (by simp)); replace HO629 := Az_ (Kd.R_mono (Kd.R_keep (IsS67.apart (show IsS67 w _ gb623 l0 t625 t626 from w100_) (by exact urz_ HO629.out) (by decide)) hk (fun _ h => h.2)) (fun _ h => h.1)); replace HB := Az_ (hb); replace HI623 := Az_ (hi); (try clear hb); (try clear hk); (try clear hi)) | ((with_reducible refine gate_dst (N := 13) rfl ?_); refine Kd.R_lit (Kd.int .i64) _ 3 ?hg (N := 13) ?hd (xs := ([(-1), 0, 1, 2, 20, 21, 4611686018427387904] : List Int)) (inner := [.int .i64 (-1), .int .i64 0, .int .i64 1, .int .i64 2, .int .i64 20, .int .i64 21, .int .i64 4611686018427387904]) (ok := fun _ => True) (okp := fun _ => True) ?hr ?hp (fun _ hk => hk) trivial (Below.refl _ _) (Nat.le_refl _) (by simp) ?_; (case hd => rfl); (case hg => rfl); (case hr => first | (go_simp; done) | (go_simp; rfl)); (case hp => exact (Reps.one (show Kd.M (Kd.int .i64) _ _ _ (-1) [.int .i64 (-1)] from rfl) (Reps.one (show Kd.M (Kd.int .i64) _ _ _ 0 [.int .i64 0] from rfl) (Reps.one (show Kd.M (Kd.int .i64) _ _ _ 1 [.int .i64 1] from rfl) (Reps.one (show Kd.M (Kd.int .i64) _ _ _ 2 [.int .i64 2] from rfl) (Reps.one (show Kd.M (Kd.int .i64) _ _ _ 20 [.int .i64 20] from rfl) (Reps.one (show Kd.M (Kd.int .i64) _ _ _ 21 [.int .i64 21] from rfl) (Reps.one (show Kd.M (Kd.int .i64) _ _ _ 4611686018427387904 [.int .i64 4611686018427387904] from rfl) (Reps.none _ _))))))))); intro v634 w13 ho14 hb hg_ hnew_; clear hg_ hnew_; (first | rw [← Ny633.out] at ho14 | (simp only [Int.reduceToNat] at ho14; rw [← Ny633.out] at ho14)); have n0_ := Az_ (rez_ (by exact urz_ HO629.out) (Kd.R_base ho14) hb); have n1_ := Az_ (Kd.R_lower (Kd.R_new' ho14 (Kd.R_lt (by exact urz_ HO629.out))) (below_size (w117_))); have n3_ := Az_ (IsS67.below (w100_) hb); have n4_ := Az_ (btz_ (w117_) hb); clear HO629; clear HI623; clear HB; have HO629 := n0_; have HO635 := n1_; replace BK622 := Az_ (ukbz_ BK622.out hb); have HI623 := n3_; have HB := n4_; clear n0_ n1_ n3_ n4_; clear hb ho14; obtain ⟨Ao15, co15, eo15⟩ := Kd.R_slice HO635.out; subst eo15) | ((with_reducible refine gate_callee (f := 36) rfl ?_); refine goesL_ (some 14) rfl rfl Tryd.func36 (w204_) rfl #[.pointer (some ⟨gb623, 0, none⟩), .slice Ao15 y633.length co15] rfl maz_ ?_; (with_reducible refine (spec_l1Cur_among.calls gb623 l0 t631 t632 _ _ y633 t636 t637 t638 w _ ?side1 ?side2 ?side3 ?side4 ?side5 A5.out).mono ?_); (case side1 => repeat (first | (with_reducible first | exact HI623.out | apply IsS67.alloc | apply IsS67.drewN | apply IsS67.drew | apply IsS67.set_1 | apply IsS67.set_2 | refine IsS67.far ?_ NB623_622.out _) | exact HI623.out)); (case side2 => repeat (first | (with_reducible first | exact HB.out | apply baz_ | apply bnz_ | apply bdz_ | refine bsz_ ?_ (IsS67.ge HI623.out) | refine bsz_ ?_ GE622.out) | exact HB.out)); (case side3 => exact ucz_ ((Kd.R_reads' HO635.out).2.2)); (case side4 => exact (Kd.R_reads' HO635.out).2.1); (case side5 => exact far_slice (IsS67.own_ne HI623.out HO635.out (by decide))); rintro e w16 ⟨rfl, hi, hb, hk⟩; refine ⟨_, rfl, ?_⟩; replace BK622 := Az_ (KeepBut.blk hk (g' := gb622) (o := .cells #[.int .i64 0, .int .i64 0] 25 (0, 0)) (by exact ukz_ BK622.out) NB622_623.out (by simp)); replace HO629 := Az_ (Kd.R_mono (Kd.R_keep (IsS67.apart (show IsS67 w _ gb623 l0 t631 t632 from w100_) (by exact urz_ HO629.out) (by decide)) hk (fun _ h => h.2)) (fun _ h => h.1)); replace HO635 := Az_ (Kd.R_mono (Kd.R_keep (IsS67.apart (show IsS67 w _ gb623 l0 t631 t632 from w100_) (by exact urz_ HO635.out) (by decide)) hk (fun _ h => h.2)) (fun _ h => h.1)); replace HB := Az_ (hb); replace HI623 := Az_ (hi); (try clear hb); (try clear hk); (try clear hi); have hnb17 := NB622_623.out; have hnc17 := NB623_622.out; have hcz18_0 := cz_ (x := .int .i64 0) BK622 0; have hcz18_1 := cz_ (x := .int .i64 0) BK622 1; have hfz18_0 := blk_frozen BK622.out 0; have hfz18_1 := blk_frozen BK622.out 1))
  refine bodyPost_ret (results_cell_row rfl _ _ gb622 25 #[.int .i64 t630, .int .i64 t636] (0, 0) _ rfl (by (with_reducible repeat (first | refine knz_ ?_ _ | refine kdz_ ?_ | refine kaz_ ?_ _)); refine blk_put (cs := #[.int .i64 t630, .int .i64 0]) ?_ 1 _ rfl; (with_reducible repeat (first | refine knz_ ?_ _ | refine kdz_ ?_ | refine kaz_ ?_ _)); refine blk_put (cs := #[.int .i64 0, .int .i64 0]) ?_ 0 _ rfl; (with_reducible repeat (first | refine knz_ ?_ _ | refine kdz_ ?_ | refine kaz_ ?_ _)); exact BK622.out) Tryd.underlying25 rfl (w204_)) rfl ?_
  exact ⟨w166_, w117_⟩
 ·replace c3 := Bool.eq_false_iff.mpr c3
  subst c3
  rw [if_neg nfz_] at H
  replace H := bqz_ H; obtain ⟨⟨t639, t640, t641, t642⟩, A19, H⟩ := H
  replace H : (some (t639, t640)) = some (r1, r2) := H
  simp only [Option.some.injEq, Prod.mk.injEq] at H
  obtain ⟨rfl, rfl⟩ := H
  go_enter Tryd.func32, Tryd.ntmps32
  go_wp2_with (first | ((with_reducible refine gate_dst (N := 2) rfl ?_); refine bxe_ (N := 2) (cs := #[.int .i64 0, .int .i64 0]) (t := 25) ?_; intro gb622 hg w20 BK622 hb; have GW622 := gez_ hg (ubz_ HB.out); have GE622 := GW622; replace HB := Az_ (btz_ (ubz_ HB.out) hb); clear hb hg) | ((with_reducible refine gate_dst (N := 6) rfl ?_); refine bxe_ (N := 6) (cs := #[.slice A0 l0.length c0, .int .i64 0, .int .u64 0]) (t := 67) ?_; intro gb623 hg w21 BK623 hb; obtain ⟨NB622_623, NB623_622⟩ := nez_ BK622 hg; have GW623 : Aside0 (w.heap.size ≤ gb623) := gez_ hg (w129_); have GE623 := GW623; replace HB := Az_ (btz_ (w129_) hb); replace BK622 := Az_ (ukbz_ BK622.out hb); clear hb hg) | ((with_reducible refine gate_callee (f := 35) rfl ?_); refine goesL_ (some 8) rfl rfl Tryd.func35 (w204_) rfl #[.pointer (some ⟨gb623, 0, none⟩), .int .i64 3] rfl maz_ ?_; have HI623 := Az_ (show IsS67 w w21 gb623 l0 0 0 from ⟨_, _, BK623.out, GE623.out, HR0.out⟩); (with_reducible refine (spec_l1Cur_one.calls gb623 l0 0 0 3 false t625 t626 w _ ?side1 ?side2 A2.out).mono ?_); (case side1 => repeat (first | (with_reducible first | exact HI623.out | apply IsS67.alloc | apply IsS67.drewN | apply IsS67.drew | apply IsS67.set_1 | apply IsS67.set_2 | refine IsS67.far ?_ NB623_622.out _) | exact HI623.out)); (case side2 => repeat (first | (with_reducible first | exact HB.out | apply baz_ | apply bnz_ | apply bdz_ | refine bsz_ ?_ (IsS67.ge HI623.out) | refine bsz_ ?_ GE622.out) | exact HB.out)); rintro e w22 ⟨rfl, hi, hb, hk⟩; refine ⟨_, rfl, ?_⟩; replace BK622 := Az_ (KeepBut.blk hk (g' := gb622) (o := .cells #[.int .i64 0, .int .i64 0] 25 (0, 0)) (by exact ukz_ BK622.out) NB622_623.out (by simp)); replace HB := Az_ (hb); replace HI623 := Az_ (hi); (try clear hb); (try clear hk); (try clear hi)) | ((with_reducible refine gate_callee (f := 37) rfl ?_); refine goesL_ (some 17) rfl rfl Tryd.func37 (w204_) rfl #[.pointer (some ⟨gb623, 0, none⟩)] rfl maz_ ?_; (with_reducible refine (spec_l1Cur_hidden.calls gb623 l0 t625 t626 t639 t640 t641 t642 w _ ?side1 ?side2 A19.out).mono ?_); (case side1 => repeat (first | (with_reducible first | exact HI623.out | apply IsS67.alloc | apply IsS67.drewN | apply IsS67.drew | apply IsS67.set_1 | apply IsS67.set_2 | refine IsS67.far ?_ NB623_622.out _) | exact HI623.out)); (case side2 => repeat (first | (with_reducible first | exact HB.out | apply baz_ | apply bnz_ | apply bdz_ | refine bsz_ ?_ (IsS67.ge HI623.out) | refine bsz_ ?_ GE622.out) | exact HB.out)); rintro e w23 ⟨rfl, hi, hb, hk⟩; refine ⟨_, rfl, ?_⟩; replace BK622 := Az_ (KeepBut.blk hk (g' := gb622) (o := .cells #[.int .i64 0, .int .i64 0] 25 (0, 0)) (by exact ukz_ BK622.out) NB622_623.out (by simp)); replace HB := Az_ (hb); replace HI623 := Az_ (hi); (try clear hb); (try clear hk); (try clear hi); have hnb24 := NB622_623.out; have hnc24 := NB623_622.out; have hcz25_0 := cz_ (x := .int .i64 0) BK622 0; have hcz25_1 := cz_ (x := .int .i64 0) BK622 1; have hfz25_0 := blk_frozen BK622.out 0; have hfz25_1 := blk_frozen BK622.out 1))
  refine bodyPost_ret (results_cell_row rfl _ _ gb622 25 #[.int .i64 t639, .int .i64 t640] (0, 0) _ rfl (by (with_reducible repeat (first | refine knz_ ?_ _ | refine kdz_ ?_ | refine kaz_ ?_ _)); refine blk_put (cs := #[.int .i64 t639, .int .i64 0]) ?_ 1 _ rfl; (with_reducible repeat (first | refine knz_ ?_ _ | refine kdz_ ?_ | refine kaz_ ?_ _)); refine blk_put (cs := #[.int .i64 0, .int .i64 0]) ?_ 0 _ rfl; (with_reducible repeat (first | refine knz_ ?_ _ | refine kdz_ ?_ | refine kaz_ ?_ _)); exact BK622.out) Tryd.underlying25 rfl (w204_)) rfl ?_
  exact ⟨w166_, w117_⟩

def spec_IsClue.f (k : Nat) (a0_0 : Int) (a0_1 : Int) (a0_2 : Int) : Option (Bool) := (spec_pzClue.f k a0_0 a0_1 a0_2).bind fun t644 => (some t644)
set_option maxHeartbeats 8000000 in
set_option maxRecDepth 100000 in
theorem spec_IsClue.calls (k : Nat) (a0_0 : Int) (a0_1 : Int) (a0_2 : Int) (r : Bool) (w : World) (h : spec_IsClue.f k a0_0 a0_1 a0_2 = some r) :
  Calls Tryd.prog 34 #[.agg #[.int .i64 a0_0, .int .i64 a0_1, .int .i64 a0_2]] w fun e w' => e = .returned (.bool r) ∧ Below w.heap.size w w' := by
 have hu40 := Tryd.underlying40
 have HB := Az_ (Below.refl w.heap.size w)
 have H : ((spec_pzClue.f k a0_0 a0_1 a0_2).bind fun t644 => (some t644)) = some r := h
 clear h
 replace H := bqz_ H; obtain ⟨t644, A2, H⟩ := H
 replace H : (some t644) = some r := H
 obtain rfl := Option.some.inj H
 go_enter Tryd.func34, Tryd.ntmps34
 go_wp2_with (first | ((with_reducible refine gate_dst (N := 1) rfl ?_); refine bxe_ (N := 1) (cs := #[.int .i64 a0_0, .int .i64 a0_1, .int .i64 a0_2]) (t := 40) ?_; intro gb643 hg w3 BK643 hb; have GW643 := gez_ hg (ubz_ HB.out); have GE643 := GW643; replace HB := Az_ (btz_ (ubz_ HB.out) hb); clear hb hg; have hcz4_0 := cz_ (x := .int .i64 a0_0) BK643 0; have hcz4_1 := cz_ (x := .int .i64 a0_1) BK643 1; have hcz4_2 := cz_ (x := .int .i64 a0_2) BK643 2; have hfz4_0 := blk_frozen BK643.out 0; have hfz4_1 := blk_frozen BK643.out 1; have hfz4_2 := blk_frozen BK643.out 2) | ((with_reducible refine gate_callee (f := 61) rfl ?_); refine goesL_ (some 4) rfl rfl Tryd.func61 (w204_) rfl #[.agg #[.int .i64 a0_0, .int .i64 a0_1, .int .i64 a0_2]] rfl maz_ ?_; (with_reducible refine (spec_pzClue.calls k a0_0 a0_1 a0_2 t644 _ A2.out).mono ?_); rintro e w5 ⟨rfl, hb⟩; refine ⟨_, rfl, ?_⟩; have n1_ := Az_ (btz_ (w129_) hb); clear HB; replace BK643 := Az_ (ukbz_ BK643.out hb); have HB := n1_; clear n1_; (try clear hb)))
 go_ret
 exact ⟨w166_, w129_⟩


attribute [local go_sem high] eqA40
mutual
def laws_FnBooksHidden.j0 : Nat → List Int → Int → Bool → Bool → Int → Int → List (S40) → Option (Bool)
 | 0, _, _, _, _, _, _, _ => none
 | k + 1, x1, x6, x9, x111, x651000, x651001, x656000 => if x111 = true then (some false) else (if x9 = true then ((impl_SumOfPages.f x651000).bind fun bt667 => ((impl_SumOfLeaf.f x651001).bind fun bt669 => ((impl_DoesFit.f k 0 0 (wrap64 (bt667.1 - bt669.1)) x651000 x651001).bind fun bt671 => ((impl_DoesFit.f k 5 0 bt669.1 x651000 x651001).bind fun bt673 => ((impl_TornLeaf.f x651000 (wrap64 (bt667.1 - bt669.1))).bind fun bt675 => ((impl_DoesFit.f k 3 x651001 1 x651000 x651001).bind fun bt677 => ((impl_IsPuzzle.f x656000).bind fun t679 => (if t679 = true then (if (x656000.length : Int) = x6 then (if bt667.2 = true then (if bt669.2 = true then (if bt671.2 = true then (if bt671.1 = true then (if bt673.2 = true then (if bt673.1 = true then (if bt675.2 = true then (if bt675.1 = x651001 then (if bt677.2 = true then (laws_FnBooksHidden.j1 k x1 (!bt677.1) x651000 x651001 x656000) else (laws_FnBooksHidden.j1 k x1 true x651000 x651001 x656000)) else (laws_FnBooksHidden.j1 k x1 true x651000 x651001 x656000)) else (laws_FnBooksHidden.j1 k x1 true x651000 x651001 x656000)) else (laws_FnBooksHidden.j1 k x1 true x651000 x651001 x656000)) else (laws_FnBooksHidden.j1 k x1 true x651000 x651001 x656000)) else (laws_FnBooksHidden.j1 k x1 true x651000 x651001 x656000)) else (laws_FnBooksHidden.j1 k x1 true x651000 x651001 x656000)) else (laws_FnBooksHidden.j1 k x1 true x651000 x651001 x656000)) else (laws_FnBooksHidden.j1 k x1 true x651000 x651001 x656000)) else (laws_FnBooksHidden.j1 k x1 true x651000 x651001 x656000)) else (laws_FnBooksHidden.j1 k x1 true x651000 x651001 x656000))))))))) else (laws_FnBooksHidden.j3 k x1))
def laws_FnBooksHidden.j3 : Nat → List Int → Option (Bool)
 | 0, _ => none
 | k + 1, x1 => (spec_DrawHarderPuzzle.f k x1).bind fun t684 => ((impl_HarderPuzzle.f k t684).bind fun bt688 => ((spec_HarderPuzzle.f k t684).bind fun bt693 => ((impl_IsSolved.f t684).bind fun bt698 => (if (bt688.2 != bt693.2) = true then (laws_FnBooksHidden.j4 k x1 bt688.2 true t684 bt688.1) else ((laws_xPuzzle.f k bt688.1 bt693.1).bind fun t700 => (if t700 = true then (if bt698.2 = true then (laws_FnBooksHidden.j4 k x1 bt688.2 (bt688.2 != bt698.1) t684 bt688.1) else (laws_FnBooksHidden.j4 k x1 bt688.2 (bt688.2 != false) t684 bt688.1)) else (laws_FnBooksHidden.j4 k x1 bt688.2 true t684 bt688.1)))))))
def laws_FnBooksHidden.j4 : Nat → List Int → Bool → Bool → List (S40) → List (S40) → Option (Bool)
 | 0, _, _, _, _, _ => none
 | k + 1, x1, x30, x263, x688000, x693000 => if x263 = true then (some false) else (if x30 = true then ((impl_Solutions.f x688000).bind fun bt701 => ((impl_Solutions.f x693000).bind fun bt705 => ((impl_NeedlessClues.f k x693000).bind fun bt709 => (if bt701.2 = true then (if bt705.2 = true then ((laws_xBooks.f k bt701.1 bt705.1).bind fun t713 => (if t713 = true then (if bt709.2 = true then (if (bt709.1.length : Int) = 0 then (if (x693000.length : Int) > (x688000.length : Int) then (some false) else (laws_FnBooksHidden.j5 k x1)) else (some false)) else (some false)) else (some false))) else (some false)) else (some false))))) else (laws_FnBooksHidden.j5 k x1))
def laws_FnBooksHidden.j5 : Nat → List Int → Option (Bool)
 | 0, _ => none
 | k + 1, x1 => (spec_DrawAddClue.f k x1).bind fun bt714 => ((impl_AddClue.f k bt714.1 bt714.2.1 bt714.2.2.1 bt714.2.2.2).bind fun bt722 => ((spec_AddClue.f k bt714.1 bt714.2.1 bt714.2.2.1 bt714.2.2.2).bind fun bt727 => ((spec_DrawDropClue.f k x1).bind fun bt732 => ((impl_DropClue.f bt732.1 bt732.2).bind fun bt737 => ((spec_DropClue.f k bt732.1 bt732.2).bind fun bt742 => ((spec_DrawDoesFit.f k x1).bind fun bt747 => ((impl_DoesFit.f k bt747.1 bt747.2.1 bt747.2.2.1 bt747.2.2.2.1 bt747.2.2.2.2).bind fun bt754 => ((spec_DoesFit.f k bt747.1 bt747.2.1 bt747.2.2.1 bt747.2.2.2.1 bt747.2.2.2.2).bind fun bt756 => ((spec_DrawIsClue.f k x1).bind fun bt758 => ((spec_DrawIsHidden.f x1).bind fun bt762 => (if (bt722.2 != bt727.2) = true then (laws_FnBooksHidden.j6 k bt722.2 bt732.2 bt737.2 true bt714.1 bt714.2.1 bt714.2.2.1 bt714.2.2.2 bt722.1 bt732.1 bt737.1) else ((laws_xPuzzle.f k bt722.1 bt727.1).bind fun t765 => (if t765 = true then (if (bt737.2 != bt742.2) = true then (laws_FnBooksHidden.j6 k bt722.2 bt732.2 bt737.2 true bt714.1 bt714.2.1 bt714.2.2.1 bt714.2.2.2 bt722.1 bt732.1 bt737.1) else ((laws_xPuzzle.f k bt737.1 bt742.1).bind fun t766 => (if t766 = true then (if (bt754.2 != bt756.2) = true then (laws_FnBooksHidden.j6 k bt722.2 bt732.2 bt737.2 true bt714.1 bt714.2.1 bt714.2.2.1 bt714.2.2.2 bt722.1 bt732.1 bt737.1) else (if (bt754.1 != bt756.1) = true then (laws_FnBooksHidden.j6 k bt722.2 bt732.2 bt737.2 true bt714.1 bt714.2.1 bt714.2.2.1 bt714.2.2.2 bt722.1 bt732.1 bt737.1) else ((impl_IsClue.f k bt758.1 bt758.2.1 bt758.2.2).bind fun t767 => ((spec_IsClue.f k bt758.1 bt758.2.1 bt758.2.2).bind fun t768 => (if (t767 != t768) = true then (laws_FnBooksHidden.j6 k bt722.2 bt732.2 bt737.2 true bt714.1 bt714.2.1 bt714.2.2.1 bt714.2.2.2 bt722.1 bt732.1 bt737.1) else (if bt754.2 = true then ((impl_IsClue.f k bt747.1 bt747.2.1 bt747.2.2.1).bind fun t769 => (if t769 = true then ((impl_IsHidden.f bt762.1 bt762.2).bind fun t770 => ((spec_IsHidden.f bt762.1 bt762.2).bind fun t771 => (laws_FnBooksHidden.j6 k bt722.2 bt732.2 bt737.2 (t770 != t771) bt714.1 bt714.2.1 bt714.2.2.1 bt714.2.2.2 bt722.1 bt732.1 bt737.1))) else (laws_FnBooksHidden.j6 k bt722.2 bt732.2 bt737.2 true bt714.1 bt714.2.1 bt714.2.2.1 bt714.2.2.2 bt722.1 bt732.1 bt737.1))) else ((impl_IsHidden.f bt762.1 bt762.2).bind fun t772 => ((spec_IsHidden.f bt762.1 bt762.2).bind fun t773 => (laws_FnBooksHidden.j6 k bt722.2 bt732.2 bt737.2 (t772 != t773) bt714.1 bt714.2.1 bt714.2.2.1 bt714.2.2.2 bt722.1 bt732.1 bt737.1))))))))) else (laws_FnBooksHidden.j6 k bt722.2 bt732.2 bt737.2 true bt714.1 bt714.2.1 bt714.2.2.1 bt714.2.2.2 bt722.1 bt732.1 bt737.1)))) else (laws_FnBooksHidden.j6 k bt722.2 bt732.2 bt737.2 true bt714.1 bt714.2.1 bt714.2.2.1 bt714.2.2.2 bt722.1 bt732.1 bt737.1))))))))))))))
def laws_FnBooksHidden.j6 : Nat → Bool → Int → Bool → Bool → List (S40) → Int → Int → Int → List (S40) → List (S40) → List (S40) → Option (Bool)
 | 0, _, _, _, _, _, _, _, _, _, _, _ => none
 | k + 1, x44, x48, x50, x416, x721000, x722000, x722001, x722002, x727000, x737000, x742000 => if x416 = true then (some false) else (if x44 = true then ((impl_DropClue.f x727000 (x721000.length : Int)).bind fun bt774 => (if bt774.2 = true then ((laws_xPuzzle.f k bt774.1 x721000).bind fun t779 => (if t779 = true then (if 0 ≤ (x721000.length : Int) then (if (x721000.length : Int) < (x727000.length : Int) then (if (!(((rd_T40 x727000 (x721000.length : Int)).f0) == x722000) || (!(((rd_T40 x727000 (x721000.length : Int)).f1) == x722001) || (!(((rd_T40 x727000 (x721000.length : Int)).f2) == x722002)))) = true then (some false) else (laws_FnBooksHidden.j7 k x48 x50 x737000 x742000)) else (none)) else (none)) else (some false))) else (some false))) else (laws_FnBooksHidden.j7 k x48 x50 x737000 x742000))
def laws_FnBooksHidden.j7 : Nat → Int → Bool → List (S40) → List (S40) → Option (Bool)
 | 0, _, _, _, _ => none
 | k + 1, x48, x50, x737000, x742000 => if x50 = true then (laws_FnBooksHidden.j8 k x48 (x48 == (wrap64 ((x737000.length : Int) - 1))) x737000 x742000) else (laws_FnBooksHidden.j8 k x48 false x737000 x742000)
def laws_FnBooksHidden.j8 : Nat → Int → Bool → List (S40) → List (S40) → Option (Bool)
 | 0, _, _, _, _ => none
 | k + 1, x48, x453, x737000, x742000 => if x453 = true then (if 0 ≤ x48 then (if x48 < (x737000.length : Int) then ((impl_AddClue.f k x742000 ((rd_T40 x737000 x48).f0) ((rd_T40 x737000 x48).f1) ((rd_T40 x737000 x48).f2)).bind fun bt782 => (if bt782.2 = true then ((laws_xPuzzle.f k bt782.1 x737000).bind fun t787 => (some t787)) else (some false))) else (none)) else (none)) else (some true)
def laws_FnBooksHidden.j1 : Nat → List Int → Bool → Int → Int → List (S40) → Option (Bool)
 | 0, _, _, _, _, _ => none
 | k + 1, x1, x209, x651000, x651001, x656000 => if x209 = true then (some false) else (laws_FnBooksHidden.l0 k x1 x656000 (x656000.length : Int) 0 x651000 x651001)
def laws_FnBooksHidden.l0 : Nat → List Int → List (S40) → Int → Int → Int → Int → Option (Bool)
 | 0, _, _, _, _, _, _ => none
 | k + 1, x1, x211, x212, x213, x651000, x651001 => if x213 < x212 then (if 0 ≤ x213 then (if x213 < (x211.length : Int) then ((impl_DoesFit.f k ((rd_T40 x211 x213).f0) ((rd_T40 x211 x213).f1) ((rd_T40 x211 x213).f2) x651000 x651001).bind fun bt682 => (if bt682.2 = true then (if bt682.1 = true then (laws_FnBooksHidden.l0 k x1 x211 x212 (wrap64 (x213 + 1)) x651000 x651001) else (some false)) else (some false))) else (none)) else (none)) else (laws_FnBooksHidden.j3 k x1)
end
def laws_FnBooksHidden.f (k : Nat) (l0 : List Int) (l1 : List Int) : Option (Bool) := (laws_big.f l0 l1).bind fun t645 => (if t645 = true then (some true) else ((spec_DrawMakePuzzle.f l0).bind fun bt646 => ((impl_MakePuzzle.f k bt646.1 bt646.2.1 bt646.2.2.1 bt646.2.2.2).bind fun bt651 => ((spec_MakePuzzle.f k bt646.1 bt646.2.1 bt646.2.2.1 bt646.2.2.2).bind fun bt656 => (if (bt651.2 != bt656.2) = true then (laws_FnBooksHidden.j0 k l1 bt646.2.2.1 bt651.2 true bt646.1 bt646.2.1 bt651.1) else ((laws_xPuzzle.f k bt651.1 bt656.1).bind fun t661 => (if t661 = true then (if bt651.2 = true then ((impl_IsHidden.f bt646.1 bt646.2.1).bind fun t662 => (if t662 = true then ((impl_IsHidden.f bt646.1 bt646.2.1).bind fun t663 => ((spec_IsHidden.f bt646.1 bt646.2.1).bind fun t664 => (laws_FnBooksHidden.j0 k l1 bt646.2.2.1 bt651.2 (t663 != t664) bt646.1 bt646.2.1 bt651.1))) else (laws_FnBooksHidden.j0 k l1 bt646.2.2.1 bt651.2 true bt646.1 bt646.2.1 bt651.1))) else ((impl_IsHidden.f bt646.1 bt646.2.1).bind fun t665 => ((spec_IsHidden.f bt646.1 bt646.2.1).bind fun t666 => (laws_FnBooksHidden.j0 k l1 bt646.2.2.1 bt651.2 (t665 != t666) bt646.1 bt646.2.1 bt651.1)))) else (laws_FnBooksHidden.j0 k l1 bt646.2.2.1 bt651.2 true bt646.1 bt646.2.1 bt651.1))))))))
def laws_FnBooksHidden.T6 : Bool × List (List Nat × List Nat) := (true, [([], []), ([], []), ([0, 1], [0, 1]), ([2], [2]), ([3], [3]), ([3], [3]), ([4, 5, 3, 3], [3, 4, 5]), ([6, 3], [3, 6]), ([3, 7], [3, 7]), ([8, 6], [8]), ([9], [9]), ([10, 9, 9], [9, 10]), ([11], [11]), ([12, 11, 11], [11, 12]), ([13, 11], [11, 13]), ([11, 14, 9], [9, 11, 14]), ([9, 15], [9, 15]), ([16, 13], [16]), ([17], [17]), ([18, 17, 17], [17, 18]), ([17], [17]), ([20, 19, 17], [17, 20]), ([19, 21, 17], [17, 19, 21]), ([17, 22], [17, 22])])
def laws_FnBooksHidden.B6 : List Nat := [0, 0, 3, 7, 15, 15, 63, 127, 255, 511, 1023, 2047, 4095, 8191, 16383, 32767, 65535, 131071, 262143, 524287, 262143, 2097151, 4194303, 8388607]
theorem laws_FnBooksHidden.tab6 : rtab .any (opsOf Tryd.f3 6) = laws_FnBooksHidden.T6 := by kernel_rfl
theorem laws_FnBooksHidden.bits6 : waitsOk laws_FnBooksHidden.T6.2 laws_FnBooksHidden.B6 = true := by kernel_rfl
def laws_FnBooksHidden.T47 : Bool × List (List Nat × List Nat) := (true, [([], []), ([], []), ([0, 1], [0, 1]), ([2], [2]), ([3], [3]), ([3], [3]), ([4, 5, 3, 3], [3, 4, 5]), ([6, 3], [3, 6]), ([3, 7], [3, 7]), ([8, 6], [8]), ([9], [9]), ([9], [9]), ([10, 11, 9], [9, 10, 11]), ([9, 12], [9, 12]), ([13, 9], [13]), ([14], [14]), ([14], [14]), ([15, 16, 14, 14], [14, 15, 16]), ([17, 14], [14, 17]), ([14, 18], [14, 18]), ([19, 17], [19]), ([20], [20]), ([20], [20]), ([21, 22, 20], [20, 21, 22]), ([20, 23], [20, 23]), ([24, 20], [24]), ([25], [25]), ([25], [25]), ([26, 27, 25], [25, 26, 27]), ([25, 28], [25, 28]), ([29, 25], [29]), ([30], [30]), ([31, 30, 30], [30, 31]), ([30], [30]), ([33, 32, 30], [30, 33]), ([32, 34, 30], [30, 32, 34]), ([30, 35], [30, 35]), ([36, 34], [36]), ([37], [37]), ([38, 37, 37], [37, 38]), ([39], [39]), ([40, 39, 39], [39, 40]), ([41, 39], [39, 41]), ([39, 42, 37], [37, 39, 42]), ([37, 43], [37, 43]), ([44, 41], [44]), ([45], [45]), ([46, 45, 45], [45, 46]), ([45], [45]), ([48, 47, 45], [45, 48]), ([47, 49, 45], [45, 47, 49]), ([45, 50], [45, 50])])
def laws_FnBooksHidden.B47 : List Nat := [0, 0, 3, 7, 15, 15, 63, 127, 255, 511, 1023, 1023, 4095, 8191, 16383, 32767, 32767, 131071, 262143, 524287, 1048575, 2097151, 2097151, 8388607, 16777215, 33554431, 67108863, 67108863, 268435455, 536870911, 1073741823, 2147483647, 4294967295, 2147483647, 17179869183, 34359738367, 68719476735, 137438953471, 274877906943, 549755813887, 1099511627775, 2199023255551, 4398046511103, 8796093022207, 17592186044415, 35184372088831, 70368744177663, 140737488355327, 70368744177663, 562949953421311, 1125899906842623, 2251799813685247]
theorem laws_FnBooksHidden.tab47 : rtab .any (opsOf Tryd.f3 47) = laws_FnBooksHidden.T47 := by kernel_rfl
theorem laws_FnBooksHidden.bits47 : waitsOk laws_FnBooksHidden.T47.2 laws_FnBooksHidden.B47 = true := by kernel_rfl
def laws_FnBooksHidden.T51 : Bool × List (List Nat × List Nat) := (true, [([], []), ([0], [0]), ([1], [1]), ([2], [2]), ([2], [2]), ([3, 4, 2, 2], [2, 3, 4]), ([5, 2], [2, 5]), ([2, 6], [2, 6]), ([7, 5], [7]), ([8], [8]), ([9, 8], [8, 9]), ([8], [8]), ([11, 8], [8, 11]), ([12, 8], [8, 12]), ([10, 13, 8], [8, 10, 13]), ([14, 8], [8, 14]), ([8], [8]), ([15, 16, 8], [8, 15, 16]), ([8, 17], [8, 17])])
def laws_FnBooksHidden.B51 : List Nat := [0, 1, 3, 7, 7, 31, 63, 127, 255, 511, 1023, 511, 2559, 6655, 16383, 32767, 511, 131071, 262143]
theorem laws_FnBooksHidden.tab51 : rtab .any (opsOf Tryd.f3 51) = laws_FnBooksHidden.T51 := by kernel_rfl
theorem laws_FnBooksHidden.bits51 : waitsOk laws_FnBooksHidden.T51.2 laws_FnBooksHidden.B51 = true := by kernel_rfl
def laws_FnBooksHidden.T54 : Bool × List (List Nat × List Nat) := (true, [([], []), ([], []), ([1], [1]), ([], []), ([2, 3], [2, 3]), ([4], [4]), ([0, 5], [0, 5]), ([6], [6]), ([7], [7]), ([7], [7]), ([], []), ([10, 8, 6, 0, 1, 2, 3, 4, 5, 6, 7, 8, 10], [8, 10]), ([9, 11, 0, 1, 2, 3, 4, 5, 6, 7, 8, 9, 10, 11], [9])])
def laws_FnBooksHidden.B54 : List Nat := [0, 0, 2, 0, 14, 30, 63, 127, 255, 255, 0, 1535, 4095]
theorem laws_FnBooksHidden.tab54 : rtab .any (opsOf Tryd.f3 54) = laws_FnBooksHidden.T54 := by kernel_rfl
theorem laws_FnBooksHidden.bits54 : waitsOk laws_FnBooksHidden.T54.2 laws_FnBooksHidden.B54 = true := by kernel_rfl
theorem laws_FnBooksHidden.j0_no (k : Nat) (y0_ : List Int) (y1_ : Int) (y2_ : Bool) (y4_ : Int) (y5_ : Int) (y6_ : List (S40)) (r : Bool) (hr : r = true) (H : laws_FnBooksHidden.j0 k y0_ y1_ y2_ true y4_ y5_ y6_ = some r) : False := by
 subst hr
 cases k with
 | zero => simp [laws_FnBooksHidden.j0] at H
 | succ k => rw [laws_FnBooksHidden.j0, if_pos rfl] at H; cases H
theorem laws_FnBooksHidden.j4_no (k : Nat) (y0_ : List Int) (y1_ : Bool) (y3_ : List (S40)) (y4_ : List (S40)) (r : Bool) (hr : r = true) (H : laws_FnBooksHidden.j4 k y0_ y1_ true y3_ y4_ = some r) : False := by
 subst hr
 cases k with
 | zero => simp [laws_FnBooksHidden.j4] at H
 | succ k => rw [laws_FnBooksHidden.j4, if_pos rfl] at H; cases H
theorem laws_FnBooksHidden.j6_no (k : Nat) (y0_ : Bool) (y1_ : Int) (y2_ : Bool) (y4_ : List (S40)) (y5_ : Int) (y6_ : Int) (y7_ : Int) (y8_ : List (S40)) (y9_ : List (S40)) (y10_ : List (S40)) (r : Bool) (hr : r = true) (H : laws_FnBooksHidden.j6 k y0_ y1_ y2_ true y4_ y5_ y6_ y7_ y8_ y9_ y10_ = some r) : False := by
 subst hr
 cases k with
 | zero => simp [laws_FnBooksHidden.j6] at H
 | succ k => rw [laws_FnBooksHidden.j6, if_pos rfl] at H; cases H
theorem laws_FnBooksHidden.j1_no (k : Nat) (y0_ : List Int) (y2_ : Int) (y3_ : Int) (y4_ : List (S40)) (r : Bool) (hr : r = true) (H : laws_FnBooksHidden.j1 k y0_ true y2_ y3_ y4_ = some r) : False := by
 subst hr
 cases k with
 | zero => simp [laws_FnBooksHidden.j1] at H
 | succ k => rw [laws_FnBooksHidden.j1, if_pos rfl] at H; cases H

def laws_FnBooksHidden.Pure : Prop := ∀ (l0 : List Int) (l1 : List Int), (l0.length ≤ maxLen ∧ ∀ x0_, x0_ ∈ l0 → (Lit.int .u8 x0_).wf = true) → (l1.length ≤ maxLen ∧ ∀ x0_, x0_ ∈ l1 → (Lit.int .u8 x0_).wf = true) → ∃ k, laws_FnBooksHidden.f k l0 l1 = some true

end Go.Proofs.YtodacdcbeleleaaDoor.P
end
