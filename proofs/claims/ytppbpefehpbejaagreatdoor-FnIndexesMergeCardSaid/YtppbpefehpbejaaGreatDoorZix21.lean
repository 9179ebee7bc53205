/- Lean functions with the answers of the program's Go functions, and for each the proof that the Go code comes to these answers; no condition. -/
import Derived.Test.YtppbpefehpbejaaGreatDoorZix0
import Derived.Test.YtppbpefehpbejaaGreatDoorZix1
import Derived.Test.YtppbpefehpbejaaGreatDoorZix2
import Derived.Test.YtppbpefehpbejaaGreatDoorZix3
import Derived.Test.YtppbpefehpbejaaGreatDoorZix4
import Derived.Test.YtppbpefehpbejaaGreatDoorZix5
import Derived.Test.YtppbpefehpbejaaGreatDoorZix6
import Derived.Test.YtppbpefehpbejaaGreatDoorZix7
import Derived.Test.YtppbpefehpbejaaGreatDoorZix8
import Derived.Test.YtppbpefehpbejaaGreatDoorZix9
import Derived.Test.YtppbpefehpbejaaGreatDoorZix10
import Derived.Test.YtppbpefehpbejaaGreatDoorZix11
import Derived.Test.YtppbpefehpbejaaGreatDoorZix12
import Derived.Test.YtppbpefehpbejaaGreatDoorZix13
import Derived.Test.YtppbpefehpbejaaGreatDoorZix14
import Derived.Test.YtppbpefehpbejaaGreatDoorZix15
import Derived.Test.YtppbpefehpbejaaGreatDoorZix16
import Derived.Test.YtppbpefehpbejaaGreatDoorZix17
import Derived.Test.YtppbpefehpbejaaGreatDoorZix18
import Derived.Test.YtppbpefehpbejaaGreatDoorZix19
import Derived.Test.YtppbpefehpbejaaGreatDoorZix20
import Derived.Test.YtppbpefehpbejaaGreatDoorProg
import Derived.Below
import Derived.Deep.Draws
import Derived.Deep.AppendLies
import Derived.Maps.AppendAt
import Derived.OwnWalk
import Derived.Laws.BytesArg
import Derived.Laws.MakeOwn
import Derived.Laws.OwnMore
import Derived.Deep.OwnRows
import Derived.Tactics
import Derived.Lib.ConvBytes
import Derived.Laws.Slices
import Derived.WalkKit
import Derived.KernelRfl
import Derived.RowKit3
import Derived.Deep.LoopGhost
import Derived.Deep.QuietTactic
import Derived.BigQuiet
import Derived.WideLaws
import Derived.Deep.DeepCutAuto
import Derived.Deep.CutBlock
import Derived.Deep.RegionHeld3
import Derived.Laws.Rows
import Derived.Lib.AppendStr
import Derived.ArgAppend
import Derived.Laws.IdiomCopy
import Derived.OrdersHeld
import Derived.Laws.BitsLemmas
import Derived.RowKit
namespace Go.Proofs.YtppbpefehpbejaaGreatDoor
set_option linter.unusedVariables false
def mzl_ : Bool → List Nat → List Bool
  | _, [] => []
  | b, n :: r => List.replicate n b ++ mzl_ (!b) r
abbrev mz_ (r : List Nat) : Array Bool := (mzl_ true r).toArray
theorem w110_ {P : Prop} (h : P := by kernel_rfl) : P := h
theorem w109_ {P : Prop} (h : P := by exact ubz_ HB.out) : P := h
theorem w108_ {P : Prop} (h : P := by exact urz_ HO_7.out) : P := h
theorem w107_ {P : Prop} (h : P := by exact urz_ HO_6.out) : P := h
theorem w106_ {P : Prop} (h : P := by exact urz_ HO_5.out) : P := h
theorem w105_ {P : Prop} (h : P := by exact urz_ HO_4.out) : P := h
theorem w104_ {P : Prop} (h : P := by exact urz_ HO_3.out) : P := h
theorem w103_ {P : Prop} (h : P := by exact urz_ HO_70.out) : P := h
theorem w102_ {P : Prop} (h : P := by exact urz_ HO_57.out) : P := h
theorem w101_ {P : Prop} (h : P := by exact urz_ HO_56.out) : P := h
theorem w100_ {P : Prop} (h : P := by exact urz_ HO574.out) : P := h
theorem w99_ {P : Prop} (h : P := by exact urz_ HO570.out) : P := h
theorem w98_ {P : Prop} (h : P := by exact urz_ HO566.out) : P := h
theorem w97_ {P : Prop} (h : P := by exact urz_ HO563.out) : P := h
theorem w96_ {P : Prop} (h : P := by exact urz_ HO559.out) : P := h
theorem w95_ {P : Prop} (h : P := by exact urz_ HO555.out) : P := h
theorem w94_ {P : Prop} (h : P := by exact urz_ HO552.out) : P := h
theorem w93_ {P : Prop} (h : P := by exact urz_ HO548.out) : P := h
theorem w92_ {P : Prop} (h : P := by exact urz_ HO544.out) : P := h
theorem w91_ {P : Prop} (h : P := by exact urz_ HO_11.out) : P := h
theorem w90_ {P : Prop} (h : P := by exact urz_ HO484.out) : P := h
theorem w89_ {P : Prop} (h : P := by exact urz_ HO480.out) : P := h
theorem w88_ {P : Prop} (h : P := by exact urz_ HO476.out) : P := h
theorem w87_ {P : Prop} (h : P := by exact urz_ HO474.out) : P := h
theorem w86_ {P : Prop} (h : P := by exact urz_ HO_15.out) : P := h
theorem w85_ {P : Prop} (h : P := by exact urz_ HO384.out) : P := h
theorem w84_ {P : Prop} (h : P := by exact urz_ HO140.out) : P := h
theorem w83_ {P : Prop} (h : P := by have := HK1.out; omega) : P := h
theorem w82_ {P : Prop} (h : P := by rw [ByteArray.size_append]; omega) : P := h
theorem w81_ {P : Prop} (h : P := by first | omega | exact Nat.le_refl _) : P := h
theorem w80_ {P : Prop} (h : P := by have := HJ3.out; have := HK2.out; omega) : P := h
theorem w79_ {P : Prop} (h : P := by have := HK1.out; have := HK2.out; omega) : P := h
theorem w78_ {P : Prop} (h : P := by first | exact hb | exact Drawn0.below hb) : P := h
theorem w77_ {P : Prop} (h : P := by first | rfl | (simp; done) | (simp [*]; done)) : P := h
theorem w76_ {P : Prop} (h : P := by first | (with_reducible assumption) | assumption) : P := h
theorem w75_ {P : Prop} (h : P := by rw [List.length_append, List.length_singleton]; omega) : P := h
theorem w74_ {P : Prop} (h : P := by repeat (first | exact Drawn0.refl _ | apply Drawn0.step)) : P := h
theorem w73_ {P : Prop} (h : P := by (with_reducible repeat (first | apply raz_ | apply rnz_ | apply rdz_)); exact HO_7.out) : P := h
theorem w72_ {P : Prop} (h : P := by (with_reducible repeat (first | apply raz_ | apply rnz_ | apply rdz_)); exact HO_6.out) : P := h
theorem w71_ {P : Prop} (h : P := by (with_reducible repeat (first | apply raz_ | apply rnz_ | apply rdz_)); exact HO_5.out) : P := h
theorem w70_ {P : Prop} (h : P := by (with_reducible repeat (first | apply raz_ | apply rnz_ | apply rdz_)); exact HO_4.out) : P := h
theorem w69_ {P : Prop} (h : P := by (with_reducible repeat (first | apply raz_ | apply rnz_ | apply rdz_)); exact HO_3.out) : P := h
theorem w68_ {P : Prop} (h : P := by (with_reducible repeat (first | apply raz_ | apply rnz_ | apply rdz_)); exact HO_57.out) : P := h
theorem w67_ {P : Prop} (h : P := by (with_reducible repeat (first | apply raz_ | apply rnz_ | apply rdz_)); exact HO_51.out) : P := h
theorem w66_ {P : Prop} (h : P := by (with_reducible repeat (first | apply raz_ | apply rnz_ | apply rdz_)); exact HO_46.out) : P := h
theorem w65_ {P : Prop} (h : P := by (with_reducible repeat (first | apply raz_ | apply rnz_ | apply rdz_)); exact HO_11.out) : P := h
theorem w64_ {P : Prop} (h : P := by (with_reducible repeat (first | apply raz_ | apply rnz_ | apply rdz_)); exact HO_15.out) : P := h
theorem w63_ {P : Prop} (h : P := by (with_reducible repeat (first | apply raz_ | apply rnz_ | apply rdz_)); exact HO140.out) : P := h
theorem w62_ {P : Prop} (h : P := by have := HJ11.out; have := HJ62.out; have := HJ259.out; have := HK4.out; have := HK5.out; omega) : P := h
theorem w61_ {P : Prop} (h : P := by first | rfl | (simp [errW_none, errW_some] <;> rfl) | (simp [*, errW_none, errW_some] <;> rfl)) : P := h
theorem w60_ {P : Prop} (h : P := by simp only [putAll, Act.put, List.setIfInBounds_toArray, List.set_cons_zero, List.set_cons_succ]) : P := h
theorem w59_ {P : Prop} (h : P := by (with_reducible repeat (first | apply Kd.R_alloc | apply Kd.R_drewN | apply Kd.R_drew)); exact HO.out) : P := h
theorem w58_ {P : Prop} (h : P := by (with_reducible repeat (first | apply Kd.R_alloc | apply Kd.R_drewN | apply Kd.R_drew)); exact HO_4.out) : P := h
theorem w57_ {P : Prop} (h : P := by (with_reducible repeat (first | apply Kd.R_alloc | apply Kd.R_drewN | apply Kd.R_drew)); exact HO_3.out) : P := h
theorem w56_ {P : Prop} (h : P := by (with_reducible repeat (first | refine knz_ ?_ _ | refine kdz_ ?_ | refine kaz_ ?_ _)); exact BK401.out) : P := h
theorem w55_ {P : Prop} (h : P := by (try simp only [hl8_2]); (with_reducible repeat (first | apply raz_ | apply rnz_ | apply rdz_)); exact HO_8.out) : P := h
theorem w54_ {P : Prop} (h : P := by first | (rw [add_block]; exact hn446_1) | (show (Addr.add _ _).block ≠ _; rw [add_block]; exact hn446_1) | exact hn446_1) : P := h
theorem w53_ {P : Prop} (h : P := by first | (rw [add_block]; exact hn446_0) | (show (Addr.add _ _).block ≠ _; rw [add_block]; exact hn446_0) | exact hn446_0) : P := h
theorem w52_ {P : Prop} (h : P := by first | (rw [add_block]; exact hn445_1) | (show (Addr.add _ _).block ≠ _; rw [add_block]; exact hn445_1) | exact hn445_1) : P := h
theorem w51_ {P : Prop} (h : P := by first | (rw [add_block]; exact hn445_0) | (show (Addr.add _ _).block ≠ _; rw [add_block]; exact hn445_0) | exact hn445_0) : P := h
theorem w50_ {P : Prop} (h : P := by first | exact Kd.own_blk (Kd.R_ne HO_4.out BK444.out (by decide)) | exact (HO_4.out.1 _ rfl).2 | exact (HO_4.out.1 _ rfl).1.2) : P := h
theorem w49_ {P : Prop} (h : P := by rw [← hq_]; exact (w58_)) : P := h
theorem w48_ {P : Prop} (h : P := by (with_reducible repeat (first | apply raz_ | apply rnz_ | apply rdz_)); exact Kd.R_mono HO_9.out (fun _ hk => ⟨trivial, hk⟩)) : P := h
theorem w47_ {P : Prop} (h : P := by repeat (first | (with_reducible first | exact HB.out | apply below_alloc | apply pw_below_drewN | apply below_drew1) | exact HB.out)) : P := h
theorem w46_ {P : Prop} (h : P := by (with_reducible repeat (first | apply raz_ | apply rnz_ | apply rdz_)); exact Kd.R_mono HO_70.out (fun _ hk => ⟨hk.2.2.1, hk.2.2.2⟩)) : P := h
theorem w45_ {P : Prop} (h : P := by (with_reducible repeat (first | apply raz_ | apply rnz_ | apply rdz_)); exact Kd.R_mono HO_56.out (fun _ hk => ⟨hk.2.2.1, hk.2.2.2⟩)) : P := h
theorem w44_ {P : Prop} (h : P := by (with_reducible repeat (first | apply raz_ | apply rnz_ | apply rdz_)); exact Kd.R_mono HO_52.out (fun _ hk => ⟨hk.2.2.1, hk.2.2.2⟩)) : P := h
theorem w43_ {P : Prop} (h : P := by (try simp only [List.map_toArray, List.map_cons, List.map_nil]); first | done | rfl | (simp only [List.length_drop, List.length_take]; rfl)) : P := h
theorem w42_ {P : Prop} (h : P := by (try simp only [hl8_2]); (with_reducible repeat (first | apply raz_ | apply rnz_ | apply rdz_)); exact Kd.R_mono HO_9.out (fun _ hk => hk.2)) : P := h
theorem w41_ {P : Prop} (h : P := by first | exact Kd.R_nil _ _ _ _ _ | exact Kd.N_nil _ _ _ _ _ | exact Kd.V_nil _ _ _ _ _ | exact Kd.Q_nil _ _ _ _ _ | exact Kd.S_nil _ _ _ _ _) : P := h
theorem w40_ {P : Prop} (h : P := by repeat (first | (with_reducible first | exact HB.out | apply baz_ | apply bnz_ | apply bdz_ | refine ubsz_ ?_ (by assumption)) | exact HB.out)) : P := h
theorem w39_ {P : Prop} (h : P := by repeat (first | (with_reducible first | exact HB.out | apply baz_ | apply bnz_ | apply bdz_ | refine bsz_ ?_ (IsS99.ge HI0.out)) | exact HB.out)) : P := h
theorem w38_ {P : Prop} (h : P := by repeat (first | (with_reducible first | exact HB.out | apply baz_ | apply bnz_ | apply bdz_ | refine bsz_ ?_ (IsS99.ge HI388.out)) | exact HB.out)) : P := h
theorem w37_ {P : Prop} (h : P := by repeat (first | (with_reducible first | exact HB.out | apply baz_ | apply bnz_ | apply bdz_ | refine bsz_ ?_ (IsS99.ge HI323.out)) | exact HB.out)) : P := h
theorem w36_ {P : Prop} (h : P := by repeat (first | (with_reducible first | exact HB.out | apply baz_ | apply bnz_ | apply bdz_ | refine bsz_ ?_ (IsS99.ge HI285.out)) | exact HB.out)) : P := h
theorem w35_ {P : Prop} (h : P := by repeat (first | (with_reducible first | exact HB.out | apply baz_ | apply bnz_ | apply bdz_ | refine bsz_ ?_ (IsS99.ge HI250.out)) | exact HB.out)) : P := h
theorem w34_ {P : Prop} (h : P := by repeat (first | (with_reducible first | exact HB.out | apply baz_ | apply bnz_ | apply bdz_ | refine bsz_ ?_ (IsS99.ge HI165.out)) | exact HB.out)) : P := h
theorem w33_ {P : Prop} (h : P := by repeat (first | (with_reducible first | exact HK.out | apply KeepBut.set_ | apply keep_drewN | apply keep_drew | apply keep_alloc) | exact HK.out)) : P := h
theorem w32_ {P : Prop} (h : P := by rw [← hq_]; exact (w47_)) : P := h
theorem w31_ {P : Prop} (h : P := by repeat (first | (with_reducible first | exact HB.out | apply below_alloc | apply pw_below_drewN | apply below_drew1 | refine below_set ?_ GE257.out) | exact HB.out)) : P := h
theorem w30_ {P : Prop} (h : P := by repeat (first | (with_reducible first | exact HI0.out | apply IsS99.alloc | apply IsS99.drewN | apply IsS99.drew | apply IsS99.set_1 | apply IsS99.set_2) | exact HI0.out)) : P := h
theorem w29_ {P : Prop} (h : P := by repeat (first | (with_reducible first | exact HB.out | apply baz_ | apply bnz_ | apply bdz_ | refine bsz_ ?_ (IsS99.ge HI0.out) | refine bsz_ ?_ GE134.out) | exact HB.out)) : P := h
theorem w28_ {P : Prop} (h : P := by repeat (first | (with_reducible first | exact HI388.out | apply IsS99.alloc | apply IsS99.drewN | apply IsS99.drew | apply IsS99.set_1 | apply IsS99.set_2) | exact HI388.out)) : P := h
theorem w27_ {P : Prop} (h : P := by repeat (first | (with_reducible first | exact HI285.out | apply IsS99.alloc | apply IsS99.drewN | apply IsS99.drew | apply IsS99.set_1 | apply IsS99.set_2) | exact HI285.out)) : P := h
theorem w26_ {P : Prop} (h : P := by repeat (first | (with_reducible first | exact HI250.out | apply IsS99.alloc | apply IsS99.drewN | apply IsS99.drew | apply IsS99.set_1 | apply IsS99.set_2) | exact HI250.out)) : P := h
theorem w25_ {P : Prop} (h : P := by repeat (first | (with_reducible first | exact HK.out | apply KeepBut.set_ | apply keep_drewN | apply keep_drew | apply keep_alloc | refine keep_far ?_ GW134.out _) | exact HK.out)) : P := h
theorem w24_ {P : Prop} (h : P := by repeat (first | (with_reducible first | exact HI0.out | apply IsS99.alloc | apply IsS99.drewN | apply IsS99.drew | apply IsS99.set_1 | apply IsS99.set_2 | refine IsS99.far ?_ NB0_134.out _) | exact HI0.out)) : P := h
theorem w23_ {P : Prop} (h : P := by (with_reducible repeat (first | apply raz_ | apply rnz_ | apply rdz_)); exact Kd.R_mono (Kd.R_far (p := ⟨gb601, 1, none⟩) (Kd.R_far (p := ⟨gb601, 0, none⟩) (Kd.R_types HO_57.out BK601.out (by decide)) (fun _ hk => hk.2) (.int .i64 ((rd_T69 t542 x536_5).f0))) (fun _ hk => hk.2) (.int .i64 ((rd_T69 t542 x536_5).f1))) (fun _ hk => hk.1)) : P := h
theorem w22_ {P : Prop} (h : P := by (with_reducible repeat (first | apply raz_ | apply rnz_ | apply rdz_)); exact Kd.R_mono (Kd.R_far (p := ⟨gb601, 1, none⟩) (Kd.R_far (p := ⟨gb601, 0, none⟩) (Kd.R_types HO_51.out BK601.out (by decide)) (fun _ hk => hk.2) (.int .i64 ((rd_T69 t542 x536_5).f0))) (fun _ hk => hk.2) (.int .i64 ((rd_T69 t542 x536_5).f1))) (fun _ hk => hk.1)) : P := h
theorem w21_ {P : Prop} (h : P := by (with_reducible repeat (first | refine knz_ ?_ _ | refine kdz_ ?_ | refine kaz_ ?_ _)); refine blk_far ?_ NB436_444.out _; (with_reducible repeat (first | refine knz_ ?_ _ | refine kdz_ ?_ | refine kaz_ ?_ _)); refine blk_far ?_ NB436_444.out _; (with_reducible repeat (first | refine knz_ ?_ _ | refine kdz_ ?_ | refine kaz_ ?_ _)); exact BK436.out) : P := h
theorem w20_ {P : Prop} (h : P := by (with_reducible repeat (first | refine knz_ ?_ _ | refine kdz_ ?_ | refine kaz_ ?_ _)); refine blk_far ?_ NB401_409.out _; (with_reducible repeat (first | refine knz_ ?_ _ | refine kdz_ ?_ | refine kaz_ ?_ _)); refine blk_far ?_ NB401_409.out _; (with_reducible repeat (first | refine knz_ ?_ _ | refine kdz_ ?_ | refine kaz_ ?_ _)); exact BK401.out) : P := h
theorem w19_ {P : Prop} (h : P := by (with_reducible repeat (first | refine knz_ ?_ _ | refine kdz_ ?_ | refine kaz_ ?_ _)); refine blk_put (cs := #[.int .i64 0, .int .i64 0]) ?_ 1 _ rfl; (with_reducible repeat (first | refine knz_ ?_ _ | refine kdz_ ?_ | refine kaz_ ?_ _)); refine blk_put (cs := #[.int .i64 0, .int .i64 0]) ?_ 0 _ rfl; (with_reducible repeat (first | refine knz_ ?_ _ | refine kdz_ ?_ | refine kaz_ ?_ _)); exact BK436.out) : P := h
theorem w18_ {P : Prop} (h : P := by (with_reducible repeat (first | refine knz_ ?_ _ | refine kdz_ ?_ | refine kaz_ ?_ _)); refine blk_put (cs := #[.int .i64 0, .int .i64 0]) ?_ 1 _ rfl; (with_reducible repeat (first | refine knz_ ?_ _ | refine kdz_ ?_ | refine kaz_ ?_ _)); refine blk_put (cs := #[.int .i64 0, .int .i64 0]) ?_ 0 _ rfl; (with_reducible repeat (first | refine knz_ ?_ _ | refine kdz_ ?_ | refine kaz_ ?_ _)); exact BK401.out) : P := h
theorem w17_ {P : Prop} (h : P := by (with_reducible repeat (first | refine knz_ ?_ _ | refine kdz_ ?_ | refine kaz_ ?_ _)); refine blk_put (cs := #[.int .i64 t457, .int .i64 0]) ?_ 1 _ rfl; (with_reducible repeat (first | refine knz_ ?_ _ | refine kdz_ ?_ | refine kaz_ ?_ _)); refine blk_put (cs := #[.int .i64 0, .int .i64 0]) ?_ 0 _ rfl; (with_reducible repeat (first | refine knz_ ?_ _ | refine kdz_ ?_ | refine kaz_ ?_ _)); exact BK460.out) : P := h
theorem w16_ {P : Prop} (h : P := by (with_reducible repeat (first | refine knz_ ?_ _ | refine kdz_ ?_ | refine kaz_ ?_ _)); refine blk_put (cs := #[.int .i64 t441, .int .i64 0]) ?_ 1 _ rfl; (with_reducible repeat (first | refine knz_ ?_ _ | refine kdz_ ?_ | refine kaz_ ?_ _)); refine blk_put (cs := #[.int .i64 0, .int .i64 0]) ?_ 0 _ rfl; (with_reducible repeat (first | refine knz_ ?_ _ | refine kdz_ ?_ | refine kaz_ ?_ _)); exact BK444.out) : P := h
theorem w15_ {P : Prop} (h : P := by (with_reducible repeat (first | refine knz_ ?_ _ | refine kdz_ ?_ | refine kaz_ ?_ _)); refine blk_put (cs := #[.int .i64 t421, .int .i64 0]) ?_ 1 _ rfl; (with_reducible repeat (first | refine knz_ ?_ _ | refine kdz_ ?_ | refine kaz_ ?_ _)); refine blk_put (cs := #[.int .i64 0, .int .i64 0]) ?_ 0 _ rfl; (with_reducible repeat (first | refine knz_ ?_ _ | refine kdz_ ?_ | refine kaz_ ?_ _)); exact BK424.out) : P := h
theorem w14_ {P : Prop} (h : P := by (with_reducible repeat (first | refine knz_ ?_ _ | refine kdz_ ?_ | refine kaz_ ?_ _)); refine blk_put (cs := #[.int .i64 t405, .int .i64 0]) ?_ 1 _ rfl; (with_reducible repeat (first | refine knz_ ?_ _ | refine kdz_ ?_ | refine kaz_ ?_ _)); refine blk_put (cs := #[.int .i64 0, .int .i64 0]) ?_ 0 _ rfl; (with_reducible repeat (first | refine knz_ ?_ _ | refine kdz_ ?_ | refine kaz_ ?_ _)); exact BK409.out) : P := h
theorem w13_ {P : Prop} (h : P := by (with_reducible repeat (first | refine knz_ ?_ _ | refine kdz_ ?_ | refine kaz_ ?_ _)); refine blk_put (cs := #[.int .i64 ((rd_T69 l0 x8_1).f0), .int .i64 0]) ?_ 1 _ rfl; (with_reducible repeat (first | refine knz_ ?_ _ | refine kdz_ ?_ | refine kaz_ ?_ _)); refine blk_put (cs := #[.int .i64 0, .int .i64 0]) ?_ 0 _ rfl; (with_reducible repeat (first | refine knz_ ?_ _ | refine kdz_ ?_ | refine kaz_ ?_ _)); exact BK364.out) : P := h
theorem w12_ {P : Prop} (h : P := by (with_reducible repeat (first | refine knz_ ?_ _ | refine kdz_ ?_ | refine kaz_ ?_ _)); refine blk_put (cs := #[.int .i64 ((rd_T69 l0 x7_1).f0), .int .i64 0]) ?_ 1 _ rfl; (with_reducible repeat (first | refine knz_ ?_ _ | refine kdz_ ?_ | refine kaz_ ?_ _)); refine blk_put (cs := #[.int .i64 0, .int .i64 0]) ?_ 0 _ rfl; (with_reducible repeat (first | refine knz_ ?_ _ | refine kdz_ ?_ | refine kaz_ ?_ _)); exact BK180.out) : P := h
theorem w11_ {P : Prop} (h : P := by (with_reducible repeat (first | refine knz_ ?_ _ | refine kdz_ ?_ | refine kaz_ ?_ _)); refine blk_put (cs := #[.int .i64 ((rd_T69 l0 x11_1).f0), .int .i64 0]) ?_ 1 _ rfl; (with_reducible repeat (first | refine knz_ ?_ _ | refine kdz_ ?_ | refine kaz_ ?_ _)); refine blk_put (cs := #[.int .i64 0, .int .i64 0]) ?_ 0 _ rfl; (with_reducible repeat (first | refine knz_ ?_ _ | refine kdz_ ?_ | refine kaz_ ?_ _)); exact BK276.out) : P := h
theorem w10_ {P : Prop} (h : P := by (with_reducible repeat (first | refine knz_ ?_ _ | refine kdz_ ?_ | refine kaz_ ?_ _)); refine blk_put (cs := #[.int .i64 ((rd_T69 l0 x10_1).f0), .int .i64 0]) ?_ 1 _ rfl; (with_reducible repeat (first | refine knz_ ?_ _ | refine kdz_ ?_ | refine kaz_ ?_ _)); refine blk_put (cs := #[.int .i64 0, .int .i64 0]) ?_ 0 _ rfl; (with_reducible repeat (first | refine knz_ ?_ _ | refine kdz_ ?_ | refine kaz_ ?_ _)); exact BK203.out) : P := h
theorem w9_ {P : Prop} (h : P := by (with_reducible repeat (first | apply raz_ | apply rnz_ | apply rdz_)); exact Kd.R_mono (Kd.R_far (p := ⟨gb601, 1, none⟩) (Kd.R_far (p := ⟨gb601, 0, none⟩) (Kd.R_mono HO_46.out (fun k_ hk => (⟨hk, hk.2⟩ : _ ∧ k_ ≠ gb601))) (fun _ hk => hk.2) (.int .i64 ((rd_T69 t542 x536_5).f0))) (fun _ hk => hk.2) (.int .i64 ((rd_T69 t542 x536_5).f1))) (fun _ hk => ⟨hk.1.1.1, ⟨hk.1.1.2.1, ⟨hk.1.1.2.2.1, hk.1.1.2.2.2⟩⟩⟩)) : P := h
theorem w8_ {P : Prop} (h : P := by (with_reducible repeat (first | apply raz_ | apply rnz_ | apply rdz_)); exact Kd.R_mono (Kd.R_far (p := ⟨gb601, 1, none⟩) (Kd.R_far (p := ⟨gb601, 0, none⟩) (Kd.R_mono HO_534.out (fun k_ hk => (⟨hk, hk.2⟩ : _ ∧ k_ ≠ gb601))) (fun _ hk => hk.2) (.int .i64 ((rd_T69 t542 x536_5).f0))) (fun _ hk => hk.2) (.int .i64 ((rd_T69 t542 x536_5).f1))) (fun _ hk => ⟨hk.1.1.1, ⟨hk.1.1.2.1, ⟨hk.1.1.2.2.1, hk.1.1.2.2.2⟩⟩⟩)) : P := h
theorem w7_ {P : Prop} (h : P := by (with_reducible repeat (first | refine knz_ ?_ _ | refine kdz_ ?_ | refine kaz_ ?_ _)); refine blk_put (cs := #[.int .i64 (wrap64 (x4_1 + (wrap64 (1 + t125)))), .int .i64 0]) ?_ 1 _ rfl; (with_reducible repeat (first | refine knz_ ?_ _ | refine kdz_ ?_ | refine kaz_ ?_ _)); refine blk_put (cs := #[.int .i64 0, .int .i64 0]) ?_ 0 _ rfl; (with_reducible repeat (first | refine knz_ ?_ _ | refine kdz_ ?_ | refine kaz_ ?_ _)); exact BK134.out) : P := h
theorem w6_ {P : Prop} (h : P := by (with_reducible repeat (first | apply raz_ | apply rnz_ | apply rdz_)); exact Kd.R_mono (Kd.R_far (p := ⟨gb601, 1, none⟩) (Kd.R_far (p := ⟨gb601, 0, none⟩) (Kd.R_mono HO_70.out (fun k_ hk => (⟨hk, hk.2⟩ : _ ∧ k_ ≠ gb601))) (fun _ hk => hk.2) (.int .i64 ((rd_T69 t542 x536_5).f0))) (fun _ hk => hk.2) (.int .i64 ((rd_T69 t542 x536_5).f1))) (fun _ hk => ⟨hk.1.1.1, ⟨hk.1.1.2.1, ⟨hk.1.1.2.2.1, ⟨hk.1.1.2.2.2.1, hk.1.1.2.2.2.2⟩⟩⟩⟩)) : P := h
theorem w5_ {P : Prop} (h : P := by (with_reducible repeat (first | apply raz_ | apply rnz_ | apply rdz_)); exact Kd.R_mono (Kd.R_far (p := ⟨gb601, 1, none⟩) (Kd.R_far (p := ⟨gb601, 0, none⟩) (Kd.R_mono HO_56.out (fun k_ hk => (⟨hk, hk.2⟩ : _ ∧ k_ ≠ gb601))) (fun _ hk => hk.2) (.int .i64 ((rd_T69 t542 x536_5).f0))) (fun _ hk => hk.2) (.int .i64 ((rd_T69 t542 x536_5).f1))) (fun _ hk => ⟨hk.1.1.1, ⟨hk.1.1.2.1, ⟨hk.1.1.2.2.1, ⟨hk.1.1.2.2.2.1, hk.1.1.2.2.2.2⟩⟩⟩⟩)) : P := h
theorem w4_ {P : Prop} (h : P := by (with_reducible repeat (first | apply raz_ | apply rnz_ | apply rdz_)); exact Kd.R_mono (Kd.R_far (p := ⟨gb601, 1, none⟩) (Kd.R_far (p := ⟨gb601, 0, none⟩) (Kd.R_mono HO_52.out (fun k_ hk => (⟨hk, hk.2⟩ : _ ∧ k_ ≠ gb601))) (fun _ hk => hk.2) (.int .i64 ((rd_T69 t542 x536_5).f0))) (fun _ hk => hk.2) (.int .i64 ((rd_T69 t542 x536_5).f1))) (fun _ hk => ⟨hk.1.1.1, ⟨hk.1.1.2.1, ⟨hk.1.1.2.2.1, ⟨hk.1.1.2.2.2.1, hk.1.1.2.2.2.2⟩⟩⟩⟩)) : P := h
theorem w3_ {P : Prop} (h : P := by (with_reducible repeat (first | apply raz_ | apply rnz_ | apply rdz_)); exact Kd.R_mono (Kd.R_far (p := ⟨gb601, 1, none⟩) (Kd.R_far (p := ⟨gb601, 0, none⟩) (Kd.R_mono HO_47.out (fun k_ hk => (⟨hk, hk.2⟩ : _ ∧ k_ ≠ gb601))) (fun _ hk => hk.2) (.int .i64 ((rd_T69 t542 x536_5).f0))) (fun _ hk => hk.2) (.int .i64 ((rd_T69 t542 x536_5).f1))) (fun _ hk => ⟨hk.1.1.1, ⟨hk.1.1.2.1, ⟨hk.1.1.2.2.1, ⟨hk.1.1.2.2.2.1, hk.1.1.2.2.2.2⟩⟩⟩⟩)) : P := h
theorem w2_ {P : Prop} (h : P := by first | exact (w50_) | (rw [add_block]; exact (w50_)) | (show (Addr.add _ _).block ≠ _; rw [add_block]; exact (w50_)) | (dsimp only; exact (w50_))) : P := h
theorem w1_ {P : Prop} (h : P := by (with_reducible repeat (first | refine knz_ ?_ _ | refine kdz_ ?_ | refine kaz_ ?_ _)); refine blk_put (cs := #[.int .i64 0, .int .i64 0]) ?_ 1 _ rfl; (with_reducible repeat (first | refine knz_ ?_ _ | refine kdz_ ?_ | refine kaz_ ?_ _)); refine blk_put (cs := #[.int .i64 0, .int .i64 0]) ?_ 0 _ rfl; (with_reducible repeat (first | refine knz_ ?_ _ | refine kdz_ ?_ | refine kaz_ ?_ _)); refine blk_far ?_ NB401_409.out _; (with_reducible repeat (first | refine knz_ ?_ _ | refine kdz_ ?_ | refine kaz_ ?_ _)); refine blk_far ?_ NB401_409.out _; (with_reducible repeat (first | refine knz_ ?_ _ | refine kdz_ ?_ | refine kaz_ ?_ _)); exact BK401.out) : P := h
end Go.Proofs.YtppbpefehpbejaaGreatDoor
section
namespace Go.Proofs.YtppbpefehpbejaaGreatDoor.P
open Go.RowKit Go.Proofs.YtppbpefehpbejaaGreatDoorW.PrintWords Go.Proofs.YtppbpefehpbejaaGreatDoorW.PrintLast Go.Proofs.YtppbpefehpbejaaGreatDoorW.PrintMore
attribute [local go_sem] max2_int min2_int max_two min_two max_three min_three max_four min_four   -- for this text's walks alone
set_option linter.unusedVariables false
set_option linter.unusedSimpArgs false

def errW : Option Int → Value
  | none => .nilIface
  | some c => .iface 0 (.int .i64 c)
theorem errW_none : errW none = .nilIface := rfl
theorem errW_some (c : Int) : errW (some c) = .iface 0 (.int .i64 c) := rfl

theorem info3 : (Tryz.prog.info? 3).map (fun i => (i.zero, i.size, i.bytes)) = some (some (.int .i64 0), 1, 8) := by kernel_rfl
theorem info4 : (Tryz.prog.info? 4).map (fun i => (i.zero, i.size, i.bytes)) = some (some (.bool false), 1, 1) := by kernel_rfl
theorem info9 : (Tryz.prog.info? 9).map (fun i => (i.zero, i.size, i.bytes)) = some (some (.string ⟨#[]⟩), 1, 16) := by kernel_rfl
theorem info69 : (Tryz.prog.info? 69).map (fun i => (i.zero, i.size, i.bytes)) = some (some (.agg #[(.int .i64 0), (.int .i64 0)]), 2, 16) := by kernel_rfl
-- the values' own types
structure S69 where
  f0 : Int
  f1 : Int
def z69 : S69 := ⟨(0 : Int), (0 : Int)⟩
def k69 : Kd S69 := Kd.iso (Kd.pair (Kd.int .i64) (Kd.int .i64)) (fun x : S69 => (x.f0, x.f1))
theorem k69_open {w : World} {x : S69} {cs : List Value} (h : k69.K w x cs) : cs = [.int .i64 x.f0, .int .i64 x.f1] := by
  obtain ⟨_, _, rfl, rfl, rfl⟩ := h
  exact rfl
theorem k69_openM {w : World} {base : Nat} {ok : Nat → Prop} {x : S69} {cs : List Value} (h : k69.M w base ok x cs) : cs = [.int .i64 x.f0, .int .i64 x.f1] := by
  obtain ⟨_, _, rfl, rfl, rfl⟩ := h
  exact rfl
theorem k69_mkM (w : World) (base : Nat) (ok : Nat → Prop) (x : S69)  : k69.M w base ok x [.int .i64 x.f0, .int .i64 x.f1] := ⟨[.int .i64 x.f0], [.int .i64 x.f1], rfl, rfl, rfl⟩
def rd_T69 (xs : List S69) (i : Int) : S69 := xs.getD i.toNat z69
theorem at_T69 {w : World} {A : Option Addr} {n : Nat} {xs : List S69} (h : Kd.C k69 w A n xs) (i : Int) (h0 : 0 ≤ i) (h1 : i < n) : ∃ ad , A = some ad ∧ w.cell? (ad.add (i.toNat * 2)) = some (.int .i64 (rd_T69 xs i).f0) ∧ w.cell? ⟨(ad.add (i.toNat * 2)).block, (ad.add (i.toNat * 2)).off + 1, none⟩ = some (.int .i64 (rd_T69 xs i).f1) := by
  obtain ⟨ad, c, e, _, hK, hc0⟩ := Kd.C_get h z69 i h0 h1
  have hc : ∀ j u, c[j]? = some u → w.cell? (ad.add (i.toNat * 2 + j)) = some u := hc0
  obtain rfl := k69_open hK
  exact ⟨ad, e, hc 0 _ rfl, by rw [← add_field _ _ 1 (by omega)]; exact hc 1 _ rfl⟩

end Go.Proofs.YtppbpefehpbejaaGreatDoor.P
end

section
namespace Go.Proofs.YtppbpefehpbejaaGreatDoor.P
open Go.RowKit Go.Proofs.YtppbpefehpbejaaGreatDoorW.PrintWords Go.Proofs.YtppbpefehpbejaaGreatDoorW.PrintLast Go.Proofs.YtppbpefehpbejaaGreatDoorW.PrintMore
set_option linter.unusedVariables false
structure Upz_ (w W : World) : Prop where mk :: (out : Below w.heap.size w W)
instance (w : World) : Nonempty (Upz_ w w) := ⟨⟨Below.refl _ _⟩⟩
instance (w W : World) (n : Nat) [h : Nonempty (Upz_ w W)] : Nonempty (Upz_ w (W.drewN n)) := h.elim fun h => ⟨⟨pw_below_drewN h.out n⟩⟩
instance (w W : World) (n : Obj) [h : Nonempty (Upz_ w W)] : Nonempty (Upz_ w (W.alloc n)) := h.elim fun h => ⟨⟨below_alloc h.out n⟩⟩
instance (w W : World) [h : Nonempty (Upz_ w W)] : Nonempty (Upz_ w W.drew) := h.elim fun h => ⟨⟨below_drew1 h.out⟩⟩
theorem ukz_ {w W : World} {g : Nat} {o : Obj} (h : w.heap[g]? = some o) [u : Nonempty (Upz_ w W)] : W.heap[g]? = some o := u.elim fun u => blk_below h u.out
theorem urz_ {α : Type} {d : Kd α} {e : Nat} {w W : World} {b : Nat} {ok : Nat → Prop} {v : Value} {xs : List α} (h : d.R e w b ok v xs) [u : Nonempty (Upz_ w W)] : d.R e W b ok v xs := u.elim fun u => Kd.R_below h u.out
theorem ucz_ {α : Type} {d : Kd α} {w W : World} {A : Option Addr} {n : Nat} {xs : List α} (h : d.C w A n xs) [u : Nonempty (Upz_ w W)] : d.C W A n xs := u.elim fun u => Kd.C_below h u.out
theorem ubz_ {w0 w W : World} (h : Below w0.heap.size w0 w) [u : Nonempty (Upz_ w W)] : Below w0.heap.size w0 W := u.elim fun u => below_step h u.out
theorem ukbz_ {w W W2 : World} {g : Nat} {o : Obj} (h : w.heap[g]? = some o) (hb : Below W.heap.size W W2) [u : Nonempty (Upz_ w W)] : W2.heap[g]? = some o := blk_below (ukz_ h) hb
theorem uklz_ {w W : World} {g : Nat} {o : Obj} (h : w.heap[g]? = some o) [u : Nonempty (Upz_ w W)] : g < W.heap.size := blk_lt (ukz_ h)
theorem ubsz_ {w W : World} {g j : Nat} {v : Value} (h : Below w.heap.size w W) (hg : Aside0 (w.heap.size ≤ g)) : Below w.heap.size w (W.setCell ⟨g, j, none⟩ v) := Go.Proofs.YtppbpefehpbejaaGreatDoorW.PrintWords.below_set h hg.out
theorem usz_ : type_of% @List.setIfInBounds_toArray.{0} := @List.setIfInBounds_toArray.{0}
theorem utz_ : type_of% @List.set_cons_zero.{0} := @List.set_cons_zero.{0}
theorem uvz_ : type_of% @List.set_cons_succ.{0} := @List.set_cons_succ.{0}
theorem Az_ {p : Prop} (h : p) : Aside0 p := ⟨h⟩
theorem baz_ : type_of% @below_alloc := @below_alloc
theorem bnz_ : type_of% @pw_below_drewN := @pw_below_drewN
theorem bdz_ : type_of% @below_drew1 := @below_drew1
theorem bsz_ : type_of% @below_set := @below_set
theorem raz_ : type_of% @Kd.R_alloc := @Kd.R_alloc
theorem rnz_ : type_of% @Kd.R_drewN := @Kd.R_drewN
theorem rdz_ : type_of% @Kd.R_drew := @Kd.R_drew
theorem knz_ : type_of% @blk_drewN := @blk_drewN
theorem kdz_ : type_of% @blk_drew := @blk_drew
theorem kaz_ : type_of% @blk_alloc := @blk_alloc
theorem kbz_ : type_of% @blk_below := @blk_below
theorem rez_ : type_of% @Kd.R_elder' := @Kd.R_elder'
theorem btz_ : type_of% @below_step := @below_step
theorem asz_ {p : Prop} (h : p := by first | (with_reducible assumption) | assumption) : p := h
theorem qaz_ {p : Prop} (h : p := by first | rfl | (simp; done) | (simp [*]; done)) : p := h
theorem maz_ {p : Prop} (h : p := by (try simp only [List.map_toArray, List.map_cons, List.map_nil]); first | done | rfl | (simp only [List.length_drop, List.length_take]; rfl)) : p := h
theorem bqz_ {α β : Type} {x : Option α} {f : α → Option β} {r : β} (h : x.bind f = some r) : ∃ a, Aside0 (x = some a) ∧ f a = some r := by
  obtain ⟨a, h1, h2⟩ := Option.bind_eq_some_iff.mp h
  exact ⟨a, ⟨h1⟩, h2⟩
theorem nfz_ : ¬ (false = true) := by decide
end Go.Proofs.YtppbpefehpbejaaGreatDoor.P
end

section
namespace Go.Proofs.YtppbpefehpbejaaGreatDoor.P
open Go.RowKit Go.Proofs.YtppbpefehpbejaaGreatDoorW.PrintWords Go.Proofs.YtppbpefehpbejaaGreatDoorW.PrintLast Go.Proofs.YtppbpefehpbejaaGreatDoorW.PrintMore
attribute [local go_sem] max2_int min2_int max_two min_two max_three min_three max_four min_four   -- for this text's walks alone
set_option linter.unusedVariables false
set_option linter.unusedSimpArgs false

def laws_big.f (l0 : List Int) (l1 : List Int) : Option (Bool) := if (l0.length : Int) > 1048576 then (some true) else (some (decide ((l1.length : Int) > (wrap64 (1048576 - (l0.length : Int))))))
set_option maxHeartbeats 8000000 in
set_option maxRecDepth 100000 in
theorem laws_big.calls (A0 : Option Addr) (c0 : Nat) (l0 : List Int) (A1 : Option Addr) (c1 : Nat) (l1 : List Int) (r : Bool) (w : World) (hr0 : Kd.C (Kd.int .u8) w A0 l0.length l0) (hc0 : l0.length ≤ c0) (hr1 : Kd.C (Kd.int .u8) w A1 l1.length l1) (hc1 : l1.length ≤ c1) (h : laws_big.f l0 l1 = some r) :
  Calls Tryz.prog 6 #[.slice A0 l0.length c0, .slice A1 l1.length c1] w fun e w' => e = .returned (.bool r) ∧ Drawn0 w w' := by
 have HR0 := Az_ hr0
 have HC0 := Az_ hc0
 clear hr0 hc0
 have HR1 := Az_ hr1
 have HC1 := Az_ hc1
 clear hr1 hc1
 have H : (if (l0.length : Int) > 1048576 then (some true) else (some (decide ((l1.length : Int) > (wrap64 (1048576 - (l0.length : Int))))))) = some r := h
 clear h
 by_cases c3 : (l0.length : Int) > 1048576
 ·rw [if_pos c3] at H
  have c3b0 := decide_eq_true c3
  have c3b1 : decide (1048576 < l0.length) = true := decide_eq_true (by omega)
  clear c3
  obtain rfl := Option.some.inj H
  go_enter Tryz.func6, Tryz.ntmps6
  go_wp2
  go_ret
  exact ⟨w77_, w74_⟩
 ·rw [if_neg c3] at H
  have c3b0 := decide_eq_false c3
  have c3b1 : decide (1048576 < l0.length) = false := decide_eq_false (by omega)
  clear c3
  obtain rfl := Option.some.inj H
  go_enter Tryz.func6, Tryz.ntmps6
  go_wp2
  go_ret
  exact ⟨w77_, w74_⟩

def laws_fSame.l0 : Nat → List Int → List Int → Int → Int → Option (Bool)
 | 0, _, _, _, _ => none
 | k + 1, x0, x1, x12, x13 => if x13 < x12 then (if 0 ≤ x13 then (if x13 < (x0.length : Int) then (if x13 < (x1.length : Int) then (if (rd x0 x13) = (rd x1 x13) then (laws_fSame.l0 k x0 x1 x12 (wrap64 (x13 + 1))) else (some false)) else (none)) else (none)) else (none)) else (some true)
def laws_fSame.f (k : Nat) (l0 : List Int) (l1 : List Int) : Option (Bool) := if (l0.length : Int) = (l1.length : Int) then (laws_fSame.l0 k l0 l1 (l0.length : Int) 0) else (some false)
set_option maxHeartbeats 8000000 in
set_option maxRecDepth 100000 in
theorem laws_fSame.calls (k : Nat) (A0 : Option Addr) (c0 : Nat) (l0 : List Int) (A1 : Option Addr) (c1 : Nat) (l1 : List Int) (r : Bool) (w : World) (hr0 : Kd.C (Kd.int .i64) w A0 l0.length l0) (hc0 : l0.length ≤ c0) (hr1 : Kd.C (Kd.int .i64) w A1 l1.length l1) (hc1 : l1.length ≤ c1) (h : laws_fSame.f k l0 l1 = some r) :
  Calls Tryz.prog 20 #[.slice A0 l0.length c0, .slice A1 l1.length c1] w fun e w' => e = .returned (.bool r) ∧ Drawn0 w w' := by
 have HR0 := Az_ hr0
 have HC0 := Az_ hc0
 clear hr0 hc0
 have HR1 := Az_ hr1
 have HC1 := Az_ hc1
 clear hr1 hc1
 have H : (if (l0.length : Int) = (l1.length : Int) then (laws_fSame.l0 k l0 l1 (l0.length : Int) 0) else (some false)) = some r := h
 clear h
 by_cases c3 : (l0.length : Int) = (l1.length : Int)
 ·rw [if_pos c3] at H
  have c3b0 : ((l0.length : Int) == (l1.length : Int)) = true := beq_iff_eq.mpr c3
  have c3b1 : ((l0.length : Int) != (l1.length : Int)) = false := bne_eq_false_iff_eq.mpr c3
  have c3b2 : (l0.length == l1.length) = true := by first | simpa using c3 | (simp at c3 ⊢; omega)
  clear c3
  have H' := Az_ H
  clear H
  go_enter Tryz.func20, Tryz.ntmps20
  go_wp2
  go_loopg [13] k (fun kq v13 w' => ∃ (x13_1 : Int), v13 = .int .i64 x13_1 ∧ Aside0 (laws_fSame.l0 kq l0 l1 (l0.length : Int) x13_1 = some r) ∧ Aside0 (kq ≤ k) ∧ Drawn0 w w')
  case atStart => exact ⟨(0), qaz_, H', ⟨Nat.le_refl _⟩, w74_⟩
  case round =>
   clear H'
   clear c3b0 c3b1 c3b2
   obtain ⟨x13_1, rfl, HA, HK1, ⟨m1, rfl⟩⟩ := hrel
   cases gk with
   | zero => exact absurd HA.out (by simp [laws_fSame.l0])
   | succ k1 =>
    have H := HA.out
    clear HA
    simp only [laws_fSame.l0] at H
    by_cases c4 : x13_1 < (l0.length : Int)
    ·rw [if_pos c4] at H
     have c4b0 := decide_eq_true c4
     clear c4
     by_cases c5 : 0 ≤ x13_1
     ·rw [if_pos c5] at H
      have c5b0 := decide_eq_true c5
      clear c5
      by_cases c6 : x13_1 < (l0.length : Int)
      ·rw [if_pos c6] at H
       have c6b0 := decide_eq_true c6
       clear c6
       by_cases c7 : x13_1 < (l1.length : Int)
       ·rw [if_pos c7] at H
        have c7b0 := decide_eq_true c7
        clear c7
        by_cases c8 : (rd l0 x13_1) = (rd l1 x13_1)
        ·rw [if_pos c8] at H
         have c8b0 : ((rd l0 x13_1) == (rd l1 x13_1)) = true := beq_iff_eq.mpr c8
         have c8b1 : ((rd l0 x13_1) != (rd l1 x13_1)) = false := bne_eq_false_iff_eq.mpr c8
         clear c8
         have H' := Az_ H
         clear H
         have p101 : 0 ≤ (x13_1 : Int) := of_decide_eq_true asz_
         have q101 : x13_1 < (l0.length : Int) := of_decide_eq_true asz_
         obtain ⟨ad101, e101, hx101_0⟩ := Kd.at_int HR0.out x13_1 p101 q101
         cases e101
         replace p101 := eq_true p101
         replace q101 := eq_true q101
         have p102 : 0 ≤ (x13_1 : Int) := of_decide_eq_true asz_
         have q102 : x13_1 < (l1.length : Int) := of_decide_eq_true asz_
         obtain ⟨ad102, e102, hx102_0⟩ := Kd.at_int HR1.out x13_1 p102 q102
         cases e102
         replace p102 := eq_true p102
         replace q102 := eq_true q102
         go_wp2
         repeat (go_quiet (fail); try go_wp2)
         go_roundg k1
         case measure => have := HK1.out; omega
         case rel => exact ⟨(wrap64 (x13_1 + 1)), qaz_, H', ⟨w83_⟩, w74_⟩
        ·rw [if_neg c8] at H
         have c8b0 : ((rd l0 x13_1) == (rd l1 x13_1)) = false := beq_eq_false_iff_ne.mpr c8
         have c8b1 : ((rd l0 x13_1) != (rd l1 x13_1)) = true := bne_iff_ne.mpr c8
         obtain rfl := Option.some.inj H
         have p101 : 0 ≤ (x13_1 : Int) := of_decide_eq_true asz_
         have q101 : x13_1 < (l0.length : Int) := of_decide_eq_true asz_
         obtain ⟨ad101, e101, hx101_0⟩ := Kd.at_int HR0.out x13_1 p101 q101
         cases e101
         replace p101 := eq_true p101
         replace q101 := eq_true q101
         have p102 : 0 ≤ (x13_1 : Int) := of_decide_eq_true asz_
         have q102 : x13_1 < (l1.length : Int) := of_decide_eq_true asz_
         obtain ⟨ad102, e102, hx102_0⟩ := Kd.at_int HR1.out x13_1 p102 q102
         cases e102
         replace p102 := eq_true p102
         replace q102 := eq_true q102
         go_wp2
         repeat (go_quiet (fail); try go_wp2)
         go_ret
         exact ⟨w77_, w74_⟩
       ·rw [if_neg c7] at H
        exact absurd H (by simp)
      ·rw [if_neg c6] at H
       exact absurd H (by simp)
     ·rw [if_neg c5] at H
      exact absurd H (by simp)
    ·rw [if_neg c4] at H
     have c4b0 := decide_eq_false c4
     clear c4
     obtain rfl := Option.some.inj H
     go_wp2
     go_ret
     exact ⟨w77_, w74_⟩
 ·rw [if_neg c3] at H
  have c3b0 : ((l0.length : Int) == (l1.length : Int)) = false := beq_eq_false_iff_ne.mpr c3
  have c3b1 : ((l0.length : Int) != (l1.length : Int)) = true := bne_iff_ne.mpr c3
  have c3b2 : (l0.length == l1.length) = false := by first | simpa using c3 | (simp at c3 ⊢; omega)
  obtain rfl := Option.some.inj H
  go_enter Tryz.func20, Tryz.ntmps20
  go_wp2
  go_ret
  exact ⟨w77_, w74_⟩

def laws_fRises.l0 : Nat → List Int → Int → Option (Bool)
 | 0, _, _ => none
 | k + 1, x0, x3 => if x3 < (x0.length : Int) then (if 0 ≤ (wrap64 (x3 - 1)) then (if (wrap64 (x3 - 1)) < (x0.length : Int) then (if 0 ≤ x3 then (if (rd x0 (wrap64 (x3 - 1))) ≥ (rd x0 x3) then (some false) else (laws_fRises.l0 k x0 (wrap64 (x3 + 1)))) else (none)) else (none)) else (none)) else (some true)
def laws_fRises.f (k : Nat) (l0 : List Int) : Option (Bool) := laws_fRises.l0 k l0 1
set_option maxHeartbeats 8000000 in
set_option maxRecDepth 100000 in
theorem laws_fRises.calls (k : Nat) (A0 : Option Addr) (c0 : Nat) (l0 : List Int) (r : Bool) (w : World) (hr0 : Kd.C (Kd.int .i64) w A0 l0.length l0) (hc0 : l0.length ≤ c0) (h : laws_fRises.f k l0 = some r) :
  Calls Tryz.prog 24 #[.slice A0 l0.length c0] w fun e w' => e = .returned (.bool r) ∧ Drawn0 w w' := by
 have HR0 := Az_ hr0
 have HC0 := Az_ hc0
 clear hr0 hc0
 have H : (laws_fRises.l0 k l0 1) = some r := h
 clear h
 have H' := Az_ H
 clear H
 go_enter Tryz.func24, Tryz.ntmps24
 go_wp2
 go_loopg [3] k (fun kq v3 w' => ∃ (x3_1 : Int), v3 = .int .i64 x3_1 ∧ Aside0 (laws_fRises.l0 kq l0 x3_1 = some r) ∧ Aside0 (kq ≤ k) ∧ Drawn0 w w')
 case atStart => exact ⟨(1), qaz_, H', ⟨Nat.le_refl _⟩, w74_⟩
 case round =>
  clear H'
  obtain ⟨x3_1, rfl, HA, HK1, ⟨m1, rfl⟩⟩ := hrel
  cases gk with
  | zero => exact absurd HA.out (by simp [laws_fRises.l0])
  | succ k1 =>
   have H := HA.out
   clear HA
   simp only [laws_fRises.l0] at H
   by_cases c2 : x3_1 < (l0.length : Int)
   ·rw [if_pos c2] at H
    have c2b0 := decide_eq_true c2
    clear c2
    obtain ⟨ji3, hji3⟩ : ∃ j_ : Int, (wrap64 (x3_1 - 1)) = j_ := ⟨_, rfl⟩
    replace H : (if 0 ≤ (ji3) then (if (ji3) < (l0.length : Int) then (if 0 ≤ x3_1 then (if (rd l0 (ji3)) ≥ (rd l0 x3_1) then (some false) else (laws_fRises.l0 k1 l0 (wrap64 (x3_1 + 1)))) else (none)) else (none)) else (none)) = some r := by first | (rw [hji3] at H; exact H) | (simp only [hji3] at H ⊢; exact H)
    have hji3w : (IntKind.i64.wrap (x3_1 - 1)) = ji3 := (i64_w _).trans hji3
    by_cases c4 : 0 ≤ (ji3)
    ·rw [if_pos c4] at H
     have c4b0 := decide_eq_true c4
     clear c4
     by_cases c5 : (ji3) < (l0.length : Int)
     ·rw [if_pos c5] at H
      have c5b0 := decide_eq_true c5
      clear c5
      by_cases c6 : 0 ≤ x3_1
      ·rw [if_pos c6] at H
       have c6b0 := decide_eq_true c6
       clear c6
       by_cases c7 : (rd l0 (ji3)) ≥ (rd l0 x3_1)
       ·rw [if_pos c7] at H
        have c7b0 := decide_eq_true c7
        clear c7
        obtain rfl := Option.some.inj H
        have p103 : 0 ≤ ((ji3) : Int) := of_decide_eq_true asz_
        have q103 : (ji3) < (l0.length : Int) := of_decide_eq_true asz_
        obtain ⟨ad103, e103, hx103_0⟩ := Kd.at_int HR0.out (ji3) p103 q103
        cases e103
        replace p103 := eq_true p103
        replace q103 := eq_true q103
        have p104 : 0 ≤ (x3_1 : Int) := of_decide_eq_true asz_
        have q104 : x3_1 < (l0.length : Int) := of_decide_eq_true asz_
        obtain ⟨ad104, e104, hx104_0⟩ := Kd.at_int HR0.out x3_1 p104 q104
        obtain rfl : ad103 = ad104 := (by injection e104)
        replace p104 := eq_true p104
        replace q104 := eq_true q104
        go_wp2
        repeat (go_quiet (fail); try go_wp2)
        go_ret
        exact ⟨by first | rfl | (simp; done) | (simp only [← hji3] <;> (first | rfl | simp)) | (simp [*]; done), w74_⟩
       ·rw [if_neg c7] at H
        have c7b0 := decide_eq_false c7
        clear c7
        have H' := Az_ H
        clear H
        have p103 : 0 ≤ ((ji3) : Int) := of_decide_eq_true asz_
        have q103 : (ji3) < (l0.length : Int) := of_decide_eq_true asz_
        obtain ⟨ad103, e103, hx103_0⟩ := Kd.at_int HR0.out (ji3) p103 q103
        cases e103
        replace p103 := eq_true p103
        replace q103 := eq_true q103
        have p104 : 0 ≤ (x3_1 : Int) := of_decide_eq_true asz_
        have q104 : x3_1 < (l0.length : Int) := of_decide_eq_true asz_
        obtain ⟨ad104, e104, hx104_0⟩ := Kd.at_int HR0.out x3_1 p104 q104
        obtain rfl : ad103 = ad104 := (by injection e104)
        replace p104 := eq_true p104
        replace q104 := eq_true q104
        go_wp2
        repeat (go_quiet (fail); try go_wp2)
        go_roundg k1
        case measure => have := HK1.out; omega
        case rel => exact ⟨(wrap64 (x3_1 + 1)), qaz_, H', ⟨w83_⟩, w74_⟩
      ·rw [if_neg c6] at H
       exact absurd H (by simp)
     ·rw [if_neg c5] at H
      exact absurd H (by simp)
    ·rw [if_neg c4] at H
     exact absurd H (by simp)
   ·rw [if_neg c2] at H
    have c2b0 := decide_eq_false c2
    clear c2
    obtain rfl := Option.some.inj H
    go_wp2
    go_ret
    exact ⟨w77_, w74_⟩

end Go.Proofs.YtppbpefehpbejaaGreatDoor.P
end

section
namespace Go.Proofs.YtppbpefehpbejaaGreatDoor.P
open Go.RowKit Go.Proofs.YtppbpefehpbejaaGreatDoorW.PrintWords Go.Proofs.YtppbpefehpbejaaGreatDoorW.PrintLast Go.Proofs.YtppbpefehpbejaaGreatDoorW.PrintMore
attribute [local go_sem] max2_int min2_int max_two min_two max_three min_three max_four min_four   -- for this text's walks alone
set_option linter.unusedVariables false
set_option linter.unusedSimpArgs false

def IsS99 (w0 W : World) (g : Nat) (f0 : List Int) (f1 : Int) (f2 : Int) : Prop := ∃ A0 c0, W.heap[g]? = some (.cells #[.slice A0 f0.length c0, .int .i64 f1, .int .u64 f2] 99 (0, 0)) ∧ w0.heap.size ≤ g ∧ Kd.C (Kd.int .u8) w0 A0 f0.length f0
theorem IsS99.grown {w0 W : World} {g : Nat} {f0 : List Int} {f1 : Int} {f2 : Int} {W1 : World} {row : Option Nat} (h : IsS99 w0 W g f0 f1 f2) (hw : W.grownBy W1 row) (hne : some g ≠ row) : IsS99 w0 W1 g f0 f1 f2 := by
  obtain ⟨A0, c0, hb, hg, hr0⟩ := h
  exact ⟨A0, c0, blk_grown hb hw hne, hg, hr0⟩
theorem IsS99.fresh {w0 W : World} {g : Nat} {f0 : List Int} {f1 : Int} {f2 : Int} (h : IsS99 w0 W g f0 f1 f2) : ∀ k, W.heap.size ≤ k → k ≠ g := by
  obtain ⟨A0, c0, hb, hg, hr0⟩ := h
  exact Kd.freshB hb
theorem IsS99.kept {w0 W : World} {g : Nat} {f0 : List Int} {f1 : Int} {f2 : Int} {W1 : World} {S : Nat → Prop} (h : IsS99 w0 W g f0 f1 f2) (hk : Kept W W1 S) (hne : ¬ S g) : IsS99 w0 W1 g f0 f1 f2 := by
  obtain ⟨A0, c0, hb, hg, hr0⟩ := h
  exact ⟨A0, c0, blk_kept hb hk hne, hg, hr0⟩
theorem IsS99.below {w0 W : World} {g : Nat} {f0 : List Int} {f1 : Int} {f2 : Int} {W1 : World} (h : IsS99 w0 W g f0 f1 f2) (hw : Below W.heap.size W W1) : IsS99 w0 W1 g f0 f1 f2 := h.grown (grown_of_below hw none) (by simp)
theorem IsS99.alloc {w0 W : World} {g : Nat} {f0 : List Int} {f1 : Int} {f2 : Int} (h : IsS99 w0 W g f0 f1 f2) (o : Obj) : IsS99 w0 (W.alloc o) g f0 f1 f2 := h.below (below_alloc (Below.refl _ _) o)
theorem IsS99.drewN {w0 W : World} {g : Nat} {f0 : List Int} {f1 : Int} {f2 : Int} (h : IsS99 w0 W g f0 f1 f2) (m : Nat) : IsS99 w0 (W.drewN m) g f0 f1 f2 := h
theorem IsS99.drew {w0 W : World} {g : Nat} {f0 : List Int} {f1 : Int} {f2 : Int} (h : IsS99 w0 W g f0 f1 f2) : IsS99 w0 W.drew g f0 f1 f2 := h
theorem IsS99.at_ {w0 W : World} {g : Nat} {f0 : List Int} {f1 : Int} {f2 : Int} {w' : World} {m : Nat} (hq : W.drewN m = w') (h : IsS99 w0 W g f0 f1 f2) : IsS99 w0 w' g f0 f1 f2 := by subst hq; exact IsS99.drewN h m
theorem IsS99.apart {w0 W : World} {g : Nat} {f0 : List Int} {f1 : Int} {f2 : Int} {α : Type} {d : Kd α} {e : Nat} {base : Nat} {ok : Nat → Prop} {v : Value} {xs : List α} (h : IsS99 w0 W g f0 f1 f2) (ho : d.R e W base ok v xs) (ht : ∀ q, q ∈ e :: d.E → q ≠ 99) : d.R e W base (fun k => ok k ∧ k ≠ g) v xs := by
  obtain ⟨A0, c0, hb, hg, hr0⟩ := h
  exact Kd.R_types ho hb ht
theorem IsS99.own_ne {w0 W : World} {g : Nat} {f0 : List Int} {f1 : Int} {f2 : Int} {α : Type} {d : Kd α} {e : Nat} {base : Nat} {ok : Nat → Prop} {v : Value} {xs : List α} (h : IsS99 w0 W g f0 f1 f2) (ho : d.R e W base ok v xs) (ht : e ≠ 99) : some g ≠ v.ownBlock := by
  obtain ⟨A0, c0, hb, hg, hr0⟩ := h
  exact Kd.R_ne ho hb ht
theorem IsS99.lt {w0 W : World} {g : Nat} {f0 : List Int} {f1 : Int} {f2 : Int} (h : IsS99 w0 W g f0 f1 f2) : g < W.heap.size := by
  obtain ⟨A0, c0, hb, hg, hr0⟩ := h
  exact blk_lt hb
theorem IsS99.ge {w0 W : World} {g : Nat} {f0 : List Int} {f1 : Int} {f2 : Int} (h : IsS99 w0 W g f0 f1 f2) : w0.heap.size ≤ g := by
  obtain ⟨A0, c0, hb, hg, hr0⟩ := h
  exact hg
theorem IsS99.far {w0 W : World} {g : Nat} {f0 : List Int} {f1 : Int} {f2 : Int} {p : Addr} (h : IsS99 w0 W g f0 f1 f2) (hne : g ≠ p.block) (u : Value) : IsS99 w0 (W.setCell p u) g f0 f1 f2 := by
  obtain ⟨A0, c0, hb, hg, hr0⟩ := h
  exact ⟨A0, c0, blk_far hb hne u, hg, hr0⟩
theorem cellS99_0 {W : World} {g : Nat} {A0 : Option Addr} {c0 : Nat} {f0 : List Int} {f1 : Int} {f2 : Int} (h : W.heap[g]? = some (.cells #[.slice A0 f0.length c0, .int .i64 f1, .int .u64 f2] 99 (0, 0))) : W.cell? ⟨g, 0, none⟩ = some (.slice A0 f0.length c0) := (blk_cell h 0).trans rfl
theorem cellS99_1 {W : World} {g : Nat} {A0 : Option Addr} {c0 : Nat} {f0 : List Int} {f1 : Int} {f2 : Int} (h : W.heap[g]? = some (.cells #[.slice A0 f0.length c0, .int .i64 f1, .int .u64 f2] 99 (0, 0))) : W.cell? ⟨g, 1, none⟩ = some (.int .i64 f1) := (blk_cell h 1).trans rfl
theorem IsS99.set_1 {w0 W : World} {g : Nat} {f0 : List Int} {f1 : Int} {f2 : Int} (h : IsS99 w0 W g f0 f1 f2) (x : Int) : IsS99 w0 (W.setCell ⟨g, 1, none⟩ (.int .i64 x)) g f0 x f2 := by
  obtain ⟨A0, c0, hb, hg, hr0⟩ := h
  exact ⟨A0, c0, by simpa using blk_set hb 1 (.int .i64 x), hg, hr0⟩
theorem cellS99_2 {W : World} {g : Nat} {A0 : Option Addr} {c0 : Nat} {f0 : List Int} {f1 : Int} {f2 : Int} (h : W.heap[g]? = some (.cells #[.slice A0 f0.length c0, .int .i64 f1, .int .u64 f2] 99 (0, 0))) : W.cell? ⟨g, 2, none⟩ = some (.int .u64 f2) := (blk_cell h 2).trans rfl
theorem IsS99.set_2 {w0 W : World} {g : Nat} {f0 : List Int} {f1 : Int} {f2 : Int} (h : IsS99 w0 W g f0 f1 f2) (x : Int) : IsS99 w0 (W.setCell ⟨g, 2, none⟩ (.int .u64 x)) g f0 f1 x := by
  obtain ⟨A0, c0, hb, hg, hr0⟩ := h
  exact ⟨A0, c0, by simpa using blk_set hb 2 (.int .u64 x), hg, hr0⟩
def spec_l1Cur_next.f (s0_0 : List Int) (s0_1 : Int) (s0_2 : Int) : Option (Int × Int × Int) := if s0_1 < (s0_0.length : Int) then (if 0 ≤ s0_1 then (if (wrap64 (s0_1 + 1)) ≤ (s0_0.length : Int) then (some (wrap64 (rd s0_0 s0_1), wrap64 (s0_1 + 1), IntKind.u64.wrap ((IntKind.u64.wrap ((IntKind.u64.wrap (s0_2 * 6364136223846793005)) + (IntKind.u64.wrap (wrap64 (rd s0_0 s0_1))))) + 1442695040888963407))) else (some (wrap64 (Go.bits .and .u64 ((IntKind.u64.wrap ((IntKind.u64.wrap ((IntKind.u64.wrap (s0_2 * 6364136223846793005)) + (IntKind.u64.wrap (wrap64 (rd s0_0 s0_1))))) + 1442695040888963407)) / 1099511627776) 255), wrap64 (s0_1 + 1), IntKind.u64.wrap ((IntKind.u64.wrap ((IntKind.u64.wrap (s0_2 * 6364136223846793005)) + (IntKind.u64.wrap (wrap64 (rd s0_0 s0_1))))) + 1442695040888963407)))) else (none)) else (if (wrap64 (s0_1 + 1)) ≤ (s0_0.length : Int) then (some (0, wrap64 (s0_1 + 1), IntKind.u64.wrap ((IntKind.u64.wrap ((IntKind.u64.wrap (s0_2 * 6364136223846793005)) + 0)) + 1442695040888963407))) else (some (wrap64 (Go.bits .and .u64 ((IntKind.u64.wrap ((IntKind.u64.wrap ((IntKind.u64.wrap (s0_2 * 6364136223846793005)) + 0)) + 1442695040888963407)) / 1099511627776) 255), wrap64 (s0_1 + 1), IntKind.u64.wrap ((IntKind.u64.wrap ((IntKind.u64.wrap (s0_2 * 6364136223846793005)) + 0)) + 1442695040888963407))))
set_option maxHeartbeats 8000000 in
set_option maxRecDepth 100000 in
theorem spec_l1Cur_next.calls (g : Nat) (s0_0 : List Int) (s0_1 : Int) (s0_2 : Int) (r1 : Int) (r2 : Int) (r3 : Int) (w0 w : World) (hI : IsS99 w0 w g s0_0 s0_1 s0_2) (hB : Below w0.heap.size w0 w) (h : spec_l1Cur_next.f s0_0 s0_1 s0_2 = some (r1, r2, r3)) :
  Calls Tryz.prog 173 #[.pointer (some ⟨g, 0, none⟩)] w fun e w' => e = .returned (.int .i64 r1) ∧ IsS99 w0 w' g s0_0 r2 r3 ∧ Below w0.heap.size w0 w' ∧ KeepBut w w' g none := by
 have HI0 := Az_ hI
 have HK := Az_ (KeepBut.refl w g none)
 have HL := Az_ hB.size
 clear hI
 have HW0 := Az_ hB.size
 have HB := Az_ hB
 clear hB
 have H : (if s0_1 < (s0_0.length : Int) then (if 0 ≤ s0_1 then (if (wrap64 (s0_1 + 1)) ≤ (s0_0.length : Int) then (some (wrap64 (rd s0_0 s0_1), wrap64 (s0_1 + 1), IntKind.u64.wrap ((IntKind.u64.wrap ((IntKind.u64.wrap (s0_2 * 6364136223846793005)) + (IntKind.u64.wrap (wrap64 (rd s0_0 s0_1))))) + 1442695040888963407))) else (some (wrap64 (Go.bits .and .u64 ((IntKind.u64.wrap ((IntKind.u64.wrap ((IntKind.u64.wrap (s0_2 * 6364136223846793005)) + (IntKind.u64.wrap (wrap64 (rd s0_0 s0_1))))) + 1442695040888963407)) / 1099511627776) 255), wrap64 (s0_1 + 1), IntKind.u64.wrap ((IntKind.u64.wrap ((IntKind.u64.wrap (s0_2 * 6364136223846793005)) + (IntKind.u64.wrap (wrap64 (rd s0_0 s0_1))))) + 1442695040888963407)))) else (none)) else (if (wrap64 (s0_1 + 1)) ≤ (s0_0.length : Int) then (some (0, wrap64 (s0_1 + 1), IntKind.u64.wrap ((IntKind.u64.wrap ((IntKind.u64.wrap (s0_2 * 6364136223846793005)) + 0)) + 1442695040888963407))) else (some (wrap64 (Go.bits .and .u64 ((IntKind.u64.wrap ((IntKind.u64.wrap ((IntKind.u64.wrap (s0_2 * 6364136223846793005)) + 0)) + 1442695040888963407)) / 1099511627776) 255), wrap64 (s0_1 + 1), IntKind.u64.wrap ((IntKind.u64.wrap ((IntKind.u64.wrap (s0_2 * 6364136223846793005)) + 0)) + 1442695040888963407))))) = some (r1, r2, r3) := h
 clear h
 by_cases c2 : s0_1 < (s0_0.length : Int)
 ·rw [if_pos c2] at H
  have c2b0 := decide_eq_true c2
  clear c2
  by_cases c3 : 0 ≤ s0_1
  ·rw [if_pos c3] at H
   have c3b0 := decide_eq_true c3
   clear c3
   by_cases c4 : (wrap64 (s0_1 + 1)) ≤ (s0_0.length : Int)
   ·rw [if_pos c4] at H
    have c4b0 := decide_eq_true c4
    clear c4
    simp only [Option.some.injEq, Prod.mk.injEq] at H
    obtain ⟨rfl, rfl, rfl⟩ := H
    obtain ⟨ASz5_0, cSz5_0, HGz5, hgz5, HSz5_0⟩ := HI0.out
    have hcz5_0 := cellS99_0 HGz5
    have hcz5_1 := cellS99_1 HGz5
    have hcz5_2 := cellS99_2 HGz5
    have hfz5_1 := blk_frozen HGz5 1
    have hfz5_2 := blk_frozen HGz5 2
    clear HGz5 hgz5
    have p105 : 0 ≤ (s0_1 : Int) := of_decide_eq_true asz_
    have q105 : s0_1 < (s0_0.length : Int) := of_decide_eq_true asz_
    obtain ⟨ad105, e105, hx105_0⟩ := Kd.at_int HSz5_0 s0_1 p105 q105
    cases e105
    replace hx105_0 := pw_cell_below HB.out hx105_0
    replace p105 := eq_true p105
    replace q105 := eq_true q105
    go_enter Tryz.func173, Tryz.ntmps173
    go_wp2
    repeat (go_quiet (fail); try go_wp2)
    go_ret
    (try simp only [Int.add_zero])
    exact ⟨w61_, w30_, w39_, w33_⟩
   ·rw [if_neg c4] at H
    have c4b0 := decide_eq_false c4
    clear c4
    simp only [Option.some.injEq, Prod.mk.injEq] at H
    obtain ⟨rfl, rfl, rfl⟩ := H
    obtain ⟨ASz6_0, cSz6_0, HGz6, hgz6, HSz6_0⟩ := HI0.out
    have hcz6_0 := cellS99_0 HGz6
    have hcz6_1 := cellS99_1 HGz6
    have hcz6_2 := cellS99_2 HGz6
    have hfz6_1 := blk_frozen HGz6 1
    have hfz6_2 := blk_frozen HGz6 2
    clear HGz6 hgz6
    have p105 : 0 ≤ (s0_1 : Int) := of_decide_eq_true asz_
    have q105 : s0_1 < (s0_0.length : Int) := of_decide_eq_true asz_
    obtain ⟨ad105, e105, hx105_0⟩ := Kd.at_int HSz6_0 s0_1 p105 q105
    cases e105
    replace hx105_0 := pw_cell_below HB.out hx105_0
    replace p105 := eq_true p105
    replace q105 := eq_true q105
    go_enter Tryz.func173, Tryz.ntmps173
    go_wp2
    repeat (go_quiet (fail); try go_wp2)
    go_ret
    (try simp only [Int.add_zero])
    exact ⟨w61_, w30_, w39_, w33_⟩
  ·rw [if_neg c3] at H
   exact absurd H (by simp)
 ·rw [if_neg c2] at H
  have c2b0 := decide_eq_false c2
  clear c2
  by_cases c7 : (wrap64 (s0_1 + 1)) ≤ (s0_0.length : Int)
  ·rw [if_pos c7] at H
   have c7b0 := decide_eq_true c7
   clear c7
   simp only [Option.some.injEq, Prod.mk.injEq] at H
   obtain ⟨rfl, rfl, rfl⟩ := H
   obtain ⟨ASz8_0, cSz8_0, HGz8, hgz8, HSz8_0⟩ := HI0.out
   have hcz8_0 := cellS99_0 HGz8
   have hcz8_1 := cellS99_1 HGz8
   have hcz8_2 := cellS99_2 HGz8
   have hfz8_1 := blk_frozen HGz8 1
   have hfz8_2 := blk_frozen HGz8 2
   clear HGz8 hgz8
   go_enter Tryz.func173, Tryz.ntmps173
   go_wp2
   repeat (go_quiet (fail); try go_wp2)
   go_ret
   (try simp only [Int.add_zero])
   exact ⟨w61_, w30_, w39_, w33_⟩
  ·rw [if_neg c7] at H
   have c7b0 := decide_eq_false c7
   clear c7
   simp only [Option.some.injEq, Prod.mk.injEq] at H
   obtain ⟨rfl, rfl, rfl⟩ := H
   obtain ⟨ASz9_0, cSz9_0, HGz9, hgz9, HSz9_0⟩ := HI0.out
   have hcz9_0 := cellS99_0 HGz9
   have hcz9_1 := cellS99_1 HGz9
   have hcz9_2 := cellS99_2 HGz9
   have hfz9_1 := blk_frozen HGz9 1
   have hfz9_2 := blk_frozen HGz9 2
   clear HGz9 hgz9
   go_enter Tryz.func173, Tryz.ntmps173
   go_wp2
   repeat (go_quiet (fail); try go_wp2)
   go_ret
   (try simp only [Int.add_zero])
   exact ⟨w61_, w30_, w39_, w33_⟩

def spec_l1Cur_pick.f (s0_0 : List Int) (s0_1 : Int) (s0_2 : Int) (a1 : Int) : Option (Int × Int × Int) := if a1 ≤ 1 then (some (0, s0_1, s0_2)) else ((spec_l1Cur_next.f s0_0 s0_1 s0_2).bind fun bt106 => (if a1 > 200 then ((spec_l1Cur_next.f s0_0 bt106.2.1 bt106.2.2).bind fun bt109 => (if a1 = 0 then (none) else (some (Int.tmod (wrap64 ((wrap64 (bt106.1 * 256)) + bt109.1)) a1, bt109.2.1, bt109.2.2)))) else (if a1 = 0 then (none) else (some (Int.tmod bt106.1 a1, bt106.2.1, bt106.2.2)))))
set_option maxHeartbeats 8000000 in
set_option maxRecDepth 100000 in
theorem spec_l1Cur_pick.calls (g : Nat) (s0_0 : List Int) (s0_1 : Int) (s0_2 : Int) (a1 : Int) (r1 : Int) (r2 : Int) (r3 : Int) (w0 w : World) (hI : IsS99 w0 w g s0_0 s0_1 s0_2) (hB : Below w0.heap.size w0 w) (h : spec_l1Cur_pick.f s0_0 s0_1 s0_2 a1 = some (r1, r2, r3)) :
  Calls Tryz.prog 126 #[.pointer (some ⟨g, 0, none⟩), .int .i64 a1] w fun e w' => e = .returned (.int .i64 r1) ∧ IsS99 w0 w' g s0_0 r2 r3 ∧ Below w0.heap.size w0 w' ∧ KeepBut w w' g none := by
 have HI0 := Az_ hI
 have HK := Az_ (KeepBut.refl w g none)
 have HL := Az_ hB.size
 clear hI
 have HW0 := Az_ hB.size
 have HB := Az_ hB
 clear hB
 have H : (if a1 ≤ 1 then (some (0, s0_1, s0_2)) else ((spec_l1Cur_next.f s0_0 s0_1 s0_2).bind fun bt106 => (if a1 > 200 then ((spec_l1Cur_next.f s0_0 bt106.2.1 bt106.2.2).bind fun bt109 => (if a1 = 0 then (none) else (some (Int.tmod (wrap64 ((wrap64 (bt106.1 * 256)) + bt109.1)) a1, bt109.2.1, bt109.2.2)))) else (if a1 = 0 then (none) else (some (Int.tmod bt106.1 a1, bt106.2.1, bt106.2.2)))))) = some (r1, r2, r3) := h
 clear h
 by_cases c3 : a1 ≤ 1
 ·rw [if_pos c3] at H
  have c3b0 := decide_eq_true c3
  clear c3
  simp only [Option.some.injEq, Prod.mk.injEq] at H
  obtain ⟨rfl, rfl, rfl⟩ := H
  go_enter Tryz.func126, Tryz.ntmps126
  go_wp2
  go_ret
  exact ⟨w61_, w30_, w39_, w33_⟩
 ·rw [if_neg c3] at H
  have c3b0 := decide_eq_false c3
  clear c3
  replace H := bqz_ H; obtain ⟨⟨t106, t107, t108⟩, A4, H⟩ := H
  replace H : (if a1 > 200 then ((spec_l1Cur_next.f s0_0 t107 t108).bind fun bt109 => (if a1 = 0 then (none) else (some (Int.tmod (wrap64 ((wrap64 (t106 * 256)) + bt109.1)) a1, bt109.2.1, bt109.2.2)))) else (if a1 = 0 then (none) else (some (Int.tmod t106 a1, t107, t108)))) = some (r1, r2, r3) := H
  by_cases c5 : a1 > 200
  ·rw [if_pos c5] at H
   have c5b0 := decide_eq_true c5
   clear c5
   replace H := bqz_ H; obtain ⟨⟨t109, t110, t111⟩, A6, H⟩ := H
   replace H : (if a1 = 0 then (none) else (some (Int.tmod (wrap64 ((wrap64 (t106 * 256)) + t109)) a1, t110, t111))) = some (r1, r2, r3) := H
   by_cases c7 : a1 = 0
   ·rw [if_pos c7] at H
    exact absurd H (by simp)
   ·rw [if_neg c7] at H
    have c7b0 : (a1 == 0) = false := beq_eq_false_iff_ne.mpr c7
    have c7b1 : (a1 != 0) = true := bne_iff_ne.mpr c7
    simp only [Option.some.injEq, Prod.mk.injEq] at H
    obtain ⟨rfl, rfl, rfl⟩ := H
    go_enter Tryz.func126, Tryz.ntmps126
    go_wp2_with (first | ((with_reducible refine gate_callee (f := 173) rfl ?_); refine goesL_ (some 9) rfl rfl Tryz.func173 (w110_) rfl #[.pointer (some ⟨g, 0, none⟩)] rfl maz_ ?_; (with_reducible refine (spec_l1Cur_next.calls g s0_0 s0_1 s0_2 t106 t107 t108 w0 _ ?side1 ?side2 A4.out).mono ?_); (case side1 => repeat (first | (with_reducible first | exact HI0.out | apply IsS99.alloc | apply IsS99.drewN | apply IsS99.drew | apply IsS99.set_1 | apply IsS99.set_2) | exact HI0.out)); (case side2 => repeat (first | (with_reducible first | exact HB.out | apply baz_ | apply bnz_ | apply bdz_ | refine bsz_ ?_ (IsS99.ge HI0.out)) | exact HB.out)); rintro e w8 ⟨rfl, hi, hb, hk⟩; refine ⟨_, rfl, ?_⟩; replace HK := Az_ (KeepBut.trans (w33_) hk (.inl rfl)); replace HB := Az_ (hb); replace HI0 := Az_ (hi); (try clear hb); (try clear hk); (try clear hi)) | ((with_reducible refine gate_callee (f := 173) rfl ?_); refine goesL_ (some 15) rfl rfl Tryz.func173 (w110_) rfl #[.pointer (some ⟨g, 0, none⟩)] rfl maz_ ?_; (with_reducible refine (spec_l1Cur_next.calls g s0_0 t107 t108 t109 t110 t111 w0 _ ?side1 ?side2 A6.out).mono ?_); (case side1 => repeat (first | (with_reducible first | exact HI0.out | apply IsS99.alloc | apply IsS99.drewN | apply IsS99.drew | apply IsS99.set_1 | apply IsS99.set_2) | exact HI0.out)); (case side2 => repeat (first | (with_reducible first | exact HB.out | apply baz_ | apply bnz_ | apply bdz_ | refine bsz_ ?_ (IsS99.ge HI0.out)) | exact HB.out)); rintro e w9 ⟨rfl, hi, hb, hk⟩; refine ⟨_, rfl, ?_⟩; replace HK := Az_ (KeepBut.trans (w33_) hk (.inl rfl)); replace HB := Az_ (hb); replace HI0 := Az_ (hi); (try clear hb); (try clear hk); (try clear hi)))
    go_ret
    exact ⟨w61_, w30_, w39_, w33_⟩
  ·rw [if_neg c5] at H
   have c5b0 := decide_eq_false c5
   clear c5
   by_cases c10 : a1 = 0
   ·rw [if_pos c10] at H
    exact absurd H (by simp)
   ·rw [if_neg c10] at H
    have c10b0 : (a1 == 0) = false := beq_eq_false_iff_ne.mpr c10
    have c10b1 : (a1 != 0) = true := bne_iff_ne.mpr c10
    simp only [Option.some.injEq, Prod.mk.injEq] at H
    obtain ⟨rfl, rfl, rfl⟩ := H
    go_enter Tryz.func126, Tryz.ntmps126
    go_wp2_with (first | ((with_reducible refine gate_callee (f := 173) rfl ?_); refine goesL_ (some 9) rfl rfl Tryz.func173 (w110_) rfl #[.pointer (some ⟨g, 0, none⟩)] rfl maz_ ?_; (with_reducible refine (spec_l1Cur_next.calls g s0_0 s0_1 s0_2 t106 t107 t108 w0 _ ?side1 ?side2 A4.out).mono ?_); (case side1 => repeat (first | (with_reducible first | exact HI0.out | apply IsS99.alloc | apply IsS99.drewN | apply IsS99.drew | apply IsS99.set_1 | apply IsS99.set_2) | exact HI0.out)); (case side2 => repeat (first | (with_reducible first | exact HB.out | apply baz_ | apply bnz_ | apply bdz_ | refine bsz_ ?_ (IsS99.ge HI0.out)) | exact HB.out)); rintro e w11 ⟨rfl, hi, hb, hk⟩; refine ⟨_, rfl, ?_⟩; replace HK := Az_ (KeepBut.trans (w33_) hk (.inl rfl)); replace HB := Az_ (hb); replace HI0 := Az_ (hi); (try clear hb); (try clear hk); (try clear hi)))
    go_ret
    exact ⟨w61_, w30_, w39_, w33_⟩

def spec_l1Cur_among.f (s0_0 : List Int) (s0_1 : Int) (s0_2 : Int) (l1 : List Int) : Option (Int × Int × Int) := (spec_l1Cur_pick.f s0_0 s0_1 s0_2 (l1.length : Int)).bind fun bt112 => (if 0 ≤ bt112.1 then (if bt112.1 < (l1.length : Int) then (some (rd l1 bt112.1, bt112.2.1, bt112.2.2)) else (none)) else (none))
set_option maxHeartbeats 8000000 in
set_option maxRecDepth 100000 in
theorem spec_l1Cur_among.calls (g : Nat) (s0_0 : List Int) (s0_1 : Int) (s0_2 : Int) (A1 : Option Addr) (c1 : Nat) (l1 : List Int) (r1 : Int) (r2 : Int) (r3 : Int) (w0 w : World) (hI : IsS99 w0 w g s0_0 s0_1 s0_2) (hB : Below w0.heap.size w0 w) (hr1 : Kd.C (Kd.int .i64) w A1 l1.length l1) (hc1 : l1.length ≤ c1) (hf1 : ∀ ad, A1 = some ad → 0 < l1.length → ad.block ≠ g) (h : spec_l1Cur_among.f s0_0 s0_1 s0_2 l1 = some (r1, r2, r3)) :
  Calls Tryz.prog 127 #[.pointer (some ⟨g, 0, none⟩), .slice A1 l1.length c1] w fun e w' => e = .returned (.int .i64 r1) ∧ IsS99 w0 w' g s0_0 r2 r3 ∧ Below w0.heap.size w0 w' ∧ KeepBut w w' g none := by
 have HR1 := Az_ hr1
 have HC1 := Az_ hc1
 clear hr1 hc1
 have HI0 := Az_ hI
 have HK := Az_ (KeepBut.refl w g none)
 have HL := Az_ hB.size
 clear hI
 have HW0 := Az_ hB.size
 have HB := Az_ hB
 clear hB
 have H : ((spec_l1Cur_pick.f s0_0 s0_1 s0_2 (l1.length : Int)).bind fun bt112 => (if 0 ≤ bt112.1 then (if bt112.1 < (l1.length : Int) then (some (rd l1 bt112.1, bt112.2.1, bt112.2.2)) else (none)) else (none))) = some (r1, r2, r3) := h
 clear h
 replace H := bqz_ H; obtain ⟨⟨t112, t113, t114⟩, A3, H⟩ := H
 replace H : (if 0 ≤ t112 then (if t112 < (l1.length : Int) then (some (rd l1 t112, t113, t114)) else (none)) else (none)) = some (r1, r2, r3) := H
 by_cases c4 : 0 ≤ t112
 ·rw [if_pos c4] at H
  have c4b0 := decide_eq_true c4
  clear c4
  by_cases c5 : t112 < (l1.length : Int)
  ·rw [if_pos c5] at H
   have c5b0 := decide_eq_true c5
   clear c5
   simp only [Option.some.injEq, Prod.mk.injEq] at H
   obtain ⟨rfl, rfl, rfl⟩ := H
   go_enter Tryz.func127, Tryz.ntmps127
   go_wp2_with (first | ((with_reducible refine gate_callee (f := 126) rfl ?_); refine goesL_ (some 9) rfl rfl Tryz.func126 (w110_) rfl #[.pointer (some ⟨g, 0, none⟩), .int .i64 (l1.length : Int)] rfl maz_ ?_; (with_reducible refine (spec_l1Cur_pick.calls g s0_0 s0_1 s0_2 (l1.length : Int) t112 t113 t114 w0 _ ?side1 ?side2 A3.out).mono ?_); (case side1 => repeat (first | (with_reducible first | exact HI0.out | apply IsS99.alloc | apply IsS99.drewN | apply IsS99.drew | apply IsS99.set_1 | apply IsS99.set_2) | exact HI0.out)); (case side2 => repeat (first | (with_reducible first | exact HB.out | apply baz_ | apply bnz_ | apply bdz_ | refine bsz_ ?_ (IsS99.ge HI0.out)) | exact HB.out)); rintro e w6 ⟨rfl, hi, hb, hk⟩; refine ⟨_, rfl, ?_⟩; replace HK := Az_ (KeepBut.trans (w33_) hk (.inl rfl)); replace HB := Az_ (hb); replace HI0 := Az_ (hi); (try clear hb); (try clear hk); (try clear hi); have p115 : 0 ≤ (t112 : Int) := of_decide_eq_true asz_; have q115 : t112 < (l1.length : Int) := of_decide_eq_true asz_; obtain ⟨ad115, e115, hx115_0⟩ := Kd.at_int HR1.out t112 p115 q115; cases e115; replace hx115_0 := keep_cell HK.out hx115_0 (by first | (rw [add_block]; exact hf1 _ rfl (by omega)) | exact hf1 _ rfl (by omega) | exact hf1 ad115 rfl (by omega)); replace p115 := eq_true p115; replace q115 := eq_true q115))
   go_ret
   exact ⟨w61_, w30_, w39_, w33_⟩
  ·rw [if_neg c5] at H
   exact absurd H (by simp)
 ·rw [if_neg c4] at H
  exact absurd H (by simp)

def spec_l1Cur_sureRanges.l0 : Nat → List (S69) → Int → Int → List Int → Int → Int → Option ((List (S69)) × Int × Int)
 | 0, _, _, _, _, _, _ => none
 | k + 1, x3, x4, x5, x1000, x1001, x1002 => if x5 > 0 then ((spec_l1Cur_pick.f x1000 x1001 x1002 8).bind fun bt125 => ((spec_l1Cur_among.f x1000 bt125.2.1 bt125.2.2 (([0, 0, 1, 2, 5, 12] : List Int))).bind fun bt131 => (if x3.length < 8796093022208 then (spec_l1Cur_sureRanges.l0 k (x3 ++ [(⟨wrap64 (x4 + (wrap64 (1 + bt125.1))), wrap64 ((wrap64 (x4 + (wrap64 (1 + bt125.1)))) + bt131.1)⟩ : S69)]) (wrap64 ((wrap64 ((wrap64 (x4 + (wrap64 (1 + bt125.1)))) + bt131.1)) + 1)) (wrap64 (x5 - 1)) x1000 bt131.2.1 bt131.2.2) else (none)))) else (some (x3, x1001, x1002))
def spec_l1Cur_sureRanges.f (k : Nat) (s0_0 : List Int) (s0_1 : Int) (s0_2 : Int) : Option ((List (S69)) × Int × Int) := (spec_l1Cur_among.f s0_0 s0_1 s0_2 (([0, 0, 8, 95, 118, 995] : List Int))).bind fun bt119 => ((spec_l1Cur_pick.f s0_0 bt119.2.1 bt119.2.2 6).bind fun bt122 => (spec_l1Cur_sureRanges.l0 k ([] : List (S69)) bt119.1 bt122.1 s0_0 bt122.2.1 bt122.2.2))
set_option maxHeartbeats 8000000 in
set_option maxRecDepth 100000 in
theorem spec_l1Cur_sureRanges.calls (k : Nat) (g : Nat) (s0_0 : List Int) (s0_1 : Int) (s0_2 : Int) (r1 : List (S69)) (r2 : Int) (r3 : Int) (w0 w : World) (hI : IsS99 w0 w g s0_0 s0_1 s0_2) (hB : Below w0.heap.size w0 w) (h : spec_l1Cur_sureRanges.f k s0_0 s0_1 s0_2 = some (r1, r2, r3)) :
  Calls Tryz.prog 140 #[.pointer (some ⟨g, 0, none⟩)] w fun e w' => ∃ v0_ : Value, e = .returned (v0_) ∧ Kd.R k69 69 w' w.heap.size (fun _ => True) v0_ r1 ∧ IsS99 w0 w' g s0_0 r2 r3 ∧ Below w0.heap.size w0 w' ∧ KeepBut w w' g none := by
 have hu69 := Tryz.underlying69
 have HI0 := Az_ hI
 have HK := Az_ (KeepBut.refl w g none)
 have HL := Az_ hB.size
 clear hI
 have HW0 := Az_ hB.size
 have HB := Az_ hB
 clear hB
 have H : ((spec_l1Cur_among.f s0_0 s0_1 s0_2 (([0, 0, 8, 95, 118, 995] : List Int))).bind fun bt119 => ((spec_l1Cur_pick.f s0_0 bt119.2.1 bt119.2.2 6).bind fun bt122 => (spec_l1Cur_sureRanges.l0 k ([] : List (S69)) bt119.1 bt122.1 s0_0 bt122.2.1 bt122.2.2))) = some (r1, r2, r3) := h
 clear h
 obtain ⟨y116, hy116⟩ : ∃ y_ : List Int, y_ = (([0, 0, 8, 95, 118, 995] : List Int)) := ⟨_, rfl⟩
 replace H : ((spec_l1Cur_among.f s0_0 s0_1 s0_2 y116).bind fun bt119 => ((spec_l1Cur_pick.f s0_0 bt119.2.1 bt119.2.2 6).bind fun bt122 => (spec_l1Cur_sureRanges.l0 k ([] : List (S69)) bt119.1 bt122.1 s0_0 bt122.2.1 bt122.2.2))) = some (r1, r2, r3) := by first | (rw [hy116]; with_reducible exact H) | (have H2_ := (Option.bind_some _ _).symm.trans H; rw [hy116]; with_reducible exact H2_) | (have H2_ := (Option.bind_some _ _).symm.trans H; with_reducible exact H2_) | with_reducible exact H | (rw [hy116]; exact H) | exact H
 have Ny116 := Az_ hy116
 clear hy116
 replace H := bqz_ H; obtain ⟨⟨t119, t120, t121⟩, A2, H⟩ := H
 replace H := bqz_ H; obtain ⟨⟨t122, t123, t124⟩, A3, H⟩ := H
 replace H : (spec_l1Cur_sureRanges.l0 k ([] : List (S69)) t119 t122 s0_0 t123 t124) = some (r1, r2, r3) := H
 have H' := Az_ H
 clear H
 go_enter Tryz.func140, Tryz.ntmps140
 go_wp2_with (first | ((with_reducible refine gate_dst (N := 8) rfl ?_); refine Kd.R_lit (Kd.int .i64) _ 3 ?hg (N := 8) ?hd (xs := ([0, 0, 8, 95, 118, 995] : List Int)) (inner := [.int .i64 0, .int .i64 0, .int .i64 8, .int .i64 95, .int .i64 118, .int .i64 995]) (ok := fun _ => True) (okp := fun _ => True) ?hr ?hp (fun _ hk => hk) trivial (Below.refl _ _) (Nat.le_refl _) (by simp) ?_; (case hd => rfl); (case hg => rfl); (case hr => first | (go_simp; done) | (go_simp; rfl)); (case hp => exact (Reps.one (show Kd.M (Kd.int .i64) _ _ _ 0 [.int .i64 0] from rfl) (Reps.one (show Kd.M (Kd.int .i64) _ _ _ 0 [.int .i64 0] from rfl) (Reps.one (show Kd.M (Kd.int .i64) _ _ _ 8 [.int .i64 8] from rfl) (Reps.one (show Kd.M (Kd.int .i64) _ _ _ 95 [.int .i64 95] from rfl) (Reps.one (show Kd.M (Kd.int .i64) _ _ _ 118 [.int .i64 118] from rfl) (Reps.one (show Kd.M (Kd.int .i64) _ _ _ 995 [.int .i64 995] from rfl) (Reps.none _ _)))))))); intro v117 w4 ho5 hb hg_ hnew_; clear hg_ hnew_; (first | rw [← Ny116.out] at ho5 | (simp only [Int.reduceToNat] at ho5; rw [← Ny116.out] at ho5)); have HO118 := Az_ (Kd.R_lower ho5 (keep_size (w := w) (g := g) (row := none) (w33_))); replace HK := Az_ (KeepBut.trans (w33_) (KeepBut.of_below hb g none) (.inl rfl)); replace HB := Az_ (btz_ (w39_) hb); replace HI0 := Az_ (IsS99.below (w30_) hb); clear hb ho5; obtain ⟨Ao6, co6, eo6⟩ := Kd.R_slice HO118.out; subst eo6) | ((with_reducible refine gate_callee (f := 127) rfl ?_); refine goesL_ (some 9) rfl rfl Tryz.func127 (w110_) rfl #[.pointer (some ⟨g, 0, none⟩), .slice Ao6 y116.length co6] rfl maz_ ?_; (with_reducible refine (spec_l1Cur_among.calls g s0_0 s0_1 s0_2 _ _ y116 t119 t120 t121 w0 _ ?side1 ?side2 ?side3 ?side4 ?side5 A2.out).mono ?_); (case side1 => repeat (first | (with_reducible first | exact HI0.out | apply IsS99.alloc | apply IsS99.drewN | apply IsS99.drew | apply IsS99.set_1 | apply IsS99.set_2) | exact HI0.out)); (case side2 => repeat (first | (with_reducible first | exact HB.out | apply baz_ | apply bnz_ | apply bdz_ | refine bsz_ ?_ (IsS99.ge HI0.out)) | exact HB.out)); (case side3 => exact ucz_ ((Kd.R_reads' HO118.out).2.2)); (case side4 => exact (Kd.R_reads' HO118.out).2.1); (case side5 => exact far_slice (IsS99.own_ne HI0.out HO118.out (by decide))); rintro e w7 ⟨rfl, hi, hb, hk⟩; refine ⟨_, rfl, ?_⟩; replace HO118 := Az_ (Kd.R_mono (Kd.R_keep (IsS99.apart (show IsS99 w0 _ g s0_0 s0_1 s0_2 from w30_) (by exact urz_ HO118.out) (by decide)) hk (fun _ h => h.2)) (fun _ h => h.1)); replace HK := Az_ (KeepBut.trans (w33_) hk (.inl rfl)); replace HB := Az_ (hb); replace HI0 := Az_ (hi); (try clear hb); (try clear hk); (try clear hi)) | ((with_reducible refine gate_callee (f := 126) rfl ?_); refine goesL_ (some 11) rfl rfl Tryz.func126 (w110_) rfl #[.pointer (some ⟨g, 0, none⟩), .int .i64 6] rfl maz_ ?_; (with_reducible refine (spec_l1Cur_pick.calls g s0_0 t120 t121 6 t122 t123 t124 w0 _ ?side1 ?side2 A3.out).mono ?_); (case side1 => repeat (first | (with_reducible first | exact HI0.out | apply IsS99.alloc | apply IsS99.drewN | apply IsS99.drew | apply IsS99.set_1 | apply IsS99.set_2) | exact HI0.out)); (case side2 => repeat (first | (with_reducible first | exact HB.out | apply baz_ | apply bnz_ | apply bdz_ | refine bsz_ ?_ (IsS99.ge HI0.out)) | exact HB.out)); rintro e w8 ⟨rfl, hi, hb, hk⟩; refine ⟨_, rfl, ?_⟩; replace HO118 := Az_ (Kd.R_mono (Kd.R_keep (IsS99.apart (show IsS99 w0 _ g s0_0 t120 t121 from w30_) (by exact urz_ HO118.out) (by decide)) hk (fun _ h => h.2)) (fun _ h => h.1)); replace HK := Az_ (KeepBut.trans (w33_) hk (.inl rfl)); replace HB := Az_ (hb); replace HI0 := Az_ (hi); (try clear hb); (try clear hk); (try clear hi)))
 go_loopg [3, 4, 5] k (fun kq v3 v4 v5 w' => ∃ (x3_1 : List (S69)) (x4_1 : Int) (x5_1 : Int) (x1001_1 : Int) (x1002_1 : Int), v4 = .int .i64 x4_1 ∧ v5 = .int .i64 x5_1 ∧ Aside0 (spec_l1Cur_sureRanges.l0 kq x3_1 x4_1 x5_1 s0_0 x1001_1 x1002_1 = some (r1, r2, r3)) ∧ Aside0 (kq ≤ k) ∧ Aside0 (Kd.R k69 69 w' w.heap.size (fun _ => True) v3 x3_1) ∧ Aside0 (IsS99 w0 w' g s0_0 x1001_1 x1002_1) ∧ Aside0 (KeepBut w w' g none) ∧ Aside0 (Below w0.heap.size w0 w'))
 case atStart => exact ⟨(([] : List (S69))), (t119), (t122), (t123), (t124), qaz_, qaz_, H', ⟨Nat.le_refl _⟩, ⟨w41_⟩, ⟨w30_⟩, ⟨w33_⟩, ⟨w39_⟩⟩
 case round =>
  clear H'
  obtain ⟨x3_1, x4_1, x5_1, x1001_1, x1002_1, rfl, rfl, HA, HK1, HO_3, HI0, HK, HB⟩ := hrel
  cases gk with
  | zero => exact absurd HA.out (by simp [spec_l1Cur_sureRanges.l0])
  | succ k1 =>
   have H := HA.out
   clear HA
   simp only [spec_l1Cur_sureRanges.l0] at H
   by_cases c9 : x5_1 > 0
   ·rw [if_pos c9] at H
    have c9b0 := decide_eq_true c9
    clear c9
    replace H := bqz_ H; obtain ⟨⟨t125, t126, t127⟩, A10, H⟩ := H
    replace H : ((spec_l1Cur_among.f s0_0 t126 t127 (([0, 0, 1, 2, 5, 12] : List Int))).bind fun bt131 => (if x3_1.length < 8796093022208 then (spec_l1Cur_sureRanges.l0 k1 (x3_1 ++ [(⟨wrap64 (x4_1 + (wrap64 (1 + t125))), wrap64 ((wrap64 (x4_1 + (wrap64 (1 + t125)))) + bt131.1)⟩ : S69)]) (wrap64 ((wrap64 ((wrap64 (x4_1 + (wrap64 (1 + t125)))) + bt131.1)) + 1)) (wrap64 (x5_1 - 1)) s0_0 bt131.2.1 bt131.2.2) else (none))) = some (r1, r2, r3) := H
    obtain ⟨y128, hy128⟩ : ∃ y_ : List Int, y_ = (([0, 0, 1, 2, 5, 12] : List Int)) := ⟨_, rfl⟩
    replace H : ((spec_l1Cur_among.f s0_0 t126 t127 y128).bind fun bt131 => (if x3_1.length < 8796093022208 then (spec_l1Cur_sureRanges.l0 k1 (x3_1 ++ [(⟨wrap64 (x4_1 + (wrap64 (1 + t125))), wrap64 ((wrap64 (x4_1 + (wrap64 (1 + t125)))) + bt131.1)⟩ : S69)]) (wrap64 ((wrap64 ((wrap64 (x4_1 + (wrap64 (1 + t125)))) + bt131.1)) + 1)) (wrap64 (x5_1 - 1)) s0_0 bt131.2.1 bt131.2.2) else (none))) = some (r1, r2, r3) := by first | (rw [hy128]; with_reducible exact H) | (have H2_ := (Option.bind_some _ _).symm.trans H; rw [hy128]; with_reducible exact H2_) | (have H2_ := (Option.bind_some _ _).symm.trans H; with_reducible exact H2_) | with_reducible exact H | (rw [hy128]; exact H) | exact H
    have Ny128 := Az_ hy128
    clear hy128
    replace H := bqz_ H; obtain ⟨⟨t131, t132, t133⟩, A11, H⟩ := H
    replace H : (if x3_1.length < 8796093022208 then (spec_l1Cur_sureRanges.l0 k1 (x3_1 ++ [(⟨wrap64 (x4_1 + (wrap64 (1 + t125))), wrap64 ((wrap64 (x4_1 + (wrap64 (1 + t125)))) + t131)⟩ : S69)]) (wrap64 ((wrap64 ((wrap64 (x4_1 + (wrap64 (1 + t125)))) + t131)) + 1)) (wrap64 (x5_1 - 1)) s0_0 t132 t133) else (none)) = some (r1, r2, r3) := H
    by_cases c12 : x3_1.length < 8796093022208
    ·rw [if_pos c12] at H
     have LMc12 := Az_ c12
     clear c12
     obtain ⟨y135, hy135⟩ : ∃ y_ : List (S69), y_ = (x3_1 ++ [(⟨wrap64 (x4_1 + (wrap64 (1 + t125))), wrap64 ((wrap64 (x4_1 + (wrap64 (1 + t125)))) + t131)⟩ : S69)]) := ⟨_, rfl⟩
     replace H : (spec_l1Cur_sureRanges.l0 k1 y135 (wrap64 ((wrap64 ((wrap64 (x4_1 + (wrap64 (1 + t125)))) + t131)) + 1)) (wrap64 (x5_1 - 1)) s0_0 t132 t133) = some (r1, r2, r3) := by first | (rw [hy135]; with_reducible exact H) | (have H2_ := (Option.bind_some _ _).symm.trans H; rw [hy135]; with_reducible exact H2_) | (have H2_ := (Option.bind_some _ _).symm.trans H; with_reducible exact H2_) | with_reducible exact H | (rw [hy135]; exact H) | exact H
     have Ny135 := Az_ hy135
     clear hy135
     have H' := Az_ H
     clear H
     go_wp2_with (first | ((with_reducible refine gate_callee (f := 126) rfl ?_); refine goesL_ (some 18) rfl rfl Tryz.func126 (w110_) rfl #[.pointer (some ⟨g, 0, none⟩), .int .i64 8] rfl maz_ ?_; (with_reducible refine (spec_l1Cur_pick.calls g s0_0 x1001_1 x1002_1 8 t125 t126 t127 w0 _ ?side1 ?side2 A10.out).mono ?_); (case side1 => repeat (first | (with_reducible first | exact HI0.out | apply IsS99.alloc | apply IsS99.drewN | apply IsS99.drew | apply IsS99.set_1 | apply IsS99.set_2) | exact HI0.out)); (case side2 => repeat (first | (with_reducible first | exact HB.out | apply baz_ | apply bnz_ | apply bdz_ | refine bsz_ ?_ (IsS99.ge HI0.out)) | exact HB.out)); rintro e w13 ⟨rfl, hi, hb, hk⟩; refine ⟨_, rfl, ?_⟩; replace HO_3 := Az_ (Kd.R_mono (Kd.R_keep (IsS99.apart (show IsS99 w0 _ g s0_0 x1001_1 x1002_1 from w30_) (w104_) (by decide)) hk (fun _ h => h.2)) (fun _ h => h.1)); replace HK := Az_ (KeepBut.trans (w33_) hk (.inl rfl)); replace HB := Az_ (hb); replace HI0 := Az_ (hi); (try clear hb); (try clear hk); (try clear hi)) | ((with_reducible refine gate_dst (N := 24) rfl ?_); refine Kd.R_lit (Kd.int .i64) _ 3 ?hg (N := 24) ?hd (xs := ([0, 0, 1, 2, 5, 12] : List Int)) (inner := [.int .i64 0, .int .i64 0, .int .i64 1, .int .i64 2, .int .i64 5, .int .i64 12]) (ok := fun _ => True) (okp := fun _ => True) ?hr ?hp (fun _ hk => hk) trivial (Below.refl _ _) (Nat.le_refl _) (by simp) ?_; (case hd => rfl); (case hg => rfl); (case hr => first | (go_simp; done) | (go_simp; rfl)); (case hp => exact (Reps.one (show Kd.M (Kd.int .i64) _ _ _ 0 [.int .i64 0] from rfl) (Reps.one (show Kd.M (Kd.int .i64) _ _ _ 0 [.int .i64 0] from rfl) (Reps.one (show Kd.M (Kd.int .i64) _ _ _ 1 [.int .i64 1] from rfl) (Reps.one (show Kd.M (Kd.int .i64) _ _ _ 2 [.int .i64 2] from rfl) (Reps.one (show Kd.M (Kd.int .i64) _ _ _ 5 [.int .i64 5] from rfl) (Reps.one (show Kd.M (Kd.int .i64) _ _ _ 12 [.int .i64 12] from rfl) (Reps.none _ _)))))))); intro v129 w14 ho15 hb hg_ hnew_; clear hg_ hnew_; (first | rw [← Ny128.out] at ho15 | (simp only [Int.reduceToNat] at ho15; rw [← Ny128.out] at ho15)); replace HO_3 := Az_ (Kd.R_below (w104_) hb); have HO130 := Az_ (Kd.R_lower ho15 (keep_size (w := w) (g := g) (row := none) (w33_))); replace HK := Az_ (KeepBut.trans (w33_) (KeepBut.of_below hb g none) (.inl rfl)); replace HB := Az_ (btz_ (w39_) hb); replace HI0 := Az_ (IsS99.below (w30_) hb); clear hb ho15; obtain ⟨Ao16, co16, eo16⟩ := Kd.R_slice HO130.out; subst eo16) | ((with_reducible refine gate_callee (f := 127) rfl ?_); refine goesL_ (some 25) rfl rfl Tryz.func127 (w110_) rfl #[.pointer (some ⟨g, 0, none⟩), .slice Ao16 y128.length co16] rfl maz_ ?_; (with_reducible refine (spec_l1Cur_among.calls g s0_0 t126 t127 _ _ y128 t131 t132 t133 w0 _ ?side1 ?side2 ?side3 ?side4 ?side5 A11.out).mono ?_); (case side1 => repeat (first | (with_reducible first | exact HI0.out | apply IsS99.alloc | apply IsS99.drewN | apply IsS99.drew | apply IsS99.set_1 | apply IsS99.set_2) | exact HI0.out)); (case side2 => repeat (first | (with_reducible first | exact HB.out | apply baz_ | apply bnz_ | apply bdz_ | refine bsz_ ?_ (IsS99.ge HI0.out)) | exact HB.out)); (case side3 => exact ucz_ ((Kd.R_reads' HO130.out).2.2)); (case side4 => exact (Kd.R_reads' HO130.out).2.1); (case side5 => exact far_slice (IsS99.own_ne HI0.out HO130.out (by decide))); rintro e w17 ⟨rfl, hi, hb, hk⟩; refine ⟨_, rfl, ?_⟩; replace HO_3 := Az_ (Kd.R_mono (Kd.R_keep (IsS99.apart (show IsS99 w0 _ g s0_0 t126 t127 from w30_) (w104_) (by decide)) hk (fun _ h => h.2)) (fun _ h => h.1)); replace HO130 := Az_ (Kd.R_mono (Kd.R_keep (IsS99.apart (show IsS99 w0 _ g s0_0 t126 t127 from w30_) (by exact urz_ HO130.out) (by decide)) hk (fun _ h => h.2)) (fun _ h => h.1)); replace HK := Az_ (KeepBut.trans (w33_) hk (.inl rfl)); replace HB := Az_ (hb); replace HI0 := Az_ (hi); (try clear hb); (try clear hk); (try clear hi)) | ((with_reducible refine gate_dst (N := 6) rfl ?_); refine box_event ?hg (N := 6) ?hd (cs := #[.int .i64 0, .int .i64 0]) (t := 69) ?hr ?_; (case hd => rfl); (case hg => rfl); (case hr => first | (go_simp; done) | (go_simp; rfl)); intro gb134 hg w18 hbox hb; replace HO_3 := Az_ (Kd.R_below (Kd.R_elderB (w104_) gb134 (Nat.le_of_eq hg.symm)) hb); replace HO130 := Az_ (Kd.R_below (by exact urz_ HO130.out) hb); replace HB := Az_ (btz_ (w39_) hb); have BK134 := Az_ (hbox); have GW134 := Az_ ((by rw [hg]; exact (keep_size (w := w) (g := g) (row := none) (w33_)) : w.heap.size ≤ gb134)); have GE134 := Az_ ((Nat.le_trans HW0.out (by rw [hg]; exact (keep_size (w := w) (g := g) (row := none) (w33_)) : w.heap.size ≤ gb134) : w0.heap.size ≤ gb134)); replace HK := Az_ (KeepBut.trans (w33_) (KeepBut.of_below hb g none) (.inl rfl)); have NB0_134 := Az_ ((by rw [hg]; exact Nat.ne_of_lt (IsS99.lt (show IsS99 w0 _ g s0_0 t132 t133 from w30_)) : g ≠ gb134)); have NB134_0 := Az_ ((by rw [hg]; exact Nat.ne_of_gt (IsS99.lt (show IsS99 w0 _ g s0_0 t132 t133 from w30_)) : gb134 ≠ g)); replace HI0 := Az_ (IsS99.below (w30_) hb); clear hb hbox hg; have hnb19 := NB134_0.out; have hnc19 := NB0_134.out; have hcz20_0 : w18.cell? ⟨gb134, 0, none⟩ = some (.int .i64 0) := (blk_cell BK134.out 0).trans rfl; have hcz20_1 : w18.cell? ⟨gb134, 1, none⟩ = some (.int .i64 0) := (blk_cell BK134.out 1).trans rfl; have hfz20_0 := blk_frozen BK134.out 0; have hfz20_1 := blk_frozen BK134.out 1) | ((with_reducible refine gate_builtin (b := .append) (xs := #[.tmp 31, .tmp 33]) rfl ?_); at_builtin; refine Kd.R_append k69 w.heap.size rfl (.tmp 31) (.tmp 33) 51 69 (.agg #[(.int .i64 0), (.int .i64 0)]) 16 rfl Tryz.underlying51 info69 rfl (by decide) (by omega) u3 x3_1 (⟨wrap64 (x4_1 + (wrap64 (1 + t125))), wrap64 ((wrap64 (x4_1 + (wrap64 (1 + t125)))) + t131)⟩ : S69) [.int .i64 (wrap64 (x4_1 + (wrap64 (1 + t125)))), .int .i64 (wrap64 ((wrap64 (x4_1 + (wrap64 (1 + t125)))) + t131))] (fun k_ => k_ ≠ gb134) (fun _ => False) rfl (by first | (go_simp; done) | (go_simp; rfl)) ?aP (fun _ hk => hk.elim) ?aF ?aO (Below.refl _ _) ?aS ?aL ?_; (case aP => exact k69_mkM _ _ _ (⟨wrap64 (x4_1 + (wrap64 (1 + t125))), wrap64 ((wrap64 (x4_1 + (wrap64 (1 + t125)))) + t131)⟩ : S69)); (case aF => exact (fun k_ hk => Kd.freshB (g := gb134) (o := .cells #[.int .i64 (wrap64 (x4_1 + (wrap64 (1 + t125)))), .int .i64 (wrap64 ((wrap64 (x4_1 + (wrap64 (1 + t125)))) + t131))] 69 (0, 0)) (w7_) k_ hk)); (case aO => exact (by (with_reducible repeat (first | apply raz_ | apply rnz_ | apply rdz_)); exact Kd.R_mono (Kd.R_far (p := ⟨gb134, 1, none⟩) (Kd.R_far (p := ⟨gb134, 0, none⟩) (Kd.R_mono HO_3.out (fun k_ hk => (⟨hk, hk.2⟩ : _ ∧ k_ ≠ gb134))) (fun _ hk => hk.2) (.int .i64 (wrap64 (x4_1 + (wrap64 (1 + t125)))))) (fun _ hk => hk.2) (.int .i64 (wrap64 ((wrap64 (x4_1 + (wrap64 (1 + t125)))) + t131)))) (fun _ hk => hk.1.2))); (case aS => exact (keep_size (w := w) (g := g) (row := none) (w25_))); (case aL => have := LMc12.out; omega); intro v136 w21 ho hb hg hat; rw [← Ny135.out] at ho; replace HO130 := Az_ (Kd.R_over' (by (with_reducible repeat (first | apply raz_ | apply rnz_ | apply rdz_)); exact (Kd.R_mono (Kd.R_far (p := ⟨gb134, 1, none⟩) (Kd.R_far (p := ⟨gb134, 0, none⟩) (Kd.R_types HO130.out BK134.out (by decide)) (fun _ hk => hk.2) (.int .i64 (wrap64 (x4_1 + (wrap64 (1 + t125)))))) (fun _ hk => hk.2) (.int .i64 (wrap64 ((wrap64 (x4_1 + (wrap64 (1 + t125)))) + t131)))) (fun _ h_ => h_.1))) (Kd.R_typed (by (with_reducible repeat (first | apply raz_ | apply rnz_ | apply rdz_)); exact (Kd.R_mono (Kd.R_far (p := ⟨gb134, 1, none⟩) (Kd.R_far (p := ⟨gb134, 0, none⟩) (Kd.R_mono HO_3.out (fun k_ hk => (⟨hk, hk.2⟩ : _ ∧ k_ ≠ gb134))) (fun _ hk => hk.2) (.int .i64 (wrap64 (x4_1 + (wrap64 (1 + t125)))))) (fun _ hk => hk.2) (.int .i64 (wrap64 ((wrap64 (x4_1 + (wrap64 (1 + t125)))) + t131)))) (fun _ h_ => h_.1)))) (by decide) hg); replace BK134 := Az_ (blk_grown (g := gb134) (o := .cells #[.int .i64 (wrap64 (x4_1 + (wrap64 (1 + t125)))), .int .i64 (wrap64 ((wrap64 (x4_1 + (wrap64 (1 + t125)))) + t131))] 69 (0, 0)) (w7_) hg (Kd.R_away HO_3.out (fun _ hk => hk.2))); replace HB := Az_ (below_weaken (w29_) HL.out hb); replace HI0 := Az_ (IsS99.grown (show IsS99 w0 _ g s0_0 t132 t133 from w24_) hg (IsS99.own_ne HI0.out HO_3.out (by decide))); replace HK := Az_ (KeepBut.trans (w25_) (KeepBut.of_grown hg g) (Kd.R_base2 HO_3.out)); have HO137 := Az_ (ho); clear HO_3; clear ho hb hg hat))
     go_roundg k1
     case measure => have := HK1.out; omega
     case rel => exact ⟨(y135), (wrap64 ((wrap64 ((wrap64 (x4_1 + (wrap64 (1 + t125)))) + t131)) + 1)), (wrap64 (x5_1 - 1)), (t132), (t133), qaz_, qaz_, H', ⟨w83_⟩, ⟨by (with_reducible repeat (first | apply raz_ | apply rnz_ | apply rdz_)); exact Kd.R_mono HO137.out (fun _ hk => trivial)⟩, ⟨w24_⟩, ⟨w25_⟩, ⟨w29_⟩⟩
    ·rw [if_neg c12] at H
     exact absurd H (by simp)
   ·rw [if_neg c9] at H
    have c9b0 := decide_eq_false c9
    clear c9
    simp only [Option.some.injEq, Prod.mk.injEq] at H
    obtain ⟨rfl, rfl, rfl⟩ := H
    go_wp2
    go_ret
    exact ⟨_, w61_, w69_, w30_, w39_, w33_⟩

end Go.Proofs.YtppbpefehpbejaaGreatDoor.P
end

section
namespace Go.Proofs.YtppbpefehpbejaaGreatDoor.P
open Go.RowKit Go.Proofs.YtppbpefehpbejaaGreatDoorW.PrintWords Go.Proofs.YtppbpefehpbejaaGreatDoorW.PrintLast Go.Proofs.YtppbpefehpbejaaGreatDoorW.PrintMore
attribute [local go_sem] max2_int min2_int max_two min_two max_three min_three max_four min_four   -- for this text's walks alone
set_option linter.unusedVariables false
set_option linter.unusedSimpArgs false

def spec_l1Cur_ranges.f (k : Nat) (s0_0 : List Int) (s0_1 : Int) (s0_2 : Int) : Option ((List (S69)) × Int × Int) := (spec_l1Cur_sureRanges.f k s0_0 s0_1 s0_2).bind fun bt138 => (if (bt138.1.length : Int) = 0 then (some (bt138.1, bt138.2.1, bt138.2.2)) else ((spec_l1Cur_pick.f s0_0 bt138.2.1 bt138.2.2 16).bind fun bt143 => (if bt143.1 = 0 then ((spec_l1Cur_among.f s0_0 bt143.2.1 bt143.2.2 (([0, (-1), 2000, 2001, 4611686018427387904] : List Int))).bind fun bt149 => (if 0 < (bt138.1.length : Int) then (some ((bt138.1.set (0 : Int).toNat (⟨bt149.1, (rd_T69 bt138.1 0).f1⟩ : S69)), bt149.2.1, bt149.2.2)) else (none))) else (if bt143.1 = 1 then ((spec_l1Cur_among.f s0_0 bt143.2.1 bt143.2.2 (([0, 2000, 2001, (-1), 4611686018427387904] : List Int))).bind fun bt156 => (if 0 ≤ (wrap64 ((bt138.1.length : Int) - 1)) then (if (wrap64 ((bt138.1.length : Int) - 1)) < (bt138.1.length : Int) then (some ((bt138.1.set ((wrap64 ((bt138.1.length : Int) - 1)) : Int).toNat (⟨(rd_T69 bt138.1 (wrap64 ((bt138.1.length : Int) - 1))).f0, bt156.1⟩ : S69)), bt156.2.1, bt156.2.2)) else (none)) else (none))) else (if bt143.1 = 2 then (if 0 ≤ (wrap64 ((bt138.1.length : Int) - 1)) then (if (wrap64 ((bt138.1.length : Int) - 1)) < (bt138.1.length : Int) then (if bt138.1.length < 8796093022208 then (some ((bt138.1 ++ [(⟨wrap64 (((rd_T69 bt138.1 (wrap64 ((bt138.1.length : Int) - 1))).f1) + 1), wrap64 (((rd_T69 bt138.1 (wrap64 ((bt138.1.length : Int) - 1))).f1) + 3)⟩ : S69)]), bt143.2.1, bt143.2.2)) else (none)) else (none)) else (none)) else (some (bt138.1, bt143.2.1, bt143.2.2)))))))
def spec_l1Cur_ranges.T10 : Bool × List (List Nat × List Nat) := (true, [([], []), ([], []), ([], []), ([2], [2]), ([3], [3]), ([1, 4], [1, 4]), ([5], [5]), ([6], [6]), ([7], [7]), ([], []), ([], []), ([10], [10]), ([11], [11]), ([9, 12], [9, 12]), ([13], [13]), ([14], [14]), ([15], [15]), ([8, 16], [8, 16]), ([17], [17]), ([0, 18], [0, 18]), ([19, 19, 0, 1, 2, 3, 4, 5, 6, 7, 8, 9, 10, 11, 12, 13, 14, 15, 16, 17, 18, 19], [0, 1, 2, 9, 10, 19])])
def spec_l1Cur_ranges.B10 : List Nat := [0, 0, 0, 4, 12, 30, 62, 126, 254, 0, 0, 1024, 3072, 7680, 15872, 32256, 65024, 131070, 262142, 524287, 1048575]
theorem spec_l1Cur_ranges.tab10 : rtab .any (opsOf Tryz.f117 10) = spec_l1Cur_ranges.T10 := by kernel_rfl
theorem spec_l1Cur_ranges.bits10 : waitsOk spec_l1Cur_ranges.T10.2 spec_l1Cur_ranges.B10 = true := by kernel_rfl
set_option maxHeartbeats 8000000 in
set_option maxRecDepth 100000 in
theorem spec_l1Cur_ranges.calls (k : Nat) (g : Nat) (s0_0 : List Int) (s0_1 : Int) (s0_2 : Int) (r1 : List (S69)) (r2 : Int) (r3 : Int) (w0 w : World) (hI : IsS99 w0 w g s0_0 s0_1 s0_2) (hB : Below w0.heap.size w0 w) (h : spec_l1Cur_ranges.f k s0_0 s0_1 s0_2 = some (r1, r2, r3)) :
  Calls Tryz.prog 117 #[.pointer (some ⟨g, 0, none⟩)] w fun e w' => ∃ v0_ : Value, e = .returned (v0_) ∧ Kd.R k69 69 w' w.heap.size (fun _ => True) v0_ r1 ∧ IsS99 w0 w' g s0_0 r2 r3 ∧ Below w0.heap.size w0 w' ∧ KeepBut w w' g none := by
 have hu69 := Tryz.underlying69
 have HI0 := Az_ hI
 have HK := Az_ (KeepBut.refl w g none)
 have HL := Az_ hB.size
 clear hI
 have HW0 := Az_ hB.size
 have HB := Az_ hB
 clear hB
 have H : ((spec_l1Cur_sureRanges.f k s0_0 s0_1 s0_2).bind fun bt138 => (if (bt138.1.length : Int) = 0 then (some (bt138.1, bt138.2.1, bt138.2.2)) else ((spec_l1Cur_pick.f s0_0 bt138.2.1 bt138.2.2 16).bind fun bt143 => (if bt143.1 = 0 then ((spec_l1Cur_among.f s0_0 bt143.2.1 bt143.2.2 (([0, (-1), 2000, 2001, 4611686018427387904] : List Int))).bind fun bt149 => (if 0 < (bt138.1.length : Int) then (some ((bt138.1.set (0 : Int).toNat (⟨bt149.1, (rd_T69 bt138.1 0).f1⟩ : S69)), bt149.2.1, bt149.2.2)) else (none))) else (if bt143.1 = 1 then ((spec_l1Cur_among.f s0_0 bt143.2.1 bt143.2.2 (([0, 2000, 2001, (-1), 4611686018427387904] : List Int))).bind fun bt156 => (if 0 ≤ (wrap64 ((bt138.1.length : Int) - 1)) then (if (wrap64 ((bt138.1.length : Int) - 1)) < (bt138.1.length : Int) then (some ((bt138.1.set ((wrap64 ((bt138.1.length : Int) - 1)) : Int).toNat (⟨(rd_T69 bt138.1 (wrap64 ((bt138.1.length : Int) - 1))).f0, bt156.1⟩ : S69)), bt156.2.1, bt156.2.2)) else (none)) else (none))) else (if bt143.1 = 2 then (if 0 ≤ (wrap64 ((bt138.1.length : Int) - 1)) then (if (wrap64 ((bt138.1.length : Int) - 1)) < (bt138.1.length : Int) then (if bt138.1.length < 8796093022208 then (some ((bt138.1 ++ [(⟨wrap64 (((rd_T69 bt138.1 (wrap64 ((bt138.1.length : Int) - 1))).f1) + 1), wrap64 (((rd_T69 bt138.1 (wrap64 ((bt138.1.length : Int) - 1))).f1) + 3)⟩ : S69)]), bt143.2.1, bt143.2.2)) else (none)) else (none)) else (none)) else (some (bt138.1, bt143.2.1, bt143.2.2)))))))) = some (r1, r2, r3) := h
 clear h
 replace H := bqz_ H; obtain ⟨⟨t138, t141, t142⟩, A2, H⟩ := H
 replace H : (if (t138.length : Int) = 0 then (some (t138, t141, t142)) else ((spec_l1Cur_pick.f s0_0 t141 t142 16).bind fun bt143 => (if bt143.1 = 0 then ((spec_l1Cur_among.f s0_0 bt143.2.1 bt143.2.2 (([0, (-1), 2000, 2001, 4611686018427387904] : List Int))).bind fun bt149 => (if 0 < (t138.length : Int) then (some ((t138.set (0 : Int).toNat (⟨bt149.1, (rd_T69 t138 0).f1⟩ : S69)), bt149.2.1, bt149.2.2)) else (none))) else (if bt143.1 = 1 then ((spec_l1Cur_among.f s0_0 bt143.2.1 bt143.2.2 (([0, 2000, 2001, (-1), 4611686018427387904] : List Int))).bind fun bt156 => (if 0 ≤ (wrap64 ((t138.length : Int) - 1)) then (if (wrap64 ((t138.length : Int) - 1)) < (t138.length : Int) then (some ((t138.set ((wrap64 ((t138.length : Int) - 1)) : Int).toNat (⟨(rd_T69 t138 (wrap64 ((t138.length : Int) - 1))).f0, bt156.1⟩ : S69)), bt156.2.1, bt156.2.2)) else (none)) else (none))) else (if bt143.1 = 2 then (if 0 ≤ (wrap64 ((t138.length : Int) - 1)) then (if (wrap64 ((t138.length : Int) - 1)) < (t138.length : Int) then (if t138.length < 8796093022208 then (some ((t138 ++ [(⟨wrap64 (((rd_T69 t138 (wrap64 ((t138.length : Int) - 1))).f1) + 1), wrap64 (((rd_T69 t138 (wrap64 ((t138.length : Int) - 1))).f1) + 3)⟩ : S69)]), bt143.2.1, bt143.2.2)) else (none)) else (none)) else (none)) else (some (t138, bt143.2.1, bt143.2.2))))))) = some (r1, r2, r3) := H
 by_cases c3 : (t138.length : Int) = 0
 ·rw [if_pos c3] at H
  have c3b0 : ((t138.length : Int) == 0) = true := beq_iff_eq.mpr c3
  have c3b1 : ((t138.length : Int) != 0) = false := bne_eq_false_iff_eq.mpr c3
  clear c3
  simp only [Option.some.injEq, Prod.mk.injEq] at H
  obtain ⟨rfl, rfl, rfl⟩ := H
  go_enter Tryz.func117, Tryz.ntmps117
  go_wp2_with (first | ((with_reducible refine gate_callee (f := 140) rfl ?_); refine goesL_ (some 5) rfl rfl Tryz.func140 (w110_) rfl #[.pointer (some ⟨g, 0, none⟩)] rfl maz_ ?_; (with_reducible refine (spec_l1Cur_sureRanges.calls k g s0_0 s0_1 s0_2 t138 t141 t142 w0 _ ?side1 ?side2 A2.out).mono ?_); (case side1 => repeat (first | (with_reducible first | exact HI0.out | apply IsS99.alloc | apply IsS99.drewN | apply IsS99.drew | apply IsS99.set_1 | apply IsS99.set_2) | exact HI0.out)); (case side2 => repeat (first | (with_reducible first | exact HB.out | apply baz_ | apply bnz_ | apply bdz_ | refine bsz_ ?_ (IsS99.ge HI0.out)) | exact HB.out)); rintro e w4 ⟨v139, rfl, ho0, hi, hb, hk⟩; refine ⟨_, rfl, ?_⟩; have HO140 := Az_ (Kd.R_lower ho0 (keep_size (w := w) (g := g) (row := none) (w33_))); replace HK := Az_ (KeepBut.trans (w33_) hk (.inl rfl)); replace HB := Az_ (hb); replace HI0 := Az_ (hi); (try clear hb); (try clear hk); (try clear hi); (try clear ho0); obtain ⟨Ao5, co5, eo5⟩ := Kd.R_slice HO140.out; subst eo5))
  go_ret
  exact ⟨_, w61_, w63_, w30_, w39_, w33_⟩
 ·rw [if_neg c3] at H
  have c3b0 : ((t138.length : Int) == 0) = false := beq_eq_false_iff_ne.mpr c3
  have c3b1 : ((t138.length : Int) != 0) = true := bne_iff_ne.mpr c3
  have c3b2 : ¬ (t138 = []) := fun h_ => c3 (by rw [h_]; rfl)
  replace H := bqz_ H; obtain ⟨⟨t143, t144, t145⟩, A6, H⟩ := H
  replace H : (if t143 = 0 then ((spec_l1Cur_among.f s0_0 t144 t145 (([0, (-1), 2000, 2001, 4611686018427387904] : List Int))).bind fun bt149 => (if 0 < (t138.length : Int) then (some ((t138.set (0 : Int).toNat (⟨bt149.1, (rd_T69 t138 0).f1⟩ : S69)), bt149.2.1, bt149.2.2)) else (none))) else (if t143 = 1 then ((spec_l1Cur_among.f s0_0 t144 t145 (([0, 2000, 2001, (-1), 4611686018427387904] : List Int))).bind fun bt156 => (if 0 ≤ (wrap64 ((t138.length : Int) - 1)) then (if (wrap64 ((t138.length : Int) - 1)) < (t138.length : Int) then (some ((t138.set ((wrap64 ((t138.length : Int) - 1)) : Int).toNat (⟨(rd_T69 t138 (wrap64 ((t138.length : Int) - 1))).f0, bt156.1⟩ : S69)), bt156.2.1, bt156.2.2)) else (none)) else (none))) else (if t143 = 2 then (if 0 ≤ (wrap64 ((t138.length : Int) - 1)) then (if (wrap64 ((t138.length : Int) - 1)) < (t138.length : Int) then (if t138.length < 8796093022208 then (some ((t138 ++ [(⟨wrap64 (((rd_T69 t138 (wrap64 ((t138.length : Int) - 1))).f1) + 1), wrap64 (((rd_T69 t138 (wrap64 ((t138.length : Int) - 1))).f1) + 3)⟩ : S69)]), t144, t145)) else (none)) else (none)) else (none)) else (some (t138, t144, t145))))) = some (r1, r2, r3) := H
  by_cases c7 : t143 = 0
  ·rw [if_pos c7] at H
   have c7b0 : (t143 == 0) = true := beq_iff_eq.mpr c7
   have c7b1 : (t143 != 0) = false := bne_eq_false_iff_eq.mpr c7
   clear c7
   obtain ⟨y146, hy146⟩ : ∃ y_ : List Int, y_ = (([0, (-1), 2000, 2001, 4611686018427387904] : List Int)) := ⟨_, rfl⟩
   replace H : ((spec_l1Cur_among.f s0_0 t144 t145 y146).bind fun bt149 => (if 0 < (t138.length : Int) then (some ((t138.set (0 : Int).toNat (⟨bt149.1, (rd_T69 t138 0).f1⟩ : S69)), bt149.2.1, bt149.2.2)) else (none))) = some (r1, r2, r3) := by first | (rw [hy146]; with_reducible exact H) | (have H2_ := (Option.bind_some _ _).symm.trans H; rw [hy146]; with_reducible exact H2_) | (have H2_ := (Option.bind_some _ _).symm.trans H; with_reducible exact H2_) | with_reducible exact H | (rw [hy146]; exact H) | exact H
   have Ny146 := Az_ hy146
   clear hy146
   replace H := bqz_ H; obtain ⟨⟨t149, t150, t151⟩, A8, H⟩ := H
   replace H : (if 0 < (t138.length : Int) then (some ((t138.set (0 : Int).toNat (⟨t149, (rd_T69 t138 0).f1⟩ : S69)), t150, t151)) else (none)) = some (r1, r2, r3) := H
   by_cases c9 : 0 < (t138.length : Int)
   ·rw [if_pos c9] at H
    have c9b0 := decide_eq_true c9
    have c9b1 : decide (0 < t138.length) = true := decide_eq_true (by omega)
    clear c9
    obtain ⟨y152, hy152⟩ : ∃ y_ : List (S69), y_ = (t138.set (0 : Int).toNat (⟨t149, (rd_T69 t138 0).f1⟩ : S69)) := ⟨_, rfl⟩
    replace H : (some (y152, t150, t151)) = some (r1, r2, r3) := by first | (rw [hy152]; with_reducible exact H) | (have H2_ := (Option.bind_some _ _).symm.trans H; rw [hy152]; with_reducible exact H2_) | (have H2_ := (Option.bind_some _ _).symm.trans H; with_reducible exact H2_) | with_reducible exact H | (rw [hy152]; exact H) | exact H
    have Ny152 := Az_ hy152
    clear hy152
    simp only [Option.some.injEq, Prod.mk.injEq] at H
    obtain ⟨rfl, rfl, rfl⟩ := H
    go_enter Tryz.func117, Tryz.ntmps117
    go_wp2_with (first | ((with_reducible refine gate_callee (f := 140) rfl ?_); refine goesL_ (some 5) rfl rfl Tryz.func140 (w110_) rfl #[.pointer (some ⟨g, 0, none⟩)] rfl maz_ ?_; (with_reducible refine (spec_l1Cur_sureRanges.calls k g s0_0 s0_1 s0_2 t138 t141 t142 w0 _ ?side1 ?side2 A2.out).mono ?_); (case side1 => repeat (first | (with_reducible first | exact HI0.out | apply IsS99.alloc | apply IsS99.drewN | apply IsS99.drew | apply IsS99.set_1 | apply IsS99.set_2) | exact HI0.out)); (case side2 => repeat (first | (with_reducible first | exact HB.out | apply baz_ | apply bnz_ | apply bdz_ | refine bsz_ ?_ (IsS99.ge HI0.out)) | exact HB.out)); rintro e w11 ⟨v139, rfl, ho0, hi, hb, hk⟩; refine ⟨_, rfl, ?_⟩; have HO140 := Az_ (Kd.R_lower ho0 (keep_size (w := w) (g := g) (row := none) (w33_))); replace HK := Az_ (KeepBut.trans (w33_) hk (.inl rfl)); replace HB := Az_ (hb); replace HI0 := Az_ (hi); (try clear hb); (try clear hk); (try clear hi); (try clear ho0); obtain ⟨Ao12, co12, eo12⟩ := Kd.R_slice HO140.out; subst eo12) | ((with_reducible refine gate_callee (f := 126) rfl ?_); refine goesL_ (some 11) rfl rfl Tryz.func126 (w110_) rfl #[.pointer (some ⟨g, 0, none⟩), .int .i64 16] rfl maz_ ?_; (with_reducible refine (spec_l1Cur_pick.calls g s0_0 t141 t142 16 t143 t144 t145 w0 _ ?side1 ?side2 A6.out).mono ?_); (case side1 => repeat (first | (with_reducible first | exact HI0.out | apply IsS99.alloc | apply IsS99.drewN | apply IsS99.drew | apply IsS99.set_1 | apply IsS99.set_2) | exact HI0.out)); (case side2 => repeat (first | (with_reducible first | exact HB.out | apply baz_ | apply bnz_ | apply bdz_ | refine bsz_ ?_ (IsS99.ge HI0.out)) | exact HB.out)); rintro e w13 ⟨rfl, hi, hb, hk⟩; refine ⟨_, rfl, ?_⟩; replace HO140 := Az_ (Kd.R_mono (Kd.R_keep (IsS99.apart (show IsS99 w0 _ g s0_0 t141 t142 from w30_) (w84_) (by decide)) hk (fun _ h => h.2)) (fun _ h => h.1)); replace HK := Az_ (KeepBut.trans (w33_) hk (.inl rfl)); replace HB := Az_ (hb); replace HI0 := Az_ (hi); (try clear hb); (try clear hk); (try clear hi)) | ((with_reducible refine gate_dst (N := 16) rfl ?_); refine Kd.R_lit (Kd.int .i64) _ 3 ?hg (N := 16) ?hd (xs := ([0, (-1), 2000, 2001, 4611686018427387904] : List Int)) (inner := [.int .i64 0, .int .i64 (-1), .int .i64 2000, .int .i64 2001, .int .i64 4611686018427387904]) (ok := fun _ => True) (okp := fun _ => True) ?hr ?hp (fun _ hk => hk) trivial (Below.refl _ _) (Nat.le_refl _) (by simp) ?_; (case hd => rfl); (case hg => rfl); (case hr => first | (go_simp; done) | (go_simp; rfl)); (case hp => exact (Reps.one (show Kd.M (Kd.int .i64) _ _ _ 0 [.int .i64 0] from rfl) (Reps.one (show Kd.M (Kd.int .i64) _ _ _ (-1) [.int .i64 (-1)] from rfl) (Reps.one (show Kd.M (Kd.int .i64) _ _ _ 2000 [.int .i64 2000] from rfl) (Reps.one (show Kd.M (Kd.int .i64) _ _ _ 2001 [.int .i64 2001] from rfl) (Reps.one (show Kd.M (Kd.int .i64) _ _ _ 4611686018427387904 [.int .i64 4611686018427387904] from rfl) (Reps.none _ _))))))); intro v147 w14 ho15 hb hg_ hnew_; clear hg_ hnew_; (first | rw [← Ny146.out] at ho15 | (simp only [Int.reduceToNat] at ho15; rw [← Ny146.out] at ho15)); replace HO140 := Az_ (Kd.R_below (w84_) hb); have HO148 := Az_ (Kd.R_lower ho15 (keep_size (w := w) (g := g) (row := none) (w33_))); replace HK := Az_ (KeepBut.trans (w33_) (KeepBut.of_below hb g none) (.inl rfl)); replace HB := Az_ (btz_ (w39_) hb); replace HI0 := Az_ (IsS99.below (w30_) hb); clear hb ho15; obtain ⟨Ao16, co16, eo16⟩ := Kd.R_slice HO148.out; subst eo16) | ((with_reducible refine gate_callee (f := 127) rfl ?_); refine goesL_ (some 17) rfl rfl Tryz.func127 (w110_) rfl #[.pointer (some ⟨g, 0, none⟩), .slice Ao16 y146.length co16] rfl maz_ ?_; (with_reducible refine (spec_l1Cur_among.calls g s0_0 t144 t145 _ _ y146 t149 t150 t151 w0 _ ?side1 ?side2 ?side3 ?side4 ?side5 A8.out).mono ?_); (case side1 => repeat (first | (with_reducible first | exact HI0.out | apply IsS99.alloc | apply IsS99.drewN | apply IsS99.drew | apply IsS99.set_1 | apply IsS99.set_2) | exact HI0.out)); (case side2 => repeat (first | (with_reducible first | exact HB.out | apply baz_ | apply bnz_ | apply bdz_ | refine bsz_ ?_ (IsS99.ge HI0.out)) | exact HB.out)); (case side3 => exact ucz_ ((Kd.R_reads' HO148.out).2.2)); (case side4 => exact (Kd.R_reads' HO148.out).2.1); (case side5 => exact far_slice (IsS99.own_ne HI0.out HO148.out (by decide))); rintro e w17 ⟨rfl, hi, hb, hk⟩; refine ⟨_, rfl, ?_⟩; replace HO140 := Az_ (Kd.R_mono (Kd.R_keep (IsS99.apart (show IsS99 w0 _ g s0_0 t144 t145 from w30_) (w84_) (by decide)) hk (fun _ h => h.2)) (fun _ h => h.1)); replace HO148 := Az_ (Kd.R_mono (Kd.R_keep (IsS99.apart (show IsS99 w0 _ g s0_0 t144 t145 from w30_) (by exact urz_ HO148.out) (by decide)) hk (fun _ h => h.2)) (fun _ h => h.1)); replace HK := Az_ (KeepBut.trans (w33_) hk (.inl rfl)); replace HB := Az_ (hb); replace HI0 := Az_ (hi); (try clear hb); (try clear hk); (try clear hi); have p10 : 0 ≤ (0 : Int) := (by omega); have q10 : (0 : Int) < ((t138.length : Int) : Int) := of_decide_eq_true asz_; have qi10 : (0 < t138.length) = True := eq_true (by omega); obtain ⟨go10, co10, eo10, gb10, gl10, cl10, HG10⟩ := Kd.R_form HO140.out (by omega); (first | cases eo10 | (injection eo10 with ea_ en_ ec_; (first | subst ea_ | (injection ea_ with ea_; subst ea_)); subst ec_; clear en_)); have GB10 := Az_ gb10; have GG10 := Az_ HG10; clear gb10 gl10 HG10; obtain ⟨ce10, hcl10, hM10, hcc10, hfr10⟩ := Kd.R_elem HO140.out z69 (0 : Int) p10 q10; obtain rfl := k69_openM hM10; have hx10_0 : w17.cell? ⟨go10, (0 : Int).toNat * 2, none⟩ = some (.int .i64 ((rd_T69 t138 0).f0)) := hcc10 0 _ rfl; have hx10_1 : w17.cell? ⟨go10, (0 : Int).toNat * 2 + 1, none⟩ = some (.int .i64 ((rd_T69 t138 0).f1)) := hcc10 1 _ rfl; have hf10_0 : w17.frozen? ⟨go10, (0 : Int).toNat * 2, none⟩ = false := hfr10 0; have hf10_1 : w17.frozen? ⟨go10, (0 : Int).toNat * 2 + 1, none⟩ = false := hfr10 1; (try clear hM10); clear hcl10 hcc10 hfr10; (try rw [show ((0 : Int)).toNat = 0 from rfl] at hx10_0); (try simp only [Nat.reduceMul, Nat.zero_mul, Nat.zero_add, Nat.reduceAdd] at hx10_0); (try rw [show ((0 : Int)).toNat = 0 from rfl] at hf10_0); (try simp only [Nat.reduceMul, Nat.zero_mul, Nat.zero_add, Nat.reduceAdd] at hf10_0); (try rw [show ((0 : Int)).toNat = 0 from rfl] at hx10_1); (try simp only [Nat.reduceMul, Nat.zero_mul, Nat.zero_add, Nat.reduceAdd] at hx10_1); (try rw [show ((0 : Int)).toNat = 0 from rfl] at hf10_1); (try simp only [Nat.reduceMul, Nat.zero_mul, Nat.zero_add, Nat.reduceAdd] at hf10_1); replace p10 := eq_true p10; replace q10 := eq_true q10; have HX18 := Az_ (show Kd.R k69 69 w17 w.heap.size (fun _ => True) (.slice (some ⟨go10, 0, none⟩) t138.length co12) t138 from (w84_)); obtain ⟨ce18, hcl18, hM18, hcc18, hfr18⟩ := Kd.R_elem HX18.out z69 (0 : Int) (by omega) (by have h_ : (0 : Int) < ((t138.length : Int) : Int) := of_decide_eq_true asz_; first | exact h_ | (have e_ := (Kd.R_reads' HO140.out).1; omega) | simpa using h_); obtain rfl := k69_openM hM18; have HP18 := Kd.R_seg HX18.out (0 : Int) (by omega) (by have h_ : (0 : Int) < ((t138.length : Int) : Int) := of_decide_eq_true asz_; first | exact h_ | (have e_ := (Kd.R_reads' HO140.out).1; omega) | simpa using h_) (seg := [.int .i64 t149]) (j := 0) hcl18 hcc18 (show 1 ≤ 2 from by decide) (x' := (⟨t149, (rd_T69 t138 0).f1⟩ : S69)) (k69_mkM _ _ _ (⟨t149, (rd_T69 t138 0).f1⟩ : S69) ) (fun _ hk => hk); have hx18_0 := hcc18 0 _ rfl; (try simp only [show (k69).sz = 2 from rfl, Nat.mul_one, Nat.add_zero] at hx18_0); (try rw [show ((0 : Int)).toNat = 0 from rfl] at hx18_0); (try simp only [Nat.reduceMul, Nat.zero_mul, Nat.zero_add, Nat.reduceAdd] at hx18_0); have hf18_0 := hfr18 0; (try simp only [show (k69).sz = 2 from rfl, Nat.mul_one, Nat.add_zero] at hf18_0); (try rw [show ((0 : Int)).toNat = 0 from rfl] at hf18_0); (try simp only [Nat.reduceMul, Nat.zero_mul, Nat.zero_add, Nat.reduceAdd] at hf18_0); clear hcl18 hcc18 hfr18 hM18) | ((with_reducible refine gate_store (t := 3) (p := 19) rfl ?_); refine store_event (t := 3) (p := 19) (v := ?vo_w19) (w1 := (w17.setCell ⟨go10, 0, none⟩ (.int .i64 t149))) ?hg ?ho ?hn ?hr ?_; (case ho => rfl); (case hg => rfl); (case hn => rfl); (case hr => first | (go_simp; done) | (go_simp; rfl)); intro w19 hw; have hg : w17.grownBy w19 (some go10) := (by rw [hw]; exact HP18.2); have hp_ : Kd.R k69 69 w19 w.heap.size (fun _ => True) (.slice (some ⟨go10, 0, none⟩) t138.length co12) y152 := (by rw [hw, Ny152.out]; exact HP18.1); clear HP18; replace HI0 := Az_ (IsS99.grown (show IsS99 w0 _ g s0_0 t150 t151 from w30_) hg (IsS99.own_ne HI0.out HO140.out (by decide))); replace HO148 := Az_ (Kd.R_over' (v := (.slice (some ⟨go10, 0, none⟩) t138.length co12)) (by exact urz_ HO148.out) (Kd.R_typed HO140.out) (by decide) hg); replace HB := Az_ ((by rw [hw]; exact bsz_ (HB.out) (Nat.le_trans HL.out GB10.out) : Below w0.heap.size w0 w19)); replace HK := Az_ (KeepBut.trans (w33_) (KeepBut.of_grown hg g) (Kd.R_base2 HO140.out)); replace HO140 := Az_ (hp_); clear hg hw hp_))
    go_ret
    exact ⟨_, w61_, w63_, w30_, w39_, w33_⟩
   ·rw [if_neg c9] at H
    exact absurd H (by simp)
  ·rw [if_neg c7] at H
   have c7b0 : (t143 == 0) = false := beq_eq_false_iff_ne.mpr c7
   have c7b1 : (t143 != 0) = true := bne_iff_ne.mpr c7
   by_cases c20 : t143 = 1
   ·rw [if_pos c20] at H
    have c20b0 : (t143 == 1) = true := beq_iff_eq.mpr c20
    have c20b1 : (t143 != 1) = false := bne_eq_false_iff_eq.mpr c20
    clear c20
    obtain ⟨y153, hy153⟩ : ∃ y_ : List Int, y_ = (([0, 2000, 2001, (-1), 4611686018427387904] : List Int)) := ⟨_, rfl⟩
    replace H : ((spec_l1Cur_among.f s0_0 t144 t145 y153).bind fun bt156 => (if 0 ≤ (wrap64 ((t138.length : Int) - 1)) then (if (wrap64 ((t138.length : Int) - 1)) < (t138.length : Int) then (some ((t138.set ((wrap64 ((t138.length : Int) - 1)) : Int).toNat (⟨(rd_T69 t138 (wrap64 ((t138.length : Int) - 1))).f0, bt156.1⟩ : S69)), bt156.2.1, bt156.2.2)) else (none)) else (none))) = some (r1, r2, r3) := by first | (rw [hy153]; with_reducible exact H) | (have H2_ := (Option.bind_some _ _).symm.trans H; rw [hy153]; with_reducible exact H2_) | (have H2_ := (Option.bind_some _ _).symm.trans H; with_reducible exact H2_) | with_reducible exact H | (rw [hy153]; exact H) | exact H
    have Ny153 := Az_ hy153
    clear hy153
    replace H := bqz_ H; obtain ⟨⟨t156, t157, t158⟩, A21, H⟩ := H
    replace H : (if 0 ≤ (wrap64 ((t138.length : Int) - 1)) then (if (wrap64 ((t138.length : Int) - 1)) < (t138.length : Int) then (some ((t138.set ((wrap64 ((t138.length : Int) - 1)) : Int).toNat (⟨(rd_T69 t138 (wrap64 ((t138.length : Int) - 1))).f0, t156⟩ : S69)), t157, t158)) else (none)) else (none)) = some (r1, r2, r3) := H
    obtain ⟨ji22, hji22⟩ : ∃ j_ : Int, (wrap64 ((t138.length : Int) - 1)) = j_ := ⟨_, rfl⟩
    replace H : (if 0 ≤ (ji22) then (if (ji22) < (t138.length : Int) then (some ((t138.set ((ji22) : Int).toNat (⟨(rd_T69 t138 (ji22)).f0, t156⟩ : S69)), t157, t158)) else (none)) else (none)) = some (r1, r2, r3) := by first | (rw [hji22] at H; exact H) | (simp only [hji22] at H ⊢; exact H)
    (try rw [hji22] at A2)
    (try rw [hji22] at A6)
    (try rw [hji22] at A21)
    have hji22w : (IntKind.i64.wrap ((t138.length : Int) - 1)) = ji22 := (i64_w _).trans hji22
    by_cases c23 : 0 ≤ (ji22)
    ·rw [if_pos c23] at H
     have c23b0 := decide_eq_true c23
     clear c23
     by_cases c24 : (ji22) < (t138.length : Int)
     ·rw [if_pos c24] at H
      have c24b0 := decide_eq_true c24
      clear c24
      obtain ⟨y159, hy159⟩ : ∃ y_ : List (S69), y_ = (t138.set ((ji22) : Int).toNat (⟨(rd_T69 t138 (ji22)).f0, t156⟩ : S69)) := ⟨_, rfl⟩
      replace H : (some (y159, t157, t158)) = some (r1, r2, r3) := by first | (rw [hy159]; with_reducible exact H) | (have H2_ := (Option.bind_some _ _).symm.trans H; rw [hy159]; with_reducible exact H2_) | (have H2_ := (Option.bind_some _ _).symm.trans H; with_reducible exact H2_) | with_reducible exact H | (rw [hy159]; exact H) | exact H
      have Ny159 := Az_ hy159
      clear hy159
      simp only [Option.some.injEq, Prod.mk.injEq] at H
      obtain ⟨rfl, rfl, rfl⟩ := H
      go_enter Tryz.func117, Tryz.ntmps117
      go_wp2_with (first | ((with_reducible refine gate_callee (f := 140) rfl ?_); refine goesL_ (some 5) rfl rfl Tryz.func140 (w110_) rfl #[.pointer (some ⟨g, 0, none⟩)] rfl maz_ ?_; (with_reducible refine (spec_l1Cur_sureRanges.calls k g s0_0 s0_1 s0_2 t138 t141 t142 w0 _ ?side1 ?side2 A2.out).mono ?_); (case side1 => repeat (first | (with_reducible first | exact HI0.out | apply IsS99.alloc | apply IsS99.drewN | apply IsS99.drew | apply IsS99.set_1 | apply IsS99.set_2) | exact HI0.out)); (case side2 => repeat (first | (with_reducible first | exact HB.out | apply baz_ | apply bnz_ | apply bdz_ | refine bsz_ ?_ (IsS99.ge HI0.out)) | exact HB.out)); rintro e w26 ⟨v139, rfl, ho0, hi, hb, hk⟩; refine ⟨_, rfl, ?_⟩; have HO140 := Az_ (Kd.R_lower ho0 (keep_size (w := w) (g := g) (row := none) (w33_))); replace HK := Az_ (KeepBut.trans (w33_) hk (.inl rfl)); replace HB := Az_ (hb); replace HI0 := Az_ (hi); (try clear hb); (try clear hk); (try clear hi); (try clear ho0); obtain ⟨Ao27, co27, eo27⟩ := Kd.R_slice HO140.out; subst eo27) | ((with_reducible refine gate_callee (f := 126) rfl ?_); refine goesL_ (some 11) rfl rfl Tryz.func126 (w110_) rfl #[.pointer (some ⟨g, 0, none⟩), .int .i64 16] rfl maz_ ?_; (with_reducible refine (spec_l1Cur_pick.calls g s0_0 t141 t142 16 t143 t144 t145 w0 _ ?side1 ?side2 A6.out).mono ?_); (case side1 => repeat (first | (with_reducible first | exact HI0.out | apply IsS99.alloc | apply IsS99.drewN | apply IsS99.drew | apply IsS99.set_1 | apply IsS99.set_2) | exact HI0.out)); (case side2 => repeat (first | (with_reducible first | exact HB.out | apply baz_ | apply bnz_ | apply bdz_ | refine bsz_ ?_ (IsS99.ge HI0.out)) | exact HB.out)); rintro e w28 ⟨rfl, hi, hb, hk⟩; refine ⟨_, rfl, ?_⟩; replace HO140 := Az_ (Kd.R_mono (Kd.R_keep (IsS99.apart (show IsS99 w0 _ g s0_0 t141 t142 from w30_) (w84_) (by decide)) hk (fun _ h => h.2)) (fun _ h => h.1)); replace HK := Az_ (KeepBut.trans (w33_) hk (.inl rfl)); replace HB := Az_ (hb); replace HI0 := Az_ (hi); (try clear hb); (try clear hk); (try clear hi)) | ((with_reducible refine gate_dst (N := 27) rfl ?_); refine Kd.R_lit (Kd.int .i64) _ 3 ?hg (N := 27) ?hd (xs := ([0, 2000, 2001, (-1), 4611686018427387904] : List Int)) (inner := [.int .i64 0, .int .i64 2000, .int .i64 2001, .int .i64 (-1), .int .i64 4611686018427387904]) (ok := fun _ => True) (okp := fun _ => True) ?hr ?hp (fun _ hk => hk) trivial (Below.refl _ _) (Nat.le_refl _) (by simp) ?_; (case hd => rfl); (case hg => rfl); (case hr => first | (go_simp; done) | (go_simp; rfl)); (case hp => exact (Reps.one (show Kd.M (Kd.int .i64) _ _ _ 0 [.int .i64 0] from rfl) (Reps.one (show Kd.M (Kd.int .i64) _ _ _ 2000 [.int .i64 2000] from rfl) (Reps.one (show Kd.M (Kd.int .i64) _ _ _ 2001 [.int .i64 2001] from rfl) (Reps.one (show Kd.M (Kd.int .i64) _ _ _ (-1) [.int .i64 (-1)] from rfl) (Reps.one (show Kd.M (Kd.int .i64) _ _ _ 4611686018427387904 [.int .i64 4611686018427387904] from rfl) (Reps.none _ _))))))); intro v154 w29 ho30 hb hg_ hnew_; clear hg_ hnew_; (first | rw [← Ny153.out] at ho30 | (simp only [Int.reduceToNat] at ho30; rw [← Ny153.out] at ho30)); replace HO140 := Az_ (Kd.R_below (w84_) hb); have HO155 := Az_ (Kd.R_lower ho30 (keep_size (w := w) (g := g) (row := none) (w33_))); replace HK := Az_ (KeepBut.trans (w33_) (KeepBut.of_below hb g none) (.inl rfl)); replace HB := Az_ (btz_ (w39_) hb); replace HI0 := Az_ (IsS99.below (w30_) hb); clear hb ho30; obtain ⟨Ao31, co31, eo31⟩ := Kd.R_slice HO155.out; subst eo31) | ((with_reducible refine gate_callee (f := 127) rfl ?_); refine goesL_ (some 28) rfl rfl Tryz.func127 (w110_) rfl #[.pointer (some ⟨g, 0, none⟩), .slice Ao31 y153.length co31] rfl maz_ ?_; (with_reducible refine (spec_l1Cur_among.calls g s0_0 t144 t145 _ _ y153 t156 t157 t158 w0 _ ?side1 ?side2 ?side3 ?side4 ?side5 A21.out).mono ?_); (case side1 => repeat (first | (with_reducible first | exact HI0.out | apply IsS99.alloc | apply IsS99.drewN | apply IsS99.drew | apply IsS99.set_1 | apply IsS99.set_2) | exact HI0.out)); (case side2 => repeat (first | (with_reducible first | exact HB.out | apply baz_ | apply bnz_ | apply bdz_ | refine bsz_ ?_ (IsS99.ge HI0.out)) | exact HB.out)); (case side3 => exact ucz_ ((Kd.R_reads' HO155.out).2.2)); (case side4 => exact (Kd.R_reads' HO155.out).2.1); (case side5 => exact far_slice (IsS99.own_ne HI0.out HO155.out (by decide))); rintro e w32 ⟨rfl, hi, hb, hk⟩; refine ⟨_, rfl, ?_⟩; replace HO140 := Az_ (Kd.R_mono (Kd.R_keep (IsS99.apart (show IsS99 w0 _ g s0_0 t144 t145 from w30_) (w84_) (by decide)) hk (fun _ h => h.2)) (fun _ h => h.1)); replace HO155 := Az_ (Kd.R_mono (Kd.R_keep (IsS99.apart (show IsS99 w0 _ g s0_0 t144 t145 from w30_) (by exact urz_ HO155.out) (by decide)) hk (fun _ h => h.2)) (fun _ h => h.1)); replace HK := Az_ (KeepBut.trans (w33_) hk (.inl rfl)); replace HB := Az_ (hb); replace HI0 := Az_ (hi); (try clear hb); (try clear hk); (try clear hi); have p25 : 0 ≤ ((ji22) : Int) := of_decide_eq_true asz_; have q25 : ((ji22) : Int) < ((t138.length : Int) : Int) := of_decide_eq_true asz_; obtain ⟨go25, co25, eo25, gb25, gl25, cl25, HG25⟩ := Kd.R_form HO140.out (by omega); (first | cases eo25 | (injection eo25 with ea_ en_ ec_; (first | subst ea_ | (injection ea_ with ea_; subst ea_)); subst ec_; clear en_)); have GB25 := Az_ gb25; have GG25 := Az_ HG25; clear gb25 gl25 HG25; obtain ⟨ce25, hcl25, hM25, hcc25, hfr25⟩ := Kd.R_elem HO140.out z69 ((ji22) : Int) p25 q25; obtain rfl := k69_openM hM25; have hx25_0 : w32.cell? ⟨go25, ((ji22) : Int).toNat * 2, none⟩ = some (.int .i64 ((rd_T69 t138 (ji22)).f0)) := hcc25 0 _ rfl; have hx25_1 : w32.cell? ⟨go25, ((ji22) : Int).toNat * 2 + 1, none⟩ = some (.int .i64 ((rd_T69 t138 (ji22)).f1)) := hcc25 1 _ rfl; have hf25_0 : w32.frozen? ⟨go25, ((ji22) : Int).toNat * 2, none⟩ = false := hfr25 0; have hf25_1 : w32.frozen? ⟨go25, ((ji22) : Int).toNat * 2 + 1, none⟩ = false := hfr25 1; (try clear hM25); clear hcl25 hcc25 hfr25; replace p25 := eq_true p25; replace q25 := eq_true q25; have HX33 := Az_ (show Kd.R k69 69 w32 w.heap.size (fun _ => True) (.slice (some ⟨go25, 0, none⟩) t138.length co27) t138 from (w84_)); obtain ⟨ce33, hcl33, hM33, hcc33, hfr33⟩ := Kd.R_elem HX33.out z69 ((ji22) : Int) (of_decide_eq_true asz_) (by have h_ : ((ji22) : Int) < ((t138.length : Int) : Int) := of_decide_eq_true asz_; first | exact h_ | (have e_ := (Kd.R_reads' HO140.out).1; omega) | simpa using h_); obtain rfl := k69_openM hM33; have HP33 := Kd.R_seg HX33.out ((ji22) : Int) (of_decide_eq_true asz_) (by have h_ : ((ji22) : Int) < ((t138.length : Int) : Int) := of_decide_eq_true asz_; first | exact h_ | (have e_ := (Kd.R_reads' HO140.out).1; omega) | simpa using h_) (seg := [.int .i64 t156]) (j := 1) hcl33 hcc33 (show 2 ≤ 2 from by decide) (x' := (⟨(rd_T69 t138 (ji22)).f0, t156⟩ : S69)) (k69_mkM _ _ _ (⟨(rd_T69 t138 (ji22)).f0, t156⟩ : S69) ) (fun _ hk => hk); have hx33_1 := hcc33 1 _ rfl; (try simp only [show (k69).sz = 2 from rfl, Nat.mul_one, Nat.add_zero] at hx33_1); have hf33_1 := hfr33 1; (try simp only [show (k69).sz = 2 from rfl, Nat.mul_one, Nat.add_zero] at hf33_1); clear hcl33 hcc33 hfr33 hM33) | ((with_reducible refine gate_store (t := 3) (p := 30) rfl ?_); refine store_event (t := 3) (p := 30) (v := ?vo_w34) (w1 := (w32.setCell ⟨go25, ((ji22) : Int).toNat * 2 + 1, none⟩ (.int .i64 t156))) ?hg ?ho ?hn ?hr ?_; (case ho => rfl); (case hg => rfl); (case hn => rfl); (case hr => first | (go_simp; done) | (go_simp; rfl)); intro w34 hw; have hg : w32.grownBy w34 (some go25) := (by rw [hw]; exact HP33.2); have hp_ : Kd.R k69 69 w34 w.heap.size (fun _ => True) (.slice (some ⟨go25, 0, none⟩) t138.length co27) y159 := (by rw [hw, Ny159.out]; exact HP33.1); clear HP33; replace HI0 := Az_ (IsS99.grown (show IsS99 w0 _ g s0_0 t157 t158 from w30_) hg (IsS99.own_ne HI0.out HO140.out (by decide))); replace HO155 := Az_ (Kd.R_over' (v := (.slice (some ⟨go25, 0, none⟩) t138.length co27)) (by exact urz_ HO155.out) (Kd.R_typed HO140.out) (by decide) hg); replace HB := Az_ ((by rw [hw]; exact bsz_ (HB.out) (Nat.le_trans HL.out GB25.out) : Below w0.heap.size w0 w34)); replace HK := Az_ (KeepBut.trans (w33_) (KeepBut.of_grown hg g) (Kd.R_base2 HO140.out)); replace HO140 := Az_ (hp_); clear hg hw hp_))
      go_ret
      exact ⟨_, by first | rfl | (simp [errW_none, errW_some] <;> rfl) | (simp only [← hji22]; first | rfl | (simp [errW_none, errW_some] <;> rfl)) | (simp [*, errW_none, errW_some] <;> rfl), w63_, w30_, w39_, w33_⟩
     ·rw [if_neg c24] at H
      exact absurd H (by simp)
    ·rw [if_neg c23] at H
     exact absurd H (by simp)
   ·rw [if_neg c20] at H
    have c20b0 : (t143 == 1) = false := beq_eq_false_iff_ne.mpr c20
    have c20b1 : (t143 != 1) = true := bne_iff_ne.mpr c20
    by_cases c35 : t143 = 2
    ·rw [if_pos c35] at H
     have c35b0 : (t143 == 2) = true := beq_iff_eq.mpr c35
     have c35b1 : (t143 != 2) = false := bne_eq_false_iff_eq.mpr c35
     clear c35
     obtain ⟨ji36, hji36⟩ : ∃ j_ : Int, (wrap64 ((t138.length : Int) - 1)) = j_ := ⟨_, rfl⟩
     replace H : (if 0 ≤ (ji36) then (if (ji36) < (t138.length : Int) then (if t138.length < 8796093022208 then (some ((t138 ++ [(⟨wrap64 (((rd_T69 t138 (ji36)).f1) + 1), wrap64 (((rd_T69 t138 (ji36)).f1) + 3)⟩ : S69)]), t144, t145)) else (none)) else (none)) else (none)) = some (r1, r2, r3) := by first | (rw [hji36] at H; exact H) | (simp only [hji36] at H ⊢; exact H)
     (try rw [hji36] at A2)
     (try rw [hji36] at A6)
     have hji36w : (IntKind.i64.wrap ((t138.length : Int) - 1)) = ji36 := (i64_w _).trans hji36
     by_cases c37 : 0 ≤ (ji36)
     ·rw [if_pos c37] at H
      have c37b0 := decide_eq_true c37
      clear c37
      by_cases c38 : (ji36) < (t138.length : Int)
      ·rw [if_pos c38] at H
       have c38b0 := decide_eq_true c38
       clear c38
       by_cases c39 : t138.length < 8796093022208
       ·rw [if_pos c39] at H
        have LMc39 := Az_ c39
        clear c39
        obtain ⟨y162, hy162⟩ : ∃ y_ : List (S69), y_ = (t138 ++ [(⟨wrap64 (((rd_T69 t138 (ji36)).f1) + 1), wrap64 (((rd_T69 t138 (ji36)).f1) + 3)⟩ : S69)]) := ⟨_, rfl⟩
        replace H : (some (y162, t144, t145)) = some (r1, r2, r3) := by first | (rw [hy162]; with_reducible exact H) | (have H2_ := (Option.bind_some _ _).symm.trans H; rw [hy162]; with_reducible exact H2_) | (have H2_ := (Option.bind_some _ _).symm.trans H; with_reducible exact H2_) | with_reducible exact H | (rw [hy162]; exact H) | exact H
        have Ny162 := Az_ hy162
        clear hy162
        simp only [Option.some.injEq, Prod.mk.injEq] at H
        obtain ⟨rfl, rfl, rfl⟩ := H
        go_enter Tryz.func117, Tryz.ntmps117
        try go_wp2_with (first | ((with_reducible refine gate_callee (f := 140) rfl ?_); refine goesL_ (some 5) rfl rfl Tryz.func140 (w110_) rfl #[.pointer (some ⟨g, 0, none⟩)] rfl maz_ ?_; (with_reducible refine (spec_l1Cur_sureRanges.calls k g s0_0 s0_1 s0_2 t138 t141 t142 w0 _ ?side1 ?side2 A2.out).mono ?_); (case side1 => repeat (first | (with_reducible first | exact HI0.out | apply IsS99.alloc | apply IsS99.drewN | apply IsS99.drew | apply IsS99.set_1 | apply IsS99.set_2) | exact HI0.out)); (case side2 => repeat (first | (with_reducible first | exact HB.out | apply baz_ | apply bnz_ | apply bdz_ | refine bsz_ ?_ (IsS99.ge HI0.out)) | exact HB.out)); rintro e w40 ⟨v139, rfl, ho0, hi, hb, hk⟩; refine ⟨_, rfl, ?_⟩; have HO140 := Az_ (Kd.R_lower ho0 (keep_size (w := w) (g := g) (row := none) (w33_))); replace HK := Az_ (KeepBut.trans (w33_) hk (.inl rfl)); replace HB := Az_ (hb); replace HI0 := Az_ (hi); (try clear hb); (try clear hk); (try clear hi); (try clear ho0); obtain ⟨Ao41, co41, eo41⟩ := Kd.R_slice HO140.out; subst eo41) | ((with_reducible refine gate_callee (f := 126) rfl ?_); refine goesL_ (some 11) rfl rfl Tryz.func126 (w110_) rfl #[.pointer (some ⟨g, 0, none⟩), .int .i64 16] rfl maz_ ?_; (with_reducible refine (spec_l1Cur_pick.calls g s0_0 t141 t142 16 t143 t144 t145 w0 _ ?side1 ?side2 A6.out).mono ?_); (case side1 => repeat (first | (with_reducible first | exact HI0.out | apply IsS99.alloc | apply IsS99.drewN | apply IsS99.drew | apply IsS99.set_1 | apply IsS99.set_2) | exact HI0.out)); (case side2 => repeat (first | (with_reducible first | exact HB.out | apply baz_ | apply bnz_ | apply bdz_ | refine bsz_ ?_ (IsS99.ge HI0.out)) | exact HB.out)); rintro e w42 ⟨rfl, hi, hb, hk⟩; refine ⟨_, rfl, ?_⟩; replace HO140 := Az_ (Kd.R_mono (Kd.R_keep (IsS99.apart (show IsS99 w0 _ g s0_0 t141 t142 from w30_) (w84_) (by decide)) hk (fun _ h => h.2)) (fun _ h => h.1)); replace HK := Az_ (KeepBut.trans (w33_) hk (.inl rfl)); replace HB := Az_ (hb); replace HI0 := Az_ (hi); (try clear hb); (try clear hk); (try clear hi)))
        have n0_ := Az_ (rdz_ HO140.out)
        have n1_ := Az_ (IsS99.drew HI0.out)
        have n2_ := Az_ (keep_drew HK.out)
        have n3_ := Az_ (bdz_ HB.out)
        clear HO140 HI0 HK HB
        have HO140 := n0_
        have HI0 := n1_
        have HK := n2_
        have HB := n3_
        clear n0_ n1_ n2_ n3_
        have p160 : 0 ≤ ((ji36) : Int) := of_decide_eq_true asz_
        have q160 : (ji36) < (t138.length : Int) := of_decide_eq_true asz_
        obtain ⟨ad160, e160, hx160_0, hx160_1⟩ := at_T69 (Kd.R_reads' HO140.out).2.2 (ji36) p160 q160
        cases e160
        replace p160 := eq_true p160
        replace q160 := eq_true q160
        have p161 : 0 ≤ ((ji36) : Int) := of_decide_eq_true asz_
        have q161 : (ji36) < (t138.length : Int) := of_decide_eq_true asz_
        obtain ⟨ad161, e161, hx161_0, hx161_1⟩ := at_T69 (Kd.R_reads' HO140.out).2.2 (ji36) p161 q161
        obtain rfl : ad160 = ad161 := (by injection e161)
        replace p161 := eq_true p161
        replace q161 := eq_true q161
        refine start_ (n := 21) (S := fun w' => w'.cell? (ad160.add (((ji36)).toNat * 2)) = some (.int .i64 ((rd_T69 t138 (ji36)).f0)) ∧ w'.cell? ⟨(ad160.add (((ji36)).toNat * 2)).block, (ad160.add (((ji36)).toNat * 2)).off + 1, none⟩ = some (.int .i64 ((rd_T69 t138 (ji36)).f1)) ∧ w'.cell? (ad160.add (((ji36)).toNat * 2)) = some (.int .i64 ((rd_T69 t138 (ji36)).f0)) ∧ w'.cell? ⟨(ad160.add (((ji36)).toNat * 2)).block, (ad160.add (((ji36)).toNat * 2)).off + 1, none⟩ = some (.int .i64 ((rd_T69 t138 (ji36)).f1))) (ds := [18, 19]) #[false, false, false, false, false, false, false, false, false, false, false, false, false, false, false, false, false, false, false, false, false] (w110_) rfl rfl ⟨hx160_0, hx160_1, hx161_0, hx161_1⟩ (fun hHeld => ?_); refine with_tabW spec_l1Cur_ranges.tab10 spec_l1Cur_ranges.bits10 (fun HT_ HW_ => ?_)
        generalize w42.drew = w43 at HO140 HI0 HK HB hx160_0 hx160_1 hx161_0 hx161_1 hHeld ⊢
        refine pure_ (i := 0) (N := some 33) (v := ?_) (a' := ?_) (mz_ [1,20]) rfl rfl (any_of HT_.out (w110_)) (fun _ _ _ h => h) (Or.inl ⟨by rfl, ?_⟩) ?_ ?_
        rotate_left
        ·intro w'
         go_simp
         with_reducible rfl
        rotate_left
        ·simp only [Act.put, usz_, utz_, uvz_, i64_w, i32_w]
         rfl
        refine pure_ (i := 1) (N := some 34) (v := ?_) (a' := ?_) (mz_ [2,19]) rfl rfl (any_of HT_.out (w110_)) (fun _ _ _ h => h) (Or.inl ⟨by rfl, ?_⟩) ?_ ?_
        rotate_left
        ·intro w'
         go_simp
         with_reducible rfl
        rotate_left
        ·simp only [Act.put, usz_, utz_, uvz_, i64_w, i32_w]
         rfl
        refine pure_ (i := 2) (N := some 35) (v := ?_) (a' := ?_) (mz_ [3,18]) rfl rfl (any_of HT_.out (w110_)) (fun _ _ _ h => h) (Or.inl ⟨by rfl, ?_⟩) ?_ ?_
        rotate_left
        ·intro w'
         go_simp
         with_reducible rfl
        rotate_left
        ·simp only [Act.put, usz_, utz_, uvz_, i64_w, i32_w]
         rfl
        refine pure_ (i := 3) (N := some 36) (v := ?_) (a' := ?_) (mz_ [4,17]) rfl rfl (any_of HT_.out (w110_)) (fun _ _ _ h => h) (Or.inl ⟨by rfl, ?_⟩) ?_ ?_
        rotate_left
        ·intro w'
         go_simp
         with_reducible rfl
        rotate_left
        ·simp only [Act.put, usz_, utz_, uvz_, i64_w, i32_w]
         rfl
        refine pure_ (i := 4) (N := some 37) (v := ?_) (a' := ?_) (mz_ [5,16]) rfl rfl (any_of HT_.out (w110_)) (fun _ _ _ h => h) (Or.inl ⟨by rfl, ?_⟩) ?_ ?_
        rotate_left
        ·intro w'
         go_simp
         with_reducible rfl
        rotate_left
        ·simp only [Act.put, usz_, utz_, uvz_, i64_w, i32_w]
         rfl
        refine pure_ (i := 5) (N := some 38) (v := ?_) (a' := ?_) (mz_ [6,15]) rfl rfl (any_of HT_.out (w110_)) (fun _ _ _ h => h) (Or.inl ⟨by rfl, ?_⟩) ?_ ?_
        rotate_left
        ·intro w'
         go_simp
         with_reducible rfl
        rotate_left
        ·simp only [Act.put, usz_, utz_, uvz_, i64_w, i32_w]
         rfl
        refine pure_ (i := 6) (N := some 39) (v := ?_) (a' := ?_) (mz_ [7,14]) rfl rfl (any_of HT_.out (w110_)) (fun _ _ _ h => h) (Or.inl ⟨by rfl, ?_⟩) ?_ ?_
        rotate_left
        ·intro w'
         go_simp
         with_reducible rfl
        rotate_left
        ·simp only [Act.put, usz_, utz_, uvz_, i64_w, i32_w]
         rfl
        refine pure_ (i := 9) (N := some 42) (v := ?_) (a' := ?_) (mz_ [7,2,1,11]) rfl rfl (any_of HT_.out (w110_)) (fun _ _ _ h => h) (Or.inl ⟨by rfl, ?_⟩) ?_ ?_
        rotate_left
        ·intro w'
         go_simp
         with_reducible rfl
        rotate_left
        ·simp only [Act.put, usz_, utz_, uvz_, i64_w, i32_w]
         rfl
        refine pure_ (i := 10) (N := some 43) (v := ?_) (a' := ?_) (mz_ [7,2,2,10]) rfl rfl (any_of HT_.out (w110_)) (fun _ _ _ h => h) (Or.inl ⟨by rfl, ?_⟩) ?_ ?_
        rotate_left
        ·intro w'
         go_simp
         with_reducible rfl
        rotate_left
        ·simp only [Act.put, usz_, utz_, uvz_, i64_w, i32_w]
         rfl
        refine pure_ (i := 11) (N := some 44) (v := ?_) (a' := ?_) (mz_ [7,2,3,9]) rfl rfl (any_of HT_.out (w110_)) (fun _ _ _ h => h) (Or.inl ⟨by rfl, ?_⟩) ?_ ?_
        rotate_left
        ·intro w'
         go_simp
         with_reducible rfl
        rotate_left
        ·simp only [Act.put, usz_, utz_, uvz_, i64_w, i32_w]
         rfl
        refine pure_ (i := 12) (N := some 45) (v := ?_) (a' := ?_) (mz_ [7,2,4,8]) rfl rfl (any_of HT_.out (w110_)) (fun _ _ _ h => h) (Or.inl ⟨by rfl, ?_⟩) ?_ ?_
        rotate_left
        ·intro w'
         go_simp
         with_reducible rfl
        rotate_left
        ·simp only [Act.put, usz_, utz_, uvz_, i64_w, i32_w]
         rfl
        refine pure_ (i := 13) (N := some 46) (v := ?_) (a' := ?_) (mz_ [7,2,5,7]) rfl rfl (any_of HT_.out (w110_)) (fun _ _ _ h => h) (Or.inl ⟨by rfl, ?_⟩) ?_ ?_
        rotate_left
        ·intro w'
         go_simp
         with_reducible rfl
        rotate_left
        ·simp only [Act.put, usz_, utz_, uvz_, i64_w, i32_w]
         rfl
        refine pure_ (i := 14) (N := some 47) (v := ?_) (a' := ?_) (mz_ [7,2,6,6]) rfl rfl (any_of HT_.out (w110_)) (fun _ _ _ h => h) (Or.inl ⟨by rfl, ?_⟩) ?_ ?_
        rotate_left
        ·intro w'
         go_simp
         with_reducible rfl
        rotate_left
        ·simp only [Act.put, usz_, utz_, uvz_, i64_w, i32_w]
         rfl
        refine take_ (i := 7) (N := some 40) (v := ?_) (a' := ?_) (mz_ [8,1,6,6]) rfl rfl (take_ofW HT_.out HW_.out (w110_)) (fun _ _ _ h => h) (Or.inl ⟨by rfl, ?_⟩) hHeld ?_ ?_
        rotate_left
        ·rintro w' ⟨s0, s1, s2, s3⟩
         go_simp
         with_reducible rfl
        rotate_left
        ·simp only [Act.put, usz_, utz_, uvz_, i64_w, i32_w]
         rfl
        refine pure_ (i := 8) (N := some 41) (v := ?_) (a' := ?_) (mz_ [15,6]) rfl rfl (any_of HT_.out (w110_)) (fun _ _ _ h => h) (Or.inl ⟨by rfl, ?_⟩) ?_ ?_
        rotate_left
        ·intro w'
         go_simp
         with_reducible rfl
        rotate_left
        ·simp only [Act.put, usz_, utz_, uvz_, i64_w, i32_w]
         rfl
        refine take_ (i := 15) (N := some 48) (v := ?_) (a' := ?_) (mz_ [16,5]) rfl rfl (take_ofW HT_.out HW_.out (w110_)) (fun _ _ _ h => h) (Or.inl ⟨by rfl, ?_⟩) hHeld ?_ ?_
        rotate_left
        ·rintro w' ⟨s0, s1, s2, s3⟩
         go_simp
         with_reducible rfl
        rotate_left
        ·simp only [Act.put, usz_, utz_, uvz_, i64_w, i32_w]
         rfl
        refine pure_ (i := 16) (N := some 49) (v := ?_) (a' := ?_) (mz_ [17,4]) rfl rfl (any_of HT_.out (w110_)) (fun _ _ _ h => h) (Or.inl ⟨by rfl, ?_⟩) ?_ ?_
        rotate_left
        ·intro w'
         go_simp
         with_reducible rfl
        rotate_left
        ·simp only [Act.put, usz_, utz_, uvz_, i64_w, i32_w]
         rfl
        refine pure_ (i := 17) (N := some 50) (v := ?_) (a' := ?_) (mz_ [18,3]) rfl rfl (any_of HT_.out (w110_)) (fun _ _ _ h => h) (Or.inl ⟨by rfl, ?_⟩) ?_ ?_
        rotate_left
        ·intro w'
         go_simp
         with_reducible rfl
        rotate_left
        ·simp only [Act.put, usz_, utz_, uvz_, i64_w, i32_w]
         rfl
        refine last_ (i := 18) (N := some 51) (mz_ [19,2]) rfl rfl (one_of HT_.out (w110_)) (by decide) (fun K hK => ?_)
        refine value_ (w1 := ?_) (v := ?_) (by rfl) rfl ?_ ?_
        rotate_left 2
        ·go_simp
         constructor
         ·rfl
         ·rfl
        refine hK.out _ _ ?_
        clear hK K
        refine norm_ (a' := ?_) ?_ ?_
        rotate_left
        ·show Act.put _ (some 51) _ = _
         simp only [Act.put, usz_, utz_, uvz_, i64_w, i32_w]
         rfl
        refine last_ (i := 19) (N := some 52) (mz_ [20,1]) rfl rfl (one_of HT_.out (w110_)) (by decide) (fun K hK => ?_)
        refine Kd.R_append_step k69 w.heap.size (by rfl) (.tmp 33) (.tmp 51) 51 69 (.agg #[(.int .i64 0), (.int .i64 0)]) 16 rfl Tryz.underlying51 info69 rfl (by decide) (by omega) (.slice (some ad160) t138.length co41) t138 (⟨wrap64 (((rd_T69 t138 (ji36)).f1) + 1), wrap64 (((rd_T69 t138 (ji36)).f1) + 3)⟩ : S69) [.int .i64 (wrap64 (((rd_T69 t138 (ji36)).f1) + 1)), .int .i64 (wrap64 (((rd_T69 t138 (ji36)).f1) + 3))] (fun _ => True) (fun _ => False) rfl rfl ?aP (fun _ hk => hk.elim) ?aF ?aO (Below.refl _ _) ?aS ?aL ?_
        (case aP => exact k69_mkM _ _ _ (⟨wrap64 (((rd_T69 t138 (ji36)).f1) + 1), wrap64 (((rd_T69 t138 (ji36)).f1) + 3)⟩ : S69))
        (case aF => exact (fun _ _ => trivial))
        (case aO => exact (w84_))
        (case aS => exact (keep_size (w := w) (g := g) (row := none) (w33_)))
        (case aL => have := LMc39.out; omega)
        intro v163 w44 ho hb hg hat
        rw [← Ny162.out] at ho
        have n0_ := Az_ (IsS99.grown (show IsS99 w0 _ g s0_0 t144 t145 from w30_) hg (IsS99.own_ne HI0.out HO140.out (by decide)))
        have n1_ := Az_ (below_weaken (w39_) HL.out hb)
        have n2_ := Az_ (KeepBut.trans (w33_) (KeepBut.of_grown hg g) (Kd.R_base2 HO140.out))
        have n3_ := Az_ (ho)
        clear HI0 HB HK HO140
        have HI0 := n0_
        have HB := n1_
        have HK := n2_
        have HO164 := n3_
        clear n0_ n1_ n2_ n3_ ho hb hg hat
        refine hK.out _ _ ?_
        clear hK K
        refine norm_ (a' := ?_) ?_ ?_
        rotate_left
        ·show Act.put _ (some 52) _ = _
         simp only [Act.put, usz_, utz_, uvz_, i64_w, i32_w]
         rfl
        refine pure_ (i := 20) (N := some 3) (v := ?_) (a' := ?_) (mz_ [21]) rfl rfl (any_of HT_.out (w110_)) (fun _ _ _ h => h) (Or.inl ⟨by rfl, ?_⟩) ?_ ?_
        rotate_left
        ·intro w'
         go_simp
         with_reducible rfl
        rotate_left
        ·simp only [Act.put, usz_, utz_, uvz_, i64_w, i32_w]
         rfl
        refine done_ (done_of HT_.out (w110_)) ?_
        try go_wp2
        go_ret
        exact ⟨_, by first | rfl | (simp [errW_none, errW_some] <;> rfl) | (simp only [← hji36]; first | rfl | (simp [errW_none, errW_some] <;> rfl)) | (simp [*, errW_none, errW_some] <;> rfl), by (with_reducible repeat (first | apply raz_ | apply rnz_ | apply rdz_)); exact HO164.out, w30_, w39_, w33_⟩
       ·rw [if_neg c39] at H
        exact absurd H (by simp)
      ·rw [if_neg c38] at H
       exact absurd H (by simp)
     ·rw [if_neg c37] at H
      exact absurd H (by simp)
    ·rw [if_neg c35] at H
     have c35b0 : (t143 == 2) = false := beq_eq_false_iff_ne.mpr c35
     have c35b1 : (t143 != 2) = true := bne_iff_ne.mpr c35
     simp only [Option.some.injEq, Prod.mk.injEq] at H
     obtain ⟨rfl, rfl, rfl⟩ := H
     go_enter Tryz.func117, Tryz.ntmps117
     go_wp2_with (first | ((with_reducible refine gate_callee (f := 140) rfl ?_); refine goesL_ (some 5) rfl rfl Tryz.func140 (w110_) rfl #[.pointer (some ⟨g, 0, none⟩)] rfl maz_ ?_; (with_reducible refine (spec_l1Cur_sureRanges.calls k g s0_0 s0_1 s0_2 t138 t141 t142 w0 _ ?side1 ?side2 A2.out).mono ?_); (case side1 => repeat (first | (with_reducible first | exact HI0.out | apply IsS99.alloc | apply IsS99.drewN | apply IsS99.drew | apply IsS99.set_1 | apply IsS99.set_2) | exact HI0.out)); (case side2 => repeat (first | (with_reducible first | exact HB.out | apply baz_ | apply bnz_ | apply bdz_ | refine bsz_ ?_ (IsS99.ge HI0.out)) | exact HB.out)); rintro e w45 ⟨v139, rfl, ho0, hi, hb, hk⟩; refine ⟨_, rfl, ?_⟩; have HO140 := Az_ (Kd.R_lower ho0 (keep_size (w := w) (g := g) (row := none) (w33_))); replace HK := Az_ (KeepBut.trans (w33_) hk (.inl rfl)); replace HB := Az_ (hb); replace HI0 := Az_ (hi); (try clear hb); (try clear hk); (try clear hi); (try clear ho0); obtain ⟨Ao46, co46, eo46⟩ := Kd.R_slice HO140.out; subst eo46) | ((with_reducible refine gate_callee (f := 126) rfl ?_); refine goesL_ (some 11) rfl rfl Tryz.func126 (w110_) rfl #[.pointer (some ⟨g, 0, none⟩), .int .i64 16] rfl maz_ ?_; (with_reducible refine (spec_l1Cur_pick.calls g s0_0 t141 t142 16 t143 t144 t145 w0 _ ?side1 ?side2 A6.out).mono ?_); (case side1 => repeat (first | (with_reducible first | exact HI0.out | apply IsS99.alloc | apply IsS99.drewN | apply IsS99.drew | apply IsS99.set_1 | apply IsS99.set_2) | exact HI0.out)); (case side2 => repeat (first | (with_reducible first | exact HB.out | apply baz_ | apply bnz_ | apply bdz_ | refine bsz_ ?_ (IsS99.ge HI0.out)) | exact HB.out)); rintro e w47 ⟨rfl, hi, hb, hk⟩; refine ⟨_, rfl, ?_⟩; replace HO140 := Az_ (Kd.R_mono (Kd.R_keep (IsS99.apart (show IsS99 w0 _ g s0_0 t141 t142 from w30_) (w84_) (by decide)) hk (fun _ h => h.2)) (fun _ h => h.1)); replace HK := Az_ (KeepBut.trans (w33_) hk (.inl rfl)); replace HB := Az_ (hb); replace HI0 := Az_ (hi); (try clear hb); (try clear hk); (try clear hi)))
     go_ret
     exact ⟨_, w61_, w63_, w30_, w39_, w33_⟩

def spec_DrawUnionRanges.f (k : Nat) (l0 : List Int) : Option ((List (S69)) × (List (S69))) := (spec_l1Cur_ranges.f k l0 0 0).bind fun bt166 => ((spec_l1Cur_ranges.f k l0 bt166.2.1 bt166.2.2).bind fun bt171 => (some (bt166.1, bt171.1)))
set_option maxHeartbeats 8000000 in
set_option maxRecDepth 100000 in
theorem spec_DrawUnionRanges.calls (k : Nat) (A0 : Option Addr) (c0 : Nat) (l0 : List Int) (r1 : List (S69)) (r2 : List (S69)) (w : World) (hr0 : Kd.C (Kd.int .u8) w A0 l0.length l0) (hc0 : l0.length ≤ c0) (h : spec_DrawUnionRanges.f k l0 = some (r1, r2)) :
  Calls Tryz.prog 34 #[.slice A0 l0.length c0] w fun e w' => ∃ v0_ v1_ : Value, e = .returned (.tuple #[v0_, v1_]) ∧ Kd.R k69 69 w' w.heap.size (fun k_ => some k_ ≠ (v1_ : Value).ownBlock) v0_ r1 ∧ Kd.R k69 69 w' w.heap.size (fun k_ => some k_ ≠ (v0_ : Value).ownBlock) v1_ r2 ∧ Below w.heap.size w w' := by
 have hu99 := Tryz.underlying99
 have HR0 := Az_ hr0
 have HC0 := Az_ hc0
 clear hr0 hc0
 have HB := Az_ (Below.refl w.heap.size w)
 have H : ((spec_l1Cur_ranges.f k l0 0 0).bind fun bt166 => ((spec_l1Cur_ranges.f k l0 bt166.2.1 bt166.2.2).bind fun bt171 => (some (bt166.1, bt171.1)))) = some (r1, r2) := h
 clear h
 replace H := bqz_ H; obtain ⟨⟨t166, t169, t170⟩, A2, H⟩ := H
 replace H := bqz_ H; obtain ⟨⟨t171, t174, t175⟩, A3, H⟩ := H
 replace H : (some (t166, t171)) = some (r1, r2) := H
 simp only [Option.some.injEq, Prod.mk.injEq] at H
 obtain ⟨rfl, rfl⟩ := H
 go_enter Tryz.func34, Tryz.ntmps34
 go_wp2_with (first | ((with_reducible refine gate_dst (N := 8) rfl ?_); refine box_event ?hg (N := 8) ?hd (cs := #[.slice A0 l0.length c0, .int .i64 0, .int .u64 0]) (t := 99) ?hr ?_; (case hd => rfl); (case hg => rfl); (case hr => first | (go_simp; done) | (go_simp; rfl)); intro gb165 hg w4 hbox hb; have BK165 := Az_ (hbox); have GW165 := Az_ ((by rw [hg]; exact (below_size (ubz_ HB.out)) : w.heap.size ≤ gb165)); have GE165 := Az_ ((by rw [hg]; exact (below_size (ubz_ HB.out)) : w.heap.size ≤ gb165)); replace HB := Az_ (btz_ (ubz_ HB.out) hb); clear hb hbox hg) | ((with_reducible refine gate_callee (f := 117) rfl ?_); refine goesL_ (some 10) rfl rfl Tryz.func117 (w110_) rfl #[.pointer (some ⟨gb165, 0, none⟩)] rfl maz_ ?_; have HI165 := Az_ (show IsS99 w w4 gb165 l0 0 0 from ⟨_, _, BK165.out, GE165.out, HR0.out⟩); (with_reducible refine (spec_l1Cur_ranges.calls k gb165 l0 0 0 t166 t169 t170 w _ ?side1 ?side2 A2.out).mono ?_); (case side1 => repeat (first | (with_reducible first | exact HI165.out | apply IsS99.alloc | apply IsS99.drewN | apply IsS99.drew | apply IsS99.set_1 | apply IsS99.set_2) | exact HI165.out)); (case side2 => repeat (first | (with_reducible first | exact HB.out | apply baz_ | apply bnz_ | apply bdz_ | refine bsz_ ?_ (IsS99.ge HI165.out)) | exact HB.out)); rintro e w5 ⟨v167, rfl, ho0, hi, hb, hk⟩; refine ⟨_, rfl, ?_⟩; have HO168 := Az_ (Kd.R_lower ho0 (below_size (w34_))); replace HB := Az_ (hb); replace HI165 := Az_ (hi); (try clear hb); (try clear hk); (try clear hi); (try clear ho0)) | ((with_reducible refine gate_callee (f := 117) rfl ?_); refine goesL_ (some 13) rfl rfl Tryz.func117 (w110_) rfl #[.pointer (some ⟨gb165, 0, none⟩)] rfl maz_ ?_; (with_reducible refine (spec_l1Cur_ranges.calls k gb165 l0 t169 t170 t171 t174 t175 w _ ?side1 ?side2 A3.out).mono ?_); (case side1 => repeat (first | (with_reducible first | exact HI165.out | apply IsS99.alloc | apply IsS99.drewN | apply IsS99.drew | apply IsS99.set_1 | apply IsS99.set_2) | exact HI165.out)); (case side2 => repeat (first | (with_reducible first | exact HB.out | apply baz_ | apply bnz_ | apply bdz_ | refine bsz_ ?_ (IsS99.ge HI165.out)) | exact HB.out)); rintro e w6 ⟨v172, rfl, ho0, hi, hb, hk⟩; refine ⟨_, rfl, ?_⟩; have HO173 := Az_ (Kd.R_lower (Kd.R_new' ho0 (Kd.R_lt (by exact urz_ HO168.out))) (below_size (w34_))); replace HO168 := Az_ (Kd.R_mono (Kd.R_told (Kd.R_oldK (IsS99.apart (show IsS99 w _ gb165 l0 t169 t170 from by repeat (first | (with_reducible first | exact HI165.out | apply IsS99.alloc | apply IsS99.drewN | apply IsS99.drew | apply IsS99.set_1 | apply IsS99.set_2) | exact HI165.out)) (by exact urz_ HO168.out) (by decide)) hk) (Kd.R_base ho0)) (fun _ h_ => h_.1)); replace HB := Az_ (hb); replace HI165 := Az_ (hi); (try clear hb); (try clear hk); (try clear hi); (try clear ho0)))
 go_ret2
 exact ⟨_, _, w61_, by (with_reducible repeat (first | apply raz_ | apply rnz_ | apply rdz_)); exact Kd.R_mono HO168.out (fun _ hk => hk.2), by (with_reducible repeat (first | apply raz_ | apply rnz_ | apply rdz_)); exact Kd.R_mono HO173.out (fun _ hk => hk.2), w34_⟩

def impl_within.f (a0 : Int) (a1 : Int) (a2 : Int) : Option (Bool) := if a0 ≥ a1 then (some (decide (a0 ≤ a2))) else (some false)
set_option maxHeartbeats 8000000 in
set_option maxRecDepth 100000 in
theorem impl_within.calls (a0 : Int) (a1 : Int) (a2 : Int) (r : Bool) (w : World) (h : impl_within.f a0 a1 a2 = some r) :
  Calls Tryz.prog 107 #[.int .i64 a0, .int .i64 a1, .int .i64 a2] w fun e w' => e = .returned (.bool r) ∧ Drawn0 w w' := by
 have H : (if a0 ≥ a1 then (some (decide (a0 ≤ a2))) else (some false)) = some r := h
 clear h
 by_cases c4 : a0 ≥ a1
 ·rw [if_pos c4] at H
  have c4b0 := decide_eq_true c4
  clear c4
  obtain rfl := Option.some.inj H
  go_enter Tryz.func107, Tryz.ntmps107
  go_wp2
  go_ret
  exact ⟨w77_, w74_⟩
 ·rw [if_neg c4] at H
  have c4b0 := decide_eq_false c4
  clear c4
  obtain rfl := Option.some.inj H
  go_enter Tryz.func107, Tryz.ntmps107
  go_wp2
  go_ret
  exact ⟨w77_, w74_⟩

end Go.Proofs.YtppbpefehpbejaaGreatDoor.P
end

section
namespace Go.Proofs.YtppbpefehpbejaaGreatDoor.P
open Go.RowKit Go.Proofs.YtppbpefehpbejaaGreatDoorW.PrintWords Go.Proofs.YtppbpefehpbejaaGreatDoorW.PrintLast Go.Proofs.YtppbpefehpbejaaGreatDoorW.PrintMore
attribute [local go_sem] max2_int min2_int max_two min_two max_three min_three max_four min_four   -- for this text's walks alone
set_option linter.unusedVariables false
set_option linter.unusedSimpArgs false

def impl_isRange.f (a0_0 : Int) (a0_1 : Int) : Option (Bool) := (impl_within.f a0_1 1 2000).bind fun t177 => (if t177 = true then ((impl_within.f a0_0 1 a0_1).bind fun t178 => (some t178)) else (some false))
set_option maxHeartbeats 8000000 in
set_option maxRecDepth 100000 in
theorem impl_isRange.calls (a0_0 : Int) (a0_1 : Int) (r : Bool) (w : World) (h : impl_isRange.f a0_0 a0_1 = some r) :
  Calls Tryz.prog 123 #[.agg #[.int .i64 a0_0, .int .i64 a0_1]] w fun e w' => e = .returned (.bool r) ∧ Below w.heap.size w w' := by
 have hu69 := Tryz.underlying69
 have HB := Az_ (Below.refl w.heap.size w)
 have H : ((impl_within.f a0_1 1 2000).bind fun t177 => (if t177 = true then ((impl_within.f a0_0 1 a0_1).bind fun t178 => (some t178)) else (some false))) = some r := h
 clear h
 replace H := bqz_ H; obtain ⟨t177, A2, H⟩ := H
 replace H : (if t177 = true then ((impl_within.f a0_0 1 a0_1).bind fun t178 => (some t178)) else (some false)) = some r := H
 by_cases c3 : t177 = true
 ·subst c3
  rw [if_pos rfl] at H
  replace H := bqz_ H; obtain ⟨t178, A4, H⟩ := H
  replace H : (some t178) = some r := H
  obtain rfl := Option.some.inj H
  go_enter Tryz.func123, Tryz.ntmps123
  go_wp2_with (first | ((with_reducible refine gate_dst (N := 1) rfl ?_); refine box_event ?hg (N := 1) ?hd (cs := #[.int .i64 a0_0, .int .i64 a0_1]) (t := 69) ?hr ?_; (case hd => rfl); (case hg => rfl); (case hr => first | (go_simp; done) | (go_simp; rfl)); intro gb176 hg w5 hbox hb; have BK176 := Az_ (hbox); have GW176 := Az_ ((by rw [hg]; exact (below_size (ubz_ HB.out)) : w.heap.size ≤ gb176)); have GE176 := Az_ ((by rw [hg]; exact (below_size (ubz_ HB.out)) : w.heap.size ≤ gb176)); replace HB := Az_ (btz_ (ubz_ HB.out) hb); clear hb hbox hg; have hcz6_0 : w5.cell? ⟨gb176, 0, none⟩ = some (.int .i64 a0_0) := (blk_cell BK176.out 0).trans rfl; have hcz6_1 : w5.cell? ⟨gb176, 1, none⟩ = some (.int .i64 a0_1) := (blk_cell BK176.out 1).trans rfl; have hfz6_0 := blk_frozen BK176.out 0; have hfz6_1 := blk_frozen BK176.out 1) | ((with_reducible refine gate_callee (f := 107) rfl ?_); refine goesL_ (some 5) rfl rfl Tryz.func107 (w110_) rfl #[.int .i64 a0_1, .int .i64 1, .int .i64 2000] rfl maz_ ?_; (with_reducible refine (impl_within.calls a0_1 1 2000 true _ A2.out).mono ?_); rintro e w' ⟨rfl, ⟨nd, rfl⟩⟩; refine ⟨_, rfl, ?_⟩) | (go_at_call 107; (with_reducible refine (impl_within.calls a0_0 1 a0_1 t178 _ A4.out).mono ?_); rintro e w' ⟨rfl, ⟨nd, rfl⟩⟩))
  go_ret
  exact ⟨w61_, w40_⟩
 ·replace c3 := Bool.eq_false_iff.mpr c3
  subst c3
  rw [if_neg nfz_] at H
  obtain rfl := Option.some.inj H
  go_enter Tryz.func123, Tryz.ntmps123
  go_wp2_with (first | ((with_reducible refine gate_dst (N := 1) rfl ?_); refine box_event ?hg (N := 1) ?hd (cs := #[.int .i64 a0_0, .int .i64 a0_1]) (t := 69) ?hr ?_; (case hd => rfl); (case hg => rfl); (case hr => first | (go_simp; done) | (go_simp; rfl)); intro gb176 hg w7 hbox hb; have BK176 := Az_ (hbox); have GW176 := Az_ ((by rw [hg]; exact (below_size (ubz_ HB.out)) : w.heap.size ≤ gb176)); have GE176 := Az_ ((by rw [hg]; exact (below_size (ubz_ HB.out)) : w.heap.size ≤ gb176)); replace HB := Az_ (btz_ (ubz_ HB.out) hb); clear hb hbox hg; have hcz8_0 : w7.cell? ⟨gb176, 0, none⟩ = some (.int .i64 a0_0) := (blk_cell BK176.out 0).trans rfl; have hcz8_1 : w7.cell? ⟨gb176, 1, none⟩ = some (.int .i64 a0_1) := (blk_cell BK176.out 1).trans rfl; have hfz8_0 := blk_frozen BK176.out 0; have hfz8_1 := blk_frozen BK176.out 1) | ((with_reducible refine gate_callee (f := 107) rfl ?_); refine goesL_ (some 5) rfl rfl Tryz.func107 (w110_) rfl #[.int .i64 a0_1, .int .i64 1, .int .i64 2000] rfl maz_ ?_; (with_reducible refine (impl_within.calls a0_1 1 2000 false _ A2.out).mono ?_); rintro e w' ⟨rfl, ⟨nd, rfl⟩⟩; refine ⟨_, rfl, ?_⟩))
  go_ret
  exact ⟨w61_, w40_⟩

end Go.Proofs.YtppbpefehpbejaaGreatDoor.P
end

section
namespace Go.Proofs.YtppbpefehpbejaaGreatDoor.P
open Go.RowKit Go.Proofs.YtppbpefehpbejaaGreatDoorW.PrintWords Go.Proofs.YtppbpefehpbejaaGreatDoorW.PrintLast Go.Proofs.YtppbpefehpbejaaGreatDoorW.PrintMore
attribute [local go_sem] max2_int min2_int max_two min_two max_three min_three max_four min_four   -- for this text's walks alone
set_option linter.unusedVariables false
set_option linter.unusedSimpArgs false

def impl_AreRanges.l0 : Nat → List (S69) → List (S69) → Int → Int → Option (Bool)
 | 0, _, _, _, _ => none
 | k + 1, x0, x5, x6, x7 => if x7 < x6 then (if 0 ≤ x7 then (if x7 < (x5.length : Int) then ((impl_isRange.f ((rd_T69 x5 x7).f0) ((rd_T69 x5 x7).f1)).bind fun t181 => (if t181 = true then (if x7 > 0 then (if 0 ≤ (wrap64 (x7 - 1)) then (if (wrap64 (x7 - 1)) < (x0.length : Int) then (if ((rd_T69 x5 x7).f0) < (wrap64 (((rd_T69 x0 (wrap64 (x7 - 1))).f1) + 2)) then (some false) else (impl_AreRanges.l0 k x0 x5 x6 (wrap64 (x7 + 1)))) else (none)) else (none)) else (impl_AreRanges.l0 k x0 x5 x6 (wrap64 (x7 + 1)))) else (some false))) else (none)) else (none)) else (some (decide ((x0.length : Int) ≤ 20)))
def impl_AreRanges.f (k : Nat) (l0 : List (S69)) : Option (Bool) := impl_AreRanges.l0 k l0 l0 (l0.length : Int) 0
def impl_AreRanges.T4 : Bool × List (List Nat × List Nat) := (true, [([], []), ([0], [0]), ([1], [1]), ([2, 1], [2]), ([3], [3]), ([4, 3], [3, 4]), ([5, 3, 3], [3, 5]), ([6], [6]), ([7, 6], [6, 7]), ([6], [6]), ([6], [6]), ([10, 6], [6, 10]), ([9, 11, 6], [6, 9, 11]), ([12, 6], [6, 12]), ([13, 6], [6, 13]), ([14, 6], [6, 14]), ([8, 15, 6], [6, 8, 15]), ([6, 16, 3], [3, 6, 16]), ([3, 17], [3, 17])])
def impl_AreRanges.B4 : List Nat := [0, 1, 3, 7, 15, 31, 63, 127, 255, 127, 127, 1151, 3711, 7807, 15999, 32383, 65535, 131071, 262143]
theorem impl_AreRanges.tab4 : rtab .any (opsOf Tryz.f43 4) = impl_AreRanges.T4 := by kernel_rfl
theorem impl_AreRanges.bits4 : waitsOk impl_AreRanges.T4.2 impl_AreRanges.B4 = true := by kernel_rfl
set_option maxHeartbeats 8000000 in
set_option maxRecDepth 100000 in
theorem impl_AreRanges.calls (k : Nat) (A0 : Option Addr) (c0 : Nat) (l0 : List (S69)) (r : Bool) (w : World) (hr0 : Kd.C k69 w A0 l0.length l0) (hc0 : l0.length ≤ c0) (h : impl_AreRanges.f k l0 = some r) :
  Calls Tryz.prog 43 #[.slice A0 l0.length c0] w fun e w' => e = .returned (.bool r) ∧ Below w.heap.size w w' := by
 have hu69 := Tryz.underlying69
 have HR0 := Az_ hr0
 have HC0 := Az_ hc0
 clear hr0 hc0
 have HB := Az_ (Below.refl w.heap.size w)
 have H : (impl_AreRanges.l0 k l0 l0 (l0.length : Int) 0) = some r := h
 clear h
 have H' := Az_ H
 clear H
 go_enter Tryz.func43, Tryz.ntmps43
 go_wp2
 go_loopg [7] k (fun kq v7 w' => ∃ (x7_1 : Int), v7 = .int .i64 x7_1 ∧ Aside0 (impl_AreRanges.l0 kq l0 l0 (l0.length : Int) x7_1 = some r) ∧ Aside0 (kq ≤ k) ∧ Aside0 (Below w.heap.size w w'))
 case atStart => exact ⟨(0), qaz_, H', ⟨Nat.le_refl _⟩, ⟨w109_⟩⟩
 case round =>
  clear H'
  obtain ⟨x7_1, rfl, HA, HK1, HB⟩ := hrel
  cases gk with
  | zero => exact absurd HA.out (by simp [impl_AreRanges.l0])
  | succ k1 =>
   have H := HA.out
   clear HA
   simp only [impl_AreRanges.l0] at H
   by_cases c2 : x7_1 < (l0.length : Int)
   ·rw [if_pos c2] at H
    have c2b0 := decide_eq_true c2
    clear c2
    by_cases c3 : 0 ≤ x7_1
    ·rw [if_pos c3] at H
     have c3b0 := decide_eq_true c3
     clear c3
     by_cases c4 : x7_1 < (l0.length : Int)
     ·rw [if_pos c4] at H
      have c4b0 := decide_eq_true c4
      clear c4
      replace H := bqz_ H; obtain ⟨t181, A5, H⟩ := H
      replace H : (if t181 = true then (if x7_1 > 0 then (if 0 ≤ (wrap64 (x7_1 - 1)) then (if (wrap64 (x7_1 - 1)) < (l0.length : Int) then (if ((rd_T69 l0 x7_1).f0) < (wrap64 (((rd_T69 l0 (wrap64 (x7_1 - 1))).f1) + 2)) then (some false) else (impl_AreRanges.l0 k1 l0 l0 (l0.length : Int) (wrap64 (x7_1 + 1)))) else (none)) else (none)) else (impl_AreRanges.l0 k1 l0 l0 (l0.length : Int) (wrap64 (x7_1 + 1)))) else (some false)) = some r := H
      by_cases c6 : t181 = true
      ·subst c6
       rw [if_pos rfl] at H
       by_cases c7 : x7_1 > 0
       ·rw [if_pos c7] at H
        have c7b0 := decide_eq_true c7
        clear c7
        obtain ⟨ji8, hji8⟩ : ∃ j_ : Int, (wrap64 (x7_1 - 1)) = j_ := ⟨_, rfl⟩
        replace H : (if 0 ≤ (ji8) then (if (ji8) < (l0.length : Int) then (if ((rd_T69 l0 x7_1).f0) < (wrap64 (((rd_T69 l0 (ji8)).f1) + 2)) then (some false) else (impl_AreRanges.l0 k1 l0 l0 (l0.length : Int) (wrap64 (x7_1 + 1)))) else (none)) else (none)) = some r := by first | (rw [hji8] at H; exact H) | (simp only [hji8] at H ⊢; exact H)
        (try rw [hji8] at A5)
        have hji8w : (IntKind.i64.wrap (x7_1 - 1)) = ji8 := (i64_w _).trans hji8
        by_cases c9 : 0 ≤ (ji8)
        ·rw [if_pos c9] at H
         have c9b0 := decide_eq_true c9
         clear c9
         by_cases c10 : (ji8) < (l0.length : Int)
         ·rw [if_pos c10] at H
          have c10b0 := decide_eq_true c10
          clear c10
          by_cases c11 : ((rd_T69 l0 x7_1).f0) < (wrap64 (((rd_T69 l0 (ji8)).f1) + 2))
          ·rw [if_pos c11] at H
           have c11b0 := decide_eq_true c11
           clear c11
           obtain rfl := Option.some.inj H
           have p179 : 0 ≤ (x7_1 : Int) := of_decide_eq_true asz_
           have q179 : x7_1 < (l0.length : Int) := of_decide_eq_true asz_
           obtain ⟨ad179, e179, hx179_0, hx179_1⟩ := at_T69 HR0.out x7_1 p179 q179
           cases e179
           replace hx179_0 := (HB.out.cell (World.block_lt_of_cell? w _ hx179_0)).trans hx179_0
           replace hx179_1 := (HB.out.cell (World.block_lt_of_cell? w _ hx179_1)).trans hx179_1
           replace p179 := eq_true p179
           replace q179 := eq_true q179
           try go_wp2_with (first | ((with_reducible refine gate_dst (N := 4) rfl ?_); refine box_event ?hg (N := 4) ?hd (cs := #[.int .i64 0, .int .i64 0]) (t := 69) ?hr ?_; (case hd => rfl); (case hg => rfl); (case hr => first | (go_simp; done) | (go_simp; rfl)); intro gb180 hg w12 hbox hb; have BK180 := Az_ (hbox); have GW180 := Az_ ((by rw [hg]; exact (below_size (ubz_ HB.out)) : w.heap.size ≤ gb180)); have GE180 := Az_ ((by rw [hg]; exact (below_size (ubz_ HB.out)) : w.heap.size ≤ gb180)); replace HB := Az_ (btz_ (ubz_ HB.out) hb); clear hb hbox hg; have hcz13_0 : w12.cell? ⟨gb180, 0, none⟩ = some (.int .i64 0) := (blk_cell BK180.out 0).trans rfl; have hcz13_1 : w12.cell? ⟨gb180, 1, none⟩ = some (.int .i64 0) := (blk_cell BK180.out 1).trans rfl; have hfz13_0 := blk_frozen BK180.out 0; have hfz13_1 := blk_frozen BK180.out 1))
           have n0_ : Aside0 (((w12.setCell ⟨gb180, 0, none⟩ (.int .i64 ((rd_T69 l0 x7_1).f0))).setCell ⟨gb180, 1, none⟩ (.int .i64 ((rd_T69 l0 x7_1).f1))).heap[gb180]? = some (.cells #[.int .i64 ((rd_T69 l0 x7_1).f0), .int .i64 ((rd_T69 l0 x7_1).f1)] 69 (0, 0))) := ⟨w12_⟩
           have n1_ : Aside0 (Below w.heap.size w ((w12.setCell ⟨gb180, 0, none⟩ (.int .i64 ((rd_T69 l0 x7_1).f0))).setCell ⟨gb180, 1, none⟩ (.int .i64 ((rd_T69 l0 x7_1).f1)))) := ⟨w40_⟩
           clear BK180
           clear HB
           generalize ((w12.setCell ⟨gb180, 0, none⟩ (.int .i64 ((rd_T69 l0 x7_1).f0))).setCell ⟨gb180, 1, none⟩ (.int .i64 ((rd_T69 l0 x7_1).f1))) = w14 at n0_ n1_ ⊢
           have BK180 := n0_
           have HB := n1_
           clear n0_ n1_
           have n0_ := Az_ (kdz_ BK180.out)
           have n1_ := Az_ (bdz_ HB.out)
           clear BK180 HB
           have BK180 := n0_
           have HB := n1_
           clear n0_ n1_
           have p182 : 0 ≤ ((ji8) : Int) := of_decide_eq_true asz_
           have q182 : (ji8) < (l0.length : Int) := of_decide_eq_true asz_
           obtain ⟨ad182, e182, hx182_0, hx182_1⟩ := at_T69 HR0.out (ji8) p182 q182
           have hw182_1 := hx182_1
           have hw182_0 := hx182_0
           obtain rfl : ad179 = ad182 := (by injection e182)
           replace hx182_0 := (HB.out.cell (World.block_lt_of_cell? w _ hx182_0)).trans hx182_0
           replace hx182_1 := (HB.out.cell (World.block_lt_of_cell? w _ hx182_1)).trans hx182_1
           replace p182 := eq_true p182
           replace q182 := eq_true q182
           refine start_ (n := 19) (S := fun w' => w'.cell? ⟨gb180, 0, none⟩ = some (.int .i64 ((rd_T69 l0 x7_1).f0)) ∧ w'.cell? ⟨gb180, 1, none⟩ = some (.int .i64 ((rd_T69 l0 x7_1).f1)) ∧ w'.cell? (ad179.add (((ji8)).toNat * 2)) = some (.int .i64 ((rd_T69 l0 (ji8)).f0)) ∧ w'.cell? ⟨(ad179.add (((ji8)).toNat * 2)).block, (ad179.add (((ji8)).toNat * 2)).off + 1, none⟩ = some (.int .i64 ((rd_T69 l0 (ji8)).f1))) (ds := []) #[false, false, false, false, false, false, false, false, false, false, false, false, false, false, false, false, false, false, false] (w110_) rfl rfl ⟨(blk_cell BK180.out 0).trans rfl, (blk_cell BK180.out 1).trans rfl, ((HB.out.cell (World.block_lt_of_cell? w _ hw182_0)).trans hw182_0), ((HB.out.cell (World.block_lt_of_cell? w _ hw182_1)).trans hw182_1)⟩ (fun hHeld => ?_); refine with_tabW impl_AreRanges.tab4 impl_AreRanges.bits4 (fun HT_ HW_ => ?_)
           generalize w14.drew = w15 at BK180 HB hx182_0 hx182_1 hHeld ⊢
           refine take_ (i := 0) (N := some 12) (v := ?_) (a' := ?_) (mz_ [1,18]) rfl rfl (take_ofW HT_.out HW_.out (w110_)) (fun _ _ _ h => h) (Or.inl ⟨by rfl, ?_⟩) hHeld ?_ ?_
           rotate_left
           ·rintro w' ⟨s0, s1, s2, s3⟩
            go_simp
            with_reducible rfl
           rotate_left
           ·simp only [Act.put, usz_, utz_, uvz_, i64_w, i32_w]
            rfl
           refine one_ (i := 1) (N := some 13) (mz_ [2,17]) rfl rfl (one_of HT_.out (w110_)) (by decide) (fun K hK => ?_)
           refine goes_ Tryz.func123 (w110_) rfl #[.agg #[.int .i64 ((rd_T69 l0 x7_1).f0), .int .i64 ((rd_T69 l0 x7_1).f1)]] (by rfl) rfl rfl maz_ ?_
           with_reducible refine (impl_isRange.calls ((rd_T69 l0 x7_1).f0) ((rd_T69 l0 x7_1).f1) true _ A5.out).mono ?_
           rintro e w16 ⟨rfl, hb⟩
           refine ⟨_, rfl, ?_⟩
           have n1_ := Az_ (btz_ (w40_) hb)
           clear HB
           replace BK180 := Az_ (ukbz_ BK180.out hb)
           have HB := n1_
           clear n1_
           clear hb
           refine hK.out _ _ ⟨(blk_cell BK180.out 0).trans rfl, (blk_cell BK180.out 1).trans rfl, ((HB.out.cell (World.block_lt_of_cell? w _ hw182_0)).trans hw182_0), ((HB.out.cell (World.block_lt_of_cell? w _ hw182_1)).trans hw182_1)⟩ (fun hHeld => ?_)
           clear hK K
           refine norm_ (a' := ?_) ?_ ?_
           rotate_left
           ·show Act.put _ (some 13) _ = _
            simp only [Act.put, usz_, utz_, uvz_, i64_w, i32_w]
            rfl
           refine pure_ (i := 2) (N := some 14) (v := ?_) (a' := ?_) (mz_ [3,16]) rfl rfl (any_of HT_.out (w110_)) (fun _ _ _ h => h) (Or.inl ⟨by rfl, ?_⟩) ?_ ?_
           rotate_left
           ·intro w'
            go_simp
            with_reducible rfl
           rotate_left
           ·simp only [Act.put, usz_, utz_, uvz_, i64_w, i32_w]
            rfl
           refine pure_ (i := 3) (N := some 15) (v := ?_) (a' := ?_) (mz_ [4,15]) rfl rfl (any_of HT_.out (w110_)) (fun _ _ _ h => h) (Or.inl ⟨by rfl, ?_⟩) ?_ ?_
           rotate_left
           ·intro w'
            go_simp
            with_reducible rfl
           rotate_left
           ·simp only [Act.put, usz_, utz_, uvz_, i64_w, i32_w]
            rfl
           refine pure_ (i := 4) (N := some 16) (v := ?_) (a' := ?_) (mz_ [5,14]) rfl rfl (any_of HT_.out (w110_)) (fun _ _ _ h => h) (Or.inl ⟨by rfl, ?_⟩) ?_ ?_
           rotate_left
           ·intro w'
            go_simp
            with_reducible rfl
           rotate_left
           ·simp only [Act.put, usz_, utz_, uvz_, i64_w, i32_w]
            rfl
           refine pure_ (i := 5) (N := some 17) (v := ?_) (a' := ?_) (mz_ [6,13]) rfl rfl (any_of HT_.out (w110_)) (fun _ _ _ h => h) (Or.inl ⟨by rfl, ?_⟩) ?_ ?_
           rotate_left
           ·intro w'
            go_simp
            with_reducible rfl
           rotate_left
           ·simp only [Act.put, usz_, utz_, uvz_, i64_w, i32_w]
            rfl
           refine pure_ (i := 6) (N := some 18) (v := ?_) (a' := ?_) (mz_ [7,12]) rfl rfl (any_of HT_.out (w110_)) (fun _ _ _ h => h) (Or.inl ⟨by rfl, ?_⟩) ?_ ?_
           rotate_left
           ·intro w'
            go_simp
            with_reducible rfl
           rotate_left
           ·simp only [Act.put, usz_, utz_, uvz_, i64_w, i32_w]
            rfl
           refine pure_ (i := 7) (N := some 19) (v := ?_) (a' := ?_) (mz_ [8,11]) rfl rfl (any_of HT_.out (w110_)) (fun _ _ _ h => h) (Or.inl ⟨by rfl, ?_⟩) ?_ ?_
           rotate_left
           ·intro w'
            go_simp
            with_reducible rfl
           rotate_left
           ·simp only [Act.put, usz_, utz_, uvz_, i64_w, i32_w]
            rfl
           refine pure_ (i := 9) (N := some 21) (v := ?_) (a' := ?_) (mz_ [8,1,1,9]) rfl rfl (any_of HT_.out (w110_)) (fun _ _ _ h => h) (Or.inl ⟨by rfl, ?_⟩) ?_ ?_
           rotate_left
           ·intro w'
            go_simp
            with_reducible rfl
           rotate_left
           ·simp only [Act.put, usz_, utz_, uvz_, i64_w, i32_w]
            rfl
           refine pure_ (i := 10) (N := some 22) (v := ?_) (a' := ?_) (mz_ [8,1,2,8]) rfl rfl (any_of HT_.out (w110_)) (fun _ _ _ h => h) (Or.inl ⟨by rfl, ?_⟩) ?_ ?_
           rotate_left
           ·intro w'
            go_simp
            with_reducible rfl
           rotate_left
           ·simp only [Act.put, usz_, utz_, uvz_, i64_w, i32_w]
            rfl
           refine pure_ (i := 11) (N := some 23) (v := ?_) (a' := ?_) (mz_ [8,1,3,7]) rfl rfl (any_of HT_.out (w110_)) (fun _ _ _ h => h) (Or.inl ⟨by rfl, ?_⟩) ?_ ?_
           rotate_left
           ·intro w'
            go_simp
            with_reducible rfl
           rotate_left
           ·simp only [Act.put, usz_, utz_, uvz_, i64_w, i32_w]
            rfl
           refine pure_ (i := 12) (N := some 24) (v := ?_) (a' := ?_) (mz_ [8,1,4,6]) rfl rfl (any_of HT_.out (w110_)) (fun _ _ _ h => h) (Or.inl ⟨by rfl, ?_⟩) ?_ ?_
           rotate_left
           ·intro w'
            go_simp
            with_reducible rfl
           rotate_left
           ·simp only [Act.put, usz_, utz_, uvz_, i64_w, i32_w]
            rfl
           refine pure_ (i := 13) (N := some 25) (v := ?_) (a' := ?_) (mz_ [8,1,5,5]) rfl rfl (any_of HT_.out (w110_)) (fun _ _ _ h => h) (Or.inl ⟨by rfl, ?_⟩) ?_ ?_
           rotate_left
           ·intro w'
            go_simp
            with_reducible rfl
           rotate_left
           ·simp only [Act.put, usz_, utz_, uvz_, i64_w, i32_w]
            rfl
           refine take_ (i := 8) (N := some 20) (v := ?_) (a' := ?_) (mz_ [14,5]) rfl rfl (take_ofW HT_.out HW_.out (w110_)) (fun _ _ _ h => h) (Or.inl ⟨by rfl, ?_⟩) hHeld ?_ ?_
           rotate_left
           ·rintro w' ⟨s0, s1, s2, s3⟩
            go_simp
            with_reducible rfl
           rotate_left
           ·simp only [Act.put, usz_, utz_, uvz_, i64_w, i32_w]
            rfl
           refine take_ (i := 14) (N := some 26) (v := ?_) (a' := ?_) (mz_ [15,4]) rfl rfl (take_ofW HT_.out HW_.out (w110_)) (fun _ _ _ h => h) (Or.inl ⟨by rfl, ?_⟩) hHeld ?_ ?_
           rotate_left
           ·rintro w' ⟨s0, s1, s2, s3⟩
            go_simp
            with_reducible rfl
           rotate_left
           ·simp only [Act.put, usz_, utz_, uvz_, i64_w, i32_w]
            rfl
           refine pure_ (i := 15) (N := some 27) (v := ?_) (a' := ?_) (mz_ [16,3]) rfl rfl (any_of HT_.out (w110_)) (fun _ _ _ h => h) (Or.inl ⟨by rfl, ?_⟩) ?_ ?_
           rotate_left
           ·intro w'
            go_simp
            with_reducible rfl
           rotate_left
           ·simp only [Act.put, usz_, utz_, uvz_, i64_w, i32_w]
            rfl
           refine pure_ (i := 16) (N := some 28) (v := ?_) (a' := ?_) (mz_ [17,2]) rfl rfl (any_of HT_.out (w110_)) (fun _ _ _ h => h) (Or.inl ⟨by rfl, ?_⟩) ?_ ?_
           rotate_left
           ·intro w'
            go_simp
            with_reducible rfl
           rotate_left
           ·simp only [Act.put, usz_, utz_, uvz_, i64_w, i32_w]
            rfl
           refine pure_ (i := 17) (N := some 29) (v := ?_) (a' := ?_) (mz_ [18,1]) rfl rfl (any_of HT_.out (w110_)) (fun _ _ _ h => h) (Or.inl ⟨by rfl, ?_⟩) ?_ ?_
           rotate_left
           ·intro w'
            go_simp
            with_reducible rfl
           rotate_left
           ·simp only [Act.put, usz_, utz_, uvz_, i64_w, i32_w]
            rfl
           refine pure_ (i := 18) (N := some 30) (v := ?_) (a' := ?_) (mz_ [19]) rfl rfl (any_of HT_.out (w110_)) (fun _ _ _ h => h) (Or.inl ⟨by rfl, ?_⟩) ?_ ?_
           rotate_left
           ·intro w'
            go_simp
            with_reducible rfl
           rotate_left
           ·simp only [Act.put, usz_, utz_, uvz_, i64_w, i32_w]
            rfl
           refine done_ (done_of HT_.out (w110_)) ?_
           try go_wp2
           go_ret
           exact ⟨by first | rfl | (simp [errW_none, errW_some] <;> rfl) | (simp only [← hji8]; first | rfl | (simp [errW_none, errW_some] <;> rfl)) | (simp [*, errW_none, errW_some] <;> rfl), w40_⟩
          ·rw [if_neg c11] at H
           have c11b0 := decide_eq_false c11
           clear c11
           have H' := Az_ H
           clear H
           have p179 : 0 ≤ (x7_1 : Int) := of_decide_eq_true asz_
           have q179 : x7_1 < (l0.length : Int) := of_decide_eq_true asz_
           obtain ⟨ad179, e179, hx179_0, hx179_1⟩ := at_T69 HR0.out x7_1 p179 q179
           cases e179
           replace hx179_0 := (HB.out.cell (World.block_lt_of_cell? w _ hx179_0)).trans hx179_0
           replace hx179_1 := (HB.out.cell (World.block_lt_of_cell? w _ hx179_1)).trans hx179_1
           replace p179 := eq_true p179
           replace q179 := eq_true q179
           try go_wp2_with (first | ((with_reducible refine gate_dst (N := 4) rfl ?_); refine box_event ?hg (N := 4) ?hd (cs := #[.int .i64 0, .int .i64 0]) (t := 69) ?hr ?_; (case hd => rfl); (case hg => rfl); (case hr => first | (go_simp; done) | (go_simp; rfl)); intro gb180 hg w17 hbox hb; have BK180 := Az_ (hbox); have GW180 := Az_ ((by rw [hg]; exact (below_size (ubz_ HB.out)) : w.heap.size ≤ gb180)); have GE180 := Az_ ((by rw [hg]; exact (below_size (ubz_ HB.out)) : w.heap.size ≤ gb180)); replace HB := Az_ (btz_ (ubz_ HB.out) hb); clear hb hbox hg; have hcz18_0 : w17.cell? ⟨gb180, 0, none⟩ = some (.int .i64 0) := (blk_cell BK180.out 0).trans rfl; have hcz18_1 : w17.cell? ⟨gb180, 1, none⟩ = some (.int .i64 0) := (blk_cell BK180.out 1).trans rfl; have hfz18_0 := blk_frozen BK180.out 0; have hfz18_1 := blk_frozen BK180.out 1))
           have n0_ : Aside0 (((w17.setCell ⟨gb180, 0, none⟩ (.int .i64 ((rd_T69 l0 x7_1).f0))).setCell ⟨gb180, 1, none⟩ (.int .i64 ((rd_T69 l0 x7_1).f1))).heap[gb180]? = some (.cells #[.int .i64 ((rd_T69 l0 x7_1).f0), .int .i64 ((rd_T69 l0 x7_1).f1)] 69 (0, 0))) := ⟨w12_⟩
           have n1_ : Aside0 (Below w.heap.size w ((w17.setCell ⟨gb180, 0, none⟩ (.int .i64 ((rd_T69 l0 x7_1).f0))).setCell ⟨gb180, 1, none⟩ (.int .i64 ((rd_T69 l0 x7_1).f1)))) := ⟨w40_⟩
           clear BK180
           clear HB
           generalize ((w17.setCell ⟨gb180, 0, none⟩ (.int .i64 ((rd_T69 l0 x7_1).f0))).setCell ⟨gb180, 1, none⟩ (.int .i64 ((rd_T69 l0 x7_1).f1))) = w19 at n0_ n1_ ⊢
           have BK180 := n0_
           have HB := n1_
           clear n0_ n1_
           have n0_ := Az_ (kdz_ BK180.out)
           have n1_ := Az_ (bdz_ HB.out)
           clear BK180 HB
           have BK180 := n0_
           have HB := n1_
           clear n0_ n1_
           have p182 : 0 ≤ ((ji8) : Int) := of_decide_eq_true asz_
           have q182 : (ji8) < (l0.length : Int) := of_decide_eq_true asz_
           obtain ⟨ad182, e182, hx182_0, hx182_1⟩ := at_T69 HR0.out (ji8) p182 q182
           have hw182_1 := hx182_1
           have hw182_0 := hx182_0
           obtain rfl : ad179 = ad182 := (by injection e182)
           replace hx182_0 := (HB.out.cell (World.block_lt_of_cell? w _ hx182_0)).trans hx182_0
           replace hx182_1 := (HB.out.cell (World.block_lt_of_cell? w _ hx182_1)).trans hx182_1
           replace p182 := eq_true p182
           replace q182 := eq_true q182
           refine start_ (n := 19) (S := fun w' => w'.cell? ⟨gb180, 0, none⟩ = some (.int .i64 ((rd_T69 l0 x7_1).f0)) ∧ w'.cell? ⟨gb180, 1, none⟩ = some (.int .i64 ((rd_T69 l0 x7_1).f1)) ∧ w'.cell? (ad179.add (((ji8)).toNat * 2)) = some (.int .i64 ((rd_T69 l0 (ji8)).f0)) ∧ w'.cell? ⟨(ad179.add (((ji8)).toNat * 2)).block, (ad179.add (((ji8)).toNat * 2)).off + 1, none⟩ = some (.int .i64 ((rd_T69 l0 (ji8)).f1))) (ds := []) #[false, false, false, false, false, false, false, false, false, false, false, false, false, false, false, false, false, false, false] (w110_) rfl rfl ⟨(blk_cell BK180.out 0).trans rfl, (blk_cell BK180.out 1).trans rfl, ((HB.out.cell (World.block_lt_of_cell? w _ hw182_0)).trans hw182_0), ((HB.out.cell (World.block_lt_of_cell? w _ hw182_1)).trans hw182_1)⟩ (fun hHeld => ?_); refine with_tabW impl_AreRanges.tab4 impl_AreRanges.bits4 (fun HT_ HW_ => ?_)
           generalize w19.drew = w20 at BK180 HB hx182_0 hx182_1 hHeld ⊢
           refine take_ (i := 0) (N := some 12) (v := ?_) (a' := ?_) (mz_ [1,18]) rfl rfl (take_ofW HT_.out HW_.out (w110_)) (fun _ _ _ h => h) (Or.inl ⟨by rfl, ?_⟩) hHeld ?_ ?_
           rotate_left
           ·rintro w' ⟨s0, s1, s2, s3⟩
            go_simp
            with_reducible rfl
           rotate_left
           ·simp only [Act.put, usz_, utz_, uvz_, i64_w, i32_w]
            rfl
           refine one_ (i := 1) (N := some 13) (mz_ [2,17]) rfl rfl (one_of HT_.out (w110_)) (by decide) (fun K hK => ?_)
           refine goes_ Tryz.func123 (w110_) rfl #[.agg #[.int .i64 ((rd_T69 l0 x7_1).f0), .int .i64 ((rd_T69 l0 x7_1).f1)]] (by rfl) rfl rfl maz_ ?_
           with_reducible refine (impl_isRange.calls ((rd_T69 l0 x7_1).f0) ((rd_T69 l0 x7_1).f1) true _ A5.out).mono ?_
           rintro e w21 ⟨rfl, hb⟩
           refine ⟨_, rfl, ?_⟩
           have n1_ := Az_ (btz_ (w40_) hb)
           clear HB
           replace BK180 := Az_ (ukbz_ BK180.out hb)
           have HB := n1_
           clear n1_
           clear hb
           refine hK.out _ _ ⟨(blk_cell BK180.out 0).trans rfl, (blk_cell BK180.out 1).trans rfl, ((HB.out.cell (World.block_lt_of_cell? w _ hw182_0)).trans hw182_0), ((HB.out.cell (World.block_lt_of_cell? w _ hw182_1)).trans hw182_1)⟩ (fun hHeld => ?_)
           clear hK K
           refine norm_ (a' := ?_) ?_ ?_
           rotate_left
           ·show Act.put _ (some 13) _ = _
            simp only [Act.put, usz_, utz_, uvz_, i64_w, i32_w]
            rfl
           refine pure_ (i := 2) (N := some 14) (v := ?_) (a' := ?_) (mz_ [3,16]) rfl rfl (any_of HT_.out (w110_)) (fun _ _ _ h => h) (Or.inl ⟨by rfl, ?_⟩) ?_ ?_
           rotate_left
           ·intro w'
            go_simp
            with_reducible rfl
           rotate_left
           ·simp only [Act.put, usz_, utz_, uvz_, i64_w, i32_w]
            rfl
           refine pure_ (i := 3) (N := some 15) (v := ?_) (a' := ?_) (mz_ [4,15]) rfl rfl (any_of HT_.out (w110_)) (fun _ _ _ h => h) (Or.inl ⟨by rfl, ?_⟩) ?_ ?_
           rotate_left
           ·intro w'
            go_simp
            with_reducible rfl
           rotate_left
           ·simp only [Act.put, usz_, utz_, uvz_, i64_w, i32_w]
            rfl
           refine pure_ (i := 4) (N := some 16) (v := ?_) (a' := ?_) (mz_ [5,14]) rfl rfl (any_of HT_.out (w110_)) (fun _ _ _ h => h) (Or.inl ⟨by rfl, ?_⟩) ?_ ?_
           rotate_left
           ·intro w'
            go_simp
            with_reducible rfl
           rotate_left
           ·simp only [Act.put, usz_, utz_, uvz_, i64_w, i32_w]
            rfl
           refine pure_ (i := 5) (N := some 17) (v := ?_) (a' := ?_) (mz_ [6,13]) rfl rfl (any_of HT_.out (w110_)) (fun _ _ _ h => h) (Or.inl ⟨by rfl, ?_⟩) ?_ ?_
           rotate_left
           ·intro w'
            go_simp
            with_reducible rfl
           rotate_left
           ·simp only [Act.put, usz_, utz_, uvz_, i64_w, i32_w]
            rfl
           refine pure_ (i := 6) (N := some 18) (v := ?_) (a' := ?_) (mz_ [7,12]) rfl rfl (any_of HT_.out (w110_)) (fun _ _ _ h => h) (Or.inl ⟨by rfl, ?_⟩) ?_ ?_
           rotate_left
           ·intro w'
            go_simp
            with_reducible rfl
           rotate_left
           ·simp only [Act.put, usz_, utz_, uvz_, i64_w, i32_w]
            rfl
           refine pure_ (i := 7) (N := some 19) (v := ?_) (a' := ?_) (mz_ [8,11]) rfl rfl (any_of HT_.out (w110_)) (fun _ _ _ h => h) (Or.inl ⟨by rfl, ?_⟩) ?_ ?_
           rotate_left
           ·intro w'
            go_simp
            with_reducible rfl
           rotate_left
           ·simp only [Act.put, usz_, utz_, uvz_, i64_w, i32_w]
            rfl
           refine pure_ (i := 9) (N := some 21) (v := ?_) (a' := ?_) (mz_ [8,1,1,9]) rfl rfl (any_of HT_.out (w110_)) (fun _ _ _ h => h) (Or.inl ⟨by rfl, ?_⟩) ?_ ?_
           rotate_left
           ·intro w'
            go_simp
            with_reducible rfl
           rotate_left
           ·simp only [Act.put, usz_, utz_, uvz_, i64_w, i32_w]
            rfl
           refine pure_ (i := 10) (N := some 22) (v := ?_) (a' := ?_) (mz_ [8,1,2,8]) rfl rfl (any_of HT_.out (w110_)) (fun _ _ _ h => h) (Or.inl ⟨by rfl, ?_⟩) ?_ ?_
           rotate_left
           ·intro w'
            go_simp
            with_reducible rfl
           rotate_left
           ·simp only [Act.put, usz_, utz_, uvz_, i64_w, i32_w]
            rfl
           refine pure_ (i := 11) (N := some 23) (v := ?_) (a' := ?_) (mz_ [8,1,3,7]) rfl rfl (any_of HT_.out (w110_)) (fun _ _ _ h => h) (Or.inl ⟨by rfl, ?_⟩) ?_ ?_
           rotate_left
           ·intro w'
            go_simp
            with_reducible rfl
           rotate_left
           ·simp only [Act.put, usz_, utz_, uvz_, i64_w, i32_w]
            rfl
           refine pure_ (i := 12) (N := some 24) (v := ?_) (a' := ?_) (mz_ [8,1,4,6]) rfl rfl (any_of HT_.out (w110_)) (fun _ _ _ h => h) (Or.inl ⟨by rfl, ?_⟩) ?_ ?_
           rotate_left
           ·intro w'
            go_simp
            with_reducible rfl
           rotate_left
           ·simp only [Act.put, usz_, utz_, uvz_, i64_w, i32_w]
            rfl
           refine pure_ (i := 13) (N := some 25) (v := ?_) (a' := ?_) (mz_ [8,1,5,5]) rfl rfl (any_of HT_.out (w110_)) (fun _ _ _ h => h) (Or.inl ⟨by rfl, ?_⟩) ?_ ?_
           rotate_left
           ·intro w'
            go_simp
            with_reducible rfl
           rotate_left
           ·simp only [Act.put, usz_, utz_, uvz_, i64_w, i32_w]
            rfl
           refine take_ (i := 8) (N := some 20) (v := ?_) (a' := ?_) (mz_ [14,5]) rfl rfl (take_ofW HT_.out HW_.out (w110_)) (fun _ _ _ h => h) (Or.inl ⟨by rfl, ?_⟩) hHeld ?_ ?_
           rotate_left
           ·rintro w' ⟨s0, s1, s2, s3⟩
            go_simp
            with_reducible rfl
           rotate_left
           ·simp only [Act.put, usz_, utz_, uvz_, i64_w, i32_w]
            rfl
           refine take_ (i := 14) (N := some 26) (v := ?_) (a' := ?_) (mz_ [15,4]) rfl rfl (take_ofW HT_.out HW_.out (w110_)) (fun _ _ _ h => h) (Or.inl ⟨by rfl, ?_⟩) hHeld ?_ ?_
           rotate_left
           ·rintro w' ⟨s0, s1, s2, s3⟩
            go_simp
            with_reducible rfl
           rotate_left
           ·simp only [Act.put, usz_, utz_, uvz_, i64_w, i32_w]
            rfl
           refine pure_ (i := 15) (N := some 27) (v := ?_) (a' := ?_) (mz_ [16,3]) rfl rfl (any_of HT_.out (w110_)) (fun _ _ _ h => h) (Or.inl ⟨by rfl, ?_⟩) ?_ ?_
           rotate_left
           ·intro w'
            go_simp
            with_reducible rfl
           rotate_left
           ·simp only [Act.put, usz_, utz_, uvz_, i64_w, i32_w]
            rfl
           refine pure_ (i := 16) (N := some 28) (v := ?_) (a' := ?_) (mz_ [17,2]) rfl rfl (any_of HT_.out (w110_)) (fun _ _ _ h => h) (Or.inl ⟨by rfl, ?_⟩) ?_ ?_
           rotate_left
           ·intro w'
            go_simp
            with_reducible rfl
           rotate_left
           ·simp only [Act.put, usz_, utz_, uvz_, i64_w, i32_w]
            rfl
           refine pure_ (i := 17) (N := some 29) (v := ?_) (a' := ?_) (mz_ [18,1]) rfl rfl (any_of HT_.out (w110_)) (fun _ _ _ h => h) (Or.inl ⟨by rfl, ?_⟩) ?_ ?_
           rotate_left
           ·intro w'
            go_simp
            with_reducible rfl
           rotate_left
           ·simp only [Act.put, usz_, utz_, uvz_, i64_w, i32_w]
            rfl
           refine pure_ (i := 18) (N := some 30) (v := ?_) (a' := ?_) (mz_ [19]) rfl rfl (any_of HT_.out (w110_)) (fun _ _ _ h => h) (Or.inl ⟨by rfl, ?_⟩) ?_ ?_
           rotate_left
           ·intro w'
            go_simp
            with_reducible rfl
           rotate_left
           ·simp only [Act.put, usz_, utz_, uvz_, i64_w, i32_w]
            rfl
           refine done_ (done_of HT_.out (w110_)) ?_
           try go_wp2
           go_roundg k1
           case measure => have := HK1.out; omega
           case rel => exact ⟨(wrap64 (x7_1 + 1)), qaz_, H', ⟨w83_⟩, ⟨w40_⟩⟩
         ·rw [if_neg c10] at H
          exact absurd H (by simp)
        ·rw [if_neg c9] at H
         exact absurd H (by simp)
       ·rw [if_neg c7] at H
        have c7b0 := decide_eq_false c7
        clear c7
        have H' := Az_ H
        clear H
        have p179 : 0 ≤ (x7_1 : Int) := of_decide_eq_true asz_
        have q179 : x7_1 < (l0.length : Int) := of_decide_eq_true asz_
        obtain ⟨ad179, e179, hx179_0, hx179_1⟩ := at_T69 HR0.out x7_1 p179 q179
        cases e179
        replace hx179_0 := (HB.out.cell (World.block_lt_of_cell? w _ hx179_0)).trans hx179_0
        replace hx179_1 := (HB.out.cell (World.block_lt_of_cell? w _ hx179_1)).trans hx179_1
        replace p179 := eq_true p179
        replace q179 := eq_true q179
        try go_wp2_with (first | ((with_reducible refine gate_dst (N := 4) rfl ?_); refine box_event ?hg (N := 4) ?hd (cs := #[.int .i64 0, .int .i64 0]) (t := 69) ?hr ?_; (case hd => rfl); (case hg => rfl); (case hr => first | (go_simp; done) | (go_simp; rfl)); intro gb180 hg w22 hbox hb; have BK180 := Az_ (hbox); have GW180 := Az_ ((by rw [hg]; exact (below_size (ubz_ HB.out)) : w.heap.size ≤ gb180)); have GE180 := Az_ ((by rw [hg]; exact (below_size (ubz_ HB.out)) : w.heap.size ≤ gb180)); replace HB := Az_ (btz_ (ubz_ HB.out) hb); clear hb hbox hg; have hcz23_0 : w22.cell? ⟨gb180, 0, none⟩ = some (.int .i64 0) := (blk_cell BK180.out 0).trans rfl; have hcz23_1 : w22.cell? ⟨gb180, 1, none⟩ = some (.int .i64 0) := (blk_cell BK180.out 1).trans rfl; have hfz23_0 := blk_frozen BK180.out 0; have hfz23_1 := blk_frozen BK180.out 1))
        have n0_ : Aside0 (((w22.setCell ⟨gb180, 0, none⟩ (.int .i64 ((rd_T69 l0 x7_1).f0))).setCell ⟨gb180, 1, none⟩ (.int .i64 ((rd_T69 l0 x7_1).f1))).heap[gb180]? = some (.cells #[.int .i64 ((rd_T69 l0 x7_1).f0), .int .i64 ((rd_T69 l0 x7_1).f1)] 69 (0, 0))) := ⟨w12_⟩
        have n1_ : Aside0 (Below w.heap.size w ((w22.setCell ⟨gb180, 0, none⟩ (.int .i64 ((rd_T69 l0 x7_1).f0))).setCell ⟨gb180, 1, none⟩ (.int .i64 ((rd_T69 l0 x7_1).f1)))) := ⟨w40_⟩
        clear BK180
        clear HB
        generalize ((w22.setCell ⟨gb180, 0, none⟩ (.int .i64 ((rd_T69 l0 x7_1).f0))).setCell ⟨gb180, 1, none⟩ (.int .i64 ((rd_T69 l0 x7_1).f1))) = w24 at n0_ n1_ ⊢
        have BK180 := n0_
        have HB := n1_
        clear n0_ n1_
        have n0_ := Az_ (kdz_ BK180.out)
        have n1_ := Az_ (bdz_ HB.out)
        clear BK180 HB
        have BK180 := n0_
        have HB := n1_
        clear n0_ n1_
        refine start_ (n := 19) (S := fun w' => w'.cell? ⟨gb180, 0, none⟩ = some (.int .i64 ((rd_T69 l0 x7_1).f0)) ∧ w'.cell? ⟨gb180, 1, none⟩ = some (.int .i64 ((rd_T69 l0 x7_1).f1))) (ds := []) #[false, false, false, false, false, false, false, false, false, false, false, false, false, false, false, false, false, false, false] (w110_) rfl rfl ⟨(blk_cell BK180.out 0).trans rfl, (blk_cell BK180.out 1).trans rfl⟩ (fun hHeld => ?_); refine with_tabW impl_AreRanges.tab4 impl_AreRanges.bits4 (fun HT_ HW_ => ?_)
        generalize w24.drew = w25 at BK180 HB hHeld ⊢
        refine take_ (i := 0) (N := some 12) (v := ?_) (a' := ?_) (mz_ [1,18]) rfl rfl (take_ofW HT_.out HW_.out (w110_)) (fun _ _ _ h => h) (Or.inl ⟨by rfl, ?_⟩) hHeld ?_ ?_
        rotate_left
        ·rintro w' ⟨s0, s1⟩
         go_simp
         with_reducible rfl
        rotate_left
        ·simp only [Act.put, usz_, utz_, uvz_, i64_w, i32_w]
         rfl
        refine one_ (i := 1) (N := some 13) (mz_ [2,17]) rfl rfl (one_of HT_.out (w110_)) (by decide) (fun K hK => ?_)
        refine goes_ Tryz.func123 (w110_) rfl #[.agg #[.int .i64 ((rd_T69 l0 x7_1).f0), .int .i64 ((rd_T69 l0 x7_1).f1)]] (by rfl) rfl rfl maz_ ?_
        with_reducible refine (impl_isRange.calls ((rd_T69 l0 x7_1).f0) ((rd_T69 l0 x7_1).f1) true _ A5.out).mono ?_
        rintro e w26 ⟨rfl, hb⟩
        refine ⟨_, rfl, ?_⟩
        have n1_ := Az_ (btz_ (w40_) hb)
        clear HB
        replace BK180 := Az_ (ukbz_ BK180.out hb)
        have HB := n1_
        clear n1_
        clear hb
        refine hK.out _ _ ⟨(blk_cell BK180.out 0).trans rfl, (blk_cell BK180.out 1).trans rfl⟩ (fun hHeld => ?_)
        clear hK K
        refine norm_ (a' := ?_) ?_ ?_
        rotate_left
        ·show Act.put _ (some 13) _ = _
         simp only [Act.put, usz_, utz_, uvz_, i64_w, i32_w]
         rfl
        refine pure_ (i := 2) (N := some 14) (v := ?_) (a' := ?_) (mz_ [3,16]) rfl rfl (any_of HT_.out (w110_)) (fun _ _ _ h => h) (Or.inl ⟨by rfl, ?_⟩) ?_ ?_
        rotate_left
        ·intro w'
         go_simp
         with_reducible rfl
        rotate_left
        ·simp only [Act.put, usz_, utz_, uvz_, i64_w, i32_w]
         rfl
        refine pure_ (i := 3) (N := some 15) (v := ?_) (a' := ?_) (mz_ [4,15]) rfl rfl (any_of HT_.out (w110_)) (fun _ _ _ h => h) (Or.inl ⟨by rfl, ?_⟩) ?_ ?_
        rotate_left
        ·intro w'
         go_simp
         with_reducible rfl
        rotate_left
        ·simp only [Act.put, usz_, utz_, uvz_, i64_w, i32_w]
         rfl
        refine pure_ (i := 4) (N := some 16) (v := ?_) (a' := ?_) (mz_ [5,14]) rfl rfl (any_of HT_.out (w110_)) (fun _ _ _ h => h) (Or.inl ⟨by rfl, ?_⟩) ?_ ?_
        rotate_left
        ·intro w'
         go_simp
         with_reducible rfl
        rotate_left
        ·simp only [Act.put, usz_, utz_, uvz_, i64_w, i32_w]
         rfl
        refine pure_ (i := 5) (N := some 17) (v := ?_) (a' := ?_) (mz_ [6,13]) rfl rfl (any_of HT_.out (w110_)) (fun _ _ _ h => h) (Or.inl ⟨by rfl, ?_⟩) ?_ ?_
        rotate_left
        ·intro w'
         go_simp
         with_reducible rfl
        rotate_left
        ·simp only [Act.put, usz_, utz_, uvz_, i64_w, i32_w]
         rfl
        refine pure_ (i := 6) (N := some 18) (v := ?_) (a' := ?_) (mz_ [7,12]) rfl rfl (any_of HT_.out (w110_)) (fun _ _ _ h => h) (Or.inl ⟨by rfl, ?_⟩) ?_ ?_
        rotate_left
        ·intro w'
         go_simp
         with_reducible rfl
        rotate_left
        ·simp only [Act.put, usz_, utz_, uvz_, i64_w, i32_w]
         rfl
        refine pure_ (i := 7) (N := some 19) (v := undef) (a' := ?_) (mz_ [8,11]) rfl rfl (any_of HT_.out (w110_)) (fun _ _ _ h => h) (Or.inr ⟨by rfl, rfl⟩) ?_ ?_
        rotate_left
        ·simp only [Act.put, usz_, utz_, uvz_, i64_w, i32_w]
         rfl
        refine pure_ (i := 8) (N := some 20) (v := undef) (a' := ?_) (mz_ [9,10]) rfl rfl (any_of HT_.out (w110_)) (fun _ _ _ h => h) (Or.inr ⟨by rfl, rfl⟩) ?_ ?_
        rotate_left
        ·simp only [Act.put, usz_, utz_, uvz_, i64_w, i32_w]
         rfl
        refine pure_ (i := 9) (N := some 21) (v := undef) (a' := ?_) (mz_ [10,9]) rfl rfl (any_of HT_.out (w110_)) (fun _ _ _ h => h) (Or.inr ⟨by rfl, rfl⟩) ?_ ?_
        rotate_left
        ·simp only [Act.put, usz_, utz_, uvz_, i64_w, i32_w]
         rfl
        refine pure_ (i := 10) (N := some 22) (v := undef) (a' := ?_) (mz_ [11,8]) rfl rfl (any_of HT_.out (w110_)) (fun _ _ _ h => h) (Or.inr ⟨by rfl, rfl⟩) ?_ ?_
        rotate_left
        ·simp only [Act.put, usz_, utz_, uvz_, i64_w, i32_w]
         rfl
        refine pure_ (i := 11) (N := some 23) (v := undef) (a' := ?_) (mz_ [12,7]) rfl rfl (any_of HT_.out (w110_)) (fun _ _ _ h => h) (Or.inr ⟨by rfl, rfl⟩) ?_ ?_
        rotate_left
        ·simp only [Act.put, usz_, utz_, uvz_, i64_w, i32_w]
         rfl
        refine pure_ (i := 12) (N := some 24) (v := undef) (a' := ?_) (mz_ [13,6]) rfl rfl (any_of HT_.out (w110_)) (fun _ _ _ h => h) (Or.inr ⟨by rfl, rfl⟩) ?_ ?_
        rotate_left
        ·simp only [Act.put, usz_, utz_, uvz_, i64_w, i32_w]
         rfl
        refine pure_ (i := 13) (N := some 25) (v := undef) (a' := ?_) (mz_ [14,5]) rfl rfl (any_of HT_.out (w110_)) (fun _ _ _ h => h) (Or.inr ⟨by rfl, rfl⟩) ?_ ?_
        rotate_left
        ·simp only [Act.put, usz_, utz_, uvz_, i64_w, i32_w]
         rfl
        refine pure_ (i := 14) (N := some 26) (v := undef) (a' := ?_) (mz_ [15,4]) rfl rfl (any_of HT_.out (w110_)) (fun _ _ _ h => h) (Or.inr ⟨by rfl, rfl⟩) ?_ ?_
        rotate_left
        ·simp only [Act.put, usz_, utz_, uvz_, i64_w, i32_w]
         rfl
        refine pure_ (i := 15) (N := some 27) (v := undef) (a' := ?_) (mz_ [16,3]) rfl rfl (any_of HT_.out (w110_)) (fun _ _ _ h => h) (Or.inr ⟨by rfl, rfl⟩) ?_ ?_
        rotate_left
        ·simp only [Act.put, usz_, utz_, uvz_, i64_w, i32_w]
         rfl
        refine pure_ (i := 16) (N := some 28) (v := undef) (a' := ?_) (mz_ [17,2]) rfl rfl (any_of HT_.out (w110_)) (fun _ _ _ h => h) (Or.inr ⟨by rfl, rfl⟩) ?_ ?_
        rotate_left
        ·simp only [Act.put, usz_, utz_, uvz_, i64_w, i32_w]
         rfl
        refine pure_ (i := 17) (N := some 29) (v := ?_) (a' := ?_) (mz_ [18,1]) rfl rfl (any_of HT_.out (w110_)) (fun _ _ _ h => h) (Or.inl ⟨by rfl, ?_⟩) ?_ ?_
        rotate_left
        ·intro w'
         go_simp
         with_reducible rfl
        rotate_left
        ·simp only [Act.put, usz_, utz_, uvz_, i64_w, i32_w]
         rfl
        refine pure_ (i := 18) (N := some 30) (v := ?_) (a' := ?_) (mz_ [19]) rfl rfl (any_of HT_.out (w110_)) (fun _ _ _ h => h) (Or.inl ⟨by rfl, ?_⟩) ?_ ?_
        rotate_left
        ·intro w'
         go_simp
         with_reducible rfl
        rotate_left
        ·simp only [Act.put, usz_, utz_, uvz_, i64_w, i32_w]
         rfl
        refine done_ (done_of HT_.out (w110_)) ?_
        try go_wp2
        go_roundg k1
        case measure => have := HK1.out; omega
        case rel => exact ⟨(wrap64 (x7_1 + 1)), qaz_, H', ⟨w83_⟩, ⟨w40_⟩⟩
      ·replace c6 := Bool.eq_false_iff.mpr c6
       subst c6
       rw [if_neg nfz_] at H
       obtain rfl := Option.some.inj H
       have p179 : 0 ≤ (x7_1 : Int) := of_decide_eq_true asz_
       have q179 : x7_1 < (l0.length : Int) := of_decide_eq_true asz_
       obtain ⟨ad179, e179, hx179_0, hx179_1⟩ := at_T69 HR0.out x7_1 p179 q179
       cases e179
       replace hx179_0 := (HB.out.cell (World.block_lt_of_cell? w _ hx179_0)).trans hx179_0
       replace hx179_1 := (HB.out.cell (World.block_lt_of_cell? w _ hx179_1)).trans hx179_1
       replace p179 := eq_true p179
       replace q179 := eq_true q179
       try go_wp2_with (first | ((with_reducible refine gate_dst (N := 4) rfl ?_); refine box_event ?hg (N := 4) ?hd (cs := #[.int .i64 0, .int .i64 0]) (t := 69) ?hr ?_; (case hd => rfl); (case hg => rfl); (case hr => first | (go_simp; done) | (go_simp; rfl)); intro gb180 hg w27 hbox hb; have BK180 := Az_ (hbox); have GW180 := Az_ ((by rw [hg]; exact (below_size (ubz_ HB.out)) : w.heap.size ≤ gb180)); have GE180 := Az_ ((by rw [hg]; exact (below_size (ubz_ HB.out)) : w.heap.size ≤ gb180)); replace HB := Az_ (btz_ (ubz_ HB.out) hb); clear hb hbox hg; have hcz28_0 : w27.cell? ⟨gb180, 0, none⟩ = some (.int .i64 0) := (blk_cell BK180.out 0).trans rfl; have hcz28_1 : w27.cell? ⟨gb180, 1, none⟩ = some (.int .i64 0) := (blk_cell BK180.out 1).trans rfl; have hfz28_0 := blk_frozen BK180.out 0; have hfz28_1 := blk_frozen BK180.out 1))
       have n0_ : Aside0 (((w27.setCell ⟨gb180, 0, none⟩ (.int .i64 ((rd_T69 l0 x7_1).f0))).setCell ⟨gb180, 1, none⟩ (.int .i64 ((rd_T69 l0 x7_1).f1))).heap[gb180]? = some (.cells #[.int .i64 ((rd_T69 l0 x7_1).f0), .int .i64 ((rd_T69 l0 x7_1).f1)] 69 (0, 0))) := ⟨w12_⟩
       have n1_ : Aside0 (Below w.heap.size w ((w27.setCell ⟨gb180, 0, none⟩ (.int .i64 ((rd_T69 l0 x7_1).f0))).setCell ⟨gb180, 1, none⟩ (.int .i64 ((rd_T69 l0 x7_1).f1)))) := ⟨w40_⟩
       clear BK180
       clear HB
       generalize ((w27.setCell ⟨gb180, 0, none⟩ (.int .i64 ((rd_T69 l0 x7_1).f0))).setCell ⟨gb180, 1, none⟩ (.int .i64 ((rd_T69 l0 x7_1).f1))) = w29 at n0_ n1_ ⊢
       have BK180 := n0_
       have HB := n1_
       clear n0_ n1_
       have n0_ := Az_ (kdz_ BK180.out)
       have n1_ := Az_ (bdz_ HB.out)
       clear BK180 HB
       have BK180 := n0_
       have HB := n1_
       clear n0_ n1_
       refine start_ (n := 19) (S := fun w' => w'.cell? ⟨gb180, 0, none⟩ = some (.int .i64 ((rd_T69 l0 x7_1).f0)) ∧ w'.cell? ⟨gb180, 1, none⟩ = some (.int .i64 ((rd_T69 l0 x7_1).f1))) (ds := []) #[false, false, false, false, false, false, false, false, false, false, false, false, false, false, false, false, false, false, false] (w110_) rfl rfl ⟨(blk_cell BK180.out 0).trans rfl, (blk_cell BK180.out 1).trans rfl⟩ (fun hHeld => ?_); refine with_tabW impl_AreRanges.tab4 impl_AreRanges.bits4 (fun HT_ HW_ => ?_)
       generalize w29.drew = w30 at BK180 HB hHeld ⊢
       refine take_ (i := 0) (N := some 12) (v := ?_) (a' := ?_) (mz_ [1,18]) rfl rfl (take_ofW HT_.out HW_.out (w110_)) (fun _ _ _ h => h) (Or.inl ⟨by rfl, ?_⟩) hHeld ?_ ?_
       rotate_left
       ·rintro w' ⟨s0, s1⟩
        go_simp
        with_reducible rfl
       rotate_left
       ·simp only [Act.put, usz_, utz_, uvz_, i64_w, i32_w]
        rfl
       refine one_ (i := 1) (N := some 13) (mz_ [2,17]) rfl rfl (one_of HT_.out (w110_)) (by decide) (fun K hK => ?_)
       refine goes_ Tryz.func123 (w110_) rfl #[.agg #[.int .i64 ((rd_T69 l0 x7_1).f0), .int .i64 ((rd_T69 l0 x7_1).f1)]] (by rfl) rfl rfl maz_ ?_
       with_reducible refine (impl_isRange.calls ((rd_T69 l0 x7_1).f0) ((rd_T69 l0 x7_1).f1) false _ A5.out).mono ?_
       rintro e w31 ⟨rfl, hb⟩
       refine ⟨_, rfl, ?_⟩
       have n1_ := Az_ (btz_ (w40_) hb)
       clear HB
       replace BK180 := Az_ (ukbz_ BK180.out hb)
       have HB := n1_
       clear n1_
       clear hb
       refine hK.out _ _ ⟨(blk_cell BK180.out 0).trans rfl, (blk_cell BK180.out 1).trans rfl⟩ (fun hHeld => ?_)
       clear hK K
       refine norm_ (a' := ?_) ?_ ?_
       rotate_left
       ·show Act.put _ (some 13) _ = _
        simp only [Act.put, usz_, utz_, uvz_, i64_w, i32_w]
        rfl
       refine pure_ (i := 2) (N := some 14) (v := ?_) (a' := ?_) (mz_ [3,16]) rfl rfl (any_of HT_.out (w110_)) (fun _ _ _ h => h) (Or.inl ⟨by rfl, ?_⟩) ?_ ?_
       rotate_left
       ·intro w'
        go_simp
        with_reducible rfl
       rotate_left
       ·simp only [Act.put, usz_, utz_, uvz_, i64_w, i32_w]
        rfl
       refine pure_ (i := 3) (N := some 15) (v := ?_) (a' := ?_) (mz_ [4,15]) rfl rfl (any_of HT_.out (w110_)) (fun _ _ _ h => h) (Or.inl ⟨by rfl, ?_⟩) ?_ ?_
       rotate_left
       ·intro w'
        go_simp
        with_reducible rfl
       rotate_left
       ·simp only [Act.put, usz_, utz_, uvz_, i64_w, i32_w]
        rfl
       refine pure_ (i := 4) (N := some 16) (v := undef) (a' := ?_) (mz_ [5,14]) rfl rfl (any_of HT_.out (w110_)) (fun _ _ _ h => h) (Or.inr ⟨by rfl, rfl⟩) ?_ ?_
       rotate_left
       ·simp only [Act.put, usz_, utz_, uvz_, i64_w, i32_w]
        rfl
       refine pure_ (i := 5) (N := some 17) (v := undef) (a' := ?_) (mz_ [6,13]) rfl rfl (any_of HT_.out (w110_)) (fun _ _ _ h => h) (Or.inr ⟨by rfl, rfl⟩) ?_ ?_
       rotate_left
       ·simp only [Act.put, usz_, utz_, uvz_, i64_w, i32_w]
        rfl
       refine pure_ (i := 6) (N := some 18) (v := undef) (a' := ?_) (mz_ [7,12]) rfl rfl (any_of HT_.out (w110_)) (fun _ _ _ h => h) (Or.inr ⟨by rfl, rfl⟩) ?_ ?_
       rotate_left
       ·simp only [Act.put, usz_, utz_, uvz_, i64_w, i32_w]
        rfl
       refine pure_ (i := 7) (N := some 19) (v := undef) (a' := ?_) (mz_ [8,11]) rfl rfl (any_of HT_.out (w110_)) (fun _ _ _ h => h) (Or.inr ⟨by rfl, rfl⟩) ?_ ?_
       rotate_left
       ·simp only [Act.put, usz_, utz_, uvz_, i64_w, i32_w]
        rfl
       refine pure_ (i := 8) (N := some 20) (v := undef) (a' := ?_) (mz_ [9,10]) rfl rfl (any_of HT_.out (w110_)) (fun _ _ _ h => h) (Or.inr ⟨by rfl, rfl⟩) ?_ ?_
       rotate_left
       ·simp only [Act.put, usz_, utz_, uvz_, i64_w, i32_w]
        rfl
       refine pure_ (i := 9) (N := some 21) (v := undef) (a' := ?_) (mz_ [10,9]) rfl rfl (any_of HT_.out (w110_)) (fun _ _ _ h => h) (Or.inr ⟨by rfl, rfl⟩) ?_ ?_
       rotate_left
       ·simp only [Act.put, usz_, utz_, uvz_, i64_w, i32_w]
        rfl
       refine pure_ (i := 10) (N := some 22) (v := undef) (a' := ?_) (mz_ [11,8]) rfl rfl (any_of HT_.out (w110_)) (fun _ _ _ h => h) (Or.inr ⟨by rfl, rfl⟩) ?_ ?_
       rotate_left
       ·simp only [Act.put, usz_, utz_, uvz_, i64_w, i32_w]
        rfl
       refine pure_ (i := 11) (N := some 23) (v := undef) (a' := ?_) (mz_ [12,7]) rfl rfl (any_of HT_.out (w110_)) (fun _ _ _ h => h) (Or.inr ⟨by rfl, rfl⟩) ?_ ?_
       rotate_left
       ·simp only [Act.put, usz_, utz_, uvz_, i64_w, i32_w]
        rfl
       refine pure_ (i := 12) (N := some 24) (v := undef) (a' := ?_) (mz_ [13,6]) rfl rfl (any_of HT_.out (w110_)) (fun _ _ _ h => h) (Or.inr ⟨by rfl, rfl⟩) ?_ ?_
       rotate_left
       ·simp only [Act.put, usz_, utz_, uvz_, i64_w, i32_w]
        rfl
       refine pure_ (i := 13) (N := some 25) (v := undef) (a' := ?_) (mz_ [14,5]) rfl rfl (any_of HT_.out (w110_)) (fun _ _ _ h => h) (Or.inr ⟨by rfl, rfl⟩) ?_ ?_
       rotate_left
       ·simp only [Act.put, usz_, utz_, uvz_, i64_w, i32_w]
        rfl
       refine pure_ (i := 14) (N := some 26) (v := undef) (a' := ?_) (mz_ [15,4]) rfl rfl (any_of HT_.out (w110_)) (fun _ _ _ h => h) (Or.inr ⟨by rfl, rfl⟩) ?_ ?_
       rotate_left
       ·simp only [Act.put, usz_, utz_, uvz_, i64_w, i32_w]
        rfl
       refine pure_ (i := 15) (N := some 27) (v := undef) (a' := ?_) (mz_ [16,3]) rfl rfl (any_of HT_.out (w110_)) (fun _ _ _ h => h) (Or.inr ⟨by rfl, rfl⟩) ?_ ?_
       rotate_left
       ·simp only [Act.put, usz_, utz_, uvz_, i64_w, i32_w]
        rfl
       refine pure_ (i := 16) (N := some 28) (v := undef) (a' := ?_) (mz_ [17,2]) rfl rfl (any_of HT_.out (w110_)) (fun _ _ _ h => h) (Or.inr ⟨by rfl, rfl⟩) ?_ ?_
       rotate_left
       ·simp only [Act.put, usz_, utz_, uvz_, i64_w, i32_w]
        rfl
       refine pure_ (i := 17) (N := some 29) (v := undef) (a' := ?_) (mz_ [18,1]) rfl rfl (any_of HT_.out (w110_)) (fun _ _ _ h => h) (Or.inr ⟨by rfl, rfl⟩) ?_ ?_
       rotate_left
       ·simp only [Act.put, usz_, utz_, uvz_, i64_w, i32_w]
        rfl
       refine pure_ (i := 18) (N := some 30) (v := ?_) (a' := ?_) (mz_ [19]) rfl rfl (any_of HT_.out (w110_)) (fun _ _ _ h => h) (Or.inl ⟨by rfl, ?_⟩) ?_ ?_
       rotate_left
       ·intro w'
        go_simp
        with_reducible rfl
       rotate_left
       ·simp only [Act.put, usz_, utz_, uvz_, i64_w, i32_w]
        rfl
       refine done_ (done_of HT_.out (w110_)) ?_
       try go_wp2
       go_ret
       exact ⟨w61_, w40_⟩
     ·rw [if_neg c4] at H
      exact absurd H (by simp)
    ·rw [if_neg c3] at H
     exact absurd H (by simp)
   ·rw [if_neg c2] at H
    have c2b0 := decide_eq_false c2
    clear c2
    obtain rfl := Option.some.inj H
    go_wp2
    go_ret
    exact ⟨w61_, w109_⟩

end Go.Proofs.YtppbpefehpbejaaGreatDoor.P
end

section
namespace Go.Proofs.YtppbpefehpbejaaGreatDoor.P
open Go.RowKit Go.Proofs.YtppbpefehpbejaaGreatDoorW.PrintWords Go.Proofs.YtppbpefehpbejaaGreatDoorW.PrintLast Go.Proofs.YtppbpefehpbejaaGreatDoorW.PrintMore
attribute [local go_sem] max2_int min2_int max_two min_two max_three min_three max_four min_four   -- for this text's walks alone
set_option linter.unusedVariables false
set_option linter.unusedSimpArgs false

theorem eqA69 (d : Nat) (w : World) (x0 y0 : Int) (x1 y1 : Int) :
    (Op.equalIn (d + 2) 69 (.agg #[.int .i64 x0, .int .i64 x1]) (.agg #[.int .i64 y0, .int .i64 y1])).run Tryz.prog w = .ok (x0 == y0 && (x1 == y1)) w := by
  refine eqA_of Tryz.underlying69 (w110_) ?_
  refine eqf_cons (by rfl) (by go_simp; rfl) (by go_simp; rfl) (by go_simp) ?_
  exact eqf_last (by rfl) (by go_simp; rfl) (by go_simp; rfl) (by go_simp)
end Go.Proofs.YtppbpefehpbejaaGreatDoor.P
end

section
namespace Go.Proofs.YtppbpefehpbejaaGreatDoor.P
open Go.RowKit Go.Proofs.YtppbpefehpbejaaGreatDoorW.PrintWords Go.Proofs.YtppbpefehpbejaaGreatDoorW.PrintLast Go.Proofs.YtppbpefehpbejaaGreatDoorW.PrintMore
attribute [local go_sem] max2_int min2_int max_two min_two max_three min_three max_four min_four   -- for this text's walks alone
set_option linter.unusedVariables false
set_option linter.unusedSimpArgs false

def impl_isIndexed.f (a0 : Int) : Option (Bool) := (impl_within.f a0 1 2000).bind fun t183 => (some t183)
set_option maxHeartbeats 8000000 in
set_option maxRecDepth 100000 in
theorem impl_isIndexed.calls (a0 : Int) (r : Bool) (w : World) (h : impl_isIndexed.f a0 = some r) :
  Calls Tryz.prog 124 #[.int .i64 a0] w fun e w' => e = .returned (.bool r) ∧ Drawn0 w w' := by
 have H : ((impl_within.f a0 1 2000).bind fun t183 => (some t183)) = some r := h
 clear h
 replace H := bqz_ H; obtain ⟨t183, A2, H⟩ := H
 replace H : (some t183) = some r := H
 obtain rfl := Option.some.inj H
 go_enter Tryz.func124, Tryz.ntmps124
 go_wp2_with (first | ((with_reducible refine gate_callee (f := 107) rfl ?_); refine goesL_ (some 4) rfl rfl Tryz.func107 (w110_) rfl #[.int .i64 a0, .int .i64 1, .int .i64 2000] rfl maz_ ?_; (with_reducible refine (impl_within.calls a0 1 2000 t183 _ A2.out).mono ?_); rintro e w' ⟨rfl, ⟨nd, rfl⟩⟩; refine ⟨_, rfl, ?_⟩))
 go_ret
 exact ⟨w77_, w74_⟩

def spec_ixOf.l0 : Nat → List Bool → List (S69) → List Bool → Int → Int → Option ((List (S69)) × Bool)
 | 0, _, _, _, _, _ => none
 | k + 1, x0, x4, x7, x8, x9 => if x9 < x8 then (if 0 ≤ x9 then (if x9 < (x7.length : Int) then (if rdOf false x7 x9 = true then (if x9 > 0 then (if 0 ≤ (wrap64 (x9 - 1)) then (if (wrap64 (x9 - 1)) < (x0.length : Int) then (if rdOf false x0 (wrap64 (x9 - 1)) = true then (if 0 ≤ (wrap64 ((x4.length : Int) - 1)) then (if (wrap64 ((x4.length : Int) - 1)) < (x4.length : Int) then (spec_ixOf.l0 k x0 (x4.set ((wrap64 ((x4.length : Int) - 1)) : Int).toNat (⟨(rd_T69 x4 (wrap64 ((x4.length : Int) - 1))).f0, x9⟩ : S69)) x7 x8 (wrap64 (x9 + 1))) else (none)) else (none)) else (if x4.length < 8796093022208 then (spec_ixOf.l0 k x0 (x4 ++ [(⟨x9, x9⟩ : S69)]) x7 x8 (wrap64 (x9 + 1))) else (none))) else (none)) else (none)) else (if x4.length < 8796093022208 then (spec_ixOf.l0 k x0 (x4 ++ [(⟨x9, x9⟩ : S69)]) x7 x8 (wrap64 (x9 + 1))) else (none))) else (spec_ixOf.l0 k x0 x4 x7 x8 (wrap64 (x9 + 1)))) else (none)) else (none)) else (if (x4.length : Int) > 20 then (some (([] : List (S69)), false)) else (some (x4, true)))
def spec_ixOf.f (k : Nat) (l0 : List Bool) : Option ((List (S69)) × Bool) := spec_ixOf.l0 k l0 ([] : List (S69)) l0 (l0.length : Int) 0
set_option maxHeartbeats 8000000 in
set_option maxRecDepth 100000 in
theorem spec_ixOf.calls (k : Nat) (A0 : Option Addr) (c0 : Nat) (l0 : List Bool) (r1 : List (S69)) (r2 : Bool) (w : World) (hr0 : Kd.C Kd.bool w A0 l0.length l0) (hc0 : l0.length ≤ c0) (h : spec_ixOf.f k l0 = some (r1, r2)) :
  Calls Tryz.prog 132 #[.slice A0 l0.length c0] w fun e w' => ∃ v0_ : Value, e = .returned (.tuple #[v0_, .bool r2]) ∧ Kd.R k69 69 w' w.heap.size (fun _ => True) v0_ r1 ∧ Below w.heap.size w w' := by
 have hu69 := Tryz.underlying69
 have HR0 := Az_ hr0
 have HC0 := Az_ hc0
 clear hr0 hc0
 have HB := Az_ (Below.refl w.heap.size w)
 have H : (spec_ixOf.l0 k l0 ([] : List (S69)) l0 (l0.length : Int) 0) = some (r1, r2) := h
 clear h
 have H' := Az_ H
 clear H
 go_enter Tryz.func132, Tryz.ntmps132
 go_wp2
 go_loopg [4, 9] k (fun kq v4 v9 w' => ∃ (x4_1 : List (S69)) (x9_1 : Int), v9 = .int .i64 x9_1 ∧ Aside0 (spec_ixOf.l0 kq l0 x4_1 l0 (l0.length : Int) x9_1 = some (r1, r2)) ∧ Aside0 (kq ≤ k) ∧ Aside0 (Kd.R k69 69 w' w.heap.size (fun _ => True) v4 x4_1) ∧ Aside0 (Below w.heap.size w w'))
 case atStart => exact ⟨(([] : List (S69))), (0), qaz_, H', ⟨Nat.le_refl _⟩, ⟨w41_⟩, ⟨w109_⟩⟩
 case round =>
  clear H'
  obtain ⟨x4_1, x9_1, rfl, HA, HK1, HO_4, HB⟩ := hrel
  cases gk with
  | zero => exact absurd HA.out (by simp [spec_ixOf.l0])
  | succ k1 =>
   have H := HA.out
   clear HA
   simp only [spec_ixOf.l0] at H
   by_cases c2 : x9_1 < (l0.length : Int)
   ·rw [if_pos c2] at H
    have c2b0 := decide_eq_true c2
    clear c2
    by_cases c3 : 0 ≤ x9_1
    ·rw [if_pos c3] at H
     have c3b0 := decide_eq_true c3
     clear c3
     by_cases c4 : x9_1 < (l0.length : Int)
     ·rw [if_pos c4] at H
      have c4b0 := decide_eq_true c4
      clear c4
      obtain ⟨bq5, hbq5⟩ : ∃ b_ : Bool, b_ = (rdOf false l0 x9_1) := ⟨_, rfl⟩
      replace H : (if bq5 = true then (if x9_1 > 0 then (if 0 ≤ (wrap64 (x9_1 - 1)) then (if (wrap64 (x9_1 - 1)) < (l0.length : Int) then (if rdOf false l0 (wrap64 (x9_1 - 1)) = true then (if 0 ≤ (wrap64 ((x4_1.length : Int) - 1)) then (if (wrap64 ((x4_1.length : Int) - 1)) < (x4_1.length : Int) then (spec_ixOf.l0 k1 l0 (x4_1.set ((wrap64 ((x4_1.length : Int) - 1)) : Int).toNat (⟨(rd_T69 x4_1 (wrap64 ((x4_1.length : Int) - 1))).f0, x9_1⟩ : S69)) l0 (l0.length : Int) (wrap64 (x9_1 + 1))) else (none)) else (none)) else (if x4_1.length < 8796093022208 then (spec_ixOf.l0 k1 l0 (x4_1 ++ [(⟨x9_1, x9_1⟩ : S69)]) l0 (l0.length : Int) (wrap64 (x9_1 + 1))) else (none))) else (none)) else (none)) else (if x4_1.length < 8796093022208 then (spec_ixOf.l0 k1 l0 (x4_1 ++ [(⟨x9_1, x9_1⟩ : S69)]) l0 (l0.length : Int) (wrap64 (x9_1 + 1))) else (none))) else (spec_ixOf.l0 k1 l0 x4_1 l0 (l0.length : Int) (wrap64 (x9_1 + 1)))) = some (r1, r2) := by rw [← hbq5] at H; exact H
      have Nbq5 := Az_ hbq5
      clear hbq5
      by_cases c6 : bq5 = true
      ·subst c6
       rw [if_pos rfl] at H
       by_cases c7 : x9_1 > 0
       ·rw [if_pos c7] at H
        have c7b0 := decide_eq_true c7
        clear c7
        obtain ⟨ji8, hji8⟩ : ∃ j_ : Int, (wrap64 (x9_1 - 1)) = j_ := ⟨_, rfl⟩
        replace H : (if 0 ≤ (ji8) then (if (ji8) < (l0.length : Int) then (if rdOf false l0 (ji8) = true then (if 0 ≤ (wrap64 ((x4_1.length : Int) - 1)) then (if (wrap64 ((x4_1.length : Int) - 1)) < (x4_1.length : Int) then (spec_ixOf.l0 k1 l0 (x4_1.set ((wrap64 ((x4_1.length : Int) - 1)) : Int).toNat (⟨(rd_T69 x4_1 (wrap64 ((x4_1.length : Int) - 1))).f0, x9_1⟩ : S69)) l0 (l0.length : Int) (wrap64 (x9_1 + 1))) else (none)) else (none)) else (if x4_1.length < 8796093022208 then (spec_ixOf.l0 k1 l0 (x4_1 ++ [(⟨x9_1, x9_1⟩ : S69)]) l0 (l0.length : Int) (wrap64 (x9_1 + 1))) else (none))) else (none)) else (none)) = some (r1, r2) := by first | (rw [hji8] at H; exact H) | (simp only [hji8] at H ⊢; exact H)
        have hji8w : (IntKind.i64.wrap (x9_1 - 1)) = ji8 := (i64_w _).trans hji8
        by_cases c9 : 0 ≤ (ji8)
        ·rw [if_pos c9] at H
         have c9b0 := decide_eq_true c9
         clear c9
         by_cases c10 : (ji8) < (l0.length : Int)
         ·rw [if_pos c10] at H
          have c10b0 := decide_eq_true c10
          clear c10
          obtain ⟨bq11, hbq11⟩ : ∃ b_ : Bool, b_ = (rdOf false l0 (ji8)) := ⟨_, rfl⟩
          replace H : (if bq11 = true then (if 0 ≤ (wrap64 ((x4_1.length : Int) - 1)) then (if (wrap64 ((x4_1.length : Int) - 1)) < (x4_1.length : Int) then (spec_ixOf.l0 k1 l0 (x4_1.set ((wrap64 ((x4_1.length : Int) - 1)) : Int).toNat (⟨(rd_T69 x4_1 (wrap64 ((x4_1.length : Int) - 1))).f0, x9_1⟩ : S69)) l0 (l0.length : Int) (wrap64 (x9_1 + 1))) else (none)) else (none)) else (if x4_1.length < 8796093022208 then (spec_ixOf.l0 k1 l0 (x4_1 ++ [(⟨x9_1, x9_1⟩ : S69)]) l0 (l0.length : Int) (wrap64 (x9_1 + 1))) else (none))) = some (r1, r2) := by rw [← hbq11] at H; exact H
          have Nbq11 := Az_ hbq11
          clear hbq11
          by_cases c12 : bq11 = true
          ·subst c12
           rw [if_pos rfl] at H
           obtain ⟨ji13, hji13⟩ : ∃ j_ : Int, (wrap64 ((x4_1.length : Int) - 1)) = j_ := ⟨_, rfl⟩
           replace H : (if 0 ≤ (ji13) then (if (ji13) < (x4_1.length : Int) then (spec_ixOf.l0 k1 l0 (x4_1.set ((ji13) : Int).toNat (⟨(rd_T69 x4_1 (ji13)).f0, x9_1⟩ : S69)) l0 (l0.length : Int) (wrap64 (x9_1 + 1))) else (none)) else (none)) = some (r1, r2) := by first | (rw [hji13] at H; exact H) | (simp only [hji13] at H ⊢; exact H)
           have hji13w : (IntKind.i64.wrap ((x4_1.length : Int) - 1)) = ji13 := (i64_w _).trans hji13
           by_cases c14 : 0 ≤ (ji13)
           ·rw [if_pos c14] at H
            have c14b0 := decide_eq_true c14
            clear c14
            by_cases c15 : (ji13) < (x4_1.length : Int)
            ·rw [if_pos c15] at H
             have c15b0 := decide_eq_true c15
             clear c15
             obtain ⟨y186, hy186⟩ : ∃ y_ : List (S69), y_ = (x4_1.set ((ji13) : Int).toNat (⟨(rd_T69 x4_1 (ji13)).f0, x9_1⟩ : S69)) := ⟨_, rfl⟩
             replace H : (spec_ixOf.l0 k1 l0 y186 l0 (l0.length : Int) (wrap64 (x9_1 + 1))) = some (r1, r2) := by first | (rw [hy186]; with_reducible exact H) | (have H2_ := (Option.bind_some _ _).symm.trans H; rw [hy186]; with_reducible exact H2_) | (have H2_ := (Option.bind_some _ _).symm.trans H; with_reducible exact H2_) | with_reducible exact H | (rw [hy186]; exact H) | exact H
             have Ny186 := Az_ hy186
             clear hy186
             have H' := Az_ H
             clear H
             have p184 : 0 ≤ (x9_1 : Int) := of_decide_eq_true asz_
             have q184 : x9_1 < (l0.length : Int) := of_decide_eq_true asz_
             obtain ⟨ad184, e184, hx184_0⟩ := Kd.at_bool HR0.out x9_1 p184 q184
             (try rw [← Nbq5.out] at hx184_0)
             (try rw [← Nbq11.out] at hx184_0)
             cases e184
             replace hx184_0 := (HB.out.cell (World.block_lt_of_cell? w _ hx184_0)).trans hx184_0
             replace p184 := eq_true p184
             replace q184 := eq_true q184
             have p185 : 0 ≤ ((ji8) : Int) := of_decide_eq_true asz_
             have q185 : (ji8) < (l0.length : Int) := of_decide_eq_true asz_
             obtain ⟨ad185, e185, hx185_0⟩ := Kd.at_bool HR0.out (ji8) p185 q185
             (try rw [← Nbq5.out] at hx185_0)
             (try rw [← Nbq11.out] at hx185_0)
             obtain rfl : ad184 = ad185 := (by injection e185)
             replace hx185_0 := (HB.out.cell (World.block_lt_of_cell? w _ hx185_0)).trans hx185_0
             replace p185 := eq_true p185
             replace q185 := eq_true q185
             obtain ⟨Ao17, co17, eo17⟩ := Kd.R_slice HO_4.out
             subst eo17
             have p16 : 0 ≤ ((ji13) : Int) := of_decide_eq_true asz_
             have q16 : ((ji13) : Int) < ((x4_1.length : Int) : Int) := of_decide_eq_true asz_
             obtain ⟨go16, co16, eo16, gb16, gl16, cl16, HG16⟩ := Kd.R_form HO_4.out (by omega)
             (first | cases eo16 | (injection eo16 with ea_ en_ ec_; (first | subst ea_ | (injection ea_ with ea_; subst ea_)); subst ec_; clear en_))
             have GB16 := Az_ gb16
             have GG16 := Az_ HG16
             clear gb16 gl16 HG16
             obtain ⟨ce16, hcl16, hM16, hcc16, hfr16⟩ := Kd.R_elem HO_4.out z69 ((ji13) : Int) p16 q16
             obtain rfl := k69_openM hM16
             have hx16_0 : wr.cell? ⟨go16, ((ji13) : Int).toNat * 2, none⟩ = some (.int .i64 ((rd_T69 x4_1 (ji13)).f0)) := hcc16 0 _ rfl
             have hx16_1 : wr.cell? ⟨go16, ((ji13) : Int).toNat * 2 + 1, none⟩ = some (.int .i64 ((rd_T69 x4_1 (ji13)).f1)) := hcc16 1 _ rfl
             have hf16_0 : wr.frozen? ⟨go16, ((ji13) : Int).toNat * 2, none⟩ = false := hfr16 0
             have hf16_1 : wr.frozen? ⟨go16, ((ji13) : Int).toNat * 2 + 1, none⟩ = false := hfr16 1
             clear hcl16 hcc16 hfr16 hM16
             replace p16 := eq_true p16
             replace q16 := eq_true q16
             have HX18 := Az_ (show Kd.R k69 69 wr w.heap.size (fun _ => True) (.slice (some ⟨go16, 0, none⟩) x4_1.length co17) x4_1 from (w105_))
             obtain ⟨ce18, hcl18, hM18, hcc18, hfr18⟩ := Kd.R_elem HX18.out z69 ((ji13) : Int) (of_decide_eq_true asz_) (by have h_ : ((ji13) : Int) < ((x4_1.length : Int) : Int) := of_decide_eq_true asz_; first | exact h_ | (have e_ := (Kd.R_reads' HO_4.out).1; omega) | simpa using h_)
             obtain rfl := k69_openM hM18
             have HP18 := Kd.R_seg HX18.out ((ji13) : Int) (of_decide_eq_true asz_) (by have h_ : ((ji13) : Int) < ((x4_1.length : Int) : Int) := of_decide_eq_true asz_; first | exact h_ | (have e_ := (Kd.R_reads' HO_4.out).1; omega) | simpa using h_) (seg := [.int .i64 x9_1]) (j := 1) hcl18 hcc18 (show 2 ≤ 2 from by decide) (x' := (⟨(rd_T69 x4_1 (ji13)).f0, x9_1⟩ : S69)) (k69_mkM _ _ _ (⟨(rd_T69 x4_1 (ji13)).f0, x9_1⟩ : S69) ) (fun _ hk => hk)
             have hx18_1 := hcc18 1 _ rfl
             (try simp only [show (k69).sz = 2 from rfl, Nat.mul_one, Nat.add_zero] at hx18_1)
             have hf18_1 := hfr18 1
             (try simp only [show (k69).sz = 2 from rfl, Nat.mul_one, Nat.add_zero] at hf18_1)
             clear hcl18 hcc18 hfr18 hM18
             go_wp2_with (first | ((with_reducible refine gate_store (t := 3) (p := 39) rfl ?_); refine store_event (t := 3) (p := 39) (v := ?vo_w19) (w1 := (wr.setCell ⟨go16, ((ji13) : Int).toNat * 2 + 1, none⟩ (.int .i64 x9_1))) ?hg ?ho ?hn ?hr ?_; (case ho => rfl); (case hg => rfl); (case hn => rfl); (case hr => first | (go_simp; done) | (go_simp; rfl)); intro w19 hw; have hg : wr.grownBy w19 (some go16) := (by rw [hw]; exact HP18.2); have hp_ : Kd.R k69 69 w19 w.heap.size (fun _ => True) (.slice (some ⟨go16, 0, none⟩) x4_1.length co17) y186 := (by rw [hw, Ny186.out]; exact HP18.1); clear HP18; replace HO_4 := Az_ (hp_); replace HB := Az_ ((by rw [hw]; exact bsz_ (HB.out) GB16.out : Below w.heap.size w w19)); clear hg hw hp_))
             go_roundg k1
             case measure => have := HK1.out; omega
             case rel => exact ⟨(y186), (wrap64 (x9_1 + 1)), qaz_, H', ⟨w83_⟩, ⟨w70_⟩, ⟨w109_⟩⟩
            ·rw [if_neg c15] at H
             exact absurd H (by simp)
           ·rw [if_neg c14] at H
            exact absurd H (by simp)
          ·replace c12 := Bool.eq_false_iff.mpr c12
           subst c12
           rw [if_neg nfz_] at H
           by_cases c20 : x4_1.length < 8796093022208
           ·rw [if_pos c20] at H
            have LMc20 := Az_ c20
            clear c20
            obtain ⟨y187, hy187⟩ : ∃ y_ : List (S69), y_ = (x4_1 ++ [(⟨x9_1, x9_1⟩ : S69)]) := ⟨_, rfl⟩
            replace H : (spec_ixOf.l0 k1 l0 y187 l0 (l0.length : Int) (wrap64 (x9_1 + 1))) = some (r1, r2) := by first | (rw [hy187]; with_reducible exact H) | (have H2_ := (Option.bind_some _ _).symm.trans H; rw [hy187]; with_reducible exact H2_) | (have H2_ := (Option.bind_some _ _).symm.trans H; with_reducible exact H2_) | with_reducible exact H | (rw [hy187]; exact H) | exact H
            have Ny187 := Az_ hy187
            clear hy187
            have H' := Az_ H
            clear H
            have p184 : 0 ≤ (x9_1 : Int) := of_decide_eq_true asz_
            have q184 : x9_1 < (l0.length : Int) := of_decide_eq_true asz_
            obtain ⟨ad184, e184, hx184_0⟩ := Kd.at_bool HR0.out x9_1 p184 q184
            (try rw [← Nbq5.out] at hx184_0)
            (try rw [← Nbq11.out] at hx184_0)
            cases e184
            replace hx184_0 := (HB.out.cell (World.block_lt_of_cell? w _ hx184_0)).trans hx184_0
            replace p184 := eq_true p184
            replace q184 := eq_true q184
            have p185 : 0 ≤ ((ji8) : Int) := of_decide_eq_true asz_
            have q185 : (ji8) < (l0.length : Int) := of_decide_eq_true asz_
            obtain ⟨ad185, e185, hx185_0⟩ := Kd.at_bool HR0.out (ji8) p185 q185
            (try rw [← Nbq5.out] at hx185_0)
            (try rw [← Nbq11.out] at hx185_0)
            obtain rfl : ad184 = ad185 := (by injection e185)
            replace hx185_0 := (HB.out.cell (World.block_lt_of_cell? w _ hx185_0)).trans hx185_0
            replace p185 := eq_true p185
            replace q185 := eq_true q185
            go_wp2_with (first | ((with_reducible refine gate_builtin (b := .append) (xs := #[.tmp 14, .tmp 18]) rfl ?_); at_builtin; refine Kd.R_append k69 (w0 := w) w.heap.size rfl (.tmp 14) (.tmp 18) 51 69 (.agg #[(.int .i64 0), (.int .i64 0)]) 16 rfl Tryz.underlying51 info69 rfl (by decide) (by omega) u4 x4_1 (⟨x9_1, x9_1⟩ : S69) [.int .i64 x9_1, .int .i64 x9_1] (fun _ => True) (fun _ => False) rfl rfl ?aP (fun _ hk => hk.elim) ?aF ?aO ?aB ?aS ?aL ?_; (case aP => exact k69_mkM _ _ _ (⟨x9_1, x9_1⟩ : S69)); (case aB => exact (ubz_ HB.out)); (case aF => exact (fun _ _ => trivial)); (case aO => exact (w105_)); (case aS => exact (below_size (ubz_ HB.out))); (case aL => have := LMc20.out; omega); intro v188 w21 ho hb hg hat; rw [← Ny187.out] at ho; replace HB := Az_ (hb); have HO189 := Az_ (ho); clear HO_4; clear ho hb hg hat))
            go_roundg k1
            case measure => have := HK1.out; omega
            case rel => exact ⟨(y187), (wrap64 (x9_1 + 1)), qaz_, H', ⟨w83_⟩, ⟨by (with_reducible repeat (first | apply raz_ | apply rnz_ | apply rdz_)); exact HO189.out⟩, ⟨w109_⟩⟩
           ·rw [if_neg c20] at H
            exact absurd H (by simp)
         ·rw [if_neg c10] at H
          exact absurd H (by simp)
        ·rw [if_neg c9] at H
         exact absurd H (by simp)
       ·rw [if_neg c7] at H
        have c7b0 := decide_eq_false c7
        clear c7
        by_cases c22 : x4_1.length < 8796093022208
        ·rw [if_pos c22] at H
         have LMc22 := Az_ c22
         clear c22
         obtain ⟨y190, hy190⟩ : ∃ y_ : List (S69), y_ = (x4_1 ++ [(⟨x9_1, x9_1⟩ : S69)]) := ⟨_, rfl⟩
         replace H : (spec_ixOf.l0 k1 l0 y190 l0 (l0.length : Int) (wrap64 (x9_1 + 1))) = some (r1, r2) := by first | (rw [hy190]; with_reducible exact H) | (have H2_ := (Option.bind_some _ _).symm.trans H; rw [hy190]; with_reducible exact H2_) | (have H2_ := (Option.bind_some _ _).symm.trans H; with_reducible exact H2_) | with_reducible exact H | (rw [hy190]; exact H) | exact H
         have Ny190 := Az_ hy190
         clear hy190
         have H' := Az_ H
         clear H
         have p184 : 0 ≤ (x9_1 : Int) := of_decide_eq_true asz_
         have q184 : x9_1 < (l0.length : Int) := of_decide_eq_true asz_
         obtain ⟨ad184, e184, hx184_0⟩ := Kd.at_bool HR0.out x9_1 p184 q184
         (try rw [← Nbq5.out] at hx184_0)
         cases e184
         replace hx184_0 := (HB.out.cell (World.block_lt_of_cell? w _ hx184_0)).trans hx184_0
         replace p184 := eq_true p184
         replace q184 := eq_true q184
         go_wp2_with (first | ((with_reducible refine gate_builtin (b := .append) (xs := #[.tmp 14, .tmp 18]) rfl ?_); at_builtin; refine Kd.R_append k69 (w0 := w) w.heap.size rfl (.tmp 14) (.tmp 18) 51 69 (.agg #[(.int .i64 0), (.int .i64 0)]) 16 rfl Tryz.underlying51 info69 rfl (by decide) (by omega) u4 x4_1 (⟨x9_1, x9_1⟩ : S69) [.int .i64 x9_1, .int .i64 x9_1] (fun _ => True) (fun _ => False) rfl rfl ?aP (fun _ hk => hk.elim) ?aF ?aO ?aB ?aS ?aL ?_; (case aP => exact k69_mkM _ _ _ (⟨x9_1, x9_1⟩ : S69)); (case aB => exact (ubz_ HB.out)); (case aF => exact (fun _ _ => trivial)); (case aO => exact (w105_)); (case aS => exact (below_size (ubz_ HB.out))); (case aL => have := LMc22.out; omega); intro v191 w23 ho hb hg hat; rw [← Ny190.out] at ho; replace HB := Az_ (hb); have HO192 := Az_ (ho); clear HO_4; clear ho hb hg hat))
         go_roundg k1
         case measure => have := HK1.out; omega
         case rel => exact ⟨(y190), (wrap64 (x9_1 + 1)), qaz_, H', ⟨w83_⟩, ⟨by (with_reducible repeat (first | apply raz_ | apply rnz_ | apply rdz_)); exact HO192.out⟩, ⟨w109_⟩⟩
        ·rw [if_neg c22] at H
         exact absurd H (by simp)
      ·replace c6 := Bool.eq_false_iff.mpr c6
       subst c6
       rw [if_neg nfz_] at H
       have H' := Az_ H
       clear H
       have p184 : 0 ≤ (x9_1 : Int) := of_decide_eq_true asz_
       have q184 : x9_1 < (l0.length : Int) := of_decide_eq_true asz_
       obtain ⟨ad184, e184, hx184_0⟩ := Kd.at_bool HR0.out x9_1 p184 q184
       (try rw [← Nbq5.out] at hx184_0)
       cases e184
       replace hx184_0 := (HB.out.cell (World.block_lt_of_cell? w _ hx184_0)).trans hx184_0
       replace p184 := eq_true p184
       replace q184 := eq_true q184
       go_wp2
       go_roundg k1
       case measure => have := HK1.out; omega
       case rel => exact ⟨(x4_1), (wrap64 (x9_1 + 1)), qaz_, H', ⟨w83_⟩, ⟨w70_⟩, ⟨w109_⟩⟩
     ·rw [if_neg c4] at H
      exact absurd H (by simp)
    ·rw [if_neg c3] at H
     exact absurd H (by simp)
   ·rw [if_neg c2] at H
    have c2b0 := decide_eq_false c2
    clear c2
    by_cases c24 : (x4_1.length : Int) > 20
    ·rw [if_pos c24] at H
     have c24b0 := decide_eq_true c24
     have c24b1 : decide (20 < x4_1.length) = true := decide_eq_true (by omega)
     clear c24
     simp only [Option.some.injEq, Prod.mk.injEq] at H
     obtain ⟨rfl, rfl⟩ := H
     obtain ⟨Ao25, co25, eo25⟩ := Kd.R_slice HO_4.out
     subst eo25
     go_wp2
     go_ret2
     exact ⟨_, w61_, w41_, w109_⟩
    ·rw [if_neg c24] at H
     have c24b0 := decide_eq_false c24
     have c24b1 : decide (20 < x4_1.length) = false := decide_eq_false (by omega)
     clear c24
     simp only [Option.some.injEq, Prod.mk.injEq] at H
     obtain ⟨rfl, rfl⟩ := H
     obtain ⟨Ao26, co26, eo26⟩ := Kd.R_slice HO_4.out
     subst eo26
     go_wp2
     go_ret2
     exact ⟨_, w61_, w70_, w109_⟩

end Go.Proofs.YtppbpefehpbejaaGreatDoor.P
end
