/- Lean functions with the answers of the program's Go functions, and for each the proof that the Go code comes to these answers; no condition. -/
import Derived.Test.YtppbpefehpbejaaDoorZim0
import Derived.Test.YtppbpefehpbejaaDoorZim1
import Derived.Test.YtppbpefehpbejaaDoorZim2
import Derived.Test.YtppbpefehpbejaaDoorZim3
import Derived.Test.YtppbpefehpbejaaDoorZim4
import Derived.Test.YtppbpefehpbejaaDoorZim5
import Derived.Test.YtppbpefehpbejaaDoorZim6
import Derived.Test.YtppbpefehpbejaaDoorZim7
import Derived.Test.YtppbpefehpbejaaDoorZim8
import Derived.Test.YtppbpefehpbejaaDoorZim9
import Derived.Test.YtppbpefehpbejaaDoorZim10
import Derived.Test.YtppbpefehpbejaaDoorZim11
import Derived.Test.YtppbpefehpbejaaDoorZim12
import Derived.Test.YtppbpefehpbejaaDoorZim13
import Derived.Test.YtppbpefehpbejaaDoorZim14
import Derived.Test.YtppbpefehpbejaaDoorZim15
import Derived.Test.YtppbpefehpbejaaDoorZim16
import Derived.Test.YtppbpefehpbejaaDoorZim17
import Derived.Test.YtppbpefehpbejaaDoorZim18
import Derived.Test.YtppbpefehpbejaaDoorZim19
import Derived.Test.YtppbpefehpbejaaDoorZim20
import Derived.Test.YtppbpefehpbejaaDoorProg
import Derived.Below
import Derived.Deep.Draws
import Derived.Deep.AppendLies
import Derived.Maps.AppendAt
import Derived.OwnWalk
import Derived.Laws.BytesArg
import Derived.Laws.MakeOwn
import Derived.Laws.OwnMore
import Derived.Deep.OwnRows
import Derived.Tactics
import Derived.Lib.ConvBytes
import Derived.Laws.Slices
import Derived.WalkKit
import Derived.KernelRfl
import Derived.RowKit3
import Derived.Deep.LoopGhost
import Derived.Deep.QuietTactic
import Derived.BigQuiet
import Derived.WideLaws
import Derived.Deep.DeepCutAuto
import Derived.Deep.CutBlock
import Derived.Deep.RegionHeld3
import Derived.Laws.Rows
import Derived.Lib.AppendStr
import Derived.ArgAppend
import Derived.Laws.IdiomCopy
import Derived.OrdersHeld
import Derived.Laws.BitsLemmas
import Derived.RowKit
namespace Go.Proofs.YtppbpefehpbejaaDoor
set_option linter.unusedVariables false
def mzl_ : Bool → List Nat → List Bool
  | _, [] => []
  | b, n :: r => List.replicate n b ++ mzl_ (!b) r
abbrev mz_ (r : List Nat) : Array Bool := (mzl_ true r).toArray
section
open Go.RowKit Go.Proofs.YtppbpefehpbejaaDoorW.PrintWords Go.Proofs.YtppbpefehpbejaaDoorW.PrintLast Go.Proofs.YtppbpefehpbejaaDoorW.PrintMore
theorem nz_ {P : Program} {ops : Array Oper} {Q : Exit → Act → World → Prop} {md : Region.Mode} {S : World → Prop} {ds : List Nat} {fuel : Nat} {l : Array Bool} {a a' : Act} {w : World} {v : Value} (N : Nat) (h : wpAnyLast P md ops Q S ds fuel l a' w) (ha : a.put (some N) v = a' := by simp only [Act.put, usz_, utz_, uvz_, i64_w, i32_w]; rfl) : wpAnyLast P md ops Q S ds fuel l (a.put (some N) v) w := norm_ ha h
theorem pz_ {P : Program} {ops : Array Oper} {Q : Exit → Act → World → Prop} {md : Region.Mode} {S : World → Prop} {ds : List Nat} {fuel : Nat} {l : Array Bool} {a a' : Act} {w : World} (i N : Nat) (m : List Nat) {oi : Oper} {v : Value} (h : wpAnyLast P md ops Q S ds fuel (mz_ m) a' w) (hi : ops[i]? = some oi := by rfl) (hN : oi.dst = some N := by rfl) (hc : anyB md ops l (mz_ m) i = true := by exact any_of HT_.out (by kernel_rfl)) (hQ : ∀ c a w, Q (.panic c) (a.put oi.dst v) w → Q (.panic c) a w := by exact fun _ _ _ h => h) (hy : Yields P ops oi v a := by exact Or.inl ⟨by rfl, by intro w'; go_simp; with_reducible rfl⟩) (ha : a.put (some N) v = a' := by simp only [Act.put, usz_, utz_, uvz_, i64_w, i32_w]; rfl) : wpAnyLast P md ops Q S ds (fuel + 1) l a w := pure_ (i := i) (N := some N) (v := v) (a' := a') (mz_ m) hi hN hc hQ hy ha h
theorem pzk_ {P : Program} {ops : Array Oper} {Q : Exit → Act → World → Prop} {md : Region.Mode} {S : World → Prop} {ds : List Nat} {fuel : Nat} {l : Array Bool} {a a' : Act} {w : World} (i N : Nat) (m : List Nat) {oi : Oper} {v : Value} (h : wpAnyLast P md ops Q S ds fuel (mz_ m) a' w) (hi : ops[i]? = some oi := by rfl) (hN : oi.dst = some N := by rfl) (hc : anyB md ops l (mz_ m) i = true := by kernel_rfl) (hQ : ∀ c a w, Q (.panic c) (a.put oi.dst v) w → Q (.panic c) a w := by exact fun _ _ _ h => h) (hy : Yields P ops oi v a := by exact Or.inl ⟨by rfl, by intro w'; go_simp; with_reducible rfl⟩) (ha : a.put (some N) v = a' := by simp only [Act.put, usz_, utz_, uvz_, i64_w, i32_w]; rfl) : wpAnyLast P md ops Q S ds (fuel + 1) l a w := pure_ (i := i) (N := some N) (v := v) (a' := a') (mz_ m) hi hN hc hQ hy ha h
theorem qz_ {P : Program} {ops : Array Oper} {Q : Exit → Act → World → Prop} {md : Region.Mode} {S : World → Prop} {ds : List Nat} {fuel : Nat} {l : Array Bool} {a a' : Act} {w : World} (i N : Nat) (m : List Nat) {oi : Oper} (h : wpAnyLast P md ops Q S ds fuel (mz_ m) a' w) (hi : ops[i]? = some oi := by rfl) (hN : oi.dst = some N := by rfl) (hc : anyB md ops l (mz_ m) i = true := by exact any_of HT_.out (by kernel_rfl)) (hQ : ∀ c a w, Q (.panic c) (a.put oi.dst undef) w → Q (.panic c) a w := by exact fun _ _ _ h => h) (hy : Yields P ops oi undef a := by exact Or.inr ⟨by rfl, rfl⟩) (ha : a.put (some N) undef = a' := by simp only [Act.put, usz_, utz_, uvz_, i64_w, i32_w]; rfl) : wpAnyLast P md ops Q S ds (fuel + 1) l a w := pure_ (i := i) (N := some N) (v := undef) (a' := a') (mz_ m) hi hN hc hQ hy ha h
theorem tz0_ {P : Program} {ops : Array Oper} {Q : Exit → Act → World → Prop} {md : Region.Mode} {S : World → Prop} {ds : List Nat} {fuel : Nat} {l : Array Bool} {a a' : Act} {w : World} (i N : Nat) (m : List Nat) {oi : Oper} {v : Value} (h : wpAnyLast P md ops Q S ds fuel (mz_ m) a' w) (hi : ops[i]? = some oi := by rfl) (hN : oi.dst = some N := by rfl) (hc : takeB md ops ds l (mz_ m) i = true := by exact take_ofW HT_.out HW_.out (by kernel_rfl)) (hQ : ∀ c a w, Q (.panic c) (a.put oi.dst v) w → Q (.panic c) a w := by exact fun _ _ _ h => h) (hy : YieldsIf P ops S oi v a := by exact Or.inl ⟨by rfl, by intro w' _; go_simp; with_reducible rfl⟩) (hS : S w := by exact hHeld) (ha : a.put (some N) v = a' := by simp only [Act.put, usz_, utz_, uvz_, i64_w, i32_w]; rfl) : wpAnyLast P md ops Q S ds (fuel + 1) l a w := take_ (i := i) (N := some N) (v := v) (a' := a') (mz_ m) hi hN hc hQ hy hS ha h
theorem tz2_ {P : Program} {ops : Array Oper} {Q : Exit → Act → World → Prop} {md : Region.Mode} {S : World → Prop} {ds : List Nat} {fuel : Nat} {l : Array Bool} {a a' : Act} {w : World} (i N : Nat) (m : List Nat) {oi : Oper} {v : Value} (h : wpAnyLast P md ops Q S ds fuel (mz_ m) a' w) (hi : ops[i]? = some oi := by rfl) (hN : oi.dst = some N := by rfl) (hc : takeB md ops ds l (mz_ m) i = true := by exact take_ofW HT_.out HW_.out (by kernel_rfl)) (hQ : ∀ c a w, Q (.panic c) (a.put oi.dst v) w → Q (.panic c) a w := by exact fun _ _ _ h => h) (hy : YieldsIf P ops S oi v a := by exact Or.inl ⟨by rfl, by rintro w' ⟨s0, s1⟩; go_simp; with_reducible rfl⟩) (hS : S w := by exact hHeld) (ha : a.put (some N) v = a' := by simp only [Act.put, usz_, utz_, uvz_, i64_w, i32_w]; rfl) : wpAnyLast P md ops Q S ds (fuel + 1) l a w := take_ (i := i) (N := some N) (v := v) (a' := a') (mz_ m) hi hN hc hQ hy hS ha h
theorem tz4_ {P : Program} {ops : Array Oper} {Q : Exit → Act → World → Prop} {md : Region.Mode} {S : World → Prop} {ds : List Nat} {fuel : Nat} {l : Array Bool} {a a' : Act} {w : World} (i N : Nat) (m : List Nat) {oi : Oper} {v : Value} (h : wpAnyLast P md ops Q S ds fuel (mz_ m) a' w) (hi : ops[i]? = some oi := by rfl) (hN : oi.dst = some N := by rfl) (hc : takeB md ops ds l (mz_ m) i = true := by exact take_ofW HT_.out HW_.out (by kernel_rfl)) (hQ : ∀ c a w, Q (.panic c) (a.put oi.dst v) w → Q (.panic c) a w := by exact fun _ _ _ h => h) (hy : YieldsIf P ops S oi v a := by exact Or.inl ⟨by rfl, by rintro w' ⟨s0, s1, s2, s3⟩; go_simp; with_reducible rfl⟩) (hS : S w := by exact hHeld) (ha : a.put (some N) v = a' := by simp only [Act.put, usz_, utz_, uvz_, i64_w, i32_w]; rfl) : wpAnyLast P md ops Q S ds (fuel + 1) l a w := take_ (i := i) (N := some N) (v := v) (a' := a') (mz_ m) hi hN hc hQ hy hS ha h
theorem tzk0_ {P : Program} {ops : Array Oper} {Q : Exit → Act → World → Prop} {md : Region.Mode} {S : World → Prop} {ds : List Nat} {fuel : Nat} {l : Array Bool} {a a' : Act} {w : World} (i N : Nat) (m : List Nat) {oi : Oper} {v : Value} (h : wpAnyLast P md ops Q S ds fuel (mz_ m) a' w) (hi : ops[i]? = some oi := by rfl) (hN : oi.dst = some N := by rfl) (hc : takeB md ops ds l (mz_ m) i = true := by kernel_rfl) (hQ : ∀ c a w, Q (.panic c) (a.put oi.dst v) w → Q (.panic c) a w := by exact fun _ _ _ h => h) (hy : YieldsIf P ops S oi v a := by exact Or.inl ⟨by rfl, by intro w' _; go_simp; with_reducible rfl⟩) (hS : S w := by exact hHeld) (ha : a.put (some N) v = a' := by simp only [Act.put, usz_, utz_, uvz_, i64_w, i32_w]; rfl) : wpAnyLast P md ops Q S ds (fuel + 1) l a w := take_ (i := i) (N := some N) (v := v) (a' := a') (mz_ m) hi hN hc hQ hy hS ha h
theorem od_ {p : Prop} [Decidable p] (h : decide p = true := by first | (with_reducible assumption) | assumption) : p := of_decide_eq_true h
theorem hbz_ {w w1 : World} {p : Addr} {v : Value} (hb : Below w.heap.size w w1) (h : w.cell? p = some v) : w1.cell? p = some v := (hb.cell (World.block_lt_of_cell? w _ h)).trans h
end
theorem w162_ {P : Prop} (h : P := by kernel_rfl) : P := h
theorem w161_ {P : Prop} (h : P := by rw [hym]; omega) : P := h
theorem w160_ {P : Prop} (h : P := by exact ubz_ HB.out) : P := h
theorem w159_ {P : Prop} (h : P := by exact urz_ HO_5.out) : P := h
theorem w158_ {P : Prop} (h : P := by exact urz_ HO_6.out) : P := h
theorem w157_ {P : Prop} (h : P := by exact urz_ HO_4.out) : P := h
theorem w156_ {P : Prop} (h : P := by exact urz_ HO_46.out) : P := h
theorem w155_ {P : Prop} (h : P := by exact urz_ HO_42.out) : P := h
theorem w154_ {P : Prop} (h : P := by exact urz_ HO514.out) : P := h
theorem w153_ {P : Prop} (h : P := by exact urz_ HO510.out) : P := h
theorem w152_ {P : Prop} (h : P := by exact urz_ HO506.out) : P := h
theorem w151_ {P : Prop} (h : P := by exact urz_ HO502.out) : P := h
theorem w150_ {P : Prop} (h : P := by exact urz_ HO498.out) : P := h
theorem w149_ {P : Prop} (h : P := by exact urz_ HO_12.out) : P := h
theorem w148_ {P : Prop} (h : P := by exact urz_ HO458.out) : P := h
theorem w147_ {P : Prop} (h : P := by exact urz_ HO454.out) : P := h
theorem w146_ {P : Prop} (h : P := by exact urz_ HO450.out) : P := h
theorem w145_ {P : Prop} (h : P := by exact urz_ HO136.out) : P := h
theorem w144_ {P : Prop} (h : P := by have := HK1.out; omega) : P := h
theorem w143_ {P : Prop} (h : P := by rw [List.length_cons]; omega) : P := h
theorem w142_ {P : Prop} (h : P := by rw [w64 (by omega) (by omega)]; rfl) : P := h
theorem w141_ {P : Prop} (h : P := by first | omega | exact Nat.le_refl _) : P := h
theorem w140_ {P : Prop} (h : P := by have := HJ3.out; have := HK2.out; omega) : P := h
theorem w139_ {P : Prop} (h : P := by have := HJ1.out; have := HK2.out; omega) : P := h
theorem w138_ {P : Prop} (h : P := by have := HJ2.out; have := HK2.out; omega) : P := h
theorem w137_ {P : Prop} (h : P := by have := HK1.out; have := HK2.out; omega) : P := h
theorem w136_ {P : Prop} (h : P := by first | exact hb | exact Drawn0.below hb) : P := h
theorem w135_ {P : Prop} (h : P := by first | (go_simp; done) | (go_simp; rfl)) : P := h
theorem w134_ {P : Prop} (h : P := by first | rfl | (simp; done) | (simp [*]; done)) : P := h
theorem w133_ {P : Prop} (h : P := by first | (with_reducible assumption) | assumption) : P := h
theorem w132_ {P : Prop} (h : P := by rw [List.length_append, List.length_singleton]; omega) : P := h
theorem w131_ {P : Prop} (h : P := by repeat (first | exact Drawn0.refl _ | apply Drawn0.step)) : P := h
theorem w130_ {P : Prop} (h : P := by have := HJ3.out; have := HK2.out; have := HJ19.out; omega) : P := h
theorem w129_ {P : Prop} (h : P := by have := HJ3.out; have := HK2.out; first | omega | exact Nat.le_refl _) : P := h
theorem w128_ {P : Prop} (h : P := by have := HJ13.out; have := HJ108.out; first | omega | exact Nat.le_refl _) : P := h
theorem w127_ {P : Prop} (h : P := by (with_reducible repeat (first | apply raz_ | apply rnz_ | apply rdz_)); exact HO_5.out) : P := h
theorem w126_ {P : Prop} (h : P := by (with_reducible repeat (first | apply raz_ | apply rnz_ | apply rdz_)); exact HO_8.out) : P := h
theorem w125_ {P : Prop} (h : P := by (with_reducible repeat (first | apply raz_ | apply rnz_ | apply rdz_)); exact HO_4.out) : P := h
theorem w124_ {P : Prop} (h : P := by (with_reducible repeat (first | apply raz_ | apply rnz_ | apply rdz_)); exact HO_3.out) : P := h
theorem w123_ {P : Prop} (h : P := by (with_reducible repeat (first | apply raz_ | apply rnz_ | apply rdz_)); exact HO_46.out) : P := h
theorem w122_ {P : Prop} (h : P := by (with_reducible repeat (first | apply raz_ | apply rnz_ | apply rdz_)); exact HO_42.out) : P := h
theorem w121_ {P : Prop} (h : P := by (with_reducible repeat (first | apply raz_ | apply rnz_ | apply rdz_)); exact HO_40.out) : P := h
theorem w120_ {P : Prop} (h : P := by (with_reducible repeat (first | apply raz_ | apply rnz_ | apply rdz_)); exact HO_22.out) : P := h
theorem w119_ {P : Prop} (h : P := by (with_reducible repeat (first | apply raz_ | apply rnz_ | apply rdz_)); exact HO_23.out) : P := h
theorem w118_ {P : Prop} (h : P := by (with_reducible repeat (first | apply raz_ | apply rnz_ | apply rdz_)); exact HO136.out) : P := h
theorem w117_ {P : Prop} (h : P := by have := HJ13.out; have := HJ108.out; have := HJ148.out; first | omega | exact Nat.le_refl _) : P := h
theorem w116_ {P : Prop} (h : P := by first | rfl | (simp [errW_none, errW_some] <;> rfl) | (simp [*, errW_none, errW_some] <;> rfl)) : P := h
theorem w115_ {P : Prop} (h : P := by simp only [putAll, Act.put, List.setIfInBounds_toArray, List.set_cons_zero, List.set_cons_succ]) : P := h
theorem w114_ {P : Prop} (h : P := by (with_reducible repeat (first | apply Kd.R_alloc | apply Kd.R_drewN | apply Kd.R_drew)); exact HO.out) : P := h
theorem w113_ {P : Prop} (h : P := by (with_reducible repeat (first | refine knz_ ?_ _ | refine kdz_ ?_ | refine kaz_ ?_ _)); exact BK538.out) : P := h
theorem w112_ {P : Prop} (h : P := by (with_reducible repeat (first | refine knz_ ?_ _ | refine kdz_ ?_ | refine kaz_ ?_ _)); exact BK534.out) : P := h
theorem w111_ {P : Prop} (h : P := by (with_reducible repeat (first | refine knz_ ?_ _ | refine kdz_ ?_ | refine kaz_ ?_ _)); exact BK525.out) : P := h
theorem w110_ {P : Prop} (h : P := by (with_reducible repeat (first | refine knz_ ?_ _ | refine kdz_ ?_ | refine kaz_ ?_ _)); exact BK522.out) : P := h
theorem w109_ {P : Prop} (h : P := by (with_reducible repeat (first | refine knz_ ?_ _ | refine kdz_ ?_ | refine kaz_ ?_ _)); exact BK518.out) : P := h
theorem w108_ {P : Prop} (h : P := by (with_reducible repeat (first | apply Kd.R_alloc | apply Kd.R_drewN | apply Kd.R_drew)); exact HO_8.out) : P := h
theorem w107_ {P : Prop} (h : P := by (with_reducible repeat (first | apply Kd.R_alloc | apply Kd.R_drewN | apply Kd.R_drew)); exact HO_3.out) : P := h
theorem w106_ {P : Prop} (h : P := by (with_reducible repeat (first | refine knz_ ?_ _ | refine kdz_ ?_ | refine kaz_ ?_ _)); exact BK400.out) : P := h
theorem w105_ {P : Prop} (h : P := by (with_reducible repeat (first | apply Kd.R_alloc | apply Kd.R_drewN | apply Kd.R_drew)); exact HO_27.out) : P := h
theorem w104_ {P : Prop} (h : P := by have := HJ13.out; have := HJ108.out; have := HJ148.out; have := HJ180.out; first | omega | exact Nat.le_refl _) : P := h
theorem w103_ {P : Prop} (h : P := by repeat (first | (with_reducible first | exact HB.out | apply pw_below_drewN | apply below_drew1) | exact HB.out)) : P := h
theorem w102_ {P : Prop} (h : P := by (with_reducible repeat (first | apply raz_ | apply rnz_ | apply rdz_)); exact Kd.R_mono HO_5.out (fun _ hk => trivial)) : P := h
theorem w101_ {P : Prop} (h : P := by first | (rw [add_block]; exact hn434_1) | (show (Addr.add _ _).block ≠ _; rw [add_block]; exact hn434_1) | exact hn434_1) : P := h
theorem w100_ {P : Prop} (h : P := by first | (rw [add_block]; exact hn434_0) | (show (Addr.add _ _).block ≠ _; rw [add_block]; exact hn434_0) | exact hn434_0) : P := h
theorem w99_ {P : Prop} (h : P := by first | (rw [add_block]; exact hn433_1) | (show (Addr.add _ _).block ≠ _; rw [add_block]; exact hn433_1) | exact hn433_1) : P := h
theorem w98_ {P : Prop} (h : P := by first | (rw [add_block]; exact hn433_0) | (show (Addr.add _ _).block ≠ _; rw [add_block]; exact hn433_0) | exact hn433_0) : P := h
theorem w97_ {P : Prop} (h : P := by first | (rw [add_block]; exact hn302_1) | (show (Addr.add _ _).block ≠ _; rw [add_block]; exact hn302_1) | exact hn302_1) : P := h
theorem w96_ {P : Prop} (h : P := by first | (rw [add_block]; exact hn302_0) | (show (Addr.add _ _).block ≠ _; rw [add_block]; exact hn302_0) | exact hn302_0) : P := h
theorem w95_ {P : Prop} (h : P := by first | (rw [add_block]; exact hn290_1) | (show (Addr.add _ _).block ≠ _; rw [add_block]; exact hn290_1) | exact hn290_1) : P := h
theorem w94_ {P : Prop} (h : P := by first | (rw [add_block]; exact hn290_0) | (show (Addr.add _ _).block ≠ _; rw [add_block]; exact hn290_0) | exact hn290_0) : P := h
theorem w93_ {P : Prop} (h : P := by first | exact Kd.own_blk (Kd.R_ne HO_4.out BK432.out (by decide)) | exact (HO_4.out.1 _ rfl).2 | exact (HO_4.out.1 _ rfl).1.2) : P := h
theorem w92_ {P : Prop} (h : P := by first | exact Kd.own_blk (Kd.R_ne HO_6.out BK289.out (by decide)) | exact (HO_6.out.1 _ rfl).2 | exact (HO_6.out.1 _ rfl).1.2) : P := h
theorem w91_ {P : Prop} (h : P := by have := HJ13.out; have := HJ108.out; have := HJ148.out; have := HJ180.out; have := HJ221.out; first | omega | exact Nat.le_refl _) : P := h
theorem w90_ {P : Prop} (h : P := by (with_reducible repeat (first | apply raz_ | apply rnz_ | apply rdz_)); exact Kd.R_mono HO_22.out (fun _ hk => ⟨trivial, hk⟩)) : P := h
theorem w89_ {P : Prop} (h : P := by (with_reducible repeat (first | apply raz_ | apply rnz_ | apply rdz_)); exact Kd.R_mono HO_23.out (fun _ hk => ⟨trivial, hk⟩)) : P := h
theorem w88_ {P : Prop} (h : P := by rw [spec_TakePages.l0, if_pos (by omega), if_pos (by omega), if_pos (w161_), hrd, hb, if_pos rfl, decide_eq_false h3]) : P := h
theorem w87_ {P : Prop} (h : P := by repeat (first | (with_reducible first | exact HB.out | apply below_alloc | apply pw_below_drewN | apply below_drew1) | exact HB.out)) : P := h
theorem w86_ {P : Prop} (h : P := by (with_reducible repeat (first | apply Kd.R_alloc | apply Kd.R_drewN | apply Kd.R_drew)); exact Kd.R_mono HO_27.out (fun _ hk => hk.2)) : P := h
theorem w85_ {P : Prop} (h : P := by (with_reducible repeat (first | apply Kd.R_alloc | apply Kd.R_drewN | apply Kd.R_drew)); exact Kd.R_mono HO_28.out (fun _ hk => hk.2)) : P := h
theorem w84_ {P : Prop} (h : P := by (with_reducible repeat (first | apply raz_ | apply rnz_ | apply rdz_)); exact Kd.R_mono HO454.out (fun _ hk => ⟨hk.1.1.1.2, hk.1.2⟩)) : P := h
theorem w83_ {P : Prop} (h : P := by (with_reducible repeat (first | apply raz_ | apply rnz_ | apply rdz_)); exact Kd.R_mono HO450.out (fun _ hk => ⟨hk.1.1.1.2, hk.1.2⟩)) : P := h
theorem w82_ {P : Prop} (h : P := by (with_reducible repeat (first | apply raz_ | apply rnz_ | apply rdz_)); exact Kd.R_mono HO462.out (fun _ hk => ⟨hk.1.1.1.2, hk.1.1.2⟩)) : P := h
theorem w81_ {P : Prop} (h : P := by (try simp only [List.map_toArray, List.map_cons, List.map_nil]); first | done | rfl | (simp only [List.length_drop, List.length_take]; rfl)) : P := h
theorem w80_ {P : Prop} (h : P := by first | exact Kd.R_nil _ _ _ _ _ | exact Kd.N_nil _ _ _ _ _ | exact Kd.V_nil _ _ _ _ _ | exact Kd.Q_nil _ _ _ _ _ | exact Kd.S_nil _ _ _ _ _) : P := h
theorem w79_ {P : Prop} (h : P := by repeat (first | (with_reducible first | exact HB.out | apply baz_ | apply bnz_ | apply bdz_ | refine ubsz_ ?_ (by assumption)) | exact HB.out)) : P := h
theorem w78_ {P : Prop} (h : P := by repeat (first | (with_reducible first | exact HB.out | apply baz_ | apply bnz_ | apply bdz_ | refine bsz_ ?_ (IsS111.ge HI0.out)) | exact HB.out)) : P := h
theorem w77_ {P : Prop} (h : P := by have := HJ13.out; have := HJ108.out; have := HJ148.out; have := HJ183.out; have := HJ186.out; have := HK6.out; first | omega | exact Nat.le_refl _) : P := h
theorem w76_ {P : Prop} (h : P := by (with_reducible repeat (first | apply Kd.R_alloc | apply Kd.R_drewN | apply Kd.R_drew)); exact Kd.R_mono HO_27.out (fun _ hk => ⟨trivial, hk⟩)) : P := h
theorem w75_ {P : Prop} (h : P := by (with_reducible repeat (first | apply Kd.R_alloc | apply Kd.R_drewN | apply Kd.R_drew)); exact Kd.R_mono HO_28.out (fun _ hk => ⟨trivial, hk⟩)) : P := h
theorem w74_ {P : Prop} (h : P := by repeat (first | (with_reducible first | exact HK.out | apply KeepBut.set_ | apply keep_drewN | apply keep_drew | apply keep_alloc) | exact HK.out)) : P := h
theorem w73_ {P : Prop} (h : P := by repeat (first | (with_reducible first | exact HB.out | apply baz_ | apply bnz_ | apply bdz_ | refine bsz_ ?_ (IsS111.ge HI386.out)) | exact HB.out)) : P := h
theorem w72_ {P : Prop} (h : P := by repeat (first | (with_reducible first | exact HB.out | apply baz_ | apply bnz_ | apply bdz_ | refine bsz_ ?_ (IsS111.ge HI271.out)) | exact HB.out)) : P := h
theorem w71_ {P : Prop} (h : P := by repeat (first | (with_reducible first | exact HB.out | apply baz_ | apply bnz_ | apply bdz_ | refine bsz_ ?_ (IsS111.ge HI176.out)) | exact HB.out)) : P := h
theorem w70_ {P : Prop} (h : P := by have := HJ13.out; have := HJ108.out; have := HJ148.out; have := HJ180.out; have := HJ221.out; have := HJ427.out; first | omega | exact Nat.le_refl _) : P := h
theorem w69_ {P : Prop} (h : P := by have := HJ13.out; have := HJ108.out; have := HJ148.out; have := HJ180.out; have := HJ221.out; have := HJ429.out; first | omega | exact Nat.le_refl _) : P := h
theorem w68_ {P : Prop} (h : P := by have := HJ13.out; have := HJ108.out; have := HJ148.out; have := HJ180.out; have := HJ221.out; have := HJ427.out; have := HJ495.out; have := HK8.out; omega) : P := h
theorem w67_ {P : Prop} (h : P := by have := HJ13.out; have := HJ108.out; have := HJ148.out; have := HJ180.out; have := HJ221.out; have := HJ429.out; have := HJ441.out; have := HK8.out; omega) : P := h
theorem w66_ {P : Prop} (h : P := by have := HJ13.out; have := HJ108.out; have := HJ148.out; have := HJ183.out; have := HJ186.out; have := HK6.out; have := HJ190.out; have := HJ193.out; omega) : P := h
theorem w65_ {P : Prop} (h : P := by rw [hw]; exact (w79_)) : P := h
theorem w64_ {P : Prop} (h : P := by repeat (first | (with_reducible first | exact HB.out | apply below_alloc | apply pw_below_drewN | apply below_drew1 | refine below_set ?_ GE257.out) | exact HB.out)) : P := h
theorem w63_ {P : Prop} (h : P := by have := HJ13.out; have := HJ108.out; have := HJ148.out; have := HJ183.out; have := HJ186.out; have := HK6.out; have := HJ190.out; first | omega | exact Nat.le_refl _) : P := h
theorem w62_ {P : Prop} (h : P := by first | rfl | (simp; done) | (simp [*]; done) | (simp [bne]; done) | (simp [*, bne]; done) | (generalize decide (0 < t495.length) = d_; cases t517 <;> cases d_ <;> simp)) : P := h
theorem w61_ {P : Prop} (h : P := by repeat (first | (with_reducible first | exact HB.out | apply baz_ | apply bnz_ | apply bdz_ | refine bsz_ ?_ (IsS111.ge HI0.out) | refine bsz_ ?_ GE130.out) | exact HB.out)) : P := h
theorem w60_ {P : Prop} (h : P := by repeat (first | (with_reducible first | exact HB.out | apply baz_ | apply bnz_ | apply bdz_ | refine bsz_ ?_ (IsS111.ge HI338.out) | refine bsz_ ?_ GE337.out) | exact HB.out)) : P := h
theorem w59_ {P : Prop} (h : P := by repeat (first | (with_reducible first | exact HI0.out | apply IsS111.alloc | apply IsS111.drewN | apply IsS111.drew | apply IsS111.set_1 | apply IsS111.set_2) | exact HI0.out)) : P := h
theorem w58_ {P : Prop} (h : P := by repeat (first | (with_reducible first | exact HI386.out | apply IsS111.alloc | apply IsS111.drewN | apply IsS111.drew | apply IsS111.set_1 | apply IsS111.set_2) | exact HI386.out)) : P := h
theorem w57_ {P : Prop} (h : P := by repeat (first | (with_reducible first | exact HI271.out | apply IsS111.alloc | apply IsS111.drewN | apply IsS111.drew | apply IsS111.set_1 | apply IsS111.set_2) | exact HI271.out)) : P := h
theorem w56_ {P : Prop} (h : P := by repeat (first | (with_reducible first | exact HI176.out | apply IsS111.alloc | apply IsS111.drewN | apply IsS111.drew | apply IsS111.set_1 | apply IsS111.set_2) | exact HI176.out)) : P := h
theorem w55_ {P : Prop} (h : P := by repeat (first | (with_reducible first | exact HK.out | apply KeepBut.set_ | apply keep_drewN | apply keep_drew | apply keep_alloc | refine keep_far ?_ GW130.out _) | exact HK.out)) : P := h
theorem w54_ {P : Prop} (h : P := by repeat (first | (with_reducible first | exact HB.out | apply baz_ | apply bnz_ | apply bdz_ | refine bsz_ ?_ (IsS111.ge HI338.out) | refine bsz_ ?_ GE337.out | refine bsz_ ?_ GE345.out) | exact HB.out)) : P := h
theorem w53_ {P : Prop} (h : P := by repeat (first | (with_reducible first | exact HI0.out | apply IsS111.alloc | apply IsS111.drewN | apply IsS111.drew | apply IsS111.set_1 | apply IsS111.set_2 | refine IsS111.far ?_ NB0_130.out _) | exact HI0.out)) : P := h
theorem w52_ {P : Prop} (h : P := by (with_reducible repeat (first | apply raz_ | apply rnz_ | apply rdz_)); exact Kd.R_mono HO_68.out (fun _ hk => ⟨hk.1, ⟨hk.2.2.1, ⟨hk.2.2.2.1, ⟨hk.2.2.2.2.1, ⟨hk.2.2.2.2.2.1, hk.2.2.2.2.2.2⟩⟩⟩⟩⟩)) : P := h
theorem w51_ {P : Prop} (h : P := by (with_reducible repeat (first | apply raz_ | apply rnz_ | apply rdz_)); exact Kd.R_mono HO_46.out (fun _ hk => ⟨hk.2, ⟨hk.1.2.1, ⟨hk.1.2.2.1, ⟨hk.1.2.2.2.1, ⟨hk.1.2.2.2.2.1, hk.1.2.2.2.2.2⟩⟩⟩⟩⟩)) : P := h
theorem w50_ {P : Prop} (h : P := by repeat (first | (with_reducible first | exact HI338.out | apply IsS111.alloc | apply IsS111.drewN | apply IsS111.drew | apply IsS111.set_1 | apply IsS111.set_2 | refine IsS111.far ?_ NB338_337.out _) | exact HI338.out)) : P := h
theorem w49_ {P : Prop} (h : P := by (with_reducible repeat (first | apply raz_ | apply rnz_ | apply rdz_)); exact Kd.R_mono HO_46.out (fun _ hk => ⟨hk.1.1, ⟨hk.1.2.1, ⟨hk.1.2.2.1, ⟨hk.1.2.2.2.1, ⟨hk.1.2.2.2.2.1, ⟨hk.1.2.2.2.2.2.1, hk.1.2.2.2.2.2.2⟩⟩⟩⟩⟩⟩)) : P := h
theorem w48_ {P : Prop} (h : P := by (with_reducible repeat (first | apply raz_ | apply rnz_ | apply rdz_)); exact Kd.R_mono HO_42.out (fun _ hk => ⟨hk.1.1, ⟨hk.1.2.1, ⟨hk.1.2.2.1, ⟨hk.1.2.2.2.1, ⟨hk.1.2.2.2.2.1, ⟨hk.1.2.2.2.2.2.1, hk.1.2.2.2.2.2.2⟩⟩⟩⟩⟩⟩)) : P := h
theorem w47_ {P : Prop} (h : P := by (with_reducible repeat (first | apply raz_ | apply rnz_ | apply rdz_)); exact Kd.R_mono HO_40.out (fun _ hk => ⟨hk.1.1, ⟨hk.1.2.1, ⟨hk.1.2.2.1, ⟨hk.1.2.2.2.1, ⟨hk.1.2.2.2.2.1, ⟨hk.1.2.2.2.2.2.1, hk.1.2.2.2.2.2.2⟩⟩⟩⟩⟩⟩)) : P := h
theorem w46_ {P : Prop} (h : P := by repeat (first | (with_reducible first | exact HI338.out | apply IsS111.alloc | apply IsS111.drewN | apply IsS111.drew | apply IsS111.set_1 | apply IsS111.set_2 | refine IsS111.far ?_ NB338_337.out _ | refine IsS111.far ?_ NB338_345.out _) | exact HI338.out)) : P := h
theorem w45_ {P : Prop} (h : P := by (with_reducible repeat (first | apply raz_ | apply rnz_ | apply rdz_)); exact (Kd.R_mono (Kd.R_far (p := ⟨gb538, 1, none⟩) (Kd.R_far (p := ⟨gb538, 0, none⟩) (Kd.R_mono HO514.out (fun k_ hk => (⟨hk, hk.2⟩ : _ ∧ k_ ≠ gb538))) (fun _ hk => hk.2) (.int .i64 t535)) (fun _ hk => hk.2) (.int .i64 t536)) (fun _ h_ => h_.1))) : P := h
theorem w44_ {P : Prop} (h : P := by (with_reducible repeat (first | apply raz_ | apply rnz_ | apply rdz_)); exact (Kd.R_mono (Kd.R_far (p := ⟨gb538, 1, none⟩) (Kd.R_far (p := ⟨gb538, 0, none⟩) (Kd.R_mono HO510.out (fun k_ hk => (⟨hk, hk.2⟩ : _ ∧ k_ ≠ gb538))) (fun _ hk => hk.2) (.int .i64 t535)) (fun _ hk => hk.2) (.int .i64 t536)) (fun _ h_ => h_.1))) : P := h
theorem w43_ {P : Prop} (h : P := by (with_reducible repeat (first | apply raz_ | apply rnz_ | apply rdz_)); exact (Kd.R_mono (Kd.R_far (p := ⟨gb538, 1, none⟩) (Kd.R_far (p := ⟨gb538, 0, none⟩) (Kd.R_mono HO506.out (fun k_ hk => (⟨hk, hk.2⟩ : _ ∧ k_ ≠ gb538))) (fun _ hk => hk.2) (.int .i64 t535)) (fun _ hk => hk.2) (.int .i64 t536)) (fun _ h_ => h_.1))) : P := h
theorem w42_ {P : Prop} (h : P := by (with_reducible repeat (first | apply raz_ | apply rnz_ | apply rdz_)); exact (Kd.R_mono (Kd.R_far (p := ⟨gb538, 1, none⟩) (Kd.R_far (p := ⟨gb538, 0, none⟩) (Kd.R_mono HO502.out (fun k_ hk => (⟨hk, hk.2⟩ : _ ∧ k_ ≠ gb538))) (fun _ hk => hk.2) (.int .i64 t535)) (fun _ hk => hk.2) (.int .i64 t536)) (fun _ h_ => h_.1))) : P := h
theorem w41_ {P : Prop} (h : P := by (with_reducible repeat (first | apply raz_ | apply rnz_ | apply rdz_)); exact (Kd.R_mono (Kd.R_far (p := ⟨gb518, 1, none⟩) (Kd.R_far (p := ⟨gb518, 0, none⟩) (Kd.R_mono HO498.out (fun k_ hk => (⟨hk, hk.2⟩ : _ ∧ k_ ≠ gb518))) (fun _ hk => hk.2) (.int .i64 t515)) (fun _ hk => hk.2) (.int .i64 t516)) (fun _ h_ => h_.1))) : P := h
theorem w40_ {P : Prop} (h : P := by (with_reducible repeat (first | refine knz_ ?_ _ | refine kdz_ ?_ | refine kaz_ ?_ _)); refine blk_far ?_ NB538_558.out _; (with_reducible repeat (first | refine knz_ ?_ _ | refine kdz_ ?_ | refine kaz_ ?_ _)); refine blk_far ?_ NB538_558.out _; (with_reducible repeat (first | refine knz_ ?_ _ | refine kdz_ ?_ | refine kaz_ ?_ _)); exact BK538.out) : P := h
theorem w39_ {P : Prop} (h : P := by (with_reducible repeat (first | refine knz_ ?_ _ | refine kdz_ ?_ | refine kaz_ ?_ _)); refine blk_far ?_ NB534_558.out _; (with_reducible repeat (first | refine knz_ ?_ _ | refine kdz_ ?_ | refine kaz_ ?_ _)); refine blk_far ?_ NB534_558.out _; (with_reducible repeat (first | refine knz_ ?_ _ | refine kdz_ ?_ | refine kaz_ ?_ _)); exact BK534.out) : P := h
theorem w38_ {P : Prop} (h : P := by (with_reducible repeat (first | refine knz_ ?_ _ | refine kdz_ ?_ | refine kaz_ ?_ _)); refine blk_far ?_ NB525_558.out _; (with_reducible repeat (first | refine knz_ ?_ _ | refine kdz_ ?_ | refine kaz_ ?_ _)); refine blk_far ?_ NB525_558.out _; (with_reducible repeat (first | refine knz_ ?_ _ | refine kdz_ ?_ | refine kaz_ ?_ _)); exact BK525.out) : P := h
theorem w37_ {P : Prop} (h : P := by (with_reducible repeat (first | refine knz_ ?_ _ | refine kdz_ ?_ | refine kaz_ ?_ _)); refine blk_far ?_ NB522_558.out _; (with_reducible repeat (first | refine knz_ ?_ _ | refine kdz_ ?_ | refine kaz_ ?_ _)); refine blk_far ?_ NB522_558.out _; (with_reducible repeat (first | refine knz_ ?_ _ | refine kdz_ ?_ | refine kaz_ ?_ _)); exact BK522.out) : P := h
theorem w36_ {P : Prop} (h : P := by (with_reducible repeat (first | refine knz_ ?_ _ | refine kdz_ ?_ | refine kaz_ ?_ _)); refine blk_far ?_ NB518_558.out _; (with_reducible repeat (first | refine knz_ ?_ _ | refine kdz_ ?_ | refine kaz_ ?_ _)); refine blk_far ?_ NB518_558.out _; (with_reducible repeat (first | refine knz_ ?_ _ | refine kdz_ ?_ | refine kaz_ ?_ _)); exact BK518.out) : P := h
theorem w35_ {P : Prop} (h : P := by (with_reducible repeat (first | refine knz_ ?_ _ | refine kdz_ ?_ | refine kaz_ ?_ _)); refine blk_far ?_ NB538_551.out _; (with_reducible repeat (first | refine knz_ ?_ _ | refine kdz_ ?_ | refine kaz_ ?_ _)); refine blk_far ?_ NB538_551.out _; (with_reducible repeat (first | refine knz_ ?_ _ | refine kdz_ ?_ | refine kaz_ ?_ _)); exact BK538.out) : P := h
theorem w34_ {P : Prop} (h : P := by (with_reducible repeat (first | refine knz_ ?_ _ | refine kdz_ ?_ | refine kaz_ ?_ _)); refine blk_far ?_ NB534_551.out _; (with_reducible repeat (first | refine knz_ ?_ _ | refine kdz_ ?_ | refine kaz_ ?_ _)); refine blk_far ?_ NB534_551.out _; (with_reducible repeat (first | refine knz_ ?_ _ | refine kdz_ ?_ | refine kaz_ ?_ _)); exact BK534.out) : P := h
theorem w33_ {P : Prop} (h : P := by (with_reducible repeat (first | refine knz_ ?_ _ | refine kdz_ ?_ | refine kaz_ ?_ _)); refine blk_far ?_ NB525_551.out _; (with_reducible repeat (first | refine knz_ ?_ _ | refine kdz_ ?_ | refine kaz_ ?_ _)); refine blk_far ?_ NB525_551.out _; (with_reducible repeat (first | refine knz_ ?_ _ | refine kdz_ ?_ | refine kaz_ ?_ _)); exact BK525.out) : P := h
theorem w32_ {P : Prop} (h : P := by (with_reducible repeat (first | refine knz_ ?_ _ | refine kdz_ ?_ | refine kaz_ ?_ _)); refine blk_far ?_ NB522_551.out _; (with_reducible repeat (first | refine knz_ ?_ _ | refine kdz_ ?_ | refine kaz_ ?_ _)); refine blk_far ?_ NB522_551.out _; (with_reducible repeat (first | refine knz_ ?_ _ | refine kdz_ ?_ | refine kaz_ ?_ _)); exact BK522.out) : P := h
theorem w31_ {P : Prop} (h : P := by (with_reducible repeat (first | refine knz_ ?_ _ | refine kdz_ ?_ | refine kaz_ ?_ _)); refine blk_far ?_ NB518_551.out _; (with_reducible repeat (first | refine knz_ ?_ _ | refine kdz_ ?_ | refine kaz_ ?_ _)); refine blk_far ?_ NB518_551.out _; (with_reducible repeat (first | refine knz_ ?_ _ | refine kdz_ ?_ | refine kaz_ ?_ _)); exact BK518.out) : P := h
theorem w30_ {P : Prop} (h : P := by (with_reducible repeat (first | refine knz_ ?_ _ | refine kdz_ ?_ | refine kaz_ ?_ _)); refine blk_far ?_ NB534_538.out _; (with_reducible repeat (first | refine knz_ ?_ _ | refine kdz_ ?_ | refine kaz_ ?_ _)); refine blk_far ?_ NB534_538.out _; (with_reducible repeat (first | refine knz_ ?_ _ | refine kdz_ ?_ | refine kaz_ ?_ _)); exact BK534.out) : P := h
theorem w29_ {P : Prop} (h : P := by (with_reducible repeat (first | refine knz_ ?_ _ | refine kdz_ ?_ | refine kaz_ ?_ _)); refine blk_far ?_ NB525_538.out _; (with_reducible repeat (first | refine knz_ ?_ _ | refine kdz_ ?_ | refine kaz_ ?_ _)); refine blk_far ?_ NB525_538.out _; (with_reducible repeat (first | refine knz_ ?_ _ | refine kdz_ ?_ | refine kaz_ ?_ _)); exact BK525.out) : P := h
theorem w28_ {P : Prop} (h : P := by (with_reducible repeat (first | refine knz_ ?_ _ | refine kdz_ ?_ | refine kaz_ ?_ _)); refine blk_far ?_ NB522_538.out _; (with_reducible repeat (first | refine knz_ ?_ _ | refine kdz_ ?_ | refine kaz_ ?_ _)); refine blk_far ?_ NB522_538.out _; (with_reducible repeat (first | refine knz_ ?_ _ | refine kdz_ ?_ | refine kaz_ ?_ _)); exact BK522.out) : P := h
theorem w27_ {P : Prop} (h : P := by (with_reducible repeat (first | refine knz_ ?_ _ | refine kdz_ ?_ | refine kaz_ ?_ _)); refine blk_far ?_ NB518_538.out _; (with_reducible repeat (first | refine knz_ ?_ _ | refine kdz_ ?_ | refine kaz_ ?_ _)); refine blk_far ?_ NB518_538.out _; (with_reducible repeat (first | refine knz_ ?_ _ | refine kdz_ ?_ | refine kaz_ ?_ _)); exact BK518.out) : P := h
theorem w26_ {P : Prop} (h : P := by (with_reducible repeat (first | refine knz_ ?_ _ | refine kdz_ ?_ | refine kaz_ ?_ _)); refine blk_far ?_ NB424_432.out _; (with_reducible repeat (first | refine knz_ ?_ _ | refine kdz_ ?_ | refine kaz_ ?_ _)); refine blk_far ?_ NB424_432.out _; (with_reducible repeat (first | refine knz_ ?_ _ | refine kdz_ ?_ | refine kaz_ ?_ _)); exact BK424.out) : P := h
theorem w25_ {P : Prop} (h : P := by (with_reducible repeat (first | refine knz_ ?_ _ | refine kdz_ ?_ | refine kaz_ ?_ _)); refine blk_far ?_ NB400_408.out _; (with_reducible repeat (first | refine knz_ ?_ _ | refine kdz_ ?_ | refine kaz_ ?_ _)); refine blk_far ?_ NB400_408.out _; (with_reducible repeat (first | refine knz_ ?_ _ | refine kdz_ ?_ | refine kaz_ ?_ _)); exact BK400.out) : P := h
theorem w24_ {P : Prop} (h : P := by (with_reducible repeat (first | apply raz_ | apply rnz_ | apply rdz_)); exact Kd.R_mono (Kd.R_far (p := ⟨gb301, 1, none⟩) (Kd.R_far (p := ⟨gb301, 0, none⟩) (Kd.R_mono HO_6.out (fun k_ hk => (⟨hk, hk.2⟩ : _ ∧ k_ ≠ gb301))) (fun _ hk => hk.2) (.int .i64 ((rd_T100 l0 x19_2).f0))) (fun _ hk => hk.2) (.int .i64 ((rd_T100 l0 x19_2).f1))) (fun _ hk => hk.1.2)) : P := h
theorem w23_ {P : Prop} (h : P := by (with_reducible repeat (first | apply raz_ | apply rnz_ | apply rdz_)); exact Kd.R_mono (Kd.R_far (p := ⟨gb289, 1, none⟩) (Kd.R_far (p := ⟨gb289, 0, none⟩) (Kd.R_mono HO_6.out (fun k_ hk => (⟨hk, hk.2⟩ : _ ∧ k_ ≠ gb289))) (fun _ hk => hk.2) (.int .i64 ((rd_T100 l0 x21_2).f0))) (fun _ hk => hk.2) (.int .i64 ((rd_T100 l0 x21_2).f1))) (fun _ hk => hk.1.2)) : P := h
theorem w22_ {P : Prop} (h : P := by (with_reducible repeat (first | refine knz_ ?_ _ | refine kdz_ ?_ | refine kaz_ ?_ _)); refine blk_put (cs := #[.int .i64 0, .int .i64 0]) ?_ 1 _ rfl; (with_reducible repeat (first | refine knz_ ?_ _ | refine kdz_ ?_ | refine kaz_ ?_ _)); refine blk_put (cs := #[.int .i64 0, .int .i64 0]) ?_ 0 _ rfl; (with_reducible repeat (first | refine knz_ ?_ _ | refine kdz_ ?_ | refine kaz_ ?_ _)); exact BK424.out) : P := h
theorem w21_ {P : Prop} (h : P := by (with_reducible repeat (first | refine knz_ ?_ _ | refine kdz_ ?_ | refine kaz_ ?_ _)); refine blk_put (cs := #[.int .i64 0, .int .i64 0]) ?_ 1 _ rfl; (with_reducible repeat (first | refine knz_ ?_ _ | refine kdz_ ?_ | refine kaz_ ?_ _)); refine blk_put (cs := #[.int .i64 0, .int .i64 0]) ?_ 0 _ rfl; (with_reducible repeat (first | refine knz_ ?_ _ | refine kdz_ ?_ | refine kaz_ ?_ _)); exact BK400.out) : P := h
theorem w20_ {P : Prop} (h : P := by (with_reducible repeat (first | refine knz_ ?_ _ | refine kdz_ ?_ | refine kaz_ ?_ _)); refine blk_put (cs := #[.int .i64 t535, .int .i64 0]) ?_ 1 _ rfl; (with_reducible repeat (first | refine knz_ ?_ _ | refine kdz_ ?_ | refine kaz_ ?_ _)); refine blk_put (cs := #[.int .i64 0, .int .i64 0]) ?_ 0 _ rfl; (with_reducible repeat (first | refine knz_ ?_ _ | refine kdz_ ?_ | refine kaz_ ?_ _)); exact BK538.out) : P := h
theorem w19_ {P : Prop} (h : P := by (with_reducible repeat (first | refine knz_ ?_ _ | refine kdz_ ?_ | refine kaz_ ?_ _)); refine blk_put (cs := #[.int .i64 t429, .int .i64 0]) ?_ 1 _ rfl; (with_reducible repeat (first | refine knz_ ?_ _ | refine kdz_ ?_ | refine kaz_ ?_ _)); refine blk_put (cs := #[.int .i64 0, .int .i64 0]) ?_ 0 _ rfl; (with_reducible repeat (first | refine knz_ ?_ _ | refine kdz_ ?_ | refine kaz_ ?_ _)); exact BK432.out) : P := h
theorem w18_ {P : Prop} (h : P := by (with_reducible repeat (first | refine knz_ ?_ _ | refine kdz_ ?_ | refine kaz_ ?_ _)); refine blk_put (cs := #[.int .i64 t404, .int .i64 0]) ?_ 1 _ rfl; (with_reducible repeat (first | refine knz_ ?_ _ | refine kdz_ ?_ | refine kaz_ ?_ _)); refine blk_put (cs := #[.int .i64 0, .int .i64 0]) ?_ 0 _ rfl; (with_reducible repeat (first | refine knz_ ?_ _ | refine kdz_ ?_ | refine kaz_ ?_ _)); exact BK408.out) : P := h
theorem w17_ {P : Prop} (h : P := by (with_reducible repeat (first | refine knz_ ?_ _ | refine kdz_ ?_ | refine kaz_ ?_ _)); refine blk_put (cs := #[.int .i64 ((rd_T100 l0 x7_1).f0), .int .i64 0]) ?_ 1 _ rfl; (with_reducible repeat (first | refine knz_ ?_ _ | refine kdz_ ?_ | refine kaz_ ?_ _)); refine blk_put (cs := #[.int .i64 0, .int .i64 0]) ?_ 0 _ rfl; (with_reducible repeat (first | refine knz_ ?_ _ | refine kdz_ ?_ | refine kaz_ ?_ _)); exact BK195.out) : P := h
theorem w16_ {P : Prop} (h : P := by (with_reducible repeat (first | refine knz_ ?_ _ | refine kdz_ ?_ | refine kaz_ ?_ _)); refine blk_put (cs := #[.int .i64 ((rd_T100 l0 x19_2).f0), .int .i64 0]) ?_ 1 _ rfl; (with_reducible repeat (first | refine knz_ ?_ _ | refine kdz_ ?_ | refine kaz_ ?_ _)); refine blk_put (cs := #[.int .i64 0, .int .i64 0]) ?_ 0 _ rfl; (with_reducible repeat (first | refine knz_ ?_ _ | refine kdz_ ?_ | refine kaz_ ?_ _)); exact BK301.out) : P := h
theorem w15_ {P : Prop} (h : P := by (with_reducible repeat (first | refine knz_ ?_ _ | refine kdz_ ?_ | refine kaz_ ?_ _)); refine blk_put (cs := #[.int .i64 ((rd_T100 l0 x21_2).f0), .int .i64 0]) ?_ 1 _ rfl; (with_reducible repeat (first | refine knz_ ?_ _ | refine kdz_ ?_ | refine kaz_ ?_ _)); refine blk_put (cs := #[.int .i64 0, .int .i64 0]) ?_ 0 _ rfl; (with_reducible repeat (first | refine knz_ ?_ _ | refine kdz_ ?_ | refine kaz_ ?_ _)); exact BK289.out) : P := h
theorem w14_ {P : Prop} (h : P := by (with_reducible repeat (first | refine knz_ ?_ _ | refine kdz_ ?_ | refine kaz_ ?_ _)); refine blk_put (cs := #[.int .i64 ((rd_T100 l0 x10_1).f0), .int .i64 0]) ?_ 1 _ rfl; (with_reducible repeat (first | refine knz_ ?_ _ | refine kdz_ ?_ | refine kaz_ ?_ _)); refine blk_put (cs := #[.int .i64 0, .int .i64 0]) ?_ 0 _ rfl; (with_reducible repeat (first | refine knz_ ?_ _ | refine kdz_ ?_ | refine kaz_ ?_ _)); exact BK203.out) : P := h
theorem w13_ {P : Prop} (h : P := by (with_reducible repeat (first | refine knz_ ?_ _ | refine kdz_ ?_ | refine kaz_ ?_ _)); refine blk_put (cs := #[.int .i64 (wrap64 (x4_1 + (wrap64 (1 + t121)))), .int .i64 0]) ?_ 1 _ rfl; (with_reducible repeat (first | refine knz_ ?_ _ | refine kdz_ ?_ | refine kaz_ ?_ _)); refine blk_put (cs := #[.int .i64 0, .int .i64 0]) ?_ 0 _ rfl; (with_reducible repeat (first | refine knz_ ?_ _ | refine kdz_ ?_ | refine kaz_ ?_ _)); exact BK130.out) : P := h
theorem w12_ {P : Prop} (h : P := by (with_reducible repeat (first | apply raz_ | apply rnz_ | apply rdz_)); exact Kd.R_mono (Kd.R_far (p := ⟨gb538, 1, none⟩) (Kd.R_far (p := ⟨gb538, 0, none⟩) (Kd.R_mono HO502.out (fun k_ hk => (⟨hk, hk.2⟩ : _ ∧ k_ ≠ gb538))) (fun _ hk => hk.2) (.int .i64 t535)) (fun _ hk => hk.2) (.int .i64 t536)) (fun _ hk => ⟨hk.1.1.1.1.1.1.1.1.1.2, ⟨hk.1.1.1.1.1.1.1.2, ⟨hk.1.1.1.1.1.2, ⟨hk.1.1.1.1.2, ⟨hk.1.1.1.2, ⟨hk.1.1.2, hk.1.2⟩⟩⟩⟩⟩⟩)) : P := h
theorem w11_ {P : Prop} (h : P := by (with_reducible repeat (first | apply raz_ | apply rnz_ | apply rdz_)); exact Kd.R_mono (Kd.R_far (p := ⟨gb538, 1, none⟩) (Kd.R_far (p := ⟨gb538, 0, none⟩) (Kd.R_mono HO498.out (fun k_ hk => (⟨hk, hk.2⟩ : _ ∧ k_ ≠ gb538))) (fun _ hk => hk.2) (.int .i64 t535)) (fun _ hk => hk.2) (.int .i64 t536)) (fun _ hk => ⟨hk.1.1.1.1.1.1.1.1.1.2, ⟨hk.1.1.1.1.1.1.1.2, ⟨hk.1.1.1.1.1.2, ⟨hk.1.1.1.1.2, ⟨hk.1.1.1.2, ⟨hk.1.1.2, hk.1.2⟩⟩⟩⟩⟩⟩)) : P := h
theorem w10_ {P : Prop} (h : P := by (with_reducible repeat (first | apply raz_ | apply rnz_ | apply rdz_)); exact Kd.R_mono (Kd.R_far (p := ⟨gb538, 1, none⟩) (Kd.R_far (p := ⟨gb538, 0, none⟩) (Kd.R_mono HO510.out (fun k_ hk => (⟨hk, hk.2⟩ : _ ∧ k_ ≠ gb538))) (fun _ hk => hk.2) (.int .i64 t535)) (fun _ hk => hk.2) (.int .i64 t536)) (fun _ hk => ⟨hk.1.1.1.1.1.1.1.1.1.2, ⟨hk.1.1.1.1.1.1.1.1.2, ⟨hk.1.1.1.1.1.2, ⟨hk.1.1.1.1.2, ⟨hk.1.1.1.2, ⟨hk.1.1.2, hk.1.2⟩⟩⟩⟩⟩⟩)) : P := h
theorem w9_ {P : Prop} (h : P := by (with_reducible repeat (first | apply raz_ | apply rnz_ | apply rdz_)); exact Kd.R_mono (Kd.R_far (p := ⟨gb558, 1, none⟩) (Kd.R_far (p := ⟨gb558, 0, none⟩) (Kd.R_mono HO_46.out (fun k_ hk => (⟨hk, hk.2⟩ : _ ∧ k_ ≠ gb558))) (fun _ hk => hk.2) (.int .i64 ((rd_T100 t507 x585_8).f0))) (fun _ hk => hk.2) (.int .i64 ((rd_T100 t507 x585_8).f1))) (fun _ hk => ⟨hk.1.1.1, ⟨hk.1.1.2.1, ⟨hk.1.1.2.2.1, ⟨hk.1.1.2.2.2.1, ⟨hk.1.1.2.2.2.2.1, hk.1.1.2.2.2.2.2⟩⟩⟩⟩⟩)) : P := h
theorem w8_ {P : Prop} (h : P := by (with_reducible repeat (first | apply raz_ | apply rnz_ | apply rdz_)); exact Kd.R_mono (Kd.R_far (p := ⟨gb558, 1, none⟩) (Kd.R_far (p := ⟨gb558, 0, none⟩) (Kd.R_mono HO_583.out (fun k_ hk => (⟨hk, hk.2⟩ : _ ∧ k_ ≠ gb558))) (fun _ hk => hk.2) (.int .i64 ((rd_T100 t507 x585_8).f0))) (fun _ hk => hk.2) (.int .i64 ((rd_T100 t507 x585_8).f1))) (fun _ hk => ⟨hk.1.1.1, ⟨hk.1.1.2.1, ⟨hk.1.1.2.2.1, ⟨hk.1.1.2.2.2.1, ⟨hk.1.1.2.2.2.2.1, hk.1.1.2.2.2.2.2⟩⟩⟩⟩⟩)) : P := h
theorem w7_ {P : Prop} (h : P := by (with_reducible repeat (first | apply raz_ | apply rnz_ | apply rdz_)); exact Kd.R_mono (Kd.R_far (p := ⟨gb558, 1, none⟩) (Kd.R_far (p := ⟨gb558, 0, none⟩) (Kd.R_mono HO_68.out (fun k_ hk => (⟨hk, hk.2⟩ : _ ∧ k_ ≠ gb558))) (fun _ hk => hk.2) (.int .i64 ((rd_T100 t507 x585_8).f0))) (fun _ hk => hk.2) (.int .i64 ((rd_T100 t507 x585_8).f1))) (fun _ hk => ⟨hk.1.1.1, ⟨hk.1.1.2.1, ⟨hk.1.1.2.2.1, ⟨hk.1.1.2.2.2.1, ⟨hk.1.1.2.2.2.2.1, ⟨hk.1.1.2.2.2.2.2.1, hk.1.1.2.2.2.2.2.2⟩⟩⟩⟩⟩⟩)) : P := h
theorem w6_ {P : Prop} (h : P := by (with_reducible repeat (first | apply raz_ | apply rnz_ | apply rdz_)); exact Kd.R_mono (Kd.R_far (p := ⟨gb551, 1, none⟩) (Kd.R_far (p := ⟨gb551, 0, none⟩) (Kd.R_mono HO_40.out (fun k_ hk => (⟨hk, hk.2⟩ : _ ∧ k_ ≠ gb551))) (fun _ hk => hk.2) (.int .i64 ((rd_T100 t495 x546_8).f0))) (fun _ hk => hk.2) (.int .i64 ((rd_T100 t495 x546_8).f1))) (fun _ hk => ⟨hk.1.1.1, ⟨hk.1.1.2.1, ⟨hk.1.1.2.2.1, ⟨hk.1.1.2.2.2.1, ⟨hk.1.1.2.2.2.2.1, ⟨hk.1.1.2.2.2.2.2.1, hk.1.1.2.2.2.2.2.2⟩⟩⟩⟩⟩⟩)) : P := h
theorem w5_ {P : Prop} (h : P := by (with_reducible repeat (first | apply raz_ | apply rnz_ | apply rdz_)); exact Kd.R_mono (Kd.R_far (p := ⟨gb551, 1, none⟩) (Kd.R_far (p := ⟨gb551, 0, none⟩) (Kd.R_mono HO_544.out (fun k_ hk => (⟨hk, hk.2⟩ : _ ∧ k_ ≠ gb551))) (fun _ hk => hk.2) (.int .i64 ((rd_T100 t495 x546_8).f0))) (fun _ hk => hk.2) (.int .i64 ((rd_T100 t495 x546_8).f1))) (fun _ hk => ⟨hk.1.1.1, ⟨hk.1.1.2.1, ⟨hk.1.1.2.2.1, ⟨hk.1.1.2.2.2.1, ⟨hk.1.1.2.2.2.2.1, ⟨hk.1.1.2.2.2.2.2.1, hk.1.1.2.2.2.2.2.2⟩⟩⟩⟩⟩⟩)) : P := h
theorem w4_ {P : Prop} (h : P := by (with_reducible repeat (first | apply raz_ | apply rnz_ | apply rdz_)); exact Kd.R_mono (Kd.R_far (p := ⟨gb551, 1, none⟩) (Kd.R_far (p := ⟨gb551, 0, none⟩) (Kd.R_mono HO_46.out (fun k_ hk => (⟨hk, hk.2⟩ : _ ∧ k_ ≠ gb551))) (fun _ hk => hk.2) (.int .i64 ((rd_T100 t495 x546_8).f0))) (fun _ hk => hk.2) (.int .i64 ((rd_T100 t495 x546_8).f1))) (fun _ hk => ⟨hk.1.1.1, ⟨hk.1.1.2.1, ⟨hk.1.1.2.2.1, ⟨hk.1.1.2.2.2.1, ⟨hk.1.1.2.2.2.2.1, ⟨hk.1.1.2.2.2.2.2.1, ⟨hk.1.1.2.2.2.2.2.2.1, hk.1.1.2.2.2.2.2.2.2⟩⟩⟩⟩⟩⟩⟩)) : P := h
theorem w3_ {P : Prop} (h : P := by (with_reducible repeat (first | apply raz_ | apply rnz_ | apply rdz_)); exact Kd.R_mono (Kd.R_far (p := ⟨gb551, 1, none⟩) (Kd.R_far (p := ⟨gb551, 0, none⟩) (Kd.R_mono HO_42.out (fun k_ hk => (⟨hk, hk.2⟩ : _ ∧ k_ ≠ gb551))) (fun _ hk => hk.2) (.int .i64 ((rd_T100 t495 x546_8).f0))) (fun _ hk => hk.2) (.int .i64 ((rd_T100 t495 x546_8).f1))) (fun _ hk => ⟨hk.1.1.1, ⟨hk.1.1.2.1, ⟨hk.1.1.2.2.1, ⟨hk.1.1.2.2.2.1, ⟨hk.1.1.2.2.2.2.1, ⟨hk.1.1.2.2.2.2.2.1, ⟨hk.1.1.2.2.2.2.2.2.1, hk.1.1.2.2.2.2.2.2.2⟩⟩⟩⟩⟩⟩⟩)) : P := h
theorem w2_ {P : Prop} (h : P := by first | exact (w93_) | (rw [add_block]; exact (w93_)) | (show (Addr.add _ _).block ≠ _; rw [add_block]; exact (w93_)) | (dsimp only; exact (w93_))) : P := h
theorem w1_ {P : Prop} (h : P := by (with_reducible repeat (first | refine knz_ ?_ _ | refine kdz_ ?_ | refine kaz_ ?_ _)); refine blk_put (cs := #[.int .i64 0, .int .i64 0]) ?_ 1 _ rfl; (with_reducible repeat (first | refine knz_ ?_ _ | refine kdz_ ?_ | refine kaz_ ?_ _)); refine blk_put (cs := #[.int .i64 0, .int .i64 0]) ?_ 0 _ rfl; (with_reducible repeat (first | refine knz_ ?_ _ | refine kdz_ ?_ | refine kaz_ ?_ _)); refine blk_far ?_ NB400_408.out _; (with_reducible repeat (first | refine knz_ ?_ _ | refine kdz_ ?_ | refine kaz_ ?_ _)); refine blk_far ?_ NB400_408.out _; (with_reducible repeat (first | refine knz_ ?_ _ | refine kdz_ ?_ | refine kaz_ ?_ _)); exact BK400.out) : P := h
end Go.Proofs.YtppbpefehpbejaaDoor
section
namespace Go.Proofs.YtppbpefehpbejaaDoor.P
open Go.RowKit Go.Proofs.YtppbpefehpbejaaDoorW.PrintWords Go.Proofs.YtppbpefehpbejaaDoorW.PrintLast Go.Proofs.YtppbpefehpbejaaDoorW.PrintMore
attribute [local go_sem] max2_int min2_int max_two min_two max_three min_three max_four min_four   -- for this text's walks alone
set_option linter.unusedVariables false
set_option linter.unusedSimpArgs false

def errW : Option Int → Value
  | none => .nilIface
  | some c => .iface 0 (.int .i64 c)
theorem errW_none : errW none = .nilIface := rfl
theorem errW_some (c : Int) : errW (some c) = .iface 0 (.int .i64 c) := rfl

theorem info4 : (Tryd.prog.info? 4).map (fun i => (i.zero, i.size, i.bytes)) = some (some (.bool false), 1, 1) := by kernel_rfl
theorem info9 : (Tryd.prog.info? 9).map (fun i => (i.zero, i.size, i.bytes)) = some (some (.string ⟨#[]⟩), 1, 16) := by kernel_rfl
theorem info100 : (Tryd.prog.info? 100).map (fun i => (i.zero, i.size, i.bytes)) = some (some (.agg #[(.int .i64 0), (.int .i64 0)]), 2, 16) := by kernel_rfl
-- the values' own types
structure S100 where
  f0 : Int
  f1 : Int
def z100 : S100 := ⟨(0 : Int), (0 : Int)⟩
def k100 : Kd S100 := Kd.iso (Kd.pair (Kd.int .i64) (Kd.int .i64)) (fun x : S100 => (x.f0, x.f1))
theorem k100_open {w : World} {x : S100} {cs : List Value} (h : k100.K w x cs) : cs = [.int .i64 x.f0, .int .i64 x.f1] := by
  obtain ⟨_, _, rfl, rfl, rfl⟩ := h
  exact rfl
theorem k100_openM {w : World} {base : Nat} {ok : Nat → Prop} {x : S100} {cs : List Value} (h : k100.M w base ok x cs) : cs = [.int .i64 x.f0, .int .i64 x.f1] := by
  obtain ⟨_, _, rfl, rfl, rfl⟩ := h
  exact rfl
theorem k100_mkM (w : World) (base : Nat) (ok : Nat → Prop) (x : S100)  : k100.M w base ok x [.int .i64 x.f0, .int .i64 x.f1] := ⟨[.int .i64 x.f0], [.int .i64 x.f1], rfl, rfl, rfl⟩
def rd_T100 (xs : List S100) (i : Int) : S100 := xs.getD i.toNat z100
theorem at_T100 {w : World} {A : Option Addr} {n : Nat} {xs : List S100} (h : Kd.C k100 w A n xs) (i : Int) (h0 : 0 ≤ i) (h1 : i < n) : ∃ ad , A = some ad ∧ w.cell? (ad.add (i.toNat * 2)) = some (.int .i64 (rd_T100 xs i).f0) ∧ w.cell? ⟨(ad.add (i.toNat * 2)).block, (ad.add (i.toNat * 2)).off + 1, none⟩ = some (.int .i64 (rd_T100 xs i).f1) := by
  obtain ⟨ad, c, e, _, hK, hc0⟩ := Kd.C_get h z100 i h0 h1
  have hc : ∀ j u, c[j]? = some u → w.cell? (ad.add (i.toNat * 2 + j)) = some u := hc0
  obtain rfl := k100_open hK
  exact ⟨ad, e, hc 0 _ rfl, by rw [← add_field _ _ 1 (by omega)]; exact hc 1 _ rfl⟩

end Go.Proofs.YtppbpefehpbejaaDoor.P
end

section
namespace Go.Proofs.YtppbpefehpbejaaDoor.P
open Go.RowKit Go.Proofs.YtppbpefehpbejaaDoorW.PrintWords Go.Proofs.YtppbpefehpbejaaDoorW.PrintLast Go.Proofs.YtppbpefehpbejaaDoorW.PrintMore
set_option linter.unusedVariables false
structure Upz_ (w W : World) : Prop where mk :: (out : Below w.heap.size w W)
instance (w : World) : Nonempty (Upz_ w w) := ⟨⟨Below.refl _ _⟩⟩
instance (w W : World) (n : Nat) [h : Nonempty (Upz_ w W)] : Nonempty (Upz_ w (W.drewN n)) := h.elim fun h => ⟨⟨pw_below_drewN h.out n⟩⟩
instance (w W : World) (n : Obj) [h : Nonempty (Upz_ w W)] : Nonempty (Upz_ w (W.alloc n)) := h.elim fun h => ⟨⟨below_alloc h.out n⟩⟩
instance (w W : World) [h : Nonempty (Upz_ w W)] : Nonempty (Upz_ w W.drew) := h.elim fun h => ⟨⟨below_drew1 h.out⟩⟩
theorem ukz_ {w W : World} {g : Nat} {o : Obj} (h : w.heap[g]? = some o) [u : Nonempty (Upz_ w W)] : W.heap[g]? = some o := u.elim fun u => blk_below h u.out
theorem urz_ {α : Type} {d : Kd α} {e : Nat} {w W : World} {b : Nat} {ok : Nat → Prop} {v : Value} {xs : List α} (h : d.R e w b ok v xs) [u : Nonempty (Upz_ w W)] : d.R e W b ok v xs := u.elim fun u => Kd.R_below h u.out
theorem ucz_ {α : Type} {d : Kd α} {w W : World} {A : Option Addr} {n : Nat} {xs : List α} (h : d.C w A n xs) [u : Nonempty (Upz_ w W)] : d.C W A n xs := u.elim fun u => Kd.C_below h u.out
theorem ubz_ {w0 w W : World} (h : Below w0.heap.size w0 w) [u : Nonempty (Upz_ w W)] : Below w0.heap.size w0 W := u.elim fun u => below_step h u.out
theorem ukbz_ {w W W2 : World} {g : Nat} {o : Obj} (h : w.heap[g]? = some o) (hb : Below W.heap.size W W2) [u : Nonempty (Upz_ w W)] : W2.heap[g]? = some o := blk_below (ukz_ h) hb
theorem uklz_ {w W : World} {g : Nat} {o : Obj} (h : w.heap[g]? = some o) [u : Nonempty (Upz_ w W)] : g < W.heap.size := blk_lt (ukz_ h)
theorem ubsz_ {w W : World} {g j : Nat} {v : Value} (h : Below w.heap.size w W) (hg : Aside0 (w.heap.size ≤ g)) : Below w.heap.size w (W.setCell ⟨g, j, none⟩ v) := Go.Proofs.YtppbpefehpbejaaDoorW.PrintWords.below_set h hg.out
theorem usz_ : type_of% @List.setIfInBounds_toArray.{0} := @List.setIfInBounds_toArray.{0}
theorem utz_ : type_of% @List.set_cons_zero.{0} := @List.set_cons_zero.{0}
theorem uvz_ : type_of% @List.set_cons_succ.{0} := @List.set_cons_succ.{0}
theorem Az_ {p : Prop} (h : p) : Aside0 p := ⟨h⟩
theorem baz_ : type_of% @below_alloc := @below_alloc
theorem bnz_ : type_of% @pw_below_drewN := @pw_below_drewN
theorem bdz_ : type_of% @below_drew1 := @below_drew1
theorem bsz_ : type_of% @below_set := @below_set
theorem raz_ : type_of% @Kd.R_alloc := @Kd.R_alloc
theorem rnz_ : type_of% @Kd.R_drewN := @Kd.R_drewN
theorem rdz_ : type_of% @Kd.R_drew := @Kd.R_drew
theorem knz_ : type_of% @blk_drewN := @blk_drewN
theorem kdz_ : type_of% @blk_drew := @blk_drew
theorem kaz_ : type_of% @blk_alloc := @blk_alloc
theorem kbz_ : type_of% @blk_below := @blk_below
theorem rez_ : type_of% @Kd.R_elder' := @Kd.R_elder'
theorem btz_ : type_of% @below_step := @below_step
theorem asz_ {p : Prop} (h : p := by first | (with_reducible assumption) | assumption) : p := h
theorem qaz_ {p : Prop} (h : p := by first | rfl | (simp; done) | (simp [*]; done)) : p := h
theorem maz_ {p : Prop} (h : p := by (try simp only [List.map_toArray, List.map_cons, List.map_nil]); first | done | rfl | (simp only [List.length_drop, List.length_take]; rfl)) : p := h
theorem bqz_ {α β : Type} {x : Option α} {f : α → Option β} {r : β} (h : x.bind f = some r) : ∃ a, Aside0 (x = some a) ∧ f a = some r := by
  obtain ⟨a, h1, h2⟩ := Option.bind_eq_some_iff.mp h
  exact ⟨a, ⟨h1⟩, h2⟩
theorem nfz_ : ¬ (false = true) := by decide
end Go.Proofs.YtppbpefehpbejaaDoor.P
end

section
namespace Go.Proofs.YtppbpefehpbejaaDoor.P
open Go.RowKit Go.Proofs.YtppbpefehpbejaaDoorW.PrintWords Go.Proofs.YtppbpefehpbejaaDoorW.PrintLast Go.Proofs.YtppbpefehpbejaaDoorW.PrintMore
attribute [local go_sem] max2_int min2_int max_two min_two max_three min_three max_four min_four   -- for this text's walks alone
set_option linter.unusedVariables false
set_option linter.unusedSimpArgs false

theorem eqA100 (d : Nat) (w : World) (x0 y0 : Int) (x1 y1 : Int) :
    (Op.equalIn (d + 2) 100 (.agg #[.int .i64 x0, .int .i64 x1]) (.agg #[.int .i64 y0, .int .i64 y1])).run Tryd.prog w = .ok (x0 == y0 && (x1 == y1)) w := by
  refine eqA_of Tryd.underlying100 (w162_) ?_
  refine eqf_cons (by rfl) (by go_simp; rfl) (by go_simp; rfl) (by go_simp) ?_
  exact eqf_last (by rfl) (by go_simp; rfl) (by go_simp; rfl) (by go_simp)

def laws_big.f (l0 : List Int) (l1 : List Int) : Option (Bool) := if (l0.length : Int) > 1048576 then (some true) else (some (decide ((l1.length : Int) > (wrap64 (1048576 - (l0.length : Int))))))
set_option maxHeartbeats 8000000 in
set_option maxRecDepth 100000 in
theorem laws_big.calls (A0 : Option Addr) (c0 : Nat) (l0 : List Int) (A1 : Option Addr) (c1 : Nat) (l1 : List Int) (r : Bool) (w : World) (hr0 : Kd.C (Kd.int .u8) w A0 l0.length l0) (hc0 : l0.length ≤ c0) (hr1 : Kd.C (Kd.int .u8) w A1 l1.length l1) (hc1 : l1.length ≤ c1) (h : laws_big.f l0 l1 = some r) :
  Calls Tryd.prog 6 #[.slice A0 l0.length c0, .slice A1 l1.length c1] w fun e w' => e = .returned (.bool r) ∧ Drawn0 w w' := by
 have HR0 := Az_ hr0
 have HC0 := Az_ hc0
 clear hr0 hc0
 have HR1 := Az_ hr1
 have HC1 := Az_ hc1
 clear hr1 hc1
 have H : (if (l0.length : Int) > 1048576 then (some true) else (some (decide ((l1.length : Int) > (wrap64 (1048576 - (l0.length : Int))))))) = some r := h
 clear h
 by_cases c3 : (l0.length : Int) > 1048576
 ·rw [if_pos c3] at H
  have c3b0 := decide_eq_true c3
  have c3b1 : decide (1048576 < l0.length) = true := decide_eq_true (by omega)
  clear c3
  obtain rfl := Option.some.inj H
  go_enter Tryd.func6, Tryd.ntmps6
  go_wp2
  go_ret
  exact ⟨w134_, w131_⟩
 ·rw [if_neg c3] at H
  have c3b0 := decide_eq_false c3
  have c3b1 : decide (1048576 < l0.length) = false := decide_eq_false (by omega)
  clear c3
  obtain rfl := Option.some.inj H
  go_enter Tryd.func6, Tryd.ntmps6
  go_wp2
  go_ret
  exact ⟨w134_, w131_⟩

def IsS111 (w0 W : World) (g : Nat) (f0 : List Int) (f1 : Int) (f2 : Int) : Prop := ∃ A0 c0, W.heap[g]? = some (.cells #[.slice A0 f0.length c0, .int .i64 f1, .int .u64 f2] 111 (0, 0)) ∧ w0.heap.size ≤ g ∧ Kd.C (Kd.int .u8) w0 A0 f0.length f0
theorem IsS111.grown {w0 W : World} {g : Nat} {f0 : List Int} {f1 : Int} {f2 : Int} {W1 : World} {row : Option Nat} (h : IsS111 w0 W g f0 f1 f2) (hw : W.grownBy W1 row) (hne : some g ≠ row) : IsS111 w0 W1 g f0 f1 f2 := by
 obtain ⟨A0, c0, hb, hg, hr0⟩ := h
 exact ⟨A0, c0, blk_grown hb hw hne, hg, hr0⟩
theorem IsS111.fresh {w0 W : World} {g : Nat} {f0 : List Int} {f1 : Int} {f2 : Int} (h : IsS111 w0 W g f0 f1 f2) : ∀ k, W.heap.size ≤ k → k ≠ g := by
 obtain ⟨A0, c0, hb, hg, hr0⟩ := h
 exact Kd.freshB hb
theorem IsS111.kept {w0 W : World} {g : Nat} {f0 : List Int} {f1 : Int} {f2 : Int} {W1 : World} {S : Nat → Prop} (h : IsS111 w0 W g f0 f1 f2) (hk : Kept W W1 S) (hne : ¬ S g) : IsS111 w0 W1 g f0 f1 f2 := by
 obtain ⟨A0, c0, hb, hg, hr0⟩ := h
 exact ⟨A0, c0, blk_kept hb hk hne, hg, hr0⟩
theorem IsS111.below {w0 W : World} {g : Nat} {f0 : List Int} {f1 : Int} {f2 : Int} {W1 : World} (h : IsS111 w0 W g f0 f1 f2) (hw : Below W.heap.size W W1) : IsS111 w0 W1 g f0 f1 f2 := h.grown (grown_of_below hw none) (by simp)
theorem IsS111.alloc {w0 W : World} {g : Nat} {f0 : List Int} {f1 : Int} {f2 : Int} (h : IsS111 w0 W g f0 f1 f2) (o : Obj) : IsS111 w0 (W.alloc o) g f0 f1 f2 := h.below (baz_ (Below.refl _ _) o)
theorem IsS111.drewN {w0 W : World} {g : Nat} {f0 : List Int} {f1 : Int} {f2 : Int} (h : IsS111 w0 W g f0 f1 f2) (m : Nat) : IsS111 w0 (W.drewN m) g f0 f1 f2 := h
theorem IsS111.drew {w0 W : World} {g : Nat} {f0 : List Int} {f1 : Int} {f2 : Int} (h : IsS111 w0 W g f0 f1 f2) : IsS111 w0 W.drew g f0 f1 f2 := h
theorem IsS111.at_ {w0 W : World} {g : Nat} {f0 : List Int} {f1 : Int} {f2 : Int} {w' : World} {m : Nat} (hq : W.drewN m = w') (h : IsS111 w0 W g f0 f1 f2) : IsS111 w0 w' g f0 f1 f2 := by subst hq; exact IsS111.drewN h m
theorem IsS111.apart {w0 W : World} {g : Nat} {f0 : List Int} {f1 : Int} {f2 : Int} {α : Type} {d : Kd α} {e : Nat} {base : Nat} {ok : Nat → Prop} {v : Value} {xs : List α} (h : IsS111 w0 W g f0 f1 f2) (ho : d.R e W base ok v xs) (ht : ∀ q, q ∈ e :: d.E → q ≠ 111) : d.R e W base (fun k => ok k ∧ k ≠ g) v xs := by
 obtain ⟨A0, c0, hb, hg, hr0⟩ := h
 exact Kd.R_types ho hb ht
theorem IsS111.own_ne {w0 W : World} {g : Nat} {f0 : List Int} {f1 : Int} {f2 : Int} {α : Type} {d : Kd α} {e : Nat} {base : Nat} {ok : Nat → Prop} {v : Value} {xs : List α} (h : IsS111 w0 W g f0 f1 f2) (ho : d.R e W base ok v xs) (ht : e ≠ 111) : some g ≠ v.ownBlock := by
 obtain ⟨A0, c0, hb, hg, hr0⟩ := h
 exact Kd.R_ne ho hb ht
theorem IsS111.lt {w0 W : World} {g : Nat} {f0 : List Int} {f1 : Int} {f2 : Int} (h : IsS111 w0 W g f0 f1 f2) : g < W.heap.size := by
 obtain ⟨A0, c0, hb, hg, hr0⟩ := h
 exact blk_lt hb
theorem IsS111.ge {w0 W : World} {g : Nat} {f0 : List Int} {f1 : Int} {f2 : Int} (h : IsS111 w0 W g f0 f1 f2) : w0.heap.size ≤ g := by
 obtain ⟨A0, c0, hb, hg, hr0⟩ := h
 exact hg
theorem IsS111.far {w0 W : World} {g : Nat} {f0 : List Int} {f1 : Int} {f2 : Int} {p : Addr} (h : IsS111 w0 W g f0 f1 f2) (hne : g ≠ p.block) (u : Value) : IsS111 w0 (W.setCell p u) g f0 f1 f2 := by
 obtain ⟨A0, c0, hb, hg, hr0⟩ := h
 exact ⟨A0, c0, blk_far hb hne u, hg, hr0⟩
theorem cellS111_0 {W : World} {g : Nat} {A0 : Option Addr} {c0 : Nat} {f0 : List Int} {f1 : Int} {f2 : Int} (h : W.heap[g]? = some (.cells #[.slice A0 f0.length c0, .int .i64 f1, .int .u64 f2] 111 (0, 0))) : W.cell? ⟨g, 0, none⟩ = some (.slice A0 f0.length c0) := (blk_cell h 0).trans rfl
theorem cellS111_1 {W : World} {g : Nat} {A0 : Option Addr} {c0 : Nat} {f0 : List Int} {f1 : Int} {f2 : Int} (h : W.heap[g]? = some (.cells #[.slice A0 f0.length c0, .int .i64 f1, .int .u64 f2] 111 (0, 0))) : W.cell? ⟨g, 1, none⟩ = some (.int .i64 f1) := (blk_cell h 1).trans rfl
theorem IsS111.set_1 {w0 W : World} {g : Nat} {f0 : List Int} {f1 : Int} {f2 : Int} (h : IsS111 w0 W g f0 f1 f2) (x : Int) : IsS111 w0 (W.setCell ⟨g, 1, none⟩ (.int .i64 x)) g f0 x f2 := by
 obtain ⟨A0, c0, hb, hg, hr0⟩ := h
 exact ⟨A0, c0, by simpa using blk_set hb 1 (.int .i64 x), hg, hr0⟩
theorem cellS111_2 {W : World} {g : Nat} {A0 : Option Addr} {c0 : Nat} {f0 : List Int} {f1 : Int} {f2 : Int} (h : W.heap[g]? = some (.cells #[.slice A0 f0.length c0, .int .i64 f1, .int .u64 f2] 111 (0, 0))) : W.cell? ⟨g, 2, none⟩ = some (.int .u64 f2) := (blk_cell h 2).trans rfl
theorem IsS111.set_2 {w0 W : World} {g : Nat} {f0 : List Int} {f1 : Int} {f2 : Int} (h : IsS111 w0 W g f0 f1 f2) (x : Int) : IsS111 w0 (W.setCell ⟨g, 2, none⟩ (.int .u64 x)) g f0 f1 x := by
 obtain ⟨A0, c0, hb, hg, hr0⟩ := h
 exact ⟨A0, c0, by simpa using blk_set hb 2 (.int .u64 x), hg, hr0⟩
def spec_l1Cur_next.f (s0_0 : List Int) (s0_1 : Int) (s0_2 : Int) : Option (Int × Int × Int) := if s0_1 < (s0_0.length : Int) then (if 0 ≤ s0_1 then (if (wrap64 (s0_1 + 1)) ≤ (s0_0.length : Int) then (some (wrap64 (rd s0_0 s0_1), wrap64 (s0_1 + 1), IntKind.u64.wrap ((IntKind.u64.wrap ((IntKind.u64.wrap (s0_2 * 6364136223846793005)) + (IntKind.u64.wrap (wrap64 (rd s0_0 s0_1))))) + 1442695040888963407))) else (some (wrap64 (Go.bits .and .u64 ((IntKind.u64.wrap ((IntKind.u64.wrap ((IntKind.u64.wrap (s0_2 * 6364136223846793005)) + (IntKind.u64.wrap (wrap64 (rd s0_0 s0_1))))) + 1442695040888963407)) / 1099511627776) 255), wrap64 (s0_1 + 1), IntKind.u64.wrap ((IntKind.u64.wrap ((IntKind.u64.wrap (s0_2 * 6364136223846793005)) + (IntKind.u64.wrap (wrap64 (rd s0_0 s0_1))))) + 1442695040888963407)))) else (none)) else (if (wrap64 (s0_1 + 1)) ≤ (s0_0.length : Int) then (some (0, wrap64 (s0_1 + 1), IntKind.u64.wrap ((IntKind.u64.wrap ((IntKind.u64.wrap (s0_2 * 6364136223846793005)) + 0)) + 1442695040888963407))) else (some (wrap64 (Go.bits .and .u64 ((IntKind.u64.wrap ((IntKind.u64.wrap ((IntKind.u64.wrap (s0_2 * 6364136223846793005)) + 0)) + 1442695040888963407)) / 1099511627776) 255), wrap64 (s0_1 + 1), IntKind.u64.wrap ((IntKind.u64.wrap ((IntKind.u64.wrap (s0_2 * 6364136223846793005)) + 0)) + 1442695040888963407))))
set_option maxHeartbeats 8000000 in
set_option maxRecDepth 100000 in
theorem spec_l1Cur_next.calls (g : Nat) (s0_0 : List Int) (s0_1 : Int) (s0_2 : Int) (r1 : Int) (r2 : Int) (r3 : Int) (w0 w : World) (hI : IsS111 w0 w g s0_0 s0_1 s0_2) (hB : Below w0.heap.size w0 w) (h : spec_l1Cur_next.f s0_0 s0_1 s0_2 = some (r1, r2, r3)) :
  Calls Tryd.prog 170 #[.pointer (some ⟨g, 0, none⟩)] w fun e w' => e = .returned (.int .i64 r1) ∧ IsS111 w0 w' g s0_0 r2 r3 ∧ Below w0.heap.size w0 w' ∧ KeepBut w w' g none := by
 have HI0 := Az_ hI
 have HK := Az_ (KeepBut.refl w g none)
 have HL := Az_ hB.size
 clear hI
 have HW0 := Az_ hB.size
 have HB := Az_ hB
 clear hB
 have H : (if s0_1 < (s0_0.length : Int) then (if 0 ≤ s0_1 then (if (wrap64 (s0_1 + 1)) ≤ (s0_0.length : Int) then (some (wrap64 (rd s0_0 s0_1), wrap64 (s0_1 + 1), IntKind.u64.wrap ((IntKind.u64.wrap ((IntKind.u64.wrap (s0_2 * 6364136223846793005)) + (IntKind.u64.wrap (wrap64 (rd s0_0 s0_1))))) + 1442695040888963407))) else (some (wrap64 (Go.bits .and .u64 ((IntKind.u64.wrap ((IntKind.u64.wrap ((IntKind.u64.wrap (s0_2 * 6364136223846793005)) + (IntKind.u64.wrap (wrap64 (rd s0_0 s0_1))))) + 1442695040888963407)) / 1099511627776) 255), wrap64 (s0_1 + 1), IntKind.u64.wrap ((IntKind.u64.wrap ((IntKind.u64.wrap (s0_2 * 6364136223846793005)) + (IntKind.u64.wrap (wrap64 (rd s0_0 s0_1))))) + 1442695040888963407)))) else (none)) else (if (wrap64 (s0_1 + 1)) ≤ (s0_0.length : Int) then (some (0, wrap64 (s0_1 + 1), IntKind.u64.wrap ((IntKind.u64.wrap ((IntKind.u64.wrap (s0_2 * 6364136223846793005)) + 0)) + 1442695040888963407))) else (some (wrap64 (Go.bits .and .u64 ((IntKind.u64.wrap ((IntKind.u64.wrap ((IntKind.u64.wrap (s0_2 * 6364136223846793005)) + 0)) + 1442695040888963407)) / 1099511627776) 255), wrap64 (s0_1 + 1), IntKind.u64.wrap ((IntKind.u64.wrap ((IntKind.u64.wrap (s0_2 * 6364136223846793005)) + 0)) + 1442695040888963407))))) = some (r1, r2, r3) := h
 clear h
 by_cases c2 : s0_1 < (s0_0.length : Int)
 ·rw [if_pos c2] at H
  have c2b0 := decide_eq_true c2
  clear c2
  by_cases c3 : 0 ≤ s0_1; rotate_left
  ·rw [if_neg c3] at H
   exact absurd H (by simp)
  rw [if_pos c3] at H
  have c3b0 := decide_eq_true c3
  clear c3
  by_cases c4 : (wrap64 (s0_1 + 1)) ≤ (s0_0.length : Int); rotate_left
  ·rw [if_neg c4] at H
   have c4b0 := decide_eq_false c4
   clear c4
   simp only [Option.some.injEq, Prod.mk.injEq] at H
   obtain ⟨rfl, rfl, rfl⟩ := H
   obtain ⟨ASz6_0, cSz6_0, HGz6, hgz6, HSz6_0⟩ := HI0.out
   have hcz6_0 := cellS111_0 HGz6
   have hcz6_1 := cellS111_1 HGz6
   have hcz6_2 := cellS111_2 HGz6
   have hfz6_1 := blk_frozen HGz6 1
   have hfz6_2 := blk_frozen HGz6 2
   clear HGz6 hgz6
   have p101 : 0 ≤ (s0_1 : Int) := od_
   have q101 : s0_1 < (s0_0.length : Int) := od_
   obtain ⟨ad101, e101, hx101_0⟩ := Kd.at_int HSz6_0 s0_1 p101 q101
   cases e101
   replace hx101_0 := pw_cell_below HB.out hx101_0
   replace p101 := eq_true p101
   replace q101 := eq_true q101
   go_enter Tryd.func170, Tryd.ntmps170
   go_wp2
   repeat (go_quiet (fail); try go_wp2)
   go_ret
   (try simp only [Int.add_zero])
   exact ⟨w116_, w59_, w78_, w74_⟩
  rw [if_pos c4] at H
  have c4b0 := decide_eq_true c4
  clear c4
  simp only [Option.some.injEq, Prod.mk.injEq] at H
  obtain ⟨rfl, rfl, rfl⟩ := H
  obtain ⟨ASz5_0, cSz5_0, HGz5, hgz5, HSz5_0⟩ := HI0.out
  have hcz5_0 := cellS111_0 HGz5
  have hcz5_1 := cellS111_1 HGz5
  have hcz5_2 := cellS111_2 HGz5
  have hfz5_1 := blk_frozen HGz5 1
  have hfz5_2 := blk_frozen HGz5 2
  clear HGz5 hgz5
  have p101 : 0 ≤ (s0_1 : Int) := od_
  have q101 : s0_1 < (s0_0.length : Int) := od_
  obtain ⟨ad101, e101, hx101_0⟩ := Kd.at_int HSz5_0 s0_1 p101 q101
  cases e101
  replace hx101_0 := pw_cell_below HB.out hx101_0
  replace p101 := eq_true p101
  replace q101 := eq_true q101
  go_enter Tryd.func170, Tryd.ntmps170
  go_wp2
  repeat (go_quiet (fail); try go_wp2)
  go_ret
  (try simp only [Int.add_zero])
  exact ⟨w116_, w59_, w78_, w74_⟩
 ·rw [if_neg c2] at H
  have c2b0 := decide_eq_false c2
  clear c2
  by_cases c7 : (wrap64 (s0_1 + 1)) ≤ (s0_0.length : Int)
  ·rw [if_pos c7] at H
   have c7b0 := decide_eq_true c7
   clear c7
   simp only [Option.some.injEq, Prod.mk.injEq] at H
   obtain ⟨rfl, rfl, rfl⟩ := H
   obtain ⟨ASz8_0, cSz8_0, HGz8, hgz8, HSz8_0⟩ := HI0.out
   have hcz8_0 := cellS111_0 HGz8
   have hcz8_1 := cellS111_1 HGz8
   have hcz8_2 := cellS111_2 HGz8
   have hfz8_1 := blk_frozen HGz8 1
   have hfz8_2 := blk_frozen HGz8 2
   clear HGz8 hgz8
   go_enter Tryd.func170, Tryd.ntmps170
   go_wp2
   repeat (go_quiet (fail); try go_wp2)
   go_ret
   (try simp only [Int.add_zero])
   exact ⟨w116_, w59_, w78_, w74_⟩
  ·rw [if_neg c7] at H
   have c7b0 := decide_eq_false c7
   clear c7
   simp only [Option.some.injEq, Prod.mk.injEq] at H
   obtain ⟨rfl, rfl, rfl⟩ := H
   obtain ⟨ASz9_0, cSz9_0, HGz9, hgz9, HSz9_0⟩ := HI0.out
   have hcz9_0 := cellS111_0 HGz9
   have hcz9_1 := cellS111_1 HGz9
   have hcz9_2 := cellS111_2 HGz9
   have hfz9_1 := blk_frozen HGz9 1
   have hfz9_2 := blk_frozen HGz9 2
   clear HGz9 hgz9
   go_enter Tryd.func170, Tryd.ntmps170
   go_wp2
   repeat (go_quiet (fail); try go_wp2)
   go_ret
   (try simp only [Int.add_zero])
   exact ⟨w116_, w59_, w78_, w74_⟩

def spec_l1Cur_pick.f (s0_0 : List Int) (s0_1 : Int) (s0_2 : Int) (a1 : Int) : Option (Int × Int × Int) := if a1 ≤ 1 then (some (0, s0_1, s0_2)) else ((spec_l1Cur_next.f s0_0 s0_1 s0_2).bind fun bt102 => (if a1 > 200 then ((spec_l1Cur_next.f s0_0 bt102.2.1 bt102.2.2).bind fun bt105 => (if a1 = 0 then (none) else (some (Int.tmod (wrap64 ((wrap64 (bt102.1 * 256)) + bt105.1)) a1, bt105.2.1, bt105.2.2)))) else (if a1 = 0 then (none) else (some (Int.tmod bt102.1 a1, bt102.2.1, bt102.2.2)))))
set_option maxHeartbeats 8000000 in
set_option maxRecDepth 100000 in
theorem spec_l1Cur_pick.calls (g : Nat) (s0_0 : List Int) (s0_1 : Int) (s0_2 : Int) (a1 : Int) (r1 : Int) (r2 : Int) (r3 : Int) (w0 w : World) (hI : IsS111 w0 w g s0_0 s0_1 s0_2) (hB : Below w0.heap.size w0 w) (h : spec_l1Cur_pick.f s0_0 s0_1 s0_2 a1 = some (r1, r2, r3)) :
  Calls Tryd.prog 96 #[.pointer (some ⟨g, 0, none⟩), .int .i64 a1] w fun e w' => e = .returned (.int .i64 r1) ∧ IsS111 w0 w' g s0_0 r2 r3 ∧ Below w0.heap.size w0 w' ∧ KeepBut w w' g none := by
 have HI0 := Az_ hI
 have HK := Az_ (KeepBut.refl w g none)
 have HL := Az_ hB.size
 clear hI
 have HW0 := Az_ hB.size
 have HB := Az_ hB
 clear hB
 have H : (if a1 ≤ 1 then (some (0, s0_1, s0_2)) else ((spec_l1Cur_next.f s0_0 s0_1 s0_2).bind fun bt102 => (if a1 > 200 then ((spec_l1Cur_next.f s0_0 bt102.2.1 bt102.2.2).bind fun bt105 => (if a1 = 0 then (none) else (some (Int.tmod (wrap64 ((wrap64 (bt102.1 * 256)) + bt105.1)) a1, bt105.2.1, bt105.2.2)))) else (if a1 = 0 then (none) else (some (Int.tmod bt102.1 a1, bt102.2.1, bt102.2.2)))))) = some (r1, r2, r3) := h
 clear h
 by_cases c3 : a1 ≤ 1
 ·rw [if_pos c3] at H
  have c3b0 := decide_eq_true c3
  clear c3
  simp only [Option.some.injEq, Prod.mk.injEq] at H
  obtain ⟨rfl, rfl, rfl⟩ := H
  go_enter Tryd.func96, Tryd.ntmps96
  go_wp2
  go_ret
  exact ⟨w116_, w59_, w78_, w74_⟩
 ·rw [if_neg c3] at H
  have c3b0 := decide_eq_false c3
  clear c3
  replace H := bqz_ H; obtain ⟨⟨t102, t103, t104⟩, A4, H⟩ := H
  replace H : (if a1 > 200 then ((spec_l1Cur_next.f s0_0 t103 t104).bind fun bt105 => (if a1 = 0 then (none) else (some (Int.tmod (wrap64 ((wrap64 (t102 * 256)) + bt105.1)) a1, bt105.2.1, bt105.2.2)))) else (if a1 = 0 then (none) else (some (Int.tmod t102 a1, t103, t104)))) = some (r1, r2, r3) := H
  by_cases c5 : a1 > 200
  ·rw [if_pos c5] at H
   have c5b0 := decide_eq_true c5
   clear c5
   replace H := bqz_ H; obtain ⟨⟨t105, t106, t107⟩, A6, H⟩ := H
   replace H : (if a1 = 0 then (none) else (some (Int.tmod (wrap64 ((wrap64 (t102 * 256)) + t105)) a1, t106, t107))) = some (r1, r2, r3) := H
   by_cases c7 : a1 = 0
   ·rw [if_pos c7] at H
    exact absurd H (by simp)
   rw [if_neg c7] at H
   have c7b0 : (a1 == 0) = false := beq_eq_false_iff_ne.mpr c7
   have c7b1 : (a1 != 0) = true := bne_iff_ne.mpr c7
   simp only [Option.some.injEq, Prod.mk.injEq] at H
   obtain ⟨rfl, rfl, rfl⟩ := H
   go_enter Tryd.func96, Tryd.ntmps96
   go_wp2_with (first | ((with_reducible refine gate_callee (f := 170) rfl ?_); refine goesL_ (some 9) rfl rfl Tryd.func170 (w162_) rfl #[.pointer (some ⟨g, 0, none⟩)] rfl maz_ ?_; (with_reducible refine (spec_l1Cur_next.calls g s0_0 s0_1 s0_2 t102 t103 t104 w0 _ ?side1 ?side2 A4.out).mono ?_); (case side1 => repeat (first | (with_reducible first | exact HI0.out | apply IsS111.alloc | apply IsS111.drewN | apply IsS111.drew | apply IsS111.set_1 | apply IsS111.set_2) | exact HI0.out)); (case side2 => repeat (first | (with_reducible first | exact HB.out | apply baz_ | apply bnz_ | apply bdz_ | refine bsz_ ?_ (IsS111.ge HI0.out)) | exact HB.out)); rintro e w8 ⟨rfl, hi, hb, hk⟩; refine ⟨_, rfl, ?_⟩; replace HK := Az_ (KeepBut.trans (w74_) hk (.inl rfl)); replace HB := Az_ (hb); replace HI0 := Az_ (hi); (try clear hb); (try clear hk); (try clear hi)) | ((with_reducible refine gate_callee (f := 170) rfl ?_); refine goesL_ (some 15) rfl rfl Tryd.func170 (w162_) rfl #[.pointer (some ⟨g, 0, none⟩)] rfl maz_ ?_; (with_reducible refine (spec_l1Cur_next.calls g s0_0 t103 t104 t105 t106 t107 w0 _ ?side1 ?side2 A6.out).mono ?_); (case side1 => repeat (first | (with_reducible first | exact HI0.out | apply IsS111.alloc | apply IsS111.drewN | apply IsS111.drew | apply IsS111.set_1 | apply IsS111.set_2) | exact HI0.out)); (case side2 => repeat (first | (with_reducible first | exact HB.out | apply baz_ | apply bnz_ | apply bdz_ | refine bsz_ ?_ (IsS111.ge HI0.out)) | exact HB.out)); rintro e w9 ⟨rfl, hi, hb, hk⟩; refine ⟨_, rfl, ?_⟩; replace HK := Az_ (KeepBut.trans (w74_) hk (.inl rfl)); replace HB := Az_ (hb); replace HI0 := Az_ (hi); (try clear hb); (try clear hk); (try clear hi)))
   go_ret
   exact ⟨w116_, w59_, w78_, w74_⟩
  ·rw [if_neg c5] at H
   have c5b0 := decide_eq_false c5
   clear c5
   by_cases c10 : a1 = 0
   ·rw [if_pos c10] at H
    exact absurd H (by simp)
   ·rw [if_neg c10] at H
    have c10b0 : (a1 == 0) = false := beq_eq_false_iff_ne.mpr c10
    have c10b1 : (a1 != 0) = true := bne_iff_ne.mpr c10
    simp only [Option.some.injEq, Prod.mk.injEq] at H
    obtain ⟨rfl, rfl, rfl⟩ := H
    go_enter Tryd.func96, Tryd.ntmps96
    go_wp2_with (((with_reducible refine gate_callee (f := 170) rfl ?_); refine goesL_ (some 9) rfl rfl Tryd.func170 (w162_) rfl #[.pointer (some ⟨g, 0, none⟩)] rfl maz_ ?_; (with_reducible refine (spec_l1Cur_next.calls g s0_0 s0_1 s0_2 t102 t103 t104 w0 _ ?side1 ?side2 A4.out).mono ?_); (case side1 => repeat (first | (with_reducible first | exact HI0.out | apply IsS111.alloc | apply IsS111.drewN | apply IsS111.drew | apply IsS111.set_1 | apply IsS111.set_2) | exact HI0.out)); (case side2 => repeat (first | (with_reducible first | exact HB.out | apply baz_ | apply bnz_ | apply bdz_ | refine bsz_ ?_ (IsS111.ge HI0.out)) | exact HB.out)); rintro e w11 ⟨rfl, hi, hb, hk⟩; refine ⟨_, rfl, ?_⟩; replace HK := Az_ (KeepBut.trans (w74_) hk (.inl rfl)); replace HB := Az_ (hb); replace HI0 := Az_ (hi); (try clear hb); (try clear hk); (try clear hi)))
    go_ret
    exact ⟨w116_, w59_, w78_, w74_⟩

def spec_l1Cur_among.f (s0_0 : List Int) (s0_1 : Int) (s0_2 : Int) (l1 : List Int) : Option (Int × Int × Int) := (spec_l1Cur_pick.f s0_0 s0_1 s0_2 (l1.length : Int)).bind fun bt108 => (if 0 ≤ bt108.1 then (if bt108.1 < (l1.length : Int) then (some (rd l1 bt108.1, bt108.2.1, bt108.2.2)) else (none)) else (none))
set_option maxHeartbeats 8000000 in
set_option maxRecDepth 100000 in
theorem spec_l1Cur_among.calls (g : Nat) (s0_0 : List Int) (s0_1 : Int) (s0_2 : Int) (A1 : Option Addr) (c1 : Nat) (l1 : List Int) (r1 : Int) (r2 : Int) (r3 : Int) (w0 w : World) (hI : IsS111 w0 w g s0_0 s0_1 s0_2) (hB : Below w0.heap.size w0 w) (hr1 : Kd.C (Kd.int .i64) w A1 l1.length l1) (hc1 : l1.length ≤ c1) (hf1 : ∀ ad, A1 = some ad → 0 < l1.length → ad.block ≠ g) (h : spec_l1Cur_among.f s0_0 s0_1 s0_2 l1 = some (r1, r2, r3)) :
  Calls Tryd.prog 94 #[.pointer (some ⟨g, 0, none⟩), .slice A1 l1.length c1] w fun e w' => e = .returned (.int .i64 r1) ∧ IsS111 w0 w' g s0_0 r2 r3 ∧ Below w0.heap.size w0 w' ∧ KeepBut w w' g none := by
 have HR1 := Az_ hr1
 have HC1 := Az_ hc1
 clear hr1 hc1
 have HI0 := Az_ hI
 have HK := Az_ (KeepBut.refl w g none)
 have HL := Az_ hB.size
 clear hI
 have HW0 := Az_ hB.size
 have HB := Az_ hB
 clear hB
 have H : ((spec_l1Cur_pick.f s0_0 s0_1 s0_2 (l1.length : Int)).bind fun bt108 => (if 0 ≤ bt108.1 then (if bt108.1 < (l1.length : Int) then (some (rd l1 bt108.1, bt108.2.1, bt108.2.2)) else (none)) else (none))) = some (r1, r2, r3) := h
 clear h
 replace H := bqz_ H; obtain ⟨⟨t108, t109, t110⟩, A3, H⟩ := H
 replace H : (if 0 ≤ t108 then (if t108 < (l1.length : Int) then (some (rd l1 t108, t109, t110)) else (none)) else (none)) = some (r1, r2, r3) := H
 by_cases c4 : 0 ≤ t108
 ·rw [if_pos c4] at H
  have c4b0 := decide_eq_true c4
  clear c4
  by_cases c5 : t108 < (l1.length : Int); rotate_left
  ·rw [if_neg c5] at H
   exact absurd H (by simp)
  rw [if_pos c5] at H
  have c5b0 := decide_eq_true c5
  clear c5
  simp only [Option.some.injEq, Prod.mk.injEq] at H
  obtain ⟨rfl, rfl, rfl⟩ := H
  go_enter Tryd.func94, Tryd.ntmps94
  go_wp2_with (((with_reducible refine gate_callee (f := 96) rfl ?_); refine goesL_ (some 9) rfl rfl Tryd.func96 (w162_) rfl #[.pointer (some ⟨g, 0, none⟩), .int .i64 (l1.length : Int)] rfl maz_ ?_; (with_reducible refine (spec_l1Cur_pick.calls g s0_0 s0_1 s0_2 (l1.length : Int) t108 t109 t110 w0 _ ?side1 ?side2 A3.out).mono ?_); (case side1 => repeat (first | (with_reducible first | exact HI0.out | apply IsS111.alloc | apply IsS111.drewN | apply IsS111.drew | apply IsS111.set_1 | apply IsS111.set_2) | exact HI0.out)); (case side2 => repeat (first | (with_reducible first | exact HB.out | apply baz_ | apply bnz_ | apply bdz_ | refine bsz_ ?_ (IsS111.ge HI0.out)) | exact HB.out)); rintro e w6 ⟨rfl, hi, hb, hk⟩; refine ⟨_, rfl, ?_⟩; replace HK := Az_ (KeepBut.trans (w74_) hk (.inl rfl)); replace HB := Az_ (hb); replace HI0 := Az_ (hi); (try clear hb); (try clear hk); (try clear hi); have p111 : 0 ≤ (t108 : Int) := od_; have q111 : t108 < (l1.length : Int) := od_; obtain ⟨ad111, e111, hx111_0⟩ := Kd.at_int HR1.out t108 p111 q111; cases e111; replace hx111_0 := keep_cell HK.out hx111_0 (by first | (rw [add_block]; exact hf1 _ rfl (by omega)) | exact hf1 _ rfl (by omega) | exact hf1 ad111 rfl (by omega)); replace p111 := eq_true p111; replace q111 := eq_true q111))
  go_ret
  exact ⟨w116_, w59_, w78_, w74_⟩
 ·rw [if_neg c4] at H
  exact absurd H (by simp)

def spec_l1Cur_sureRanges.l0 : Nat → List (S100) → Int → Int → List Int → Int → Int → Option ((List (S100)) × Int × Int)
 | 0, _, _, _, _, _, _ => none
 | k + 1, x3, x4, x5, x1000, x1001, x1002 => if x5 > 0 then ((spec_l1Cur_pick.f x1000 x1001 x1002 8).bind fun bt121 => ((spec_l1Cur_among.f x1000 bt121.2.1 bt121.2.2 (([0, 0, 1, 2, 5, 12] : List Int))).bind fun bt127 => (if x3.length < 8796093022208 then (spec_l1Cur_sureRanges.l0 k (x3 ++ [(⟨wrap64 (x4 + (wrap64 (1 + bt121.1))), wrap64 ((wrap64 (x4 + (wrap64 (1 + bt121.1)))) + bt127.1)⟩ : S100)]) (wrap64 ((wrap64 ((wrap64 (x4 + (wrap64 (1 + bt121.1)))) + bt127.1)) + 1)) (wrap64 (x5 - 1)) x1000 bt127.2.1 bt127.2.2) else (none)))) else (some (x3, x1001, x1002))
def spec_l1Cur_sureRanges.f (k : Nat) (s0_0 : List Int) (s0_1 : Int) (s0_2 : Int) : Option ((List (S100)) × Int × Int) := (spec_l1Cur_among.f s0_0 s0_1 s0_2 (([0, 0, 8, 95, 118, 995] : List Int))).bind fun bt115 => ((spec_l1Cur_pick.f s0_0 bt115.2.1 bt115.2.2 6).bind fun bt118 => (spec_l1Cur_sureRanges.l0 k ([] : List (S100)) bt115.1 bt118.1 s0_0 bt118.2.1 bt118.2.2))
set_option maxHeartbeats 8000000 in
set_option maxRecDepth 100000 in
theorem spec_l1Cur_sureRanges.calls (k : Nat) (g : Nat) (s0_0 : List Int) (s0_1 : Int) (s0_2 : Int) (r1 : List (S100)) (r2 : Int) (r3 : Int) (w0 w : World) (hI : IsS111 w0 w g s0_0 s0_1 s0_2) (hB : Below w0.heap.size w0 w) (h : spec_l1Cur_sureRanges.f k s0_0 s0_1 s0_2 = some (r1, r2, r3)) :
  Calls Tryd.prog 193 #[.pointer (some ⟨g, 0, none⟩)] w fun e w' => ∃ v0_ : Value, e = .returned (v0_) ∧ Kd.R k100 100 w' w.heap.size (fun _ => True) v0_ r1 ∧ IsS111 w0 w' g s0_0 r2 r3 ∧ Below w0.heap.size w0 w' ∧ KeepBut w w' g none := by
 have hu100 := Tryd.underlying100
 have HI0 := Az_ hI
 have HK := Az_ (KeepBut.refl w g none)
 have HL := Az_ hB.size
 clear hI
 have HW0 := Az_ hB.size
 have HB := Az_ hB
 clear hB
 have H : ((spec_l1Cur_among.f s0_0 s0_1 s0_2 (([0, 0, 8, 95, 118, 995] : List Int))).bind fun bt115 => ((spec_l1Cur_pick.f s0_0 bt115.2.1 bt115.2.2 6).bind fun bt118 => (spec_l1Cur_sureRanges.l0 k ([] : List (S100)) bt115.1 bt118.1 s0_0 bt118.2.1 bt118.2.2))) = some (r1, r2, r3) := h
 clear h
 obtain ⟨y112, hy112⟩ : ∃ y_ : List Int, y_ = (([0, 0, 8, 95, 118, 995] : List Int)) := ⟨_, rfl⟩
 replace H : ((spec_l1Cur_among.f s0_0 s0_1 s0_2 y112).bind fun bt115 => ((spec_l1Cur_pick.f s0_0 bt115.2.1 bt115.2.2 6).bind fun bt118 => (spec_l1Cur_sureRanges.l0 k ([] : List (S100)) bt115.1 bt118.1 s0_0 bt118.2.1 bt118.2.2))) = some (r1, r2, r3) := by first | (rw [hy112]; with_reducible exact H) | (have H2_ := (Option.bind_some _ _).symm.trans H; rw [hy112]; with_reducible exact H2_) | (have H2_ := (Option.bind_some _ _).symm.trans H; with_reducible exact H2_) | with_reducible exact H | (rw [hy112]; exact H) | exact H
 have Ny112 := Az_ hy112
 clear hy112
 replace H := bqz_ H; obtain ⟨⟨t115, t116, t117⟩, A2, H⟩ := H
 replace H := bqz_ H; obtain ⟨⟨t118, t119, t120⟩, A3, H⟩ := H
 replace H : (spec_l1Cur_sureRanges.l0 k ([] : List (S100)) t115 t118 s0_0 t119 t120) = some (r1, r2, r3) := H
 have H' := Az_ H
 clear H
 go_enter Tryd.func193, Tryd.ntmps193
 go_wp2_with (first | ((with_reducible refine gate_dst (N := 8) rfl ?_); refine Kd.R_lit (Kd.int .i64) _ 3 ?hg (N := 8) ?hd (xs := ([0, 0, 8, 95, 118, 995] : List Int)) (inner := [.int .i64 0, .int .i64 0, .int .i64 8, .int .i64 95, .int .i64 118, .int .i64 995]) (ok := fun _ => True) (okp := fun _ => True) ?hr ?hp (fun _ hk => hk) trivial (Below.refl _ _) (Nat.le_refl _) (by simp) ?_; (case hd => rfl); (case hg => rfl); (case hr => first | (go_simp; done) | (go_simp; rfl)); (case hp => exact (Reps.one (show Kd.M (Kd.int .i64) _ _ _ 0 [.int .i64 0] from rfl) (Reps.one (show Kd.M (Kd.int .i64) _ _ _ 0 [.int .i64 0] from rfl) (Reps.one (show Kd.M (Kd.int .i64) _ _ _ 8 [.int .i64 8] from rfl) (Reps.one (show Kd.M (Kd.int .i64) _ _ _ 95 [.int .i64 95] from rfl) (Reps.one (show Kd.M (Kd.int .i64) _ _ _ 118 [.int .i64 118] from rfl) (Reps.one (show Kd.M (Kd.int .i64) _ _ _ 995 [.int .i64 995] from rfl) (Reps.none _ _)))))))); intro v113 w4 ho5 hb hg_ hnew_; clear hg_ hnew_; (first | rw [← Ny112.out] at ho5 | (simp only [Int.reduceToNat] at ho5; rw [← Ny112.out] at ho5)); have HO114 := Az_ (Kd.R_lower ho5 (keep_size (w := w) (g := g) (row := none) (w74_))); replace HK := Az_ (KeepBut.trans (w74_) (KeepBut.of_below hb g none) (.inl rfl)); replace HB := Az_ (btz_ (w78_) hb); replace HI0 := Az_ (IsS111.below (w59_) hb); clear hb ho5; obtain ⟨Ao6, co6, eo6⟩ := Kd.R_slice HO114.out; subst eo6) | ((with_reducible refine gate_callee (f := 94) rfl ?_); refine goesL_ (some 9) rfl rfl Tryd.func94 (w162_) rfl #[.pointer (some ⟨g, 0, none⟩), .slice Ao6 y112.length co6] rfl maz_ ?_; (with_reducible refine (spec_l1Cur_among.calls g s0_0 s0_1 s0_2 _ _ y112 t115 t116 t117 w0 _ ?side1 ?side2 ?side3 ?side4 ?side5 A2.out).mono ?_); (case side1 => repeat (first | (with_reducible first | exact HI0.out | apply IsS111.alloc | apply IsS111.drewN | apply IsS111.drew | apply IsS111.set_1 | apply IsS111.set_2) | exact HI0.out)); (case side2 => repeat (first | (with_reducible first | exact HB.out | apply baz_ | apply bnz_ | apply bdz_ | refine bsz_ ?_ (IsS111.ge HI0.out)) | exact HB.out)); (case side3 => exact ucz_ ((Kd.R_reads' HO114.out).2.2)); (case side4 => exact (Kd.R_reads' HO114.out).2.1); (case side5 => exact far_slice (IsS111.own_ne HI0.out HO114.out (by decide))); rintro e w7 ⟨rfl, hi, hb, hk⟩; refine ⟨_, rfl, ?_⟩; replace HO114 := Az_ (Kd.R_mono (Kd.R_keep (IsS111.apart (show IsS111 w0 _ g s0_0 s0_1 s0_2 from w59_) (by exact urz_ HO114.out) (by decide)) hk (fun _ h => h.2)) (fun _ h => h.1)); replace HK := Az_ (KeepBut.trans (w74_) hk (.inl rfl)); replace HB := Az_ (hb); replace HI0 := Az_ (hi); (try clear hb); (try clear hk); (try clear hi)) | ((with_reducible refine gate_callee (f := 96) rfl ?_); refine goesL_ (some 11) rfl rfl Tryd.func96 (w162_) rfl #[.pointer (some ⟨g, 0, none⟩), .int .i64 6] rfl maz_ ?_; (with_reducible refine (spec_l1Cur_pick.calls g s0_0 t116 t117 6 t118 t119 t120 w0 _ ?side1 ?side2 A3.out).mono ?_); (case side1 => repeat (first | (with_reducible first | exact HI0.out | apply IsS111.alloc | apply IsS111.drewN | apply IsS111.drew | apply IsS111.set_1 | apply IsS111.set_2) | exact HI0.out)); (case side2 => repeat (first | (with_reducible first | exact HB.out | apply baz_ | apply bnz_ | apply bdz_ | refine bsz_ ?_ (IsS111.ge HI0.out)) | exact HB.out)); rintro e w8 ⟨rfl, hi, hb, hk⟩; refine ⟨_, rfl, ?_⟩; replace HO114 := Az_ (Kd.R_mono (Kd.R_keep (IsS111.apart (show IsS111 w0 _ g s0_0 t116 t117 from w59_) (by exact urz_ HO114.out) (by decide)) hk (fun _ h => h.2)) (fun _ h => h.1)); replace HK := Az_ (KeepBut.trans (w74_) hk (.inl rfl)); replace HB := Az_ (hb); replace HI0 := Az_ (hi); (try clear hb); (try clear hk); (try clear hi)))
 go_loopg [3, 4, 5] k (fun kq v3 v4 v5 w' => ∃ (x3_1 : List (S100)) (x4_1 : Int) (x5_1 : Int) (x1001_1 : Int) (x1002_1 : Int), v4 = .int .i64 x4_1 ∧ v5 = .int .i64 x5_1 ∧ Aside0 (spec_l1Cur_sureRanges.l0 kq x3_1 x4_1 x5_1 s0_0 x1001_1 x1002_1 = some (r1, r2, r3)) ∧ Aside0 (kq ≤ k) ∧ Aside0 (Kd.R k100 100 w' w.heap.size (fun _ => True) v3 x3_1) ∧ Aside0 (IsS111 w0 w' g s0_0 x1001_1 x1002_1) ∧ Aside0 (KeepBut w w' g none) ∧ Aside0 (Below w0.heap.size w0 w'))
 case atStart => exact ⟨(([] : List (S100))), (t115), (t118), (t119), (t120), qaz_, qaz_, H', ⟨Nat.le_refl _⟩, ⟨w80_⟩, ⟨w59_⟩, ⟨w74_⟩, ⟨w78_⟩⟩
 case round =>
  clear H'
  obtain ⟨x3_1, x4_1, x5_1, x1001_1, x1002_1, rfl, rfl, HA, HK1, HO_3, HI0, HK, HB⟩ := hrel
  cases gk with
  | zero => exact absurd HA.out (by simp [spec_l1Cur_sureRanges.l0])
  | succ k1 =>
   have H := HA.out
   clear HA
   simp only [spec_l1Cur_sureRanges.l0] at H
   by_cases c9 : x5_1 > 0
   ·rw [if_pos c9] at H
    have c9b0 := decide_eq_true c9
    clear c9
    replace H := bqz_ H; obtain ⟨⟨t121, t122, t123⟩, A10, H⟩ := H
    replace H : ((spec_l1Cur_among.f s0_0 t122 t123 (([0, 0, 1, 2, 5, 12] : List Int))).bind fun bt127 => (if x3_1.length < 8796093022208 then (spec_l1Cur_sureRanges.l0 k1 (x3_1 ++ [(⟨wrap64 (x4_1 + (wrap64 (1 + t121))), wrap64 ((wrap64 (x4_1 + (wrap64 (1 + t121)))) + bt127.1)⟩ : S100)]) (wrap64 ((wrap64 ((wrap64 (x4_1 + (wrap64 (1 + t121)))) + bt127.1)) + 1)) (wrap64 (x5_1 - 1)) s0_0 bt127.2.1 bt127.2.2) else (none))) = some (r1, r2, r3) := H
    obtain ⟨y124, hy124⟩ : ∃ y_ : List Int, y_ = (([0, 0, 1, 2, 5, 12] : List Int)) := ⟨_, rfl⟩
    replace H : ((spec_l1Cur_among.f s0_0 t122 t123 y124).bind fun bt127 => (if x3_1.length < 8796093022208 then (spec_l1Cur_sureRanges.l0 k1 (x3_1 ++ [(⟨wrap64 (x4_1 + (wrap64 (1 + t121))), wrap64 ((wrap64 (x4_1 + (wrap64 (1 + t121)))) + bt127.1)⟩ : S100)]) (wrap64 ((wrap64 ((wrap64 (x4_1 + (wrap64 (1 + t121)))) + bt127.1)) + 1)) (wrap64 (x5_1 - 1)) s0_0 bt127.2.1 bt127.2.2) else (none))) = some (r1, r2, r3) := by first | (rw [hy124]; with_reducible exact H) | (have H2_ := (Option.bind_some _ _).symm.trans H; rw [hy124]; with_reducible exact H2_) | (have H2_ := (Option.bind_some _ _).symm.trans H; with_reducible exact H2_) | with_reducible exact H | (rw [hy124]; exact H) | exact H
    have Ny124 := Az_ hy124
    clear hy124
    replace H := bqz_ H; obtain ⟨⟨t127, t128, t129⟩, A11, H⟩ := H
    replace H : (if x3_1.length < 8796093022208 then (spec_l1Cur_sureRanges.l0 k1 (x3_1 ++ [(⟨wrap64 (x4_1 + (wrap64 (1 + t121))), wrap64 ((wrap64 (x4_1 + (wrap64 (1 + t121)))) + t127)⟩ : S100)]) (wrap64 ((wrap64 ((wrap64 (x4_1 + (wrap64 (1 + t121)))) + t127)) + 1)) (wrap64 (x5_1 - 1)) s0_0 t128 t129) else (none)) = some (r1, r2, r3) := H
    by_cases c12 : x3_1.length < 8796093022208; rotate_left
    ·rw [if_neg c12] at H
     exact absurd H (by simp)
    rw [if_pos c12] at H
    have LMc12 := Az_ c12
    clear c12
    obtain ⟨y131, hy131⟩ : ∃ y_ : List (S100), y_ = (x3_1 ++ [(⟨wrap64 (x4_1 + (wrap64 (1 + t121))), wrap64 ((wrap64 (x4_1 + (wrap64 (1 + t121)))) + t127)⟩ : S100)]) := ⟨_, rfl⟩
    replace H : (spec_l1Cur_sureRanges.l0 k1 y131 (wrap64 ((wrap64 ((wrap64 (x4_1 + (wrap64 (1 + t121)))) + t127)) + 1)) (wrap64 (x5_1 - 1)) s0_0 t128 t129) = some (r1, r2, r3) := by first | (rw [hy131]; with_reducible exact H) | (have H2_ := (Option.bind_some _ _).symm.trans H; rw [hy131]; with_reducible exact H2_) | (have H2_ := (Option.bind_some _ _).symm.trans H; with_reducible exact H2_) | with_reducible exact H | (rw [hy131]; exact H) | exact H
    have Ny131 := Az_ hy131
    clear hy131
    have H' := Az_ H
    clear H
    go_wp2_with (first | ((with_reducible refine gate_callee (f := 96) rfl ?_); refine goesL_ (some 18) rfl rfl Tryd.func96 (w162_) rfl #[.pointer (some ⟨g, 0, none⟩), .int .i64 8] rfl maz_ ?_; (with_reducible refine (spec_l1Cur_pick.calls g s0_0 x1001_1 x1002_1 8 t121 t122 t123 w0 _ ?side1 ?side2 A10.out).mono ?_); (case side1 => repeat (first | (with_reducible first | exact HI0.out | apply IsS111.alloc | apply IsS111.drewN | apply IsS111.drew | apply IsS111.set_1 | apply IsS111.set_2) | exact HI0.out)); (case side2 => repeat (first | (with_reducible first | exact HB.out | apply baz_ | apply bnz_ | apply bdz_ | refine bsz_ ?_ (IsS111.ge HI0.out)) | exact HB.out)); rintro e w13 ⟨rfl, hi, hb, hk⟩; refine ⟨_, rfl, ?_⟩; replace HO_3 := Az_ (Kd.R_mono (Kd.R_keep (IsS111.apart (show IsS111 w0 _ g s0_0 x1001_1 x1002_1 from w59_) (by exact urz_ HO_3.out) (by decide)) hk (fun _ h => h.2)) (fun _ h => h.1)); replace HK := Az_ (KeepBut.trans (w74_) hk (.inl rfl)); replace HB := Az_ (hb); replace HI0 := Az_ (hi); (try clear hb); (try clear hk); (try clear hi)) | ((with_reducible refine gate_dst (N := 24) rfl ?_); refine Kd.R_lit (Kd.int .i64) _ 3 ?hg (N := 24) ?hd (xs := ([0, 0, 1, 2, 5, 12] : List Int)) (inner := [.int .i64 0, .int .i64 0, .int .i64 1, .int .i64 2, .int .i64 5, .int .i64 12]) (ok := fun _ => True) (okp := fun _ => True) ?hr ?hp (fun _ hk => hk) trivial (Below.refl _ _) (Nat.le_refl _) (by simp) ?_; (case hd => rfl); (case hg => rfl); (case hr => first | (go_simp; done) | (go_simp; rfl)); (case hp => exact (Reps.one (show Kd.M (Kd.int .i64) _ _ _ 0 [.int .i64 0] from rfl) (Reps.one (show Kd.M (Kd.int .i64) _ _ _ 0 [.int .i64 0] from rfl) (Reps.one (show Kd.M (Kd.int .i64) _ _ _ 1 [.int .i64 1] from rfl) (Reps.one (show Kd.M (Kd.int .i64) _ _ _ 2 [.int .i64 2] from rfl) (Reps.one (show Kd.M (Kd.int .i64) _ _ _ 5 [.int .i64 5] from rfl) (Reps.one (show Kd.M (Kd.int .i64) _ _ _ 12 [.int .i64 12] from rfl) (Reps.none _ _)))))))); intro v125 w14 ho15 hb hg_ hnew_; clear hg_ hnew_; (first | rw [← Ny124.out] at ho15 | (simp only [Int.reduceToNat] at ho15; rw [← Ny124.out] at ho15)); replace HO_3 := Az_ (Kd.R_below (by exact urz_ HO_3.out) hb); have HO126 := Az_ (Kd.R_lower ho15 (keep_size (w := w) (g := g) (row := none) (w74_))); replace HK := Az_ (KeepBut.trans (w74_) (KeepBut.of_below hb g none) (.inl rfl)); replace HB := Az_ (btz_ (w78_) hb); replace HI0 := Az_ (IsS111.below (w59_) hb); clear hb ho15; obtain ⟨Ao16, co16, eo16⟩ := Kd.R_slice HO126.out; subst eo16) | ((with_reducible refine gate_callee (f := 94) rfl ?_); refine goesL_ (some 25) rfl rfl Tryd.func94 (w162_) rfl #[.pointer (some ⟨g, 0, none⟩), .slice Ao16 y124.length co16] rfl maz_ ?_; (with_reducible refine (spec_l1Cur_among.calls g s0_0 t122 t123 _ _ y124 t127 t128 t129 w0 _ ?side1 ?side2 ?side3 ?side4 ?side5 A11.out).mono ?_); (case side1 => repeat (first | (with_reducible first | exact HI0.out | apply IsS111.alloc | apply IsS111.drewN | apply IsS111.drew | apply IsS111.set_1 | apply IsS111.set_2) | exact HI0.out)); (case side2 => repeat (first | (with_reducible first | exact HB.out | apply baz_ | apply bnz_ | apply bdz_ | refine bsz_ ?_ (IsS111.ge HI0.out)) | exact HB.out)); (case side3 => exact ucz_ ((Kd.R_reads' HO126.out).2.2)); (case side4 => exact (Kd.R_reads' HO126.out).2.1); (case side5 => exact far_slice (IsS111.own_ne HI0.out HO126.out (by decide))); rintro e w17 ⟨rfl, hi, hb, hk⟩; refine ⟨_, rfl, ?_⟩; replace HO_3 := Az_ (Kd.R_mono (Kd.R_keep (IsS111.apart (show IsS111 w0 _ g s0_0 t122 t123 from w59_) (by exact urz_ HO_3.out) (by decide)) hk (fun _ h => h.2)) (fun _ h => h.1)); replace HO126 := Az_ (Kd.R_mono (Kd.R_keep (IsS111.apart (show IsS111 w0 _ g s0_0 t122 t123 from w59_) (by exact urz_ HO126.out) (by decide)) hk (fun _ h => h.2)) (fun _ h => h.1)); replace HK := Az_ (KeepBut.trans (w74_) hk (.inl rfl)); replace HB := Az_ (hb); replace HI0 := Az_ (hi); (try clear hb); (try clear hk); (try clear hi)) | ((with_reducible refine gate_dst (N := 6) rfl ?_); refine box_event ?hg (N := 6) ?hd (cs := #[.int .i64 0, .int .i64 0]) (t := 100) ?hr ?_; (case hd => rfl); (case hg => rfl); (case hr => first | (go_simp; done) | (go_simp; rfl)); intro gb130 hg w18 hbox hb; replace HO_3 := Az_ (Kd.R_below (Kd.R_elderB (by exact urz_ HO_3.out) gb130 (Nat.le_of_eq hg.symm)) hb); replace HO126 := Az_ (Kd.R_below (by exact urz_ HO126.out) hb); replace HB := Az_ (btz_ (w78_) hb); have BK130 := Az_ (hbox); have GW130 := Az_ ((by rw [hg]; exact (keep_size (w := w) (g := g) (row := none) (w74_)) : w.heap.size ≤ gb130)); have GE130 := Az_ ((Nat.le_trans HW0.out (by rw [hg]; exact (keep_size (w := w) (g := g) (row := none) (w74_)) : w.heap.size ≤ gb130) : w0.heap.size ≤ gb130)); replace HK := Az_ (KeepBut.trans (w74_) (KeepBut.of_below hb g none) (.inl rfl)); have NB0_130 := Az_ ((by rw [hg]; exact Nat.ne_of_lt (IsS111.lt (show IsS111 w0 _ g s0_0 t128 t129 from w59_)) : g ≠ gb130)); have NB130_0 := Az_ ((by rw [hg]; exact Nat.ne_of_gt (IsS111.lt (show IsS111 w0 _ g s0_0 t128 t129 from w59_)) : gb130 ≠ g)); replace HI0 := Az_ (IsS111.below (w59_) hb); clear hb hbox hg; have hnb19 := NB130_0.out; have hnc19 := NB0_130.out; have hcz20_0 : w18.cell? ⟨gb130, 0, none⟩ = some (.int .i64 0) := (blk_cell BK130.out 0).trans rfl; have hcz20_1 : w18.cell? ⟨gb130, 1, none⟩ = some (.int .i64 0) := (blk_cell BK130.out 1).trans rfl; have hfz20_0 := blk_frozen BK130.out 0; have hfz20_1 := blk_frozen BK130.out 1) | ((with_reducible refine gate_builtin (b := .append) (xs := #[.tmp 31, .tmp 33]) rfl ?_); at_builtin; refine Kd.R_append k100 w.heap.size rfl (.tmp 31) (.tmp 33) 86 100 (.agg #[(.int .i64 0), (.int .i64 0)]) 16 rfl Tryd.underlying86 info100 rfl (by decide) (by omega) u3 x3_1 (⟨wrap64 (x4_1 + (wrap64 (1 + t121))), wrap64 ((wrap64 (x4_1 + (wrap64 (1 + t121)))) + t127)⟩ : S100) [.int .i64 (wrap64 (x4_1 + (wrap64 (1 + t121)))), .int .i64 (wrap64 ((wrap64 (x4_1 + (wrap64 (1 + t121)))) + t127))] (fun k_ => k_ ≠ gb130) (fun _ => False) rfl (w135_) ?aP (fun _ hk => hk.elim) ?aF ?aO (Below.refl _ _) ?aS ?aL ?_; (case aP => exact k100_mkM _ _ _ (⟨wrap64 (x4_1 + (wrap64 (1 + t121))), wrap64 ((wrap64 (x4_1 + (wrap64 (1 + t121)))) + t127)⟩ : S100)); (case aF => exact (fun k_ hk => Kd.freshB (g := gb130) (o := .cells #[.int .i64 (wrap64 (x4_1 + (wrap64 (1 + t121)))), .int .i64 (wrap64 ((wrap64 (x4_1 + (wrap64 (1 + t121)))) + t127))] 100 (0, 0)) (w13_) k_ hk)); (case aO => exact (by (with_reducible repeat (first | apply raz_ | apply rnz_ | apply rdz_)); exact Kd.R_mono (Kd.R_far (p := ⟨gb130, 1, none⟩) (Kd.R_far (p := ⟨gb130, 0, none⟩) (Kd.R_mono HO_3.out (fun k_ hk => (⟨hk, hk.2⟩ : _ ∧ k_ ≠ gb130))) (fun _ hk => hk.2) (.int .i64 (wrap64 (x4_1 + (wrap64 (1 + t121)))))) (fun _ hk => hk.2) (.int .i64 (wrap64 ((wrap64 (x4_1 + (wrap64 (1 + t121)))) + t127)))) (fun _ hk => hk.1.2))); (case aS => exact (keep_size (w := w) (g := g) (row := none) (w55_))); (case aL => have := LMc12.out; omega); intro v132 w21 ho hb hg hat; rw [← Ny131.out] at ho; replace HO126 := Az_ (Kd.R_over' (by (with_reducible repeat (first | apply raz_ | apply rnz_ | apply rdz_)); exact (Kd.R_mono (Kd.R_far (p := ⟨gb130, 1, none⟩) (Kd.R_far (p := ⟨gb130, 0, none⟩) (Kd.R_types HO126.out BK130.out (by decide)) (fun _ hk => hk.2) (.int .i64 (wrap64 (x4_1 + (wrap64 (1 + t121)))))) (fun _ hk => hk.2) (.int .i64 (wrap64 ((wrap64 (x4_1 + (wrap64 (1 + t121)))) + t127)))) (fun _ h_ => h_.1))) (Kd.R_typed (by (with_reducible repeat (first | apply raz_ | apply rnz_ | apply rdz_)); exact (Kd.R_mono (Kd.R_far (p := ⟨gb130, 1, none⟩) (Kd.R_far (p := ⟨gb130, 0, none⟩) (Kd.R_mono HO_3.out (fun k_ hk => (⟨hk, hk.2⟩ : _ ∧ k_ ≠ gb130))) (fun _ hk => hk.2) (.int .i64 (wrap64 (x4_1 + (wrap64 (1 + t121)))))) (fun _ hk => hk.2) (.int .i64 (wrap64 ((wrap64 (x4_1 + (wrap64 (1 + t121)))) + t127)))) (fun _ h_ => h_.1)))) (by decide) hg); replace BK130 := Az_ (blk_grown (g := gb130) (o := .cells #[.int .i64 (wrap64 (x4_1 + (wrap64 (1 + t121)))), .int .i64 (wrap64 ((wrap64 (x4_1 + (wrap64 (1 + t121)))) + t127))] 100 (0, 0)) (w13_) hg (Kd.R_away HO_3.out (fun _ hk => hk.2))); replace HB := Az_ (below_weaken (w61_) HL.out hb); replace HI0 := Az_ (IsS111.grown (show IsS111 w0 _ g s0_0 t128 t129 from w53_) hg (IsS111.own_ne HI0.out HO_3.out (by decide))); replace HK := Az_ (KeepBut.trans (w55_) (KeepBut.of_grown hg g) (Kd.R_base2 HO_3.out)); have HO133 := Az_ (ho); clear HO_3; clear ho hb hg hat))
    go_roundg k1
    case measure => have := HK1.out; omega
    case rel => exact ⟨(y131), (wrap64 ((wrap64 ((wrap64 (x4_1 + (wrap64 (1 + t121)))) + t127)) + 1)), (wrap64 (x5_1 - 1)), (t128), (t129), qaz_, qaz_, H', ⟨w144_⟩, ⟨by (with_reducible repeat (first | apply raz_ | apply rnz_ | apply rdz_)); exact Kd.R_mono HO133.out (fun _ hk => trivial)⟩, ⟨w53_⟩, ⟨w55_⟩, ⟨w61_⟩⟩
   ·rw [if_neg c9] at H
    have c9b0 := decide_eq_false c9
    clear c9
    simp only [Option.some.injEq, Prod.mk.injEq] at H
    obtain ⟨rfl, rfl, rfl⟩ := H
    go_wp2
    go_ret
    exact ⟨_, w116_, w124_, w59_, w78_, w74_⟩


def spec_l1Cur_ranges.f (k : Nat) (s0_0 : List Int) (s0_1 : Int) (s0_2 : Int) : Option ((List (S100)) × Int × Int) := (spec_l1Cur_sureRanges.f k s0_0 s0_1 s0_2).bind fun bt134 => (if (bt134.1.length : Int) = 0 then (some (bt134.1, bt134.2.1, bt134.2.2)) else ((spec_l1Cur_pick.f s0_0 bt134.2.1 bt134.2.2 16).bind fun bt139 => (if bt139.1 = 0 then ((spec_l1Cur_among.f s0_0 bt139.2.1 bt139.2.2 (([0, (-1), 2000, 2001, 4611686018427387904] : List Int))).bind fun bt145 => (if 0 < (bt134.1.length : Int) then (some ((bt134.1.set (0 : Int).toNat (⟨bt145.1, (rd_T100 bt134.1 0).f1⟩ : S100)), bt145.2.1, bt145.2.2)) else (none))) else (if bt139.1 = 1 then ((spec_l1Cur_among.f s0_0 bt139.2.1 bt139.2.2 (([0, 2000, 2001, (-1), 4611686018427387904] : List Int))).bind fun bt152 => (if 0 ≤ (wrap64 ((bt134.1.length : Int) - 1)) then (if (wrap64 ((bt134.1.length : Int) - 1)) < (bt134.1.length : Int) then (some ((bt134.1.set ((wrap64 ((bt134.1.length : Int) - 1)) : Int).toNat (⟨(rd_T100 bt134.1 (wrap64 ((bt134.1.length : Int) - 1))).f0, bt152.1⟩ : S100)), bt152.2.1, bt152.2.2)) else (none)) else (none))) else (if bt139.1 = 2 then (if 0 ≤ (wrap64 ((bt134.1.length : Int) - 1)) then (if (wrap64 ((bt134.1.length : Int) - 1)) < (bt134.1.length : Int) then (if bt134.1.length < 8796093022208 then (some ((bt134.1 ++ [(⟨wrap64 (((rd_T100 bt134.1 (wrap64 ((bt134.1.length : Int) - 1))).f1) + 1), wrap64 (((rd_T100 bt134.1 (wrap64 ((bt134.1.length : Int) - 1))).f1) + 3)⟩ : S100)]), bt139.2.1, bt139.2.2)) else (none)) else (none)) else (none)) else (some (bt134.1, bt139.2.1, bt139.2.2)))))))
def spec_l1Cur_ranges.T10 : Bool × List (List Nat × List Nat) := (true, [([], []), ([], []), ([], []), ([2], [2]), ([3], [3]), ([1, 4], [1, 4]), ([5], [5]), ([6], [6]), ([7], [7]), ([], []), ([], []), ([10], [10]), ([11], [11]), ([9, 12], [9, 12]), ([13], [13]), ([14], [14]), ([15], [15]), ([8, 16], [8, 16]), ([17], [17]), ([0, 18], [0, 18]), ([19, 19, 0, 1, 2, 3, 4, 5, 6, 7, 8, 9, 10, 11, 12, 13, 14, 15, 16, 17, 18, 19], [0, 1, 2, 9, 10, 19])])
def spec_l1Cur_ranges.B10 : List Nat := [0, 0, 0, 4, 12, 30, 62, 126, 254, 0, 0, 1024, 3072, 7680, 15872, 32256, 65024, 131070, 262142, 524287, 1048575]
theorem spec_l1Cur_ranges.tab10 : rtab .any (opsOf Tryd.f152 10) = spec_l1Cur_ranges.T10 := by kernel_rfl
theorem spec_l1Cur_ranges.bits10 : waitsOk spec_l1Cur_ranges.T10.2 spec_l1Cur_ranges.B10 = true := by kernel_rfl
set_option maxHeartbeats 8000000 in
set_option maxRecDepth 100000 in
theorem spec_l1Cur_ranges.calls (k : Nat) (g : Nat) (s0_0 : List Int) (s0_1 : Int) (s0_2 : Int) (r1 : List (S100)) (r2 : Int) (r3 : Int) (w0 w : World) (hI : IsS111 w0 w g s0_0 s0_1 s0_2) (hB : Below w0.heap.size w0 w) (h : spec_l1Cur_ranges.f k s0_0 s0_1 s0_2 = some (r1, r2, r3)) :
  Calls Tryd.prog 152 #[.pointer (some ⟨g, 0, none⟩)] w fun e w' => ∃ v0_ : Value, e = .returned (v0_) ∧ Kd.R k100 100 w' w.heap.size (fun _ => True) v0_ r1 ∧ IsS111 w0 w' g s0_0 r2 r3 ∧ Below w0.heap.size w0 w' ∧ KeepBut w w' g none := by
 have hu100 := Tryd.underlying100
 have HI0 := Az_ hI
 have HK := Az_ (KeepBut.refl w g none)
 have HL := Az_ hB.size
 clear hI
 have HW0 := Az_ hB.size
 have HB := Az_ hB
 clear hB
 have H : ((spec_l1Cur_sureRanges.f k s0_0 s0_1 s0_2).bind fun bt134 => (if (bt134.1.length : Int) = 0 then (some (bt134.1, bt134.2.1, bt134.2.2)) else ((spec_l1Cur_pick.f s0_0 bt134.2.1 bt134.2.2 16).bind fun bt139 => (if bt139.1 = 0 then ((spec_l1Cur_among.f s0_0 bt139.2.1 bt139.2.2 (([0, (-1), 2000, 2001, 4611686018427387904] : List Int))).bind fun bt145 => (if 0 < (bt134.1.length : Int) then (some ((bt134.1.set (0 : Int).toNat (⟨bt145.1, (rd_T100 bt134.1 0).f1⟩ : S100)), bt145.2.1, bt145.2.2)) else (none))) else (if bt139.1 = 1 then ((spec_l1Cur_among.f s0_0 bt139.2.1 bt139.2.2 (([0, 2000, 2001, (-1), 4611686018427387904] : List Int))).bind fun bt152 => (if 0 ≤ (wrap64 ((bt134.1.length : Int) - 1)) then (if (wrap64 ((bt134.1.length : Int) - 1)) < (bt134.1.length : Int) then (some ((bt134.1.set ((wrap64 ((bt134.1.length : Int) - 1)) : Int).toNat (⟨(rd_T100 bt134.1 (wrap64 ((bt134.1.length : Int) - 1))).f0, bt152.1⟩ : S100)), bt152.2.1, bt152.2.2)) else (none)) else (none))) else (if bt139.1 = 2 then (if 0 ≤ (wrap64 ((bt134.1.length : Int) - 1)) then (if (wrap64 ((bt134.1.length : Int) - 1)) < (bt134.1.length : Int) then (if bt134.1.length < 8796093022208 then (some ((bt134.1 ++ [(⟨wrap64 (((rd_T100 bt134.1 (wrap64 ((bt134.1.length : Int) - 1))).f1) + 1), wrap64 (((rd_T100 bt134.1 (wrap64 ((bt134.1.length : Int) - 1))).f1) + 3)⟩ : S100)]), bt139.2.1, bt139.2.2)) else (none)) else (none)) else (none)) else (some (bt134.1, bt139.2.1, bt139.2.2)))))))) = some (r1, r2, r3) := h
 clear h
 replace H := bqz_ H; obtain ⟨⟨t134, t137, t138⟩, A2, H⟩ := H
 replace H : (if (t134.length : Int) = 0 then (some (t134, t137, t138)) else ((spec_l1Cur_pick.f s0_0 t137 t138 16).bind fun bt139 => (if bt139.1 = 0 then ((spec_l1Cur_among.f s0_0 bt139.2.1 bt139.2.2 (([0, (-1), 2000, 2001, 4611686018427387904] : List Int))).bind fun bt145 => (if 0 < (t134.length : Int) then (some ((t134.set (0 : Int).toNat (⟨bt145.1, (rd_T100 t134 0).f1⟩ : S100)), bt145.2.1, bt145.2.2)) else (none))) else (if bt139.1 = 1 then ((spec_l1Cur_among.f s0_0 bt139.2.1 bt139.2.2 (([0, 2000, 2001, (-1), 4611686018427387904] : List Int))).bind fun bt152 => (if 0 ≤ (wrap64 ((t134.length : Int) - 1)) then (if (wrap64 ((t134.length : Int) - 1)) < (t134.length : Int) then (some ((t134.set ((wrap64 ((t134.length : Int) - 1)) : Int).toNat (⟨(rd_T100 t134 (wrap64 ((t134.length : Int) - 1))).f0, bt152.1⟩ : S100)), bt152.2.1, bt152.2.2)) else (none)) else (none))) else (if bt139.1 = 2 then (if 0 ≤ (wrap64 ((t134.length : Int) - 1)) then (if (wrap64 ((t134.length : Int) - 1)) < (t134.length : Int) then (if t134.length < 8796093022208 then (some ((t134 ++ [(⟨wrap64 (((rd_T100 t134 (wrap64 ((t134.length : Int) - 1))).f1) + 1), wrap64 (((rd_T100 t134 (wrap64 ((t134.length : Int) - 1))).f1) + 3)⟩ : S100)]), bt139.2.1, bt139.2.2)) else (none)) else (none)) else (none)) else (some (t134, bt139.2.1, bt139.2.2))))))) = some (r1, r2, r3) := H
 by_cases c3 : (t134.length : Int) = 0
 ·rw [if_pos c3] at H
  have c3b0 : ((t134.length : Int) == 0) = true := beq_iff_eq.mpr c3
  have c3b1 : ((t134.length : Int) != 0) = false := bne_eq_false_iff_eq.mpr c3
  clear c3
  simp only [Option.some.injEq, Prod.mk.injEq] at H
  obtain ⟨rfl, rfl, rfl⟩ := H
  go_enter Tryd.func152, Tryd.ntmps152
  go_wp2_with (((with_reducible refine gate_callee (f := 193) rfl ?_); refine goesL_ (some 5) rfl rfl Tryd.func193 (w162_) rfl #[.pointer (some ⟨g, 0, none⟩)] rfl maz_ ?_; (with_reducible refine (spec_l1Cur_sureRanges.calls k g s0_0 s0_1 s0_2 t134 t137 t138 w0 _ ?side1 ?side2 A2.out).mono ?_); (case side1 => repeat (first | (with_reducible first | exact HI0.out | apply IsS111.alloc | apply IsS111.drewN | apply IsS111.drew | apply IsS111.set_1 | apply IsS111.set_2) | exact HI0.out)); (case side2 => repeat (first | (with_reducible first | exact HB.out | apply baz_ | apply bnz_ | apply bdz_ | refine bsz_ ?_ (IsS111.ge HI0.out)) | exact HB.out)); rintro e w4 ⟨v135, rfl, ho0, hi, hb, hk⟩; refine ⟨_, rfl, ?_⟩; have HO136 := Az_ (Kd.R_lower ho0 (keep_size (w := w) (g := g) (row := none) (w74_))); replace HK := Az_ (KeepBut.trans (w74_) hk (.inl rfl)); replace HB := Az_ (hb); replace HI0 := Az_ (hi); (try clear hb); (try clear hk); (try clear hi); (try clear ho0); obtain ⟨Ao5, co5, eo5⟩ := Kd.R_slice HO136.out; subst eo5))
  go_ret
  exact ⟨_, w116_, w118_, w59_, w78_, w74_⟩
 ·rw [if_neg c3] at H
  have c3b0 : ((t134.length : Int) == 0) = false := beq_eq_false_iff_ne.mpr c3
  have c3b1 : ((t134.length : Int) != 0) = true := bne_iff_ne.mpr c3
  have c3b2 : ¬ (t134 = []) := fun h_ => c3 (by rw [h_]; rfl)
  replace H := bqz_ H; obtain ⟨⟨t139, t140, t141⟩, A6, H⟩ := H
  replace H : (if t139 = 0 then ((spec_l1Cur_among.f s0_0 t140 t141 (([0, (-1), 2000, 2001, 4611686018427387904] : List Int))).bind fun bt145 => (if 0 < (t134.length : Int) then (some ((t134.set (0 : Int).toNat (⟨bt145.1, (rd_T100 t134 0).f1⟩ : S100)), bt145.2.1, bt145.2.2)) else (none))) else (if t139 = 1 then ((spec_l1Cur_among.f s0_0 t140 t141 (([0, 2000, 2001, (-1), 4611686018427387904] : List Int))).bind fun bt152 => (if 0 ≤ (wrap64 ((t134.length : Int) - 1)) then (if (wrap64 ((t134.length : Int) - 1)) < (t134.length : Int) then (some ((t134.set ((wrap64 ((t134.length : Int) - 1)) : Int).toNat (⟨(rd_T100 t134 (wrap64 ((t134.length : Int) - 1))).f0, bt152.1⟩ : S100)), bt152.2.1, bt152.2.2)) else (none)) else (none))) else (if t139 = 2 then (if 0 ≤ (wrap64 ((t134.length : Int) - 1)) then (if (wrap64 ((t134.length : Int) - 1)) < (t134.length : Int) then (if t134.length < 8796093022208 then (some ((t134 ++ [(⟨wrap64 (((rd_T100 t134 (wrap64 ((t134.length : Int) - 1))).f1) + 1), wrap64 (((rd_T100 t134 (wrap64 ((t134.length : Int) - 1))).f1) + 3)⟩ : S100)]), t140, t141)) else (none)) else (none)) else (none)) else (some (t134, t140, t141))))) = some (r1, r2, r3) := H
  by_cases c7 : t139 = 0
  ·rw [if_pos c7] at H
   have c7b0 : (t139 == 0) = true := beq_iff_eq.mpr c7
   have c7b1 : (t139 != 0) = false := bne_eq_false_iff_eq.mpr c7
   clear c7
   obtain ⟨y142, hy142⟩ : ∃ y_ : List Int, y_ = (([0, (-1), 2000, 2001, 4611686018427387904] : List Int)) := ⟨_, rfl⟩
   replace H : ((spec_l1Cur_among.f s0_0 t140 t141 y142).bind fun bt145 => (if 0 < (t134.length : Int) then (some ((t134.set (0 : Int).toNat (⟨bt145.1, (rd_T100 t134 0).f1⟩ : S100)), bt145.2.1, bt145.2.2)) else (none))) = some (r1, r2, r3) := by first | (rw [hy142]; with_reducible exact H) | (have H2_ := (Option.bind_some _ _).symm.trans H; rw [hy142]; with_reducible exact H2_) | (have H2_ := (Option.bind_some _ _).symm.trans H; with_reducible exact H2_) | with_reducible exact H | (rw [hy142]; exact H) | exact H
   have Ny142 := Az_ hy142
   clear hy142
   replace H := bqz_ H; obtain ⟨⟨t145, t146, t147⟩, A8, H⟩ := H
   replace H : (if 0 < (t134.length : Int) then (some ((t134.set (0 : Int).toNat (⟨t145, (rd_T100 t134 0).f1⟩ : S100)), t146, t147)) else (none)) = some (r1, r2, r3) := H
   by_cases c9 : 0 < (t134.length : Int); rotate_left
   ·rw [if_neg c9] at H
    exact absurd H (by simp)
   rw [if_pos c9] at H
   have c9b0 := decide_eq_true c9
   have c9b1 : decide (0 < t134.length) = true := decide_eq_true (by omega)
   clear c9
   obtain ⟨y148, hy148⟩ : ∃ y_ : List (S100), y_ = (t134.set (0 : Int).toNat (⟨t145, (rd_T100 t134 0).f1⟩ : S100)) := ⟨_, rfl⟩
   replace H : (some (y148, t146, t147)) = some (r1, r2, r3) := by first | (rw [hy148]; with_reducible exact H) | (have H2_ := (Option.bind_some _ _).symm.trans H; rw [hy148]; with_reducible exact H2_) | (have H2_ := (Option.bind_some _ _).symm.trans H; with_reducible exact H2_) | with_reducible exact H | (rw [hy148]; exact H) | exact H
   have Ny148 := Az_ hy148
   clear hy148
   simp only [Option.some.injEq, Prod.mk.injEq] at H
   obtain ⟨rfl, rfl, rfl⟩ := H
   go_enter Tryd.func152, Tryd.ntmps152
   go_wp2_with (first | ((with_reducible refine gate_callee (f := 193) rfl ?_); refine goesL_ (some 5) rfl rfl Tryd.func193 (w162_) rfl #[.pointer (some ⟨g, 0, none⟩)] rfl maz_ ?_; (with_reducible refine (spec_l1Cur_sureRanges.calls k g s0_0 s0_1 s0_2 t134 t137 t138 w0 _ ?side1 ?side2 A2.out).mono ?_); (case side1 => repeat (first | (with_reducible first | exact HI0.out | apply IsS111.alloc | apply IsS111.drewN | apply IsS111.drew | apply IsS111.set_1 | apply IsS111.set_2) | exact HI0.out)); (case side2 => repeat (first | (with_reducible first | exact HB.out | apply baz_ | apply bnz_ | apply bdz_ | refine bsz_ ?_ (IsS111.ge HI0.out)) | exact HB.out)); rintro e w11 ⟨v135, rfl, ho0, hi, hb, hk⟩; refine ⟨_, rfl, ?_⟩; have HO136 := Az_ (Kd.R_lower ho0 (keep_size (w := w) (g := g) (row := none) (w74_))); replace HK := Az_ (KeepBut.trans (w74_) hk (.inl rfl)); replace HB := Az_ (hb); replace HI0 := Az_ (hi); (try clear hb); (try clear hk); (try clear hi); (try clear ho0); obtain ⟨Ao12, co12, eo12⟩ := Kd.R_slice HO136.out; subst eo12) | ((with_reducible refine gate_callee (f := 96) rfl ?_); refine goesL_ (some 11) rfl rfl Tryd.func96 (w162_) rfl #[.pointer (some ⟨g, 0, none⟩), .int .i64 16] rfl maz_ ?_; (with_reducible refine (spec_l1Cur_pick.calls g s0_0 t137 t138 16 t139 t140 t141 w0 _ ?side1 ?side2 A6.out).mono ?_); (case side1 => repeat (first | (with_reducible first | exact HI0.out | apply IsS111.alloc | apply IsS111.drewN | apply IsS111.drew | apply IsS111.set_1 | apply IsS111.set_2) | exact HI0.out)); (case side2 => repeat (first | (with_reducible first | exact HB.out | apply baz_ | apply bnz_ | apply bdz_ | refine bsz_ ?_ (IsS111.ge HI0.out)) | exact HB.out)); rintro e w13 ⟨rfl, hi, hb, hk⟩; refine ⟨_, rfl, ?_⟩; replace HO136 := Az_ (Kd.R_mono (Kd.R_keep (IsS111.apart (show IsS111 w0 _ g s0_0 t137 t138 from w59_) (w145_) (by decide)) hk (fun _ h => h.2)) (fun _ h => h.1)); replace HK := Az_ (KeepBut.trans (w74_) hk (.inl rfl)); replace HB := Az_ (hb); replace HI0 := Az_ (hi); (try clear hb); (try clear hk); (try clear hi)) | ((with_reducible refine gate_dst (N := 16) rfl ?_); refine Kd.R_lit (Kd.int .i64) _ 3 ?hg (N := 16) ?hd (xs := ([0, (-1), 2000, 2001, 4611686018427387904] : List Int)) (inner := [.int .i64 0, .int .i64 (-1), .int .i64 2000, .int .i64 2001, .int .i64 4611686018427387904]) (ok := fun _ => True) (okp := fun _ => True) ?hr ?hp (fun _ hk => hk) trivial (Below.refl _ _) (Nat.le_refl _) (by simp) ?_; (case hd => rfl); (case hg => rfl); (case hr => first | (go_simp; done) | (go_simp; rfl)); (case hp => exact (Reps.one (show Kd.M (Kd.int .i64) _ _ _ 0 [.int .i64 0] from rfl) (Reps.one (show Kd.M (Kd.int .i64) _ _ _ (-1) [.int .i64 (-1)] from rfl) (Reps.one (show Kd.M (Kd.int .i64) _ _ _ 2000 [.int .i64 2000] from rfl) (Reps.one (show Kd.M (Kd.int .i64) _ _ _ 2001 [.int .i64 2001] from rfl) (Reps.one (show Kd.M (Kd.int .i64) _ _ _ 4611686018427387904 [.int .i64 4611686018427387904] from rfl) (Reps.none _ _))))))); intro v143 w14 ho15 hb hg_ hnew_; clear hg_ hnew_; (first | rw [← Ny142.out] at ho15 | (simp only [Int.reduceToNat] at ho15; rw [← Ny142.out] at ho15)); replace HO136 := Az_ (Kd.R_below (w145_) hb); have HO144 := Az_ (Kd.R_lower ho15 (keep_size (w := w) (g := g) (row := none) (w74_))); replace HK := Az_ (KeepBut.trans (w74_) (KeepBut.of_below hb g none) (.inl rfl)); replace HB := Az_ (btz_ (w78_) hb); replace HI0 := Az_ (IsS111.below (w59_) hb); clear hb ho15; obtain ⟨Ao16, co16, eo16⟩ := Kd.R_slice HO144.out; subst eo16) | ((with_reducible refine gate_callee (f := 94) rfl ?_); refine goesL_ (some 17) rfl rfl Tryd.func94 (w162_) rfl #[.pointer (some ⟨g, 0, none⟩), .slice Ao16 y142.length co16] rfl maz_ ?_; (with_reducible refine (spec_l1Cur_among.calls g s0_0 t140 t141 _ _ y142 t145 t146 t147 w0 _ ?side1 ?side2 ?side3 ?side4 ?side5 A8.out).mono ?_); (case side1 => repeat (first | (with_reducible first | exact HI0.out | apply IsS111.alloc | apply IsS111.drewN | apply IsS111.drew | apply IsS111.set_1 | apply IsS111.set_2) | exact HI0.out)); (case side2 => repeat (first | (with_reducible first | exact HB.out | apply baz_ | apply bnz_ | apply bdz_ | refine bsz_ ?_ (IsS111.ge HI0.out)) | exact HB.out)); (case side3 => exact ucz_ ((Kd.R_reads' HO144.out).2.2)); (case side4 => exact (Kd.R_reads' HO144.out).2.1); (case side5 => exact far_slice (IsS111.own_ne HI0.out HO144.out (by decide))); rintro e w17 ⟨rfl, hi, hb, hk⟩; refine ⟨_, rfl, ?_⟩; replace HO136 := Az_ (Kd.R_mono (Kd.R_keep (IsS111.apart (show IsS111 w0 _ g s0_0 t140 t141 from w59_) (w145_) (by decide)) hk (fun _ h => h.2)) (fun _ h => h.1)); replace HO144 := Az_ (Kd.R_mono (Kd.R_keep (IsS111.apart (show IsS111 w0 _ g s0_0 t140 t141 from w59_) (by exact urz_ HO144.out) (by decide)) hk (fun _ h => h.2)) (fun _ h => h.1)); replace HK := Az_ (KeepBut.trans (w74_) hk (.inl rfl)); replace HB := Az_ (hb); replace HI0 := Az_ (hi); (try clear hb); (try clear hk); (try clear hi); have p10 : 0 ≤ (0 : Int) := (by omega); have q10 : (0 : Int) < ((t134.length : Int) : Int) := od_; have qi10 : (0 < t134.length) = True := eq_true (by omega); obtain ⟨go10, co10, eo10, gb10, gl10, cl10, HG10⟩ := Kd.R_form HO136.out (by omega); (first | cases eo10 | (injection eo10 with ea_ en_ ec_; (first | subst ea_ | (injection ea_ with ea_; subst ea_)); subst ec_; clear en_)); have GB10 := Az_ gb10; have GG10 := Az_ HG10; clear gb10 gl10 HG10; obtain ⟨ce10, hcl10, hM10, hcc10, hfr10⟩ := Kd.R_elem HO136.out z100 (0 : Int) p10 q10; obtain rfl := k100_openM hM10; have hx10_0 : w17.cell? ⟨go10, (0 : Int).toNat * 2, none⟩ = some (.int .i64 ((rd_T100 t134 0).f0)) := hcc10 0 _ rfl; have hx10_1 : w17.cell? ⟨go10, (0 : Int).toNat * 2 + 1, none⟩ = some (.int .i64 ((rd_T100 t134 0).f1)) := hcc10 1 _ rfl; have hf10_0 : w17.frozen? ⟨go10, (0 : Int).toNat * 2, none⟩ = false := hfr10 0; have hf10_1 : w17.frozen? ⟨go10, (0 : Int).toNat * 2 + 1, none⟩ = false := hfr10 1; (try clear hM10); clear hcl10 hcc10 hfr10; (try rw [show ((0 : Int)).toNat = 0 from rfl] at hx10_0); (try simp only [Nat.reduceMul, Nat.zero_mul, Nat.zero_add, Nat.reduceAdd] at hx10_0); (try rw [show ((0 : Int)).toNat = 0 from rfl] at hf10_0); (try simp only [Nat.reduceMul, Nat.zero_mul, Nat.zero_add, Nat.reduceAdd] at hf10_0); (try rw [show ((0 : Int)).toNat = 0 from rfl] at hx10_1); (try simp only [Nat.reduceMul, Nat.zero_mul, Nat.zero_add, Nat.reduceAdd] at hx10_1); (try rw [show ((0 : Int)).toNat = 0 from rfl] at hf10_1); (try simp only [Nat.reduceMul, Nat.zero_mul, Nat.zero_add, Nat.reduceAdd] at hf10_1); replace p10 := eq_true p10; replace q10 := eq_true q10; have HX18 := Az_ (show Kd.R k100 100 w17 w.heap.size (fun _ => True) (.slice (some ⟨go10, 0, none⟩) t134.length co12) t134 from (w145_)); obtain ⟨ce18, hcl18, hM18, hcc18, hfr18⟩ := Kd.R_elem HX18.out z100 (0 : Int) (by omega) (by have h_ : (0 : Int) < ((t134.length : Int) : Int) := od_; first | exact h_ | (have e_ := (Kd.R_reads' HO136.out).1; omega) | simpa using h_); obtain rfl := k100_openM hM18; have HP18 := Kd.R_seg HX18.out (0 : Int) (by omega) (by have h_ : (0 : Int) < ((t134.length : Int) : Int) := od_; first | exact h_ | (have e_ := (Kd.R_reads' HO136.out).1; omega) | simpa using h_) (seg := [.int .i64 t145]) (j := 0) hcl18 hcc18 (show 1 ≤ 2 from by decide) (x' := (⟨t145, (rd_T100 t134 0).f1⟩ : S100)) (k100_mkM _ _ _ (⟨t145, (rd_T100 t134 0).f1⟩ : S100) ) (fun _ hk => hk); have hx18_0 := hcc18 0 _ rfl; (try simp only [show (k100).sz = 2 from rfl, Nat.mul_one, Nat.add_zero] at hx18_0); (try rw [show ((0 : Int)).toNat = 0 from rfl] at hx18_0); (try simp only [Nat.reduceMul, Nat.zero_mul, Nat.zero_add, Nat.reduceAdd] at hx18_0); have hf18_0 := hfr18 0; (try simp only [show (k100).sz = 2 from rfl, Nat.mul_one, Nat.add_zero] at hf18_0); (try rw [show ((0 : Int)).toNat = 0 from rfl] at hf18_0); (try simp only [Nat.reduceMul, Nat.zero_mul, Nat.zero_add, Nat.reduceAdd] at hf18_0); clear hcl18 hcc18 hfr18 hM18) | ((with_reducible refine gate_store (t := 3) (p := 19) rfl ?_); refine store_event (t := 3) (p := 19) (v := ?vo_w19) (w1 := (w17.setCell ⟨go10, 0, none⟩ (.int .i64 t145))) ?hg ?ho ?hn ?hr ?_; (case ho => rfl); (case hg => rfl); (case hn => rfl); (case hr => first | (go_simp; done) | (go_simp; rfl)); intro w19 hw; have hg : w17.grownBy w19 (some go10) := (by rw [hw]; exact HP18.2); have hp_ : Kd.R k100 100 w19 w.heap.size (fun _ => True) (.slice (some ⟨go10, 0, none⟩) t134.length co12) y148 := (by rw [hw, Ny148.out]; exact HP18.1); clear HP18; replace HI0 := Az_ (IsS111.grown (show IsS111 w0 _ g s0_0 t146 t147 from w59_) hg (IsS111.own_ne HI0.out HO136.out (by decide))); replace HO144 := Az_ (Kd.R_over' (v := (.slice (some ⟨go10, 0, none⟩) t134.length co12)) (by exact urz_ HO144.out) (Kd.R_typed HO136.out) (by decide) hg); replace HB := Az_ ((by rw [hw]; exact bsz_ (HB.out) (Nat.le_trans HL.out GB10.out) : Below w0.heap.size w0 w19)); replace HK := Az_ (KeepBut.trans (w74_) (KeepBut.of_grown hg g) (Kd.R_base2 HO136.out)); replace HO136 := Az_ (hp_); clear hg hw hp_))
   go_ret
   exact ⟨_, w116_, w118_, w59_, w78_, w74_⟩
  ·rw [if_neg c7] at H
   have c7b0 : (t139 == 0) = false := beq_eq_false_iff_ne.mpr c7
   have c7b1 : (t139 != 0) = true := bne_iff_ne.mpr c7
   by_cases c20 : t139 = 1
   ·rw [if_pos c20] at H
    have c20b0 : (t139 == 1) = true := beq_iff_eq.mpr c20
    have c20b1 : (t139 != 1) = false := bne_eq_false_iff_eq.mpr c20
    clear c20
    obtain ⟨y149, hy149⟩ : ∃ y_ : List Int, y_ = (([0, 2000, 2001, (-1), 4611686018427387904] : List Int)) := ⟨_, rfl⟩
    replace H : ((spec_l1Cur_among.f s0_0 t140 t141 y149).bind fun bt152 => (if 0 ≤ (wrap64 ((t134.length : Int) - 1)) then (if (wrap64 ((t134.length : Int) - 1)) < (t134.length : Int) then (some ((t134.set ((wrap64 ((t134.length : Int) - 1)) : Int).toNat (⟨(rd_T100 t134 (wrap64 ((t134.length : Int) - 1))).f0, bt152.1⟩ : S100)), bt152.2.1, bt152.2.2)) else (none)) else (none))) = some (r1, r2, r3) := by first | (rw [hy149]; with_reducible exact H) | (have H2_ := (Option.bind_some _ _).symm.trans H; rw [hy149]; with_reducible exact H2_) | (have H2_ := (Option.bind_some _ _).symm.trans H; with_reducible exact H2_) | with_reducible exact H | (rw [hy149]; exact H) | exact H
    have Ny149 := Az_ hy149
    clear hy149
    replace H := bqz_ H; obtain ⟨⟨t152, t153, t154⟩, A21, H⟩ := H
    replace H : (if 0 ≤ (wrap64 ((t134.length : Int) - 1)) then (if (wrap64 ((t134.length : Int) - 1)) < (t134.length : Int) then (some ((t134.set ((wrap64 ((t134.length : Int) - 1)) : Int).toNat (⟨(rd_T100 t134 (wrap64 ((t134.length : Int) - 1))).f0, t152⟩ : S100)), t153, t154)) else (none)) else (none)) = some (r1, r2, r3) := H
    obtain ⟨ji22, hji22⟩ : ∃ j_ : Int, (wrap64 ((t134.length : Int) - 1)) = j_ := ⟨_, rfl⟩
    replace H : (if 0 ≤ (ji22) then (if (ji22) < (t134.length : Int) then (some ((t134.set ((ji22) : Int).toNat (⟨(rd_T100 t134 (ji22)).f0, t152⟩ : S100)), t153, t154)) else (none)) else (none)) = some (r1, r2, r3) := by first | (rw [hji22] at H; exact H) | (simp only [hji22] at H ⊢; exact H)
    (try rw [hji22] at A2)
    (try rw [hji22] at A6)
    (try rw [hji22] at A21)
    have hji22w : (IntKind.i64.wrap ((t134.length : Int) - 1)) = ji22 := (i64_w _).trans hji22
    by_cases c23 : 0 ≤ (ji22); rotate_left
    ·rw [if_neg c23] at H
     exact absurd H (by simp)
    rw [if_pos c23] at H
    have c23b0 := decide_eq_true c23
    clear c23
    by_cases c24 : (ji22) < (t134.length : Int); rotate_left
    ·rw [if_neg c24] at H
     exact absurd H (by simp)
    rw [if_pos c24] at H
    have c24b0 := decide_eq_true c24
    clear c24
    obtain ⟨y155, hy155⟩ : ∃ y_ : List (S100), y_ = (t134.set ((ji22) : Int).toNat (⟨(rd_T100 t134 (ji22)).f0, t152⟩ : S100)) := ⟨_, rfl⟩
    replace H : (some (y155, t153, t154)) = some (r1, r2, r3) := by first | (rw [hy155]; with_reducible exact H) | (have H2_ := (Option.bind_some _ _).symm.trans H; rw [hy155]; with_reducible exact H2_) | (have H2_ := (Option.bind_some _ _).symm.trans H; with_reducible exact H2_) | with_reducible exact H | (rw [hy155]; exact H) | exact H
    have Ny155 := Az_ hy155
    clear hy155
    simp only [Option.some.injEq, Prod.mk.injEq] at H
    obtain ⟨rfl, rfl, rfl⟩ := H
    go_enter Tryd.func152, Tryd.ntmps152
    go_wp2_with (first | ((with_reducible refine gate_callee (f := 193) rfl ?_); refine goesL_ (some 5) rfl rfl Tryd.func193 (w162_) rfl #[.pointer (some ⟨g, 0, none⟩)] rfl maz_ ?_; (with_reducible refine (spec_l1Cur_sureRanges.calls k g s0_0 s0_1 s0_2 t134 t137 t138 w0 _ ?side1 ?side2 A2.out).mono ?_); (case side1 => repeat (first | (with_reducible first | exact HI0.out | apply IsS111.alloc | apply IsS111.drewN | apply IsS111.drew | apply IsS111.set_1 | apply IsS111.set_2) | exact HI0.out)); (case side2 => repeat (first | (with_reducible first | exact HB.out | apply baz_ | apply bnz_ | apply bdz_ | refine bsz_ ?_ (IsS111.ge HI0.out)) | exact HB.out)); rintro e w26 ⟨v135, rfl, ho0, hi, hb, hk⟩; refine ⟨_, rfl, ?_⟩; have HO136 := Az_ (Kd.R_lower ho0 (keep_size (w := w) (g := g) (row := none) (w74_))); replace HK := Az_ (KeepBut.trans (w74_) hk (.inl rfl)); replace HB := Az_ (hb); replace HI0 := Az_ (hi); (try clear hb); (try clear hk); (try clear hi); (try clear ho0); obtain ⟨Ao27, co27, eo27⟩ := Kd.R_slice HO136.out; subst eo27) | ((with_reducible refine gate_callee (f := 96) rfl ?_); refine goesL_ (some 11) rfl rfl Tryd.func96 (w162_) rfl #[.pointer (some ⟨g, 0, none⟩), .int .i64 16] rfl maz_ ?_; (with_reducible refine (spec_l1Cur_pick.calls g s0_0 t137 t138 16 t139 t140 t141 w0 _ ?side1 ?side2 A6.out).mono ?_); (case side1 => repeat (first | (with_reducible first | exact HI0.out | apply IsS111.alloc | apply IsS111.drewN | apply IsS111.drew | apply IsS111.set_1 | apply IsS111.set_2) | exact HI0.out)); (case side2 => repeat (first | (with_reducible first | exact HB.out | apply baz_ | apply bnz_ | apply bdz_ | refine bsz_ ?_ (IsS111.ge HI0.out)) | exact HB.out)); rintro e w28 ⟨rfl, hi, hb, hk⟩; refine ⟨_, rfl, ?_⟩; replace HO136 := Az_ (Kd.R_mono (Kd.R_keep (IsS111.apart (show IsS111 w0 _ g s0_0 t137 t138 from w59_) (w145_) (by decide)) hk (fun _ h => h.2)) (fun _ h => h.1)); replace HK := Az_ (KeepBut.trans (w74_) hk (.inl rfl)); replace HB := Az_ (hb); replace HI0 := Az_ (hi); (try clear hb); (try clear hk); (try clear hi)) | ((with_reducible refine gate_dst (N := 27) rfl ?_); refine Kd.R_lit (Kd.int .i64) _ 3 ?hg (N := 27) ?hd (xs := ([0, 2000, 2001, (-1), 4611686018427387904] : List Int)) (inner := [.int .i64 0, .int .i64 2000, .int .i64 2001, .int .i64 (-1), .int .i64 4611686018427387904]) (ok := fun _ => True) (okp := fun _ => True) ?hr ?hp (fun _ hk => hk) trivial (Below.refl _ _) (Nat.le_refl _) (by simp) ?_; (case hd => rfl); (case hg => rfl); (case hr => first | (go_simp; done) | (go_simp; rfl)); (case hp => exact (Reps.one (show Kd.M (Kd.int .i64) _ _ _ 0 [.int .i64 0] from rfl) (Reps.one (show Kd.M (Kd.int .i64) _ _ _ 2000 [.int .i64 2000] from rfl) (Reps.one (show Kd.M (Kd.int .i64) _ _ _ 2001 [.int .i64 2001] from rfl) (Reps.one (show Kd.M (Kd.int .i64) _ _ _ (-1) [.int .i64 (-1)] from rfl) (Reps.one (show Kd.M (Kd.int .i64) _ _ _ 4611686018427387904 [.int .i64 4611686018427387904] from rfl) (Reps.none _ _))))))); intro v150 w29 ho30 hb hg_ hnew_; clear hg_ hnew_; (first | rw [← Ny149.out] at ho30 | (simp only [Int.reduceToNat] at ho30; rw [← Ny149.out] at ho30)); replace HO136 := Az_ (Kd.R_below (w145_) hb); have HO151 := Az_ (Kd.R_lower ho30 (keep_size (w := w) (g := g) (row := none) (w74_))); replace HK := Az_ (KeepBut.trans (w74_) (KeepBut.of_below hb g none) (.inl rfl)); replace HB := Az_ (btz_ (w78_) hb); replace HI0 := Az_ (IsS111.below (w59_) hb); clear hb ho30; obtain ⟨Ao31, co31, eo31⟩ := Kd.R_slice HO151.out; subst eo31) | ((with_reducible refine gate_callee (f := 94) rfl ?_); refine goesL_ (some 28) rfl rfl Tryd.func94 (w162_) rfl #[.pointer (some ⟨g, 0, none⟩), .slice Ao31 y149.length co31] rfl maz_ ?_; (with_reducible refine (spec_l1Cur_among.calls g s0_0 t140 t141 _ _ y149 t152 t153 t154 w0 _ ?side1 ?side2 ?side3 ?side4 ?side5 A21.out).mono ?_); (case side1 => repeat (first | (with_reducible first | exact HI0.out | apply IsS111.alloc | apply IsS111.drewN | apply IsS111.drew | apply IsS111.set_1 | apply IsS111.set_2) | exact HI0.out)); (case side2 => repeat (first | (with_reducible first | exact HB.out | apply baz_ | apply bnz_ | apply bdz_ | refine bsz_ ?_ (IsS111.ge HI0.out)) | exact HB.out)); (case side3 => exact ucz_ ((Kd.R_reads' HO151.out).2.2)); (case side4 => exact (Kd.R_reads' HO151.out).2.1); (case side5 => exact far_slice (IsS111.own_ne HI0.out HO151.out (by decide))); rintro e w32 ⟨rfl, hi, hb, hk⟩; refine ⟨_, rfl, ?_⟩; replace HO136 := Az_ (Kd.R_mono (Kd.R_keep (IsS111.apart (show IsS111 w0 _ g s0_0 t140 t141 from w59_) (w145_) (by decide)) hk (fun _ h => h.2)) (fun _ h => h.1)); replace HO151 := Az_ (Kd.R_mono (Kd.R_keep (IsS111.apart (show IsS111 w0 _ g s0_0 t140 t141 from w59_) (by exact urz_ HO151.out) (by decide)) hk (fun _ h => h.2)) (fun _ h => h.1)); replace HK := Az_ (KeepBut.trans (w74_) hk (.inl rfl)); replace HB := Az_ (hb); replace HI0 := Az_ (hi); (try clear hb); (try clear hk); (try clear hi); have p25 : 0 ≤ ((ji22) : Int) := od_; have q25 : ((ji22) : Int) < ((t134.length : Int) : Int) := od_; obtain ⟨go25, co25, eo25, gb25, gl25, cl25, HG25⟩ := Kd.R_form HO136.out (by omega); (first | cases eo25 | (injection eo25 with ea_ en_ ec_; (first | subst ea_ | (injection ea_ with ea_; subst ea_)); subst ec_; clear en_)); have GB25 := Az_ gb25; have GG25 := Az_ HG25; clear gb25 gl25 HG25; obtain ⟨ce25, hcl25, hM25, hcc25, hfr25⟩ := Kd.R_elem HO136.out z100 ((ji22) : Int) p25 q25; obtain rfl := k100_openM hM25; have hx25_0 : w32.cell? ⟨go25, ((ji22) : Int).toNat * 2, none⟩ = some (.int .i64 ((rd_T100 t134 (ji22)).f0)) := hcc25 0 _ rfl; have hx25_1 : w32.cell? ⟨go25, ((ji22) : Int).toNat * 2 + 1, none⟩ = some (.int .i64 ((rd_T100 t134 (ji22)).f1)) := hcc25 1 _ rfl; have hf25_0 : w32.frozen? ⟨go25, ((ji22) : Int).toNat * 2, none⟩ = false := hfr25 0; have hf25_1 : w32.frozen? ⟨go25, ((ji22) : Int).toNat * 2 + 1, none⟩ = false := hfr25 1; (try clear hM25); clear hcl25 hcc25 hfr25; replace p25 := eq_true p25; replace q25 := eq_true q25; have HX33 := Az_ (show Kd.R k100 100 w32 w.heap.size (fun _ => True) (.slice (some ⟨go25, 0, none⟩) t134.length co27) t134 from (w145_)); obtain ⟨ce33, hcl33, hM33, hcc33, hfr33⟩ := Kd.R_elem HX33.out z100 ((ji22) : Int) (od_) (by have h_ : ((ji22) : Int) < ((t134.length : Int) : Int) := od_; first | exact h_ | (have e_ := (Kd.R_reads' HO136.out).1; omega) | simpa using h_); obtain rfl := k100_openM hM33; have HP33 := Kd.R_seg HX33.out ((ji22) : Int) (od_) (by have h_ : ((ji22) : Int) < ((t134.length : Int) : Int) := od_; first | exact h_ | (have e_ := (Kd.R_reads' HO136.out).1; omega) | simpa using h_) (seg := [.int .i64 t152]) (j := 1) hcl33 hcc33 (show 2 ≤ 2 from by decide) (x' := (⟨(rd_T100 t134 (ji22)).f0, t152⟩ : S100)) (k100_mkM _ _ _ (⟨(rd_T100 t134 (ji22)).f0, t152⟩ : S100) ) (fun _ hk => hk); have hx33_1 := hcc33 1 _ rfl; (try simp only [show (k100).sz = 2 from rfl, Nat.mul_one, Nat.add_zero] at hx33_1); have hf33_1 := hfr33 1; (try simp only [show (k100).sz = 2 from rfl, Nat.mul_one, Nat.add_zero] at hf33_1); clear hcl33 hcc33 hfr33 hM33) | ((with_reducible refine gate_store (t := 3) (p := 30) rfl ?_); refine store_event (t := 3) (p := 30) (v := ?vo_w34) (w1 := (w32.setCell ⟨go25, ((ji22) : Int).toNat * 2 + 1, none⟩ (.int .i64 t152))) ?hg ?ho ?hn ?hr ?_; (case ho => rfl); (case hg => rfl); (case hn => rfl); (case hr => first | (go_simp; done) | (go_simp; rfl)); intro w34 hw; have hg : w32.grownBy w34 (some go25) := (by rw [hw]; exact HP33.2); have hp_ : Kd.R k100 100 w34 w.heap.size (fun _ => True) (.slice (some ⟨go25, 0, none⟩) t134.length co27) y155 := (by rw [hw, Ny155.out]; exact HP33.1); clear HP33; replace HI0 := Az_ (IsS111.grown (show IsS111 w0 _ g s0_0 t153 t154 from w59_) hg (IsS111.own_ne HI0.out HO136.out (by decide))); replace HO151 := Az_ (Kd.R_over' (v := (.slice (some ⟨go25, 0, none⟩) t134.length co27)) (by exact urz_ HO151.out) (Kd.R_typed HO136.out) (by decide) hg); replace HB := Az_ ((by rw [hw]; exact bsz_ (HB.out) (Nat.le_trans HL.out GB25.out) : Below w0.heap.size w0 w34)); replace HK := Az_ (KeepBut.trans (w74_) (KeepBut.of_grown hg g) (Kd.R_base2 HO136.out)); replace HO136 := Az_ (hp_); clear hg hw hp_))
    go_ret
    exact ⟨_, by first | rfl | (simp [errW_none, errW_some] <;> rfl) | (simp only [← hji22]; first | rfl | (simp [errW_none, errW_some] <;> rfl)) | (simp [*, errW_none, errW_some] <;> rfl), w118_, w59_, w78_, w74_⟩
   ·rw [if_neg c20] at H
    have c20b0 : (t139 == 1) = false := beq_eq_false_iff_ne.mpr c20
    have c20b1 : (t139 != 1) = true := bne_iff_ne.mpr c20
    by_cases c35 : t139 = 2
    ·rw [if_pos c35] at H
     have c35b0 : (t139 == 2) = true := beq_iff_eq.mpr c35
     have c35b1 : (t139 != 2) = false := bne_eq_false_iff_eq.mpr c35
     clear c35
     obtain ⟨ji36, hji36⟩ : ∃ j_ : Int, (wrap64 ((t134.length : Int) - 1)) = j_ := ⟨_, rfl⟩
     replace H : (if 0 ≤ (ji36) then (if (ji36) < (t134.length : Int) then (if t134.length < 8796093022208 then (some ((t134 ++ [(⟨wrap64 (((rd_T100 t134 (ji36)).f1) + 1), wrap64 (((rd_T100 t134 (ji36)).f1) + 3)⟩ : S100)]), t140, t141)) else (none)) else (none)) else (none)) = some (r1, r2, r3) := by first | (rw [hji36] at H; exact H) | (simp only [hji36] at H ⊢; exact H)
     (try rw [hji36] at A2)
     (try rw [hji36] at A6)
     have hji36w : (IntKind.i64.wrap ((t134.length : Int) - 1)) = ji36 := (i64_w _).trans hji36
     by_cases c37 : 0 ≤ (ji36); rotate_left
     ·rw [if_neg c37] at H
      exact absurd H (by simp)
     rw [if_pos c37] at H
     have c37b0 := decide_eq_true c37
     clear c37
     by_cases c38 : (ji36) < (t134.length : Int); rotate_left
     ·rw [if_neg c38] at H
      exact absurd H (by simp)
     rw [if_pos c38] at H
     have c38b0 := decide_eq_true c38
     clear c38
     by_cases c39 : t134.length < 8796093022208; rotate_left
     ·rw [if_neg c39] at H
      exact absurd H (by simp)
     rw [if_pos c39] at H
     have LMc39 := Az_ c39
     clear c39
     obtain ⟨y158, hy158⟩ : ∃ y_ : List (S100), y_ = (t134 ++ [(⟨wrap64 (((rd_T100 t134 (ji36)).f1) + 1), wrap64 (((rd_T100 t134 (ji36)).f1) + 3)⟩ : S100)]) := ⟨_, rfl⟩
     replace H : (some (y158, t140, t141)) = some (r1, r2, r3) := by first | (rw [hy158]; with_reducible exact H) | (have H2_ := (Option.bind_some _ _).symm.trans H; rw [hy158]; with_reducible exact H2_) | (have H2_ := (Option.bind_some _ _).symm.trans H; with_reducible exact H2_) | with_reducible exact H | (rw [hy158]; exact H) | exact H
     have Ny158 := Az_ hy158
     clear hy158
     simp only [Option.some.injEq, Prod.mk.injEq] at H
     obtain ⟨rfl, rfl, rfl⟩ := H
     go_enter Tryd.func152, Tryd.ntmps152
     try go_wp2_with (first | ((with_reducible refine gate_callee (f := 193) rfl ?_); refine goesL_ (some 5) rfl rfl Tryd.func193 (w162_) rfl #[.pointer (some ⟨g, 0, none⟩)] rfl maz_ ?_; (with_reducible refine (spec_l1Cur_sureRanges.calls k g s0_0 s0_1 s0_2 t134 t137 t138 w0 _ ?side1 ?side2 A2.out).mono ?_); (case side1 => repeat (first | (with_reducible first | exact HI0.out | apply IsS111.alloc | apply IsS111.drewN | apply IsS111.drew | apply IsS111.set_1 | apply IsS111.set_2) | exact HI0.out)); (case side2 => repeat (first | (with_reducible first | exact HB.out | apply baz_ | apply bnz_ | apply bdz_ | refine bsz_ ?_ (IsS111.ge HI0.out)) | exact HB.out)); rintro e w40 ⟨v135, rfl, ho0, hi, hb, hk⟩; refine ⟨_, rfl, ?_⟩; have HO136 := Az_ (Kd.R_lower ho0 (keep_size (w := w) (g := g) (row := none) (w74_))); replace HK := Az_ (KeepBut.trans (w74_) hk (.inl rfl)); replace HB := Az_ (hb); replace HI0 := Az_ (hi); (try clear hb); (try clear hk); (try clear hi); (try clear ho0); obtain ⟨Ao41, co41, eo41⟩ := Kd.R_slice HO136.out; subst eo41) | ((with_reducible refine gate_callee (f := 96) rfl ?_); refine goesL_ (some 11) rfl rfl Tryd.func96 (w162_) rfl #[.pointer (some ⟨g, 0, none⟩), .int .i64 16] rfl maz_ ?_; (with_reducible refine (spec_l1Cur_pick.calls g s0_0 t137 t138 16 t139 t140 t141 w0 _ ?side1 ?side2 A6.out).mono ?_); (case side1 => repeat (first | (with_reducible first | exact HI0.out | apply IsS111.alloc | apply IsS111.drewN | apply IsS111.drew | apply IsS111.set_1 | apply IsS111.set_2) | exact HI0.out)); (case side2 => repeat (first | (with_reducible first | exact HB.out | apply baz_ | apply bnz_ | apply bdz_ | refine bsz_ ?_ (IsS111.ge HI0.out)) | exact HB.out)); rintro e w42 ⟨rfl, hi, hb, hk⟩; refine ⟨_, rfl, ?_⟩; replace HO136 := Az_ (Kd.R_mono (Kd.R_keep (IsS111.apart (show IsS111 w0 _ g s0_0 t137 t138 from w59_) (w145_) (by decide)) hk (fun _ h => h.2)) (fun _ h => h.1)); replace HK := Az_ (KeepBut.trans (w74_) hk (.inl rfl)); replace HB := Az_ (hb); replace HI0 := Az_ (hi); (try clear hb); (try clear hk); (try clear hi)))
     have n0_ := Az_ (rdz_ HO136.out)
     have n1_ := Az_ (IsS111.drew HI0.out)
     have n2_ := Az_ (keep_drew HK.out)
     have n3_ := Az_ (bdz_ HB.out)
     clear HO136 HI0 HK HB
     have HO136 := n0_
     have HI0 := n1_
     have HK := n2_
     have HB := n3_
     clear n0_ n1_ n2_ n3_
     have p156 : 0 ≤ ((ji36) : Int) := od_
     have q156 : (ji36) < (t134.length : Int) := od_
     obtain ⟨ad156, e156, hx156_0, hx156_1⟩ := at_T100 (Kd.R_reads' HO136.out).2.2 (ji36) p156 q156
     cases e156
     replace p156 := eq_true p156
     replace q156 := eq_true q156
     have p157 : 0 ≤ ((ji36) : Int) := od_
     have q157 : (ji36) < (t134.length : Int) := od_
     obtain ⟨ad157, e157, hx157_0, hx157_1⟩ := at_T100 (Kd.R_reads' HO136.out).2.2 (ji36) p157 q157
     obtain rfl : ad156 = ad157 := (by injection e157)
     replace p157 := eq_true p157
     replace q157 := eq_true q157
     refine start_ (n := 21) (S := fun w' => w'.cell? (ad156.add (((ji36)).toNat * 2)) = some (.int .i64 ((rd_T100 t134 (ji36)).f0)) ∧ w'.cell? ⟨(ad156.add (((ji36)).toNat * 2)).block, (ad156.add (((ji36)).toNat * 2)).off + 1, none⟩ = some (.int .i64 ((rd_T100 t134 (ji36)).f1)) ∧ w'.cell? (ad156.add (((ji36)).toNat * 2)) = some (.int .i64 ((rd_T100 t134 (ji36)).f0)) ∧ w'.cell? ⟨(ad156.add (((ji36)).toNat * 2)).block, (ad156.add (((ji36)).toNat * 2)).off + 1, none⟩ = some (.int .i64 ((rd_T100 t134 (ji36)).f1))) (ds := [18, 19]) #[false, false, false, false, false, false, false, false, false, false, false, false, false, false, false, false, false, false, false, false, false] (w162_) rfl rfl ⟨hx156_0, hx156_1, hx157_0, hx157_1⟩ (fun hHeld => ?_); refine with_tabW spec_l1Cur_ranges.tab10 spec_l1Cur_ranges.bits10 (fun HT_ HW_ => ?_)
     generalize w42.drew = w43 at HO136 HI0 HK HB hx156_0 hx156_1 hx157_0 hx157_1 hHeld ⊢
     refine pz_ 0 33 [1,20] ?_
     refine pz_ 1 34 [2,19] ?_
     refine pz_ 2 35 [3,18] ?_
     refine pz_ 3 36 [4,17] ?_
     refine pz_ 4 37 [5,16] ?_
     refine pz_ 5 38 [6,15] ?_
     refine pz_ 6 39 [7,14] ?_
     refine pz_ 9 42 [7,2,1,11] ?_
     refine pz_ 10 43 [7,2,2,10] ?_
     refine pz_ 11 44 [7,2,3,9] ?_
     refine pz_ 12 45 [7,2,4,8] ?_
     refine pz_ 13 46 [7,2,5,7] ?_
     refine pz_ 14 47 [7,2,6,6] ?_
     refine tz4_ 7 40 [8,1,6,6] ?_
     refine pz_ 8 41 [15,6] ?_
     refine tz4_ 15 48 [16,5] ?_
     refine pz_ 16 49 [17,4] ?_
     refine pz_ 17 50 [18,3] ?_
     refine last_ (i := 18) (N := some 51) (mz_ [19,2]) rfl rfl (one_of HT_.out (w162_)) (by decide) (fun K hK => ?_)
     refine value_ (w1 := ?_) (v := ?_) (by rfl) rfl ?_ ?_
     rotate_left 2
     ·go_simp
      constructor
      ·rfl
      ·rfl
     refine hK.out _ _ ?_
     clear hK K
     refine nz_ 51 ?_
     refine last_ (i := 19) (N := some 52) (mz_ [20,1]) rfl rfl (one_of HT_.out (w162_)) (by decide) (fun K hK => ?_)
     refine Kd.R_append_step k100 w.heap.size (by rfl) (.tmp 33) (.tmp 51) 86 100 (.agg #[(.int .i64 0), (.int .i64 0)]) 16 rfl Tryd.underlying86 info100 rfl (by decide) (by omega) (.slice (some ad156) t134.length co41) t134 (⟨wrap64 (((rd_T100 t134 (ji36)).f1) + 1), wrap64 (((rd_T100 t134 (ji36)).f1) + 3)⟩ : S100) [.int .i64 (wrap64 (((rd_T100 t134 (ji36)).f1) + 1)), .int .i64 (wrap64 (((rd_T100 t134 (ji36)).f1) + 3))] (fun _ => True) (fun _ => False) rfl rfl ?aP (fun _ hk => hk.elim) ?aF ?aO (Below.refl _ _) ?aS ?aL ?_
     (case aP => exact k100_mkM _ _ _ (⟨wrap64 (((rd_T100 t134 (ji36)).f1) + 1), wrap64 (((rd_T100 t134 (ji36)).f1) + 3)⟩ : S100))
     (case aF => exact (fun _ _ => trivial))
     (case aO => exact (w145_))
     (case aS => exact (keep_size (w := w) (g := g) (row := none) (w74_)))
     (case aL => have := LMc39.out; omega)
     intro v159 w44 ho hb hg hat
     rw [← Ny158.out] at ho
     have n0_ := Az_ (IsS111.grown (show IsS111 w0 _ g s0_0 t140 t141 from w59_) hg (IsS111.own_ne HI0.out HO136.out (by decide)))
     have n1_ := Az_ (below_weaken (w78_) HL.out hb)
     have n2_ := Az_ (KeepBut.trans (w74_) (KeepBut.of_grown hg g) (Kd.R_base2 HO136.out))
     have n3_ := Az_ (ho)
     clear HI0 HB HK HO136
     have HI0 := n0_
     have HB := n1_
     have HK := n2_
     have HO160 := n3_
     clear n0_ n1_ n2_ n3_ ho hb hg hat
     refine hK.out _ _ ?_
     clear hK K
     refine nz_ 52 ?_
     refine pz_ 20 3 [21] ?_
     refine done_ (done_of HT_.out (w162_)) ?_
     try go_wp2
     go_ret
     exact ⟨_, by first | rfl | (simp [errW_none, errW_some] <;> rfl) | (simp only [← hji36]; first | rfl | (simp [errW_none, errW_some] <;> rfl)) | (simp [*, errW_none, errW_some] <;> rfl), by (with_reducible repeat (first | apply raz_ | apply rnz_ | apply rdz_)); exact HO160.out, w59_, w78_, w74_⟩
    ·rw [if_neg c35] at H
     have c35b0 : (t139 == 2) = false := beq_eq_false_iff_ne.mpr c35
     have c35b1 : (t139 != 2) = true := bne_iff_ne.mpr c35
     simp only [Option.some.injEq, Prod.mk.injEq] at H
     obtain ⟨rfl, rfl, rfl⟩ := H
     go_enter Tryd.func152, Tryd.ntmps152
     go_wp2_with (first | ((with_reducible refine gate_callee (f := 193) rfl ?_); refine goesL_ (some 5) rfl rfl Tryd.func193 (w162_) rfl #[.pointer (some ⟨g, 0, none⟩)] rfl maz_ ?_; (with_reducible refine (spec_l1Cur_sureRanges.calls k g s0_0 s0_1 s0_2 t134 t137 t138 w0 _ ?side1 ?side2 A2.out).mono ?_); (case side1 => repeat (first | (with_reducible first | exact HI0.out | apply IsS111.alloc | apply IsS111.drewN | apply IsS111.drew | apply IsS111.set_1 | apply IsS111.set_2) | exact HI0.out)); (case side2 => repeat (first | (with_reducible first | exact HB.out | apply baz_ | apply bnz_ | apply bdz_ | refine bsz_ ?_ (IsS111.ge HI0.out)) | exact HB.out)); rintro e w45 ⟨v135, rfl, ho0, hi, hb, hk⟩; refine ⟨_, rfl, ?_⟩; have HO136 := Az_ (Kd.R_lower ho0 (keep_size (w := w) (g := g) (row := none) (w74_))); replace HK := Az_ (KeepBut.trans (w74_) hk (.inl rfl)); replace HB := Az_ (hb); replace HI0 := Az_ (hi); (try clear hb); (try clear hk); (try clear hi); (try clear ho0); obtain ⟨Ao46, co46, eo46⟩ := Kd.R_slice HO136.out; subst eo46) | ((with_reducible refine gate_callee (f := 96) rfl ?_); refine goesL_ (some 11) rfl rfl Tryd.func96 (w162_) rfl #[.pointer (some ⟨g, 0, none⟩), .int .i64 16] rfl maz_ ?_; (with_reducible refine (spec_l1Cur_pick.calls g s0_0 t137 t138 16 t139 t140 t141 w0 _ ?side1 ?side2 A6.out).mono ?_); (case side1 => repeat (first | (with_reducible first | exact HI0.out | apply IsS111.alloc | apply IsS111.drewN | apply IsS111.drew | apply IsS111.set_1 | apply IsS111.set_2) | exact HI0.out)); (case side2 => repeat (first | (with_reducible first | exact HB.out | apply baz_ | apply bnz_ | apply bdz_ | refine bsz_ ?_ (IsS111.ge HI0.out)) | exact HB.out)); rintro e w47 ⟨rfl, hi, hb, hk⟩; refine ⟨_, rfl, ?_⟩; replace HO136 := Az_ (Kd.R_mono (Kd.R_keep (IsS111.apart (show IsS111 w0 _ g s0_0 t137 t138 from w59_) (w145_) (by decide)) hk (fun _ h => h.2)) (fun _ h => h.1)); replace HK := Az_ (KeepBut.trans (w74_) hk (.inl rfl)); replace HB := Az_ (hb); replace HI0 := Az_ (hi); (try clear hb); (try clear hk); (try clear hi)))
     go_ret
     exact ⟨_, w116_, w118_, w59_, w78_, w74_⟩

def spec_l1Cur_one.f (s0_0 : List Int) (s0_1 : Int) (s0_2 : Int) (a1 : Int) : Option (Bool × Int × Int) := (spec_l1Cur_pick.f s0_0 s0_1 s0_2 a1).bind fun bt161 => (some ((bt161.1 == 0), bt161.2.1, bt161.2.2))
set_option maxHeartbeats 8000000 in
set_option maxRecDepth 100000 in
theorem spec_l1Cur_one.calls (g : Nat) (s0_0 : List Int) (s0_1 : Int) (s0_2 : Int) (a1 : Int) (r1 : Bool) (r2 : Int) (r3 : Int) (w0 w : World) (hI : IsS111 w0 w g s0_0 s0_1 s0_2) (hB : Below w0.heap.size w0 w) (h : spec_l1Cur_one.f s0_0 s0_1 s0_2 a1 = some (r1, r2, r3)) :
  Calls Tryd.prog 93 #[.pointer (some ⟨g, 0, none⟩), .int .i64 a1] w fun e w' => e = .returned (.bool r1) ∧ IsS111 w0 w' g s0_0 r2 r3 ∧ Below w0.heap.size w0 w' ∧ KeepBut w w' g none := by
 have HI0 := Az_ hI
 have HK := Az_ (KeepBut.refl w g none)
 have HL := Az_ hB.size
 clear hI
 have HW0 := Az_ hB.size
 have HB := Az_ hB
 clear hB
 have H : ((spec_l1Cur_pick.f s0_0 s0_1 s0_2 a1).bind fun bt161 => (some ((bt161.1 == 0), bt161.2.1, bt161.2.2))) = some (r1, r2, r3) := h
 clear h
 replace H := bqz_ H; obtain ⟨⟨t161, t162, t163⟩, A3, H⟩ := H
 replace H : (some ((t161 == 0), t162, t163)) = some (r1, r2, r3) := H
 simp only [Option.some.injEq, Prod.mk.injEq] at H
 obtain ⟨rfl, rfl, rfl⟩ := H
 go_enter Tryd.func93, Tryd.ntmps93
 go_wp2_with (((with_reducible refine gate_callee (f := 96) rfl ?_); refine goesL_ (some 7) rfl rfl Tryd.func96 (w162_) rfl #[.pointer (some ⟨g, 0, none⟩), .int .i64 a1] rfl maz_ ?_; (with_reducible refine (spec_l1Cur_pick.calls g s0_0 s0_1 s0_2 a1 t161 t162 t163 w0 _ ?side1 ?side2 A3.out).mono ?_); (case side1 => repeat (first | (with_reducible first | exact HI0.out | apply IsS111.alloc | apply IsS111.drewN | apply IsS111.drew | apply IsS111.set_1 | apply IsS111.set_2) | exact HI0.out)); (case side2 => repeat (first | (with_reducible first | exact HB.out | apply baz_ | apply bnz_ | apply bdz_ | refine bsz_ ?_ (IsS111.ge HI0.out)) | exact HB.out)); rintro e w4 ⟨rfl, hi, hb, hk⟩; refine ⟨_, rfl, ?_⟩; replace HK := Az_ (KeepBut.trans (w74_) hk (.inl rfl)); replace HB := Az_ (hb); replace HI0 := Az_ (hi); (try clear hb); (try clear hk); (try clear hi)))
 go_ret
 exact ⟨w116_, w59_, w78_, w74_⟩

def spec_l1Cur_indexed.f (s0_0 : List Int) (s0_1 : Int) (s0_2 : Int) : Option (Int × Int × Int) := (spec_l1Cur_one.f s0_0 s0_1 s0_2 12).bind fun bt164 => (if bt164.1 = true then ((spec_l1Cur_among.f s0_0 bt164.2.1 bt164.2.2 (([0, (-1), 2000, 2001, 4611686018427387904] : List Int))).bind fun bt170 => (some (bt170.1, bt170.2.1, bt170.2.2))) else ((spec_l1Cur_pick.f s0_0 bt164.2.1 bt164.2.2 140).bind fun bt173 => (some (wrap64 (1 + bt173.1), bt173.2.1, bt173.2.2))))
set_option maxHeartbeats 8000000 in
set_option maxRecDepth 100000 in
theorem spec_l1Cur_indexed.calls (g : Nat) (s0_0 : List Int) (s0_1 : Int) (s0_2 : Int) (r1 : Int) (r2 : Int) (r3 : Int) (w0 w : World) (hI : IsS111 w0 w g s0_0 s0_1 s0_2) (hB : Below w0.heap.size w0 w) (h : spec_l1Cur_indexed.f s0_0 s0_1 s0_2 = some (r1, r2, r3)) :
  Calls Tryd.prog 153 #[.pointer (some ⟨g, 0, none⟩)] w fun e w' => e = .returned (.int .i64 r1) ∧ IsS111 w0 w' g s0_0 r2 r3 ∧ Below w0.heap.size w0 w' ∧ KeepBut w w' g none := by
 have HI0 := Az_ hI
 have HK := Az_ (KeepBut.refl w g none)
 have HL := Az_ hB.size
 clear hI
 have HW0 := Az_ hB.size
 have HB := Az_ hB
 clear hB
 have H : ((spec_l1Cur_one.f s0_0 s0_1 s0_2 12).bind fun bt164 => (if bt164.1 = true then ((spec_l1Cur_among.f s0_0 bt164.2.1 bt164.2.2 (([0, (-1), 2000, 2001, 4611686018427387904] : List Int))).bind fun bt170 => (some (bt170.1, bt170.2.1, bt170.2.2))) else ((spec_l1Cur_pick.f s0_0 bt164.2.1 bt164.2.2 140).bind fun bt173 => (some (wrap64 (1 + bt173.1), bt173.2.1, bt173.2.2))))) = some (r1, r2, r3) := h
 clear h
 replace H := bqz_ H; obtain ⟨⟨t164, t165, t166⟩, A2, H⟩ := H
 replace H : (if t164 = true then ((spec_l1Cur_among.f s0_0 t165 t166 (([0, (-1), 2000, 2001, 4611686018427387904] : List Int))).bind fun bt170 => (some (bt170.1, bt170.2.1, bt170.2.2))) else ((spec_l1Cur_pick.f s0_0 t165 t166 140).bind fun bt173 => (some (wrap64 (1 + bt173.1), bt173.2.1, bt173.2.2)))) = some (r1, r2, r3) := H
 by_cases c3 : t164 = true
 ·subst c3
  rw [if_pos rfl] at H
  obtain ⟨y167, hy167⟩ : ∃ y_ : List Int, y_ = (([0, (-1), 2000, 2001, 4611686018427387904] : List Int)) := ⟨_, rfl⟩
  replace H : ((spec_l1Cur_among.f s0_0 t165 t166 y167).bind fun bt170 => (some (bt170.1, bt170.2.1, bt170.2.2))) = some (r1, r2, r3) := by first | (rw [hy167]; with_reducible exact H) | (have H2_ := (Option.bind_some _ _).symm.trans H; rw [hy167]; with_reducible exact H2_) | (have H2_ := (Option.bind_some _ _).symm.trans H; with_reducible exact H2_) | with_reducible exact H | (rw [hy167]; exact H) | exact H
  have Ny167 := Az_ hy167
  clear hy167
  replace H := bqz_ H; obtain ⟨⟨t170, t171, t172⟩, A4, H⟩ := H
  replace H : (some (t170, t171, t172)) = some (r1, r2, r3) := H
  simp only [Option.some.injEq, Prod.mk.injEq] at H
  obtain ⟨rfl, rfl, rfl⟩ := H
  go_enter Tryd.func153, Tryd.ntmps153
  go_wp2_with (first | ((with_reducible refine gate_callee (f := 93) rfl ?_); refine goesL_ (some 4) rfl rfl Tryd.func93 (w162_) rfl #[.pointer (some ⟨g, 0, none⟩), .int .i64 12] rfl maz_ ?_; (with_reducible refine (spec_l1Cur_one.calls g s0_0 s0_1 s0_2 12 true t165 t166 w0 _ ?side1 ?side2 A2.out).mono ?_); (case side1 => repeat (first | (with_reducible first | exact HI0.out | apply IsS111.alloc | apply IsS111.drewN | apply IsS111.drew | apply IsS111.set_1 | apply IsS111.set_2) | exact HI0.out)); (case side2 => repeat (first | (with_reducible first | exact HB.out | apply baz_ | apply bnz_ | apply bdz_ | refine bsz_ ?_ (IsS111.ge HI0.out)) | exact HB.out)); rintro e w5 ⟨rfl, hi, hb, hk⟩; refine ⟨_, rfl, ?_⟩; replace HK := Az_ (KeepBut.trans (w74_) hk (.inl rfl)); replace HB := Az_ (hb); replace HI0 := Az_ (hi); (try clear hb); (try clear hk); (try clear hi)) | ((with_reducible refine gate_dst (N := 6) rfl ?_); refine Kd.R_lit (Kd.int .i64) _ 3 ?hg (N := 6) ?hd (xs := ([0, (-1), 2000, 2001, 4611686018427387904] : List Int)) (inner := [.int .i64 0, .int .i64 (-1), .int .i64 2000, .int .i64 2001, .int .i64 4611686018427387904]) (ok := fun _ => True) (okp := fun _ => True) ?hr ?hp (fun _ hk => hk) trivial (Below.refl _ _) (Nat.le_refl _) (by simp) ?_; (case hd => rfl); (case hg => rfl); (case hr => first | (go_simp; done) | (go_simp; rfl)); (case hp => exact (Reps.one (show Kd.M (Kd.int .i64) _ _ _ 0 [.int .i64 0] from rfl) (Reps.one (show Kd.M (Kd.int .i64) _ _ _ (-1) [.int .i64 (-1)] from rfl) (Reps.one (show Kd.M (Kd.int .i64) _ _ _ 2000 [.int .i64 2000] from rfl) (Reps.one (show Kd.M (Kd.int .i64) _ _ _ 2001 [.int .i64 2001] from rfl) (Reps.one (show Kd.M (Kd.int .i64) _ _ _ 4611686018427387904 [.int .i64 4611686018427387904] from rfl) (Reps.none _ _))))))); intro v168 w6 ho7 hb hg_ hnew_; clear hg_ hnew_; (first | rw [← Ny167.out] at ho7 | (simp only [Int.reduceToNat] at ho7; rw [← Ny167.out] at ho7)); have HO169 := Az_ (Kd.R_lower ho7 (keep_size (w := w) (g := g) (row := none) (w74_))); replace HK := Az_ (KeepBut.trans (w74_) (KeepBut.of_below hb g none) (.inl rfl)); replace HB := Az_ (btz_ (w78_) hb); replace HI0 := Az_ (IsS111.below (w59_) hb); clear hb ho7; obtain ⟨Ao8, co8, eo8⟩ := Kd.R_slice HO169.out; subst eo8) | ((with_reducible refine gate_callee (f := 94) rfl ?_); refine goesL_ (some 7) rfl rfl Tryd.func94 (w162_) rfl #[.pointer (some ⟨g, 0, none⟩), .slice Ao8 y167.length co8] rfl maz_ ?_; (with_reducible refine (spec_l1Cur_among.calls g s0_0 t165 t166 _ _ y167 t170 t171 t172 w0 _ ?side1 ?side2 ?side3 ?side4 ?side5 A4.out).mono ?_); (case side1 => repeat (first | (with_reducible first | exact HI0.out | apply IsS111.alloc | apply IsS111.drewN | apply IsS111.drew | apply IsS111.set_1 | apply IsS111.set_2) | exact HI0.out)); (case side2 => repeat (first | (with_reducible first | exact HB.out | apply baz_ | apply bnz_ | apply bdz_ | refine bsz_ ?_ (IsS111.ge HI0.out)) | exact HB.out)); (case side3 => exact ucz_ ((Kd.R_reads' HO169.out).2.2)); (case side4 => exact (Kd.R_reads' HO169.out).2.1); (case side5 => exact far_slice (IsS111.own_ne HI0.out HO169.out (by decide))); rintro e w9 ⟨rfl, hi, hb, hk⟩; refine ⟨_, rfl, ?_⟩; replace HO169 := Az_ (Kd.R_mono (Kd.R_keep (IsS111.apart (show IsS111 w0 _ g s0_0 t165 t166 from w59_) (by exact urz_ HO169.out) (by decide)) hk (fun _ h => h.2)) (fun _ h => h.1)); replace HK := Az_ (KeepBut.trans (w74_) hk (.inl rfl)); replace HB := Az_ (hb); replace HI0 := Az_ (hi); (try clear hb); (try clear hk); (try clear hi)))
  go_ret
  exact ⟨w116_, w59_, w78_, w74_⟩
 ·replace c3 := Bool.eq_false_iff.mpr c3
  subst c3
  rw [if_neg nfz_] at H
  replace H := bqz_ H; obtain ⟨⟨t173, t174, t175⟩, A10, H⟩ := H
  replace H : (some (wrap64 (1 + t173), t174, t175)) = some (r1, r2, r3) := H
  simp only [Option.some.injEq, Prod.mk.injEq] at H
  obtain ⟨rfl, rfl, rfl⟩ := H
  go_enter Tryd.func153, Tryd.ntmps153
  go_wp2_with (first | ((with_reducible refine gate_callee (f := 93) rfl ?_); refine goesL_ (some 4) rfl rfl Tryd.func93 (w162_) rfl #[.pointer (some ⟨g, 0, none⟩), .int .i64 12] rfl maz_ ?_; (with_reducible refine (spec_l1Cur_one.calls g s0_0 s0_1 s0_2 12 false t165 t166 w0 _ ?side1 ?side2 A2.out).mono ?_); (case side1 => repeat (first | (with_reducible first | exact HI0.out | apply IsS111.alloc | apply IsS111.drewN | apply IsS111.drew | apply IsS111.set_1 | apply IsS111.set_2) | exact HI0.out)); (case side2 => repeat (first | (with_reducible first | exact HB.out | apply baz_ | apply bnz_ | apply bdz_ | refine bsz_ ?_ (IsS111.ge HI0.out)) | exact HB.out)); rintro e w11 ⟨rfl, hi, hb, hk⟩; refine ⟨_, rfl, ?_⟩; replace HK := Az_ (KeepBut.trans (w74_) hk (.inl rfl)); replace HB := Az_ (hb); replace HI0 := Az_ (hi); (try clear hb); (try clear hk); (try clear hi)) | ((with_reducible refine gate_callee (f := 96) rfl ?_); refine goesL_ (some 9) rfl rfl Tryd.func96 (w162_) rfl #[.pointer (some ⟨g, 0, none⟩), .int .i64 140] rfl maz_ ?_; (with_reducible refine (spec_l1Cur_pick.calls g s0_0 t165 t166 140 t173 t174 t175 w0 _ ?side1 ?side2 A10.out).mono ?_); (case side1 => repeat (first | (with_reducible first | exact HI0.out | apply IsS111.alloc | apply IsS111.drewN | apply IsS111.drew | apply IsS111.set_1 | apply IsS111.set_2) | exact HI0.out)); (case side2 => repeat (first | (with_reducible first | exact HB.out | apply baz_ | apply bnz_ | apply bdz_ | refine bsz_ ?_ (IsS111.ge HI0.out)) | exact HB.out)); rintro e w12 ⟨rfl, hi, hb, hk⟩; refine ⟨_, rfl, ?_⟩; replace HK := Az_ (KeepBut.trans (w74_) hk (.inl rfl)); replace HB := Az_ (hb); replace HI0 := Az_ (hi); (try clear hb); (try clear hk); (try clear hi)))
  go_ret
  exact ⟨w116_, w59_, w78_, w74_⟩


def spec_DrawPutPages.f (k : Nat) (l0 : List Int) : Option ((List (S100)) × Int × Int) := (spec_l1Cur_ranges.f k l0 0 0).bind fun bt177 => ((spec_l1Cur_indexed.f l0 bt177.2.1 bt177.2.2).bind fun bt182 => ((spec_l1Cur_among.f l0 bt182.2.1 bt182.2.2 (([0, 1, 2, 5, 10, 1000, 2000, 2001, (-1)] : List Int))).bind fun bt188 => (some (bt177.1, bt182.1, bt188.1))))
set_option maxHeartbeats 8000000 in
set_option maxRecDepth 100000 in
theorem spec_DrawPutPages.calls (k : Nat) (A0 : Option Addr) (c0 : Nat) (l0 : List Int) (r1 : List (S100)) (r2 : Int) (r3 : Int) (w : World) (hr0 : Kd.C (Kd.int .u8) w A0 l0.length l0) (hc0 : l0.length ≤ c0) (h : spec_DrawPutPages.f k l0 = some (r1, r2, r3)) :
  Calls Tryd.prog 67 #[.slice A0 l0.length c0] w fun e w' => ∃ v0_ : Value, e = .returned (.tuple #[v0_, .int .i64 r2, .int .i64 r3]) ∧ Kd.R k100 100 w' w.heap.size (fun _ => True) v0_ r1 ∧ Below w.heap.size w w' := by
 have hu111 := Tryd.underlying111
 have HR0 := Az_ hr0
 have HC0 := Az_ hc0
 clear hr0 hc0
 have HB := Az_ (Below.refl w.heap.size w)
 have H : ((spec_l1Cur_ranges.f k l0 0 0).bind fun bt177 => ((spec_l1Cur_indexed.f l0 bt177.2.1 bt177.2.2).bind fun bt182 => ((spec_l1Cur_among.f l0 bt182.2.1 bt182.2.2 (([0, 1, 2, 5, 10, 1000, 2000, 2001, (-1)] : List Int))).bind fun bt188 => (some (bt177.1, bt182.1, bt188.1))))) = some (r1, r2, r3) := h
 clear h
 replace H := bqz_ H; obtain ⟨⟨t177, t180, t181⟩, A2, H⟩ := H
 replace H := bqz_ H; obtain ⟨⟨t182, t183, t184⟩, A3, H⟩ := H
 replace H : ((spec_l1Cur_among.f l0 t183 t184 (([0, 1, 2, 5, 10, 1000, 2000, 2001, (-1)] : List Int))).bind fun bt188 => (some (t177, t182, bt188.1))) = some (r1, r2, r3) := H
 obtain ⟨y185, hy185⟩ : ∃ y_ : List Int, y_ = (([0, 1, 2, 5, 10, 1000, 2000, 2001, (-1)] : List Int)) := ⟨_, rfl⟩
 replace H : ((spec_l1Cur_among.f l0 t183 t184 y185).bind fun bt188 => (some (t177, t182, bt188.1))) = some (r1, r2, r3) := by first | (rw [hy185]; with_reducible exact H) | (have H2_ := (Option.bind_some _ _).symm.trans H; rw [hy185]; with_reducible exact H2_) | (have H2_ := (Option.bind_some _ _).symm.trans H; with_reducible exact H2_) | with_reducible exact H | (rw [hy185]; exact H) | exact H
 have Ny185 := Az_ hy185
 clear hy185
 replace H := bqz_ H; obtain ⟨⟨t188, t189, t190⟩, A4, H⟩ := H
 replace H : (some (t177, t182, t188)) = some (r1, r2, r3) := H
 simp only [Option.some.injEq, Prod.mk.injEq] at H
 obtain ⟨rfl, rfl, rfl⟩ := H
 go_enter Tryd.func67, Tryd.ntmps67
 go_wp2_with (first | ((with_reducible refine gate_dst (N := 10) rfl ?_); refine box_event ?hg (N := 10) ?hd (cs := #[.slice A0 l0.length c0, .int .i64 0, .int .u64 0]) (t := 111) ?hr ?_; (case hd => rfl); (case hg => rfl); (case hr => first | (go_simp; done) | (go_simp; rfl)); intro gb176 hg w5 hbox hb; have BK176 := Az_ (hbox); have GW176 := Az_ ((by rw [hg]; exact (below_size (ubz_ HB.out)) : w.heap.size ≤ gb176)); have GE176 := Az_ ((by rw [hg]; exact (below_size (ubz_ HB.out)) : w.heap.size ≤ gb176)); replace HB := Az_ (btz_ (ubz_ HB.out) hb); clear hb hbox hg) | ((with_reducible refine gate_callee (f := 152) rfl ?_); refine goesL_ (some 12) rfl rfl Tryd.func152 (w162_) rfl #[.pointer (some ⟨gb176, 0, none⟩)] rfl maz_ ?_; have HI176 := Az_ (show IsS111 w w5 gb176 l0 0 0 from ⟨_, _, BK176.out, GE176.out, HR0.out⟩); (with_reducible refine (spec_l1Cur_ranges.calls k gb176 l0 0 0 t177 t180 t181 w _ ?side1 ?side2 A2.out).mono ?_); (case side1 => repeat (first | (with_reducible first | exact HI176.out | apply IsS111.alloc | apply IsS111.drewN | apply IsS111.drew | apply IsS111.set_1 | apply IsS111.set_2) | exact HI176.out)); (case side2 => repeat (first | (with_reducible first | exact HB.out | apply baz_ | apply bnz_ | apply bdz_ | refine bsz_ ?_ (IsS111.ge HI176.out)) | exact HB.out)); rintro e w6 ⟨v178, rfl, ho0, hi, hb, hk⟩; refine ⟨_, rfl, ?_⟩; have HO179 := Az_ (Kd.R_lower ho0 (below_size (w71_))); replace HB := Az_ (hb); replace HI176 := Az_ (hi); (try clear hb); (try clear hk); (try clear hi); (try clear ho0)) | ((with_reducible refine gate_callee (f := 153) rfl ?_); refine goesL_ (some 14) rfl rfl Tryd.func153 (w162_) rfl #[.pointer (some ⟨gb176, 0, none⟩)] rfl maz_ ?_; (with_reducible refine (spec_l1Cur_indexed.calls gb176 l0 t180 t181 t182 t183 t184 w _ ?side1 ?side2 A3.out).mono ?_); (case side1 => repeat (first | (with_reducible first | exact HI176.out | apply IsS111.alloc | apply IsS111.drewN | apply IsS111.drew | apply IsS111.set_1 | apply IsS111.set_2) | exact HI176.out)); (case side2 => repeat (first | (with_reducible first | exact HB.out | apply baz_ | apply bnz_ | apply bdz_ | refine bsz_ ?_ (IsS111.ge HI176.out)) | exact HB.out)); rintro e w7 ⟨rfl, hi, hb, hk⟩; refine ⟨_, rfl, ?_⟩; replace HO179 := Az_ (Kd.R_mono (Kd.R_keep (IsS111.apart (show IsS111 w _ gb176 l0 t180 t181 from w56_) (by exact urz_ HO179.out) (by decide)) hk (fun _ h => h.2)) (fun _ h => h.1)); replace HB := Az_ (hb); replace HI176 := Az_ (hi); (try clear hb); (try clear hk); (try clear hi)) | ((with_reducible refine gate_dst (N := 18) rfl ?_); refine Kd.R_lit (Kd.int .i64) _ 3 ?hg (N := 18) ?hd (xs := ([0, 1, 2, 5, 10, 1000, 2000, 2001, (-1)] : List Int)) (inner := [.int .i64 0, .int .i64 1, .int .i64 2, .int .i64 5, .int .i64 10, .int .i64 1000, .int .i64 2000, .int .i64 2001, .int .i64 (-1)]) (ok := fun _ => True) (okp := fun _ => True) ?hr ?hp (fun _ hk => hk) trivial (Below.refl _ _) (Nat.le_refl _) (by simp) ?_; (case hd => rfl); (case hg => rfl); (case hr => first | (go_simp; done) | (go_simp; rfl)); (case hp => exact (Reps.one (show Kd.M (Kd.int .i64) _ _ _ 0 [.int .i64 0] from rfl) (Reps.one (show Kd.M (Kd.int .i64) _ _ _ 1 [.int .i64 1] from rfl) (Reps.one (show Kd.M (Kd.int .i64) _ _ _ 2 [.int .i64 2] from rfl) (Reps.one (show Kd.M (Kd.int .i64) _ _ _ 5 [.int .i64 5] from rfl) (Reps.one (show Kd.M (Kd.int .i64) _ _ _ 10 [.int .i64 10] from rfl) (Reps.one (show Kd.M (Kd.int .i64) _ _ _ 1000 [.int .i64 1000] from rfl) (Reps.one (show Kd.M (Kd.int .i64) _ _ _ 2000 [.int .i64 2000] from rfl) (Reps.one (show Kd.M (Kd.int .i64) _ _ _ 2001 [.int .i64 2001] from rfl) (Reps.one (show Kd.M (Kd.int .i64) _ _ _ (-1) [.int .i64 (-1)] from rfl) (Reps.none _ _))))))))))); intro v186 w8 ho9 hb hg_ hnew_; clear hg_ hnew_; (first | rw [← Ny185.out] at ho9 | (simp only [Int.reduceToNat] at ho9; rw [← Ny185.out] at ho9)); replace HO179 := Az_ (Kd.R_below (by exact urz_ HO179.out) hb); have HO187 := Az_ (Kd.R_lower ho9 (below_size (w71_))); replace HB := Az_ (btz_ (w71_) hb); replace HI176 := Az_ (IsS111.below (w56_) hb); clear hb ho9; obtain ⟨Ao10, co10, eo10⟩ := Kd.R_slice HO187.out; subst eo10) | ((with_reducible refine gate_callee (f := 94) rfl ?_); refine goesL_ (some 19) rfl rfl Tryd.func94 (w162_) rfl #[.pointer (some ⟨gb176, 0, none⟩), .slice Ao10 y185.length co10] rfl maz_ ?_; (with_reducible refine (spec_l1Cur_among.calls gb176 l0 t183 t184 _ _ y185 t188 t189 t190 w _ ?side1 ?side2 ?side3 ?side4 ?side5 A4.out).mono ?_); (case side1 => repeat (first | (with_reducible first | exact HI176.out | apply IsS111.alloc | apply IsS111.drewN | apply IsS111.drew | apply IsS111.set_1 | apply IsS111.set_2) | exact HI176.out)); (case side2 => repeat (first | (with_reducible first | exact HB.out | apply baz_ | apply bnz_ | apply bdz_ | refine bsz_ ?_ (IsS111.ge HI176.out)) | exact HB.out)); (case side3 => exact ucz_ ((Kd.R_reads' HO187.out).2.2)); (case side4 => exact (Kd.R_reads' HO187.out).2.1); (case side5 => exact far_slice (IsS111.own_ne HI176.out HO187.out (by decide))); rintro e w11 ⟨rfl, hi, hb, hk⟩; refine ⟨_, rfl, ?_⟩; replace HO179 := Az_ (Kd.R_mono (Kd.R_keep (IsS111.apart (show IsS111 w _ gb176 l0 t183 t184 from w56_) (by exact urz_ HO179.out) (by decide)) hk (fun _ h => h.2)) (fun _ h => h.1)); replace HO187 := Az_ (Kd.R_mono (Kd.R_keep (IsS111.apart (show IsS111 w _ gb176 l0 t183 t184 from w56_) (by exact urz_ HO187.out) (by decide)) hk (fun _ h => h.2)) (fun _ h => h.1)); replace HB := Az_ (hb); replace HI176 := Az_ (hi); (try clear hb); (try clear hk); (try clear hi)))
 go_ret3
 exact ⟨_, w116_, by (with_reducible repeat (first | apply raz_ | apply rnz_ | apply rdz_)); exact HO179.out, w71_⟩

def impl_within.f (a0 : Int) (a1 : Int) (a2 : Int) : Option (Bool) := if a0 ≥ a1 then (some (decide (a0 ≤ a2))) else (some false)
set_option maxHeartbeats 8000000 in
set_option maxRecDepth 100000 in
theorem impl_within.calls (a0 : Int) (a1 : Int) (a2 : Int) (r : Bool) (w : World) (h : impl_within.f a0 a1 a2 = some r) :
  Calls Tryd.prog 97 #[.int .i64 a0, .int .i64 a1, .int .i64 a2] w fun e w' => e = .returned (.bool r) ∧ Drawn0 w w' := by
 have H : (if a0 ≥ a1 then (some (decide (a0 ≤ a2))) else (some false)) = some r := h
 clear h
 by_cases c4 : a0 ≥ a1
 ·rw [if_pos c4] at H
  have c4b0 := decide_eq_true c4
  clear c4
  obtain rfl := Option.some.inj H
  go_enter Tryd.func97, Tryd.ntmps97
  go_wp2
  go_ret
  exact ⟨w134_, w131_⟩
 ·rw [if_neg c4] at H
  have c4b0 := decide_eq_false c4
  clear c4
  obtain rfl := Option.some.inj H
  go_enter Tryd.func97, Tryd.ntmps97
  go_wp2
  go_ret
  exact ⟨w134_, w131_⟩

def impl_isRange.f (a0_0 : Int) (a0_1 : Int) : Option (Bool) := (impl_within.f a0_1 1 2000).bind fun t192 => (if t192 = true then ((impl_within.f a0_0 1 a0_1).bind fun t193 => (some t193)) else (some false))
set_option maxHeartbeats 8000000 in
set_option maxRecDepth 100000 in
theorem impl_isRange.calls (a0_0 : Int) (a0_1 : Int) (r : Bool) (w : World) (h : impl_isRange.f a0_0 a0_1 = some r) :
  Calls Tryd.prog 162 #[.agg #[.int .i64 a0_0, .int .i64 a0_1]] w fun e w' => e = .returned (.bool r) ∧ Below w.heap.size w w' := by
 have hu100 := Tryd.underlying100
 have HB := Az_ (Below.refl w.heap.size w)
 have H : ((impl_within.f a0_1 1 2000).bind fun t192 => (if t192 = true then ((impl_within.f a0_0 1 a0_1).bind fun t193 => (some t193)) else (some false))) = some r := h
 clear h
 replace H := bqz_ H; obtain ⟨t192, A2, H⟩ := H
 replace H : (if t192 = true then ((impl_within.f a0_0 1 a0_1).bind fun t193 => (some t193)) else (some false)) = some r := H
 by_cases c3 : t192 = true
 ·subst c3
  rw [if_pos rfl] at H
  replace H := bqz_ H; obtain ⟨t193, A4, H⟩ := H
  replace H : (some t193) = some r := H
  obtain rfl := Option.some.inj H
  go_enter Tryd.func162, Tryd.ntmps162
  go_wp2_with (first | ((with_reducible refine gate_dst (N := 1) rfl ?_); refine box_event ?hg (N := 1) ?hd (cs := #[.int .i64 a0_0, .int .i64 a0_1]) (t := 100) ?hr ?_; (case hd => rfl); (case hg => rfl); (case hr => first | (go_simp; done) | (go_simp; rfl)); intro gb191 hg w5 hbox hb; have BK191 := Az_ (hbox); have GW191 := Az_ ((by rw [hg]; exact (below_size (ubz_ HB.out)) : w.heap.size ≤ gb191)); have GE191 := Az_ ((by rw [hg]; exact (below_size (ubz_ HB.out)) : w.heap.size ≤ gb191)); replace HB := Az_ (btz_ (ubz_ HB.out) hb); clear hb hbox hg; have hcz6_0 : w5.cell? ⟨gb191, 0, none⟩ = some (.int .i64 a0_0) := (blk_cell BK191.out 0).trans rfl; have hcz6_1 : w5.cell? ⟨gb191, 1, none⟩ = some (.int .i64 a0_1) := (blk_cell BK191.out 1).trans rfl; have hfz6_0 := blk_frozen BK191.out 0; have hfz6_1 := blk_frozen BK191.out 1) | ((with_reducible refine gate_callee (f := 97) rfl ?_); refine goesL_ (some 5) rfl rfl Tryd.func97 (w162_) rfl #[.int .i64 a0_1, .int .i64 1, .int .i64 2000] rfl maz_ ?_; (with_reducible refine (impl_within.calls a0_1 1 2000 true _ A2.out).mono ?_); rintro e w' ⟨rfl, ⟨nd, rfl⟩⟩; refine ⟨_, rfl, ?_⟩) | (go_at_call 97; (with_reducible refine (impl_within.calls a0_0 1 a0_1 t193 _ A4.out).mono ?_); rintro e w' ⟨rfl, ⟨nd, rfl⟩⟩))
  go_ret
  exact ⟨w116_, w79_⟩
 ·replace c3 := Bool.eq_false_iff.mpr c3
  subst c3
  rw [if_neg nfz_] at H
  obtain rfl := Option.some.inj H
  go_enter Tryd.func162, Tryd.ntmps162
  go_wp2_with (first | ((with_reducible refine gate_dst (N := 1) rfl ?_); refine box_event ?hg (N := 1) ?hd (cs := #[.int .i64 a0_0, .int .i64 a0_1]) (t := 100) ?hr ?_; (case hd => rfl); (case hg => rfl); (case hr => first | (go_simp; done) | (go_simp; rfl)); intro gb191 hg w7 hbox hb; have BK191 := Az_ (hbox); have GW191 := Az_ ((by rw [hg]; exact (below_size (ubz_ HB.out)) : w.heap.size ≤ gb191)); have GE191 := Az_ ((by rw [hg]; exact (below_size (ubz_ HB.out)) : w.heap.size ≤ gb191)); replace HB := Az_ (btz_ (ubz_ HB.out) hb); clear hb hbox hg; have hcz8_0 : w7.cell? ⟨gb191, 0, none⟩ = some (.int .i64 a0_0) := (blk_cell BK191.out 0).trans rfl; have hcz8_1 : w7.cell? ⟨gb191, 1, none⟩ = some (.int .i64 a0_1) := (blk_cell BK191.out 1).trans rfl; have hfz8_0 := blk_frozen BK191.out 0; have hfz8_1 := blk_frozen BK191.out 1) | ((with_reducible refine gate_callee (f := 97) rfl ?_); refine goesL_ (some 5) rfl rfl Tryd.func97 (w162_) rfl #[.int .i64 a0_1, .int .i64 1, .int .i64 2000] rfl maz_ ?_; (with_reducible refine (impl_within.calls a0_1 1 2000 false _ A2.out).mono ?_); rintro e w' ⟨rfl, ⟨nd, rfl⟩⟩; refine ⟨_, rfl, ?_⟩))
  go_ret
  exact ⟨w116_, w79_⟩


def impl_AreRanges.l0 : Nat → List (S100) → List (S100) → Int → Int → Option (Bool)
 | 0, _, _, _, _ => none
 | k + 1, x0, x5, x6, x7 => if x7 < x6 then (if 0 ≤ x7 then (if x7 < (x5.length : Int) then ((impl_isRange.f ((rd_T100 x5 x7).f0) ((rd_T100 x5 x7).f1)).bind fun t196 => (if t196 = true then (if x7 > 0 then (if 0 ≤ (wrap64 (x7 - 1)) then (if (wrap64 (x7 - 1)) < (x0.length : Int) then (if ((rd_T100 x5 x7).f0) < (wrap64 (((rd_T100 x0 (wrap64 (x7 - 1))).f1) + 2)) then (some false) else (impl_AreRanges.l0 k x0 x5 x6 (wrap64 (x7 + 1)))) else (none)) else (none)) else (impl_AreRanges.l0 k x0 x5 x6 (wrap64 (x7 + 1)))) else (some false))) else (none)) else (none)) else (some (decide ((x0.length : Int) ≤ 20)))
def impl_AreRanges.f (k : Nat) (l0 : List (S100)) : Option (Bool) := impl_AreRanges.l0 k l0 l0 (l0.length : Int) 0
def impl_AreRanges.T4 : Bool × List (List Nat × List Nat) := (true, [([], []), ([0], [0]), ([1], [1]), ([2, 1], [2]), ([3], [3]), ([4, 3], [3, 4]), ([5, 3, 3], [3, 5]), ([6], [6]), ([7, 6], [6, 7]), ([6], [6]), ([6], [6]), ([10, 6], [6, 10]), ([9, 11, 6], [6, 9, 11]), ([12, 6], [6, 12]), ([13, 6], [6, 13]), ([14, 6], [6, 14]), ([8, 15, 6], [6, 8, 15]), ([6, 16, 3], [3, 6, 16]), ([3, 17], [3, 17])])
def impl_AreRanges.B4 : List Nat := [0, 1, 3, 7, 15, 31, 63, 127, 255, 127, 127, 1151, 3711, 7807, 15999, 32383, 65535, 131071, 262143]
theorem impl_AreRanges.tab4 : rtab .any (opsOf Tryd.f91 4) = impl_AreRanges.T4 := by kernel_rfl
theorem impl_AreRanges.bits4 : waitsOk impl_AreRanges.T4.2 impl_AreRanges.B4 = true := by kernel_rfl
set_option maxHeartbeats 8000000 in
set_option maxRecDepth 100000 in
theorem impl_AreRanges.calls (k : Nat) (A0 : Option Addr) (c0 : Nat) (l0 : List (S100)) (r : Bool) (w : World) (hr0 : Kd.C k100 w A0 l0.length l0) (hc0 : l0.length ≤ c0) (h : impl_AreRanges.f k l0 = some r) :
  Calls Tryd.prog 91 #[.slice A0 l0.length c0] w fun e w' => e = .returned (.bool r) ∧ Below w.heap.size w w' := by
 have hu100 := Tryd.underlying100
 have HR0 := Az_ hr0
 have HC0 := Az_ hc0
 clear hr0 hc0
 have HB := Az_ (Below.refl w.heap.size w)
 have H : (impl_AreRanges.l0 k l0 l0 (l0.length : Int) 0) = some r := h
 clear h
 have H' := Az_ H
 clear H
 go_enter Tryd.func91, Tryd.ntmps91
 go_wp2
 go_loopg [7] k (fun kq v7 w' => ∃ (x7_1 : Int), v7 = .int .i64 x7_1 ∧ Aside0 (impl_AreRanges.l0 kq l0 l0 (l0.length : Int) x7_1 = some r) ∧ Aside0 (kq ≤ k) ∧ Aside0 (Below w.heap.size w w'))
 case atStart => exact ⟨(0), qaz_, H', ⟨Nat.le_refl _⟩, ⟨w160_⟩⟩
 case round =>
  clear H'
  obtain ⟨x7_1, rfl, HA, HK1, HB⟩ := hrel
  cases gk with
  | zero => exact absurd HA.out (by simp [impl_AreRanges.l0])
  | succ k1 =>
   have H := HA.out
   clear HA
   simp only [impl_AreRanges.l0] at H
   by_cases c2 : x7_1 < (l0.length : Int)
   ·rw [if_pos c2] at H
    have c2b0 := decide_eq_true c2
    clear c2
    by_cases c3 : 0 ≤ x7_1; rotate_left
    ·rw [if_neg c3] at H
     exact absurd H (by simp)
    rw [if_pos c3] at H
    have c3b0 := decide_eq_true c3
    clear c3
    by_cases c4 : x7_1 < (l0.length : Int); rotate_left
    ·rw [if_neg c4] at H
     exact absurd H (by simp)
    rw [if_pos c4] at H
    have c4b0 := decide_eq_true c4
    clear c4
    replace H := bqz_ H; obtain ⟨t196, A5, H⟩ := H
    replace H : (if t196 = true then (if x7_1 > 0 then (if 0 ≤ (wrap64 (x7_1 - 1)) then (if (wrap64 (x7_1 - 1)) < (l0.length : Int) then (if ((rd_T100 l0 x7_1).f0) < (wrap64 (((rd_T100 l0 (wrap64 (x7_1 - 1))).f1) + 2)) then (some false) else (impl_AreRanges.l0 k1 l0 l0 (l0.length : Int) (wrap64 (x7_1 + 1)))) else (none)) else (none)) else (impl_AreRanges.l0 k1 l0 l0 (l0.length : Int) (wrap64 (x7_1 + 1)))) else (some false)) = some r := H
    by_cases c6 : t196 = true; rotate_left
    ·replace c6 := Bool.eq_false_iff.mpr c6
     subst c6
     rw [if_neg nfz_] at H
     obtain rfl := Option.some.inj H
     have p194 : 0 ≤ (x7_1 : Int) := od_
     have q194 : x7_1 < (l0.length : Int) := od_
     obtain ⟨ad194, e194, hx194_0, hx194_1⟩ := at_T100 HR0.out x7_1 p194 q194
     cases e194
     replace hx194_0 := hbz_ HB.out hx194_0
     replace hx194_1 := hbz_ HB.out hx194_1
     replace p194 := eq_true p194
     replace q194 := eq_true q194
     try go_wp2_with (((with_reducible refine gate_dst (N := 4) rfl ?_); refine box_event ?hg (N := 4) ?hd (cs := #[.int .i64 0, .int .i64 0]) (t := 100) ?hr ?_; (case hd => rfl); (case hg => rfl); (case hr => first | (go_simp; done) | (go_simp; rfl)); intro gb195 hg w27 hbox hb; have BK195 := Az_ (hbox); have GW195 := Az_ ((by rw [hg]; exact (below_size (ubz_ HB.out)) : w.heap.size ≤ gb195)); have GE195 := Az_ ((by rw [hg]; exact (below_size (ubz_ HB.out)) : w.heap.size ≤ gb195)); replace HB := Az_ (btz_ (ubz_ HB.out) hb); clear hb hbox hg; have hcz28_0 : w27.cell? ⟨gb195, 0, none⟩ = some (.int .i64 0) := (blk_cell BK195.out 0).trans rfl; have hcz28_1 : w27.cell? ⟨gb195, 1, none⟩ = some (.int .i64 0) := (blk_cell BK195.out 1).trans rfl; have hfz28_0 := blk_frozen BK195.out 0; have hfz28_1 := blk_frozen BK195.out 1))
     have n0_ : Aside0 (((w27.setCell ⟨gb195, 0, none⟩ (.int .i64 ((rd_T100 l0 x7_1).f0))).setCell ⟨gb195, 1, none⟩ (.int .i64 ((rd_T100 l0 x7_1).f1))).heap[gb195]? = some (.cells #[.int .i64 ((rd_T100 l0 x7_1).f0), .int .i64 ((rd_T100 l0 x7_1).f1)] 100 (0, 0))) := ⟨w17_⟩
     have n1_ : Aside0 (Below w.heap.size w ((w27.setCell ⟨gb195, 0, none⟩ (.int .i64 ((rd_T100 l0 x7_1).f0))).setCell ⟨gb195, 1, none⟩ (.int .i64 ((rd_T100 l0 x7_1).f1)))) := ⟨w79_⟩
     clear BK195
     clear HB
     generalize ((w27.setCell ⟨gb195, 0, none⟩ (.int .i64 ((rd_T100 l0 x7_1).f0))).setCell ⟨gb195, 1, none⟩ (.int .i64 ((rd_T100 l0 x7_1).f1))) = w29 at n0_ n1_ ⊢
     have BK195 := n0_
     have HB := n1_
     clear n0_ n1_
     have n0_ := Az_ (kdz_ BK195.out)
     have n1_ := Az_ (bdz_ HB.out)
     clear BK195 HB
     have BK195 := n0_
     have HB := n1_
     clear n0_ n1_
     refine start_ (n := 19) (S := fun w' => w'.cell? ⟨gb195, 0, none⟩ = some (.int .i64 ((rd_T100 l0 x7_1).f0)) ∧ w'.cell? ⟨gb195, 1, none⟩ = some (.int .i64 ((rd_T100 l0 x7_1).f1))) (ds := []) #[false, false, false, false, false, false, false, false, false, false, false, false, false, false, false, false, false, false, false] (w162_) rfl rfl ⟨(blk_cell BK195.out 0).trans rfl, (blk_cell BK195.out 1).trans rfl⟩ (fun hHeld => ?_); refine with_tabW impl_AreRanges.tab4 impl_AreRanges.bits4 (fun HT_ HW_ => ?_)
     generalize w29.drew = w30 at BK195 HB hHeld ⊢
     refine tz2_ 0 12 [1,18] ?_
     refine one_ (i := 1) (N := some 13) (mz_ [2,17]) rfl rfl (one_of HT_.out (w162_)) (by decide) (fun K hK => ?_)
     refine goes_ Tryd.func162 (w162_) rfl #[.agg #[.int .i64 ((rd_T100 l0 x7_1).f0), .int .i64 ((rd_T100 l0 x7_1).f1)]] (by rfl) rfl rfl maz_ ?_
     with_reducible refine (impl_isRange.calls ((rd_T100 l0 x7_1).f0) ((rd_T100 l0 x7_1).f1) false _ A5.out).mono ?_
     rintro e w31 ⟨rfl, hb⟩
     refine ⟨_, rfl, ?_⟩
     have n1_ := Az_ (btz_ (w79_) hb)
     clear HB
     replace BK195 := Az_ (ukbz_ BK195.out hb)
     have HB := n1_
     clear n1_
     clear hb
     refine hK.out _ _ ⟨(blk_cell BK195.out 0).trans rfl, (blk_cell BK195.out 1).trans rfl⟩ (fun hHeld => ?_)
     clear hK K
     refine nz_ 13 ?_
     refine pz_ 2 14 [3,16] ?_
     refine pz_ 3 15 [4,15] ?_
     refine qz_ 4 16 [5,14] ?_
     refine qz_ 5 17 [6,13] ?_
     refine qz_ 6 18 [7,12] ?_
     refine qz_ 7 19 [8,11] ?_
     refine qz_ 8 20 [9,10] ?_
     refine qz_ 9 21 [10,9] ?_
     refine qz_ 10 22 [11,8] ?_
     refine qz_ 11 23 [12,7] ?_
     refine qz_ 12 24 [13,6] ?_
     refine qz_ 13 25 [14,5] ?_
     refine qz_ 14 26 [15,4] ?_
     refine qz_ 15 27 [16,3] ?_
     refine qz_ 16 28 [17,2] ?_
     refine qz_ 17 29 [18,1] ?_
     refine pz_ 18 30 [19] ?_
     refine done_ (done_of HT_.out (w162_)) ?_
     try go_wp2
     go_ret
     exact ⟨w116_, w79_⟩
    subst c6
    rw [if_pos rfl] at H
    by_cases c7 : x7_1 > 0; rotate_left
    ·rw [if_neg c7] at H
     have c7b0 := decide_eq_false c7
     clear c7
     have H' := Az_ H
     clear H
     have p194 : 0 ≤ (x7_1 : Int) := od_
     have q194 : x7_1 < (l0.length : Int) := od_
     obtain ⟨ad194, e194, hx194_0, hx194_1⟩ := at_T100 HR0.out x7_1 p194 q194
     cases e194
     replace hx194_0 := hbz_ HB.out hx194_0
     replace hx194_1 := hbz_ HB.out hx194_1
     replace p194 := eq_true p194
     replace q194 := eq_true q194
     try go_wp2_with (((with_reducible refine gate_dst (N := 4) rfl ?_); refine box_event ?hg (N := 4) ?hd (cs := #[.int .i64 0, .int .i64 0]) (t := 100) ?hr ?_; (case hd => rfl); (case hg => rfl); (case hr => first | (go_simp; done) | (go_simp; rfl)); intro gb195 hg w22 hbox hb; have BK195 := Az_ (hbox); have GW195 := Az_ ((by rw [hg]; exact (below_size (ubz_ HB.out)) : w.heap.size ≤ gb195)); have GE195 := Az_ ((by rw [hg]; exact (below_size (ubz_ HB.out)) : w.heap.size ≤ gb195)); replace HB := Az_ (btz_ (ubz_ HB.out) hb); clear hb hbox hg; have hcz23_0 : w22.cell? ⟨gb195, 0, none⟩ = some (.int .i64 0) := (blk_cell BK195.out 0).trans rfl; have hcz23_1 : w22.cell? ⟨gb195, 1, none⟩ = some (.int .i64 0) := (blk_cell BK195.out 1).trans rfl; have hfz23_0 := blk_frozen BK195.out 0; have hfz23_1 := blk_frozen BK195.out 1))
     have n0_ : Aside0 (((w22.setCell ⟨gb195, 0, none⟩ (.int .i64 ((rd_T100 l0 x7_1).f0))).setCell ⟨gb195, 1, none⟩ (.int .i64 ((rd_T100 l0 x7_1).f1))).heap[gb195]? = some (.cells #[.int .i64 ((rd_T100 l0 x7_1).f0), .int .i64 ((rd_T100 l0 x7_1).f1)] 100 (0, 0))) := ⟨w17_⟩
     have n1_ : Aside0 (Below w.heap.size w ((w22.setCell ⟨gb195, 0, none⟩ (.int .i64 ((rd_T100 l0 x7_1).f0))).setCell ⟨gb195, 1, none⟩ (.int .i64 ((rd_T100 l0 x7_1).f1)))) := ⟨w79_⟩
     clear BK195
     clear HB
     generalize ((w22.setCell ⟨gb195, 0, none⟩ (.int .i64 ((rd_T100 l0 x7_1).f0))).setCell ⟨gb195, 1, none⟩ (.int .i64 ((rd_T100 l0 x7_1).f1))) = w24 at n0_ n1_ ⊢
     have BK195 := n0_
     have HB := n1_
     clear n0_ n1_
     have n0_ := Az_ (kdz_ BK195.out)
     have n1_ := Az_ (bdz_ HB.out)
     clear BK195 HB
     have BK195 := n0_
     have HB := n1_
     clear n0_ n1_
     refine start_ (n := 19) (S := fun w' => w'.cell? ⟨gb195, 0, none⟩ = some (.int .i64 ((rd_T100 l0 x7_1).f0)) ∧ w'.cell? ⟨gb195, 1, none⟩ = some (.int .i64 ((rd_T100 l0 x7_1).f1))) (ds := []) #[false, false, false, false, false, false, false, false, false, false, false, false, false, false, false, false, false, false, false] (w162_) rfl rfl ⟨(blk_cell BK195.out 0).trans rfl, (blk_cell BK195.out 1).trans rfl⟩ (fun hHeld => ?_); refine with_tabW impl_AreRanges.tab4 impl_AreRanges.bits4 (fun HT_ HW_ => ?_)
     generalize w24.drew = w25 at BK195 HB hHeld ⊢
     refine tz2_ 0 12 [1,18] ?_
     refine one_ (i := 1) (N := some 13) (mz_ [2,17]) rfl rfl (one_of HT_.out (w162_)) (by decide) (fun K hK => ?_)
     refine goes_ Tryd.func162 (w162_) rfl #[.agg #[.int .i64 ((rd_T100 l0 x7_1).f0), .int .i64 ((rd_T100 l0 x7_1).f1)]] (by rfl) rfl rfl maz_ ?_
     with_reducible refine (impl_isRange.calls ((rd_T100 l0 x7_1).f0) ((rd_T100 l0 x7_1).f1) true _ A5.out).mono ?_
     rintro e w26 ⟨rfl, hb⟩
     refine ⟨_, rfl, ?_⟩
     have n1_ := Az_ (btz_ (w79_) hb)
     clear HB
     replace BK195 := Az_ (ukbz_ BK195.out hb)
     have HB := n1_
     clear n1_
     clear hb
     refine hK.out _ _ ⟨(blk_cell BK195.out 0).trans rfl, (blk_cell BK195.out 1).trans rfl⟩ (fun hHeld => ?_)
     clear hK K
     refine nz_ 13 ?_
     refine pz_ 2 14 [3,16] ?_
     refine pz_ 3 15 [4,15] ?_
     refine pz_ 4 16 [5,14] ?_
     refine pz_ 5 17 [6,13] ?_
     refine pz_ 6 18 [7,12] ?_
     refine qz_ 7 19 [8,11] ?_
     refine qz_ 8 20 [9,10] ?_
     refine qz_ 9 21 [10,9] ?_
     refine qz_ 10 22 [11,8] ?_
     refine qz_ 11 23 [12,7] ?_
     refine qz_ 12 24 [13,6] ?_
     refine qz_ 13 25 [14,5] ?_
     refine qz_ 14 26 [15,4] ?_
     refine qz_ 15 27 [16,3] ?_
     refine qz_ 16 28 [17,2] ?_
     refine pz_ 17 29 [18,1] ?_
     refine pz_ 18 30 [19] ?_
     refine done_ (done_of HT_.out (w162_)) ?_
     try go_wp2
     go_roundg k1
     case measure => have := HK1.out; omega
     case rel => exact ⟨(wrap64 (x7_1 + 1)), qaz_, H', ⟨w144_⟩, ⟨w79_⟩⟩
    rw [if_pos c7] at H
    have c7b0 := decide_eq_true c7
    clear c7
    obtain ⟨ji8, hji8⟩ : ∃ j_ : Int, (wrap64 (x7_1 - 1)) = j_ := ⟨_, rfl⟩
    replace H : (if 0 ≤ (ji8) then (if (ji8) < (l0.length : Int) then (if ((rd_T100 l0 x7_1).f0) < (wrap64 (((rd_T100 l0 (ji8)).f1) + 2)) then (some false) else (impl_AreRanges.l0 k1 l0 l0 (l0.length : Int) (wrap64 (x7_1 + 1)))) else (none)) else (none)) = some r := by first | (rw [hji8] at H; exact H) | (simp only [hji8] at H ⊢; exact H)
    (try rw [hji8] at A5)
    have hji8w : (IntKind.i64.wrap (x7_1 - 1)) = ji8 := (i64_w _).trans hji8
    by_cases c9 : 0 ≤ (ji8); rotate_left
    ·rw [if_neg c9] at H
     exact absurd H (by simp)
    rw [if_pos c9] at H
    have c9b0 := decide_eq_true c9
    clear c9
    by_cases c10 : (ji8) < (l0.length : Int); rotate_left
    ·rw [if_neg c10] at H
     exact absurd H (by simp)
    rw [if_pos c10] at H
    have c10b0 := decide_eq_true c10
    clear c10
    by_cases c11 : ((rd_T100 l0 x7_1).f0) < (wrap64 (((rd_T100 l0 (ji8)).f1) + 2))
    ·rw [if_pos c11] at H
     have c11b0 := decide_eq_true c11
     clear c11
     obtain rfl := Option.some.inj H
     have p194 : 0 ≤ (x7_1 : Int) := od_
     have q194 : x7_1 < (l0.length : Int) := od_
     obtain ⟨ad194, e194, hx194_0, hx194_1⟩ := at_T100 HR0.out x7_1 p194 q194
     cases e194
     replace hx194_0 := hbz_ HB.out hx194_0
     replace hx194_1 := hbz_ HB.out hx194_1
     replace p194 := eq_true p194
     replace q194 := eq_true q194
     try go_wp2_with (((with_reducible refine gate_dst (N := 4) rfl ?_); refine box_event ?hg (N := 4) ?hd (cs := #[.int .i64 0, .int .i64 0]) (t := 100) ?hr ?_; (case hd => rfl); (case hg => rfl); (case hr => first | (go_simp; done) | (go_simp; rfl)); intro gb195 hg w12 hbox hb; have BK195 := Az_ (hbox); have GW195 := Az_ ((by rw [hg]; exact (below_size (ubz_ HB.out)) : w.heap.size ≤ gb195)); have GE195 := Az_ ((by rw [hg]; exact (below_size (ubz_ HB.out)) : w.heap.size ≤ gb195)); replace HB := Az_ (btz_ (ubz_ HB.out) hb); clear hb hbox hg; have hcz13_0 : w12.cell? ⟨gb195, 0, none⟩ = some (.int .i64 0) := (blk_cell BK195.out 0).trans rfl; have hcz13_1 : w12.cell? ⟨gb195, 1, none⟩ = some (.int .i64 0) := (blk_cell BK195.out 1).trans rfl; have hfz13_0 := blk_frozen BK195.out 0; have hfz13_1 := blk_frozen BK195.out 1))
     have n0_ : Aside0 (((w12.setCell ⟨gb195, 0, none⟩ (.int .i64 ((rd_T100 l0 x7_1).f0))).setCell ⟨gb195, 1, none⟩ (.int .i64 ((rd_T100 l0 x7_1).f1))).heap[gb195]? = some (.cells #[.int .i64 ((rd_T100 l0 x7_1).f0), .int .i64 ((rd_T100 l0 x7_1).f1)] 100 (0, 0))) := ⟨w17_⟩
     have n1_ : Aside0 (Below w.heap.size w ((w12.setCell ⟨gb195, 0, none⟩ (.int .i64 ((rd_T100 l0 x7_1).f0))).setCell ⟨gb195, 1, none⟩ (.int .i64 ((rd_T100 l0 x7_1).f1)))) := ⟨w79_⟩
     clear BK195
     clear HB
     generalize ((w12.setCell ⟨gb195, 0, none⟩ (.int .i64 ((rd_T100 l0 x7_1).f0))).setCell ⟨gb195, 1, none⟩ (.int .i64 ((rd_T100 l0 x7_1).f1))) = w14 at n0_ n1_ ⊢
     have BK195 := n0_
     have HB := n1_
     clear n0_ n1_
     have n0_ := Az_ (kdz_ BK195.out)
     have n1_ := Az_ (bdz_ HB.out)
     clear BK195 HB
     have BK195 := n0_
     have HB := n1_
     clear n0_ n1_
     have p197 : 0 ≤ ((ji8) : Int) := od_
     have q197 : (ji8) < (l0.length : Int) := od_
     obtain ⟨ad197, e197, hx197_0, hx197_1⟩ := at_T100 HR0.out (ji8) p197 q197
     have hw197_1 := hx197_1
     have hw197_0 := hx197_0
     obtain rfl : ad194 = ad197 := (by injection e197)
     replace hx197_0 := hbz_ HB.out hx197_0
     replace hx197_1 := hbz_ HB.out hx197_1
     replace p197 := eq_true p197
     replace q197 := eq_true q197
     refine start_ (n := 19) (S := fun w' => w'.cell? ⟨gb195, 0, none⟩ = some (.int .i64 ((rd_T100 l0 x7_1).f0)) ∧ w'.cell? ⟨gb195, 1, none⟩ = some (.int .i64 ((rd_T100 l0 x7_1).f1)) ∧ w'.cell? (ad194.add (((ji8)).toNat * 2)) = some (.int .i64 ((rd_T100 l0 (ji8)).f0)) ∧ w'.cell? ⟨(ad194.add (((ji8)).toNat * 2)).block, (ad194.add (((ji8)).toNat * 2)).off + 1, none⟩ = some (.int .i64 ((rd_T100 l0 (ji8)).f1))) (ds := []) #[false, false, false, false, false, false, false, false, false, false, false, false, false, false, false, false, false, false, false] (w162_) rfl rfl ⟨(blk_cell BK195.out 0).trans rfl, (blk_cell BK195.out 1).trans rfl, (hbz_ HB.out hw197_0), (hbz_ HB.out hw197_1)⟩ (fun hHeld => ?_); refine with_tabW impl_AreRanges.tab4 impl_AreRanges.bits4 (fun HT_ HW_ => ?_)
     generalize w14.drew = w15 at BK195 HB hx197_0 hx197_1 hHeld ⊢
     refine tz4_ 0 12 [1,18] ?_
     refine one_ (i := 1) (N := some 13) (mz_ [2,17]) rfl rfl (one_of HT_.out (w162_)) (by decide) (fun K hK => ?_)
     refine goes_ Tryd.func162 (w162_) rfl #[.agg #[.int .i64 ((rd_T100 l0 x7_1).f0), .int .i64 ((rd_T100 l0 x7_1).f1)]] (by rfl) rfl rfl maz_ ?_
     with_reducible refine (impl_isRange.calls ((rd_T100 l0 x7_1).f0) ((rd_T100 l0 x7_1).f1) true _ A5.out).mono ?_
     rintro e w16 ⟨rfl, hb⟩
     refine ⟨_, rfl, ?_⟩
     have n1_ := Az_ (btz_ (w79_) hb)
     clear HB
     replace BK195 := Az_ (ukbz_ BK195.out hb)
     have HB := n1_
     clear n1_
     clear hb
     refine hK.out _ _ ⟨(blk_cell BK195.out 0).trans rfl, (blk_cell BK195.out 1).trans rfl, (hbz_ HB.out hw197_0), (hbz_ HB.out hw197_1)⟩ (fun hHeld => ?_)
     clear hK K
     refine nz_ 13 ?_
     refine pz_ 2 14 [3,16] ?_
     refine pz_ 3 15 [4,15] ?_
     refine pz_ 4 16 [5,14] ?_
     refine pz_ 5 17 [6,13] ?_
     refine pz_ 6 18 [7,12] ?_
     refine pz_ 7 19 [8,11] ?_
     refine pz_ 9 21 [8,1,1,9] ?_
     refine pz_ 10 22 [8,1,2,8] ?_
     refine pz_ 11 23 [8,1,3,7] ?_
     refine pz_ 12 24 [8,1,4,6] ?_
     refine pz_ 13 25 [8,1,5,5] ?_
     refine tz4_ 8 20 [14,5] ?_
     refine tz4_ 14 26 [15,4] ?_
     refine pz_ 15 27 [16,3] ?_
     refine pz_ 16 28 [17,2] ?_
     refine pz_ 17 29 [18,1] ?_
     refine pz_ 18 30 [19] ?_
     refine done_ (done_of HT_.out (w162_)) ?_
     try go_wp2
     go_ret
     exact ⟨by first | rfl | (simp [errW_none, errW_some] <;> rfl) | (simp only [← hji8]; first | rfl | (simp [errW_none, errW_some] <;> rfl)) | (simp [*, errW_none, errW_some] <;> rfl), w79_⟩
    rw [if_neg c11] at H
    have c11b0 := decide_eq_false c11
    clear c11
    have H' := Az_ H
    clear H
    have p194 : 0 ≤ (x7_1 : Int) := od_
    have q194 : x7_1 < (l0.length : Int) := od_
    obtain ⟨ad194, e194, hx194_0, hx194_1⟩ := at_T100 HR0.out x7_1 p194 q194
    cases e194
    replace hx194_0 := hbz_ HB.out hx194_0
    replace hx194_1 := hbz_ HB.out hx194_1
    replace p194 := eq_true p194
    replace q194 := eq_true q194
    try go_wp2_with (((with_reducible refine gate_dst (N := 4) rfl ?_); refine box_event ?hg (N := 4) ?hd (cs := #[.int .i64 0, .int .i64 0]) (t := 100) ?hr ?_; (case hd => rfl); (case hg => rfl); (case hr => first | (go_simp; done) | (go_simp; rfl)); intro gb195 hg w17 hbox hb; have BK195 := Az_ (hbox); have GW195 := Az_ ((by rw [hg]; exact (below_size (ubz_ HB.out)) : w.heap.size ≤ gb195)); have GE195 := Az_ ((by rw [hg]; exact (below_size (ubz_ HB.out)) : w.heap.size ≤ gb195)); replace HB := Az_ (btz_ (ubz_ HB.out) hb); clear hb hbox hg; have hcz18_0 : w17.cell? ⟨gb195, 0, none⟩ = some (.int .i64 0) := (blk_cell BK195.out 0).trans rfl; have hcz18_1 : w17.cell? ⟨gb195, 1, none⟩ = some (.int .i64 0) := (blk_cell BK195.out 1).trans rfl; have hfz18_0 := blk_frozen BK195.out 0; have hfz18_1 := blk_frozen BK195.out 1))
    have n0_ : Aside0 (((w17.setCell ⟨gb195, 0, none⟩ (.int .i64 ((rd_T100 l0 x7_1).f0))).setCell ⟨gb195, 1, none⟩ (.int .i64 ((rd_T100 l0 x7_1).f1))).heap[gb195]? = some (.cells #[.int .i64 ((rd_T100 l0 x7_1).f0), .int .i64 ((rd_T100 l0 x7_1).f1)] 100 (0, 0))) := ⟨w17_⟩
    have n1_ : Aside0 (Below w.heap.size w ((w17.setCell ⟨gb195, 0, none⟩ (.int .i64 ((rd_T100 l0 x7_1).f0))).setCell ⟨gb195, 1, none⟩ (.int .i64 ((rd_T100 l0 x7_1).f1)))) := ⟨w79_⟩
    clear BK195
    clear HB
    generalize ((w17.setCell ⟨gb195, 0, none⟩ (.int .i64 ((rd_T100 l0 x7_1).f0))).setCell ⟨gb195, 1, none⟩ (.int .i64 ((rd_T100 l0 x7_1).f1))) = w19 at n0_ n1_ ⊢
    have BK195 := n0_
    have HB := n1_
    clear n0_ n1_
    have n0_ := Az_ (kdz_ BK195.out)
    have n1_ := Az_ (bdz_ HB.out)
    clear BK195 HB
    have BK195 := n0_
    have HB := n1_
    clear n0_ n1_
    have p197 : 0 ≤ ((ji8) : Int) := od_
    have q197 : (ji8) < (l0.length : Int) := od_
    obtain ⟨ad197, e197, hx197_0, hx197_1⟩ := at_T100 HR0.out (ji8) p197 q197
    have hw197_1 := hx197_1
    have hw197_0 := hx197_0
    obtain rfl : ad194 = ad197 := (by injection e197)
    replace hx197_0 := hbz_ HB.out hx197_0
    replace hx197_1 := hbz_ HB.out hx197_1
    replace p197 := eq_true p197
    replace q197 := eq_true q197
    refine start_ (n := 19) (S := fun w' => w'.cell? ⟨gb195, 0, none⟩ = some (.int .i64 ((rd_T100 l0 x7_1).f0)) ∧ w'.cell? ⟨gb195, 1, none⟩ = some (.int .i64 ((rd_T100 l0 x7_1).f1)) ∧ w'.cell? (ad194.add (((ji8)).toNat * 2)) = some (.int .i64 ((rd_T100 l0 (ji8)).f0)) ∧ w'.cell? ⟨(ad194.add (((ji8)).toNat * 2)).block, (ad194.add (((ji8)).toNat * 2)).off + 1, none⟩ = some (.int .i64 ((rd_T100 l0 (ji8)).f1))) (ds := []) #[false, false, false, false, false, false, false, false, false, false, false, false, false, false, false, false, false, false, false] (w162_) rfl rfl ⟨(blk_cell BK195.out 0).trans rfl, (blk_cell BK195.out 1).trans rfl, (hbz_ HB.out hw197_0), (hbz_ HB.out hw197_1)⟩ (fun hHeld => ?_); refine with_tabW impl_AreRanges.tab4 impl_AreRanges.bits4 (fun HT_ HW_ => ?_)
    generalize w19.drew = w20 at BK195 HB hx197_0 hx197_1 hHeld ⊢
    refine tz4_ 0 12 [1,18] ?_
    refine one_ (i := 1) (N := some 13) (mz_ [2,17]) rfl rfl (one_of HT_.out (w162_)) (by decide) (fun K hK => ?_)
    refine goes_ Tryd.func162 (w162_) rfl #[.agg #[.int .i64 ((rd_T100 l0 x7_1).f0), .int .i64 ((rd_T100 l0 x7_1).f1)]] (by rfl) rfl rfl maz_ ?_
    with_reducible refine (impl_isRange.calls ((rd_T100 l0 x7_1).f0) ((rd_T100 l0 x7_1).f1) true _ A5.out).mono ?_
    rintro e w21 ⟨rfl, hb⟩
    refine ⟨_, rfl, ?_⟩
    have n1_ := Az_ (btz_ (w79_) hb)
    clear HB
    replace BK195 := Az_ (ukbz_ BK195.out hb)
    have HB := n1_
    clear n1_
    clear hb
    refine hK.out _ _ ⟨(blk_cell BK195.out 0).trans rfl, (blk_cell BK195.out 1).trans rfl, (hbz_ HB.out hw197_0), (hbz_ HB.out hw197_1)⟩ (fun hHeld => ?_)
    clear hK K
    refine nz_ 13 ?_
    refine pz_ 2 14 [3,16] ?_
    refine pz_ 3 15 [4,15] ?_
    refine pz_ 4 16 [5,14] ?_
    refine pz_ 5 17 [6,13] ?_
    refine pz_ 6 18 [7,12] ?_
    refine pz_ 7 19 [8,11] ?_
    refine pz_ 9 21 [8,1,1,9] ?_
    refine pz_ 10 22 [8,1,2,8] ?_
    refine pz_ 11 23 [8,1,3,7] ?_
    refine pz_ 12 24 [8,1,4,6] ?_
    refine pz_ 13 25 [8,1,5,5] ?_
    refine tz4_ 8 20 [14,5] ?_
    refine tz4_ 14 26 [15,4] ?_
    refine pz_ 15 27 [16,3] ?_
    refine pz_ 16 28 [17,2] ?_
    refine pz_ 17 29 [18,1] ?_
    refine pz_ 18 30 [19] ?_
    refine done_ (done_of HT_.out (w162_)) ?_
    try go_wp2
    go_roundg k1
    case measure => have := HK1.out; omega
    case rel => exact ⟨(wrap64 (x7_1 + 1)), qaz_, H', ⟨w144_⟩, ⟨w79_⟩⟩
   ·rw [if_neg c2] at H
    have c2b0 := decide_eq_false c2
    clear c2
    obtain rfl := Option.some.inj H
    go_wp2
    go_ret
    exact ⟨w116_, w160_⟩


def impl_isIndexed.f (a0 : Int) : Option (Bool) := (impl_within.f a0 1 2000).bind fun t198 => (some t198)
set_option maxHeartbeats 8000000 in
set_option maxRecDepth 100000 in
theorem impl_isIndexed.calls (a0 : Int) (r : Bool) (w : World) (h : impl_isIndexed.f a0 = some r) :
  Calls Tryd.prog 154 #[.int .i64 a0] w fun e w' => e = .returned (.bool r) ∧ Drawn0 w w' := by
 have H : ((impl_within.f a0 1 2000).bind fun t198 => (some t198)) = some r := h
 clear h
 replace H := bqz_ H; obtain ⟨t198, A2, H⟩ := H
 replace H : (some t198) = some r := H
 obtain rfl := Option.some.inj H
 go_enter Tryd.func154, Tryd.ntmps154
 go_wp2_with (((with_reducible refine gate_callee (f := 97) rfl ?_); refine goesL_ (some 4) rfl rfl Tryd.func97 (w162_) rfl #[.int .i64 a0, .int .i64 1, .int .i64 2000] rfl maz_ ?_; (with_reducible refine (impl_within.calls a0 1 2000 t198 _ A2.out).mono ?_); rintro e w' ⟨rfl, ⟨nd, rfl⟩⟩; refine ⟨_, rfl, ?_⟩))
 go_ret
 exact ⟨w134_, w131_⟩

def spec_l1In.f (a0 : Int) (a1 : Int) (a2 : Int) : Option (Bool) := if a0 ≥ a1 then (some (decide (a0 ≤ a2))) else (some false)
set_option maxHeartbeats 8000000 in
set_option maxRecDepth 100000 in
theorem spec_l1In.calls (a0 : Int) (a1 : Int) (a2 : Int) (r : Bool) (w : World) (h : spec_l1In.f a0 a1 a2 = some r) :
  Calls Tryd.prog 101 #[.int .i64 a0, .int .i64 a1, .int .i64 a2] w fun e w' => e = .returned (.bool r) ∧ Drawn0 w w' := by
 have H : (if a0 ≥ a1 then (some (decide (a0 ≤ a2))) else (some false)) = some r := h
 clear h
 by_cases c4 : a0 ≥ a1
 ·rw [if_pos c4] at H
  have c4b0 := decide_eq_true c4
  clear c4
  obtain rfl := Option.some.inj H
  go_enter Tryd.func101, Tryd.ntmps101
  go_wp2
  go_ret
  exact ⟨w134_, w131_⟩
 ·rw [if_neg c4] at H
  have c4b0 := decide_eq_false c4
  clear c4
  obtain rfl := Option.some.inj H
  go_enter Tryd.func101, Tryd.ntmps101
  go_wp2
  go_ret
  exact ⟨w134_, w131_⟩

def spec_ixRange.f (a0_0 : Int) (a0_1 : Int) : Option (Bool) := (spec_l1In.f a0_0 1 2000).bind fun t200 => (if t200 = true then ((spec_l1In.f a0_1 a0_0 2000).bind fun t201 => (some t201)) else (some false))
set_option maxHeartbeats 8000000 in
set_option maxRecDepth 100000 in
theorem spec_ixRange.calls (a0_0 : Int) (a0_1 : Int) (r : Bool) (w : World) (h : spec_ixRange.f a0_0 a0_1 = some r) :
  Calls Tryd.prog 164 #[.agg #[.int .i64 a0_0, .int .i64 a0_1]] w fun e w' => e = .returned (.bool r) ∧ Below w.heap.size w w' := by
 have hu100 := Tryd.underlying100
 have HB := Az_ (Below.refl w.heap.size w)
 have H : ((spec_l1In.f a0_0 1 2000).bind fun t200 => (if t200 = true then ((spec_l1In.f a0_1 a0_0 2000).bind fun t201 => (some t201)) else (some false))) = some r := h
 clear h
 replace H := bqz_ H; obtain ⟨t200, A2, H⟩ := H
 replace H : (if t200 = true then ((spec_l1In.f a0_1 a0_0 2000).bind fun t201 => (some t201)) else (some false)) = some r := H
 by_cases c3 : t200 = true
 ·subst c3
  rw [if_pos rfl] at H
  replace H := bqz_ H; obtain ⟨t201, A4, H⟩ := H
  replace H : (some t201) = some r := H
  obtain rfl := Option.some.inj H
  go_enter Tryd.func164, Tryd.ntmps164
  go_wp2_with (first | ((with_reducible refine gate_dst (N := 1) rfl ?_); refine box_event ?hg (N := 1) ?hd (cs := #[.int .i64 a0_0, .int .i64 a0_1]) (t := 100) ?hr ?_; (case hd => rfl); (case hg => rfl); (case hr => first | (go_simp; done) | (go_simp; rfl)); intro gb199 hg w5 hbox hb; have BK199 := Az_ (hbox); have GW199 := Az_ ((by rw [hg]; exact (below_size (ubz_ HB.out)) : w.heap.size ≤ gb199)); have GE199 := Az_ ((by rw [hg]; exact (below_size (ubz_ HB.out)) : w.heap.size ≤ gb199)); replace HB := Az_ (btz_ (ubz_ HB.out) hb); clear hb hbox hg; have hcz6_0 : w5.cell? ⟨gb199, 0, none⟩ = some (.int .i64 a0_0) := (blk_cell BK199.out 0).trans rfl; have hcz6_1 : w5.cell? ⟨gb199, 1, none⟩ = some (.int .i64 a0_1) := (blk_cell BK199.out 1).trans rfl; have hfz6_0 := blk_frozen BK199.out 0; have hfz6_1 := blk_frozen BK199.out 1) | ((with_reducible refine gate_callee (f := 101) rfl ?_); refine goesL_ (some 5) rfl rfl Tryd.func101 (w162_) rfl #[.int .i64 a0_0, .int .i64 1, .int .i64 2000] rfl maz_ ?_; (with_reducible refine (spec_l1In.calls a0_0 1 2000 true _ A2.out).mono ?_); rintro e w' ⟨rfl, ⟨nd, rfl⟩⟩; refine ⟨_, rfl, ?_⟩) | (go_at_call 101; (with_reducible refine (spec_l1In.calls a0_1 a0_0 2000 t201 _ A4.out).mono ?_); rintro e w' ⟨rfl, ⟨nd, rfl⟩⟩))
  go_ret
  exact ⟨w116_, w79_⟩
 ·replace c3 := Bool.eq_false_iff.mpr c3
  subst c3
  rw [if_neg nfz_] at H
  obtain rfl := Option.some.inj H
  go_enter Tryd.func164, Tryd.ntmps164
  go_wp2_with (first | ((with_reducible refine gate_dst (N := 1) rfl ?_); refine box_event ?hg (N := 1) ?hd (cs := #[.int .i64 a0_0, .int .i64 a0_1]) (t := 100) ?hr ?_; (case hd => rfl); (case hg => rfl); (case hr => first | (go_simp; done) | (go_simp; rfl)); intro gb199 hg w7 hbox hb; have BK199 := Az_ (hbox); have GW199 := Az_ ((by rw [hg]; exact (below_size (ubz_ HB.out)) : w.heap.size ≤ gb199)); have GE199 := Az_ ((by rw [hg]; exact (below_size (ubz_ HB.out)) : w.heap.size ≤ gb199)); replace HB := Az_ (btz_ (ubz_ HB.out) hb); clear hb hbox hg; have hcz8_0 : w7.cell? ⟨gb199, 0, none⟩ = some (.int .i64 a0_0) := (blk_cell BK199.out 0).trans rfl; have hcz8_1 : w7.cell? ⟨gb199, 1, none⟩ = some (.int .i64 a0_1) := (blk_cell BK199.out 1).trans rfl; have hfz8_0 := blk_frozen BK199.out 0; have hfz8_1 := blk_frozen BK199.out 1) | ((with_reducible refine gate_callee (f := 101) rfl ?_); refine goesL_ (some 5) rfl rfl Tryd.func101 (w162_) rfl #[.int .i64 a0_0, .int .i64 1, .int .i64 2000] rfl maz_ ?_; (with_reducible refine (spec_l1In.calls a0_0 1 2000 false _ A2.out).mono ?_); rintro e w' ⟨rfl, ⟨nd, rfl⟩⟩; refine ⟨_, rfl, ?_⟩))
  go_ret
  exact ⟨w116_, w79_⟩

end Go.Proofs.YtppbpefehpbejaaDoor.P
end
