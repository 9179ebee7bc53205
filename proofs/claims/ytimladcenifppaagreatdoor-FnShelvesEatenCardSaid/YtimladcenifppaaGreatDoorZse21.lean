/- Lean functions with the answers of the program's Go functions, and for each the proof that the Go code comes to these answers; no condition. -/
import Derived.Test.YtimladcenifppaaGreatDoorZse0
import Derived.Test.YtimladcenifppaaGreatDoorZse1
import Derived.Test.YtimladcenifppaaGreatDoorZse2
import Derived.Test.YtimladcenifppaaGreatDoorZse3
import Derived.Test.YtimladcenifppaaGreatDoorZse4
import Derived.Test.YtimladcenifppaaGreatDoorZse5
import Derived.Test.YtimladcenifppaaGreatDoorZse6
import Derived.Test.YtimladcenifppaaGreatDoorZse7
import Derived.Test.YtimladcenifppaaGreatDoorZse8
import Derived.Test.YtimladcenifppaaGreatDoorZse9
import Derived.Test.YtimladcenifppaaGreatDoorZse10
import Derived.Test.YtimladcenifppaaGreatDoorZse11
import Derived.Test.YtimladcenifppaaGreatDoorZse12
import Derived.Test.YtimladcenifppaaGreatDoorZse13
import Derived.Test.YtimladcenifppaaGreatDoorZse14
import Derived.Test.YtimladcenifppaaGreatDoorZse15
import Derived.Test.YtimladcenifppaaGreatDoorZse16
import Derived.Test.YtimladcenifppaaGreatDoorZse17
import Derived.Test.YtimladcenifppaaGreatDoorZse18
import Derived.Test.YtimladcenifppaaGreatDoorZse19
import Derived.Test.YtimladcenifppaaGreatDoorZse20
import Derived.Test.YtimladcenifppaaGreatDoorProg
import Derived.Below
import Derived.Deep.Draws
import Derived.Deep.AppendLies
import Derived.Maps.AppendAt
import Derived.OwnWalk
import Derived.Laws.BytesArg
import Derived.Laws.MakeOwn
import Derived.Laws.OwnMore
import Derived.Deep.OwnRows
import Derived.Tactics
import Derived.Lib.ConvBytes
import Derived.Laws.Slices
import Derived.WalkKit
import Derived.KernelRfl
import Derived.RowKit3
import Derived.Deep.LoopGhost
import Derived.Deep.QuietTactic
import Derived.BigQuiet
import Derived.WideLaws
import Derived.Deep.DeepCutAuto
import Derived.Deep.CutBlock
import Derived.Deep.RegionHeld3
import Derived.Laws.Rows
import Derived.Lib.AppendStr
import Derived.ArgAppend
import Derived.Laws.IdiomCopy
import Derived.OrdersHeld
import Derived.Laws.BitsLemmas
import Derived.RowKit
namespace Go.Proofs.YtimladcenifppaaGreatDoor
set_option linter.unusedVariables false
def mzl_ : Bool → List Nat → List Bool
  | _, [] => []
  | b, n :: r => List.replicate n b ++ mzl_ (!b) r
abbrev mz_ (r : List Nat) : Array Bool := (mzl_ true r).toArray
section
open Go.RowKit Go.Proofs.YtimladcenifppaaGreatDoorW.PrintWords Go.Proofs.YtimladcenifppaaGreatDoorW.PrintLast Go.Proofs.YtimladcenifppaaGreatDoorW.PrintMore
theorem nz_ {P : Program} {ops : Array Oper} {Q : Exit → Act → World → Prop} {md : Region.Mode} {S : World → Prop} {ds : List Nat} {fuel : Nat} {l : Array Bool} {a a' : Act} {w : World} {v : Value} (N : Nat) (h : wpAnyLast P md ops Q S ds fuel l a' w) (ha : a.put (some N) v = a' := by simp only [Act.put, usz_, utz_, uvz_, i64_w, i32_w]; rfl) : wpAnyLast P md ops Q S ds fuel l (a.put (some N) v) w := norm_ ha h
theorem pz_ {P : Program} {ops : Array Oper} {Q : Exit → Act → World → Prop} {md : Region.Mode} {S : World → Prop} {ds : List Nat} {fuel : Nat} {l : Array Bool} {a a' : Act} {w : World} (i N : Nat) (m : List Nat) {oi : Oper} {v : Value} (h : wpAnyLast P md ops Q S ds fuel (mz_ m) a' w) (hi : ops[i]? = some oi := by rfl) (hN : oi.dst = some N := by rfl) (hc : anyB md ops l (mz_ m) i = true := by exact any_of HT_.out (by kernel_rfl)) (hQ : ∀ c a w, Q (.panic c) (a.put oi.dst v) w → Q (.panic c) a w := by exact fun _ _ _ h => h) (hy : Yields P ops oi v a := by exact Or.inl ⟨by rfl, by intro w'; go_simp; with_reducible rfl⟩) (ha : a.put (some N) v = a' := by simp only [Act.put, usz_, utz_, uvz_, i64_w, i32_w]; rfl) : wpAnyLast P md ops Q S ds (fuel + 1) l a w := pure_ (i := i) (N := some N) (v := v) (a' := a') (mz_ m) hi hN hc hQ hy ha h
theorem pzk_ {P : Program} {ops : Array Oper} {Q : Exit → Act → World → Prop} {md : Region.Mode} {S : World → Prop} {ds : List Nat} {fuel : Nat} {l : Array Bool} {a a' : Act} {w : World} (i N : Nat) (m : List Nat) {oi : Oper} {v : Value} (h : wpAnyLast P md ops Q S ds fuel (mz_ m) a' w) (hi : ops[i]? = some oi := by rfl) (hN : oi.dst = some N := by rfl) (hc : anyB md ops l (mz_ m) i = true := by kernel_rfl) (hQ : ∀ c a w, Q (.panic c) (a.put oi.dst v) w → Q (.panic c) a w := by exact fun _ _ _ h => h) (hy : Yields P ops oi v a := by exact Or.inl ⟨by rfl, by intro w'; go_simp; with_reducible rfl⟩) (ha : a.put (some N) v = a' := by simp only [Act.put, usz_, utz_, uvz_, i64_w, i32_w]; rfl) : wpAnyLast P md ops Q S ds (fuel + 1) l a w := pure_ (i := i) (N := some N) (v := v) (a' := a') (mz_ m) hi hN hc hQ hy ha h
theorem qz_ {P : Program} {ops : Array Oper} {Q : Exit → Act → World → Prop} {md : Region.Mode} {S : World → Prop} {ds : List Nat} {fuel : Nat} {l : Array Bool} {a a' : Act} {w : World} (i N : Nat) (m : List Nat) {oi : Oper} (h : wpAnyLast P md ops Q S ds fuel (mz_ m) a' w) (hi : ops[i]? = some oi := by rfl) (hN : oi.dst = some N := by rfl) (hc : anyB md ops l (mz_ m) i = true := by exact any_of HT_.out (by kernel_rfl)) (hQ : ∀ c a w, Q (.panic c) (a.put oi.dst undef) w → Q (.panic c) a w := by exact fun _ _ _ h => h) (hy : Yields P ops oi undef a := by exact Or.inr ⟨by rfl, rfl⟩) (ha : a.put (some N) undef = a' := by simp only [Act.put, usz_, utz_, uvz_, i64_w, i32_w]; rfl) : wpAnyLast P md ops Q S ds (fuel + 1) l a w := pure_ (i := i) (N := some N) (v := undef) (a' := a') (mz_ m) hi hN hc hQ hy ha h
theorem tz2_ {P : Program} {ops : Array Oper} {Q : Exit → Act → World → Prop} {md : Region.Mode} {S : World → Prop} {ds : List Nat} {fuel : Nat} {l : Array Bool} {a a' : Act} {w : World} (i N : Nat) (m : List Nat) {oi : Oper} {v : Value} (h : wpAnyLast P md ops Q S ds fuel (mz_ m) a' w) (hi : ops[i]? = some oi := by rfl) (hN : oi.dst = some N := by rfl) (hc : takeB md ops ds l (mz_ m) i = true := by exact take_ofW HT_.out HW_.out (by kernel_rfl)) (hQ : ∀ c a w, Q (.panic c) (a.put oi.dst v) w → Q (.panic c) a w := by exact fun _ _ _ h => h) (hy : YieldsIf P ops S oi v a := by exact Or.inl ⟨by rfl, by rintro w' ⟨s0, s1⟩; go_simp; with_reducible rfl⟩) (hS : S w := by exact hHeld) (ha : a.put (some N) v = a' := by simp only [Act.put, usz_, utz_, uvz_, i64_w, i32_w]; rfl) : wpAnyLast P md ops Q S ds (fuel + 1) l a w := take_ (i := i) (N := some N) (v := v) (a' := a') (mz_ m) hi hN hc hQ hy hS ha h
theorem tz4_ {P : Program} {ops : Array Oper} {Q : Exit → Act → World → Prop} {md : Region.Mode} {S : World → Prop} {ds : List Nat} {fuel : Nat} {l : Array Bool} {a a' : Act} {w : World} (i N : Nat) (m : List Nat) {oi : Oper} {v : Value} (h : wpAnyLast P md ops Q S ds fuel (mz_ m) a' w) (hi : ops[i]? = some oi := by rfl) (hN : oi.dst = some N := by rfl) (hc : takeB md ops ds l (mz_ m) i = true := by exact take_ofW HT_.out HW_.out (by kernel_rfl)) (hQ : ∀ c a w, Q (.panic c) (a.put oi.dst v) w → Q (.panic c) a w := by exact fun _ _ _ h => h) (hy : YieldsIf P ops S oi v a := by exact Or.inl ⟨by rfl, by rintro w' ⟨s0, s1, s2, s3⟩; go_simp; with_reducible rfl⟩) (hS : S w := by exact hHeld) (ha : a.put (some N) v = a' := by simp only [Act.put, usz_, utz_, uvz_, i64_w, i32_w]; rfl) : wpAnyLast P md ops Q S ds (fuel + 1) l a w := take_ (i := i) (N := some N) (v := v) (a' := a') (mz_ m) hi hN hc hQ hy hS ha h
theorem tzk2_ {P : Program} {ops : Array Oper} {Q : Exit → Act → World → Prop} {md : Region.Mode} {S : World → Prop} {ds : List Nat} {fuel : Nat} {l : Array Bool} {a a' : Act} {w : World} (i N : Nat) (m : List Nat) {oi : Oper} {v : Value} (h : wpAnyLast P md ops Q S ds fuel (mz_ m) a' w) (hi : ops[i]? = some oi := by rfl) (hN : oi.dst = some N := by rfl) (hc : takeB md ops ds l (mz_ m) i = true := by kernel_rfl) (hQ : ∀ c a w, Q (.panic c) (a.put oi.dst v) w → Q (.panic c) a w := by exact fun _ _ _ h => h) (hy : YieldsIf P ops S oi v a := by exact Or.inl ⟨by rfl, by rintro w' ⟨s0, s1⟩; go_simp; with_reducible rfl⟩) (hS : S w := by exact hHeld) (ha : a.put (some N) v = a' := by simp only [Act.put, usz_, utz_, uvz_, i64_w, i32_w]; rfl) : wpAnyLast P md ops Q S ds (fuel + 1) l a w := take_ (i := i) (N := some N) (v := v) (a' := a') (mz_ m) hi hN hc hQ hy hS ha h
theorem od_ {p : Prop} [Decidable p] (h : decide p = true := by first | (with_reducible assumption) | assumption) : p := of_decide_eq_true h
theorem hbz_ {w w1 : World} {p : Addr} {v : Value} (hb : Below w.heap.size w w1) (h : w.cell? p = some v) : w1.cell? p = some v := (hb.cell (World.block_lt_of_cell? w _ h)).trans h
end
theorem w94_ {P : Prop} (h : P := by kernel_rfl) : P := h
theorem w93_ {P : Prop} (h : P := by rw [e_]; rfl) : P := h
theorem w92_ {P : Prop} (h : P := by exact ubz_ HB.out) : P := h
theorem w91_ {P : Prop} (h : P := by exact urz_ HO519.out) : P := h
theorem w90_ {P : Prop} (h : P := by exact urz_ HO515.out) : P := h
theorem w89_ {P : Prop} (h : P := by exact urz_ HO408.out) : P := h
theorem w88_ {P : Prop} (h : P := by exact urz_ HO369.out) : P := h
theorem w87_ {P : Prop} (h : P := by exact urz_ HO135.out) : P := h
theorem w86_ {P : Prop} (h : P := by exact ukz_ BK132.out) : P := h
theorem w85_ {P : Prop} (h : P := by have := HK1.out; omega) : P := h
theorem w84_ {P : Prop} (h : P := by exact urz_ HO_606000.out) : P := h
theorem w83_ {P : Prop} (h : P := by exact urz_ HO_600000.out) : P := h
theorem w82_ {P : Prop} (h : P := by exact urz_ HO_593000.out) : P := h
theorem w81_ {P : Prop} (h : P := by exact urz_ HO_587000.out) : P := h
theorem w80_ {P : Prop} (h : P := by first | omega | exact Nat.le_refl _) : P := h
theorem w79_ {P : Prop} (h : P := by first | rfl | (simp; done) | (simp [*]; done)) : P := h
theorem w78_ {P : Prop} (h : P := by have := HJ1.out; have := HK2.out; have := HK3.out; omega) : P := h
theorem w77_ {P : Prop} (h : P := by repeat (first | exact Drawn0.refl _ | apply Drawn0.step)) : P := h
theorem w76_ {P : Prop} (h : P := by (with_reducible repeat (first | apply raz_ | apply rnz_ | apply rdz_)); exact HO_18.out) : P := h
theorem w75_ {P : Prop} (h : P := by (with_reducible repeat (first | apply raz_ | apply rnz_ | apply rdz_)); exact HO_14.out) : P := h
theorem w74_ {P : Prop} (h : P := by first | rfl | (simp [errW_none, errW_some] <;> rfl) | (simp [*, errW_none, errW_some] <;> rfl)) : P := h
theorem w73_ {P : Prop} (h : P := by simp only [putAll, Act.put, List.setIfInBounds_toArray, List.set_cons_zero, List.set_cons_succ]) : P := h
theorem w72_ {P : Prop} (h : P := by (with_reducible repeat (first | refine knz_ ?_ _ | refine kdz_ ?_ | refine kaz_ ?_ _)); exact BK559.out) : P := h
theorem w71_ {P : Prop} (h : P := by (with_reducible repeat (first | refine knz_ ?_ _ | refine kdz_ ?_ | refine kaz_ ?_ _)); exact BK504.out) : P := h
theorem w70_ {P : Prop} (h : P := by (with_reducible repeat (first | refine knz_ ?_ _ | refine kdz_ ?_ | refine kaz_ ?_ _)); exact BK472.out) : P := h
theorem w69_ {P : Prop} (h : P := by (with_reducible repeat (first | refine knz_ ?_ _ | refine kdz_ ?_ | refine kaz_ ?_ _)); exact BK328.out) : P := h
theorem w68_ {P : Prop} (h : P := by (with_reducible repeat (first | refine knz_ ?_ _ | refine kdz_ ?_ | refine kaz_ ?_ _)); exact BK301.out) : P := h
theorem w67_ {P : Prop} (h : P := by (with_reducible repeat (first | refine knz_ ?_ _ | refine kdz_ ?_ | refine kaz_ ?_ _)); exact BK297.out) : P := h
theorem w66_ {P : Prop} (h : P := by (with_reducible repeat (first | refine knz_ ?_ _ | refine kdz_ ?_ | refine kaz_ ?_ _)); exact BK281.out) : P := h
theorem w65_ {P : Prop} (h : P := by (with_reducible repeat (first | refine knz_ ?_ _ | refine kdz_ ?_ | refine kaz_ ?_ _)); exact BK263.out) : P := h
theorem w64_ {P : Prop} (h : P := by (with_reducible repeat (first | apply Kd.V_alloc | apply Kd.V_drewN | apply Kd.V_drew)); exact HO576.out) : P := h
theorem w63_ {P : Prop} (h : P := by (with_reducible repeat (first | apply Kd.V_alloc | apply Kd.V_drewN | apply Kd.V_drew)); exact HO498.out) : P := h
theorem w62_ {P : Prop} (h : P := by (with_reducible repeat (first | apply Kd.V_alloc | apply Kd.V_drewN | apply Kd.V_drew)); exact HO183.out) : P := h
theorem w61_ {P : Prop} (h : P := by (with_reducible repeat (first | apply Kd.V_alloc | apply Kd.V_drewN | apply Kd.V_drew)); exact HO_430.out) : P := h
theorem w60_ {P : Prop} (h : P := by (with_reducible repeat (first | apply Kd.V_alloc | apply Kd.V_drewN | apply Kd.V_drew)); exact HO_581000.out) : P := h
theorem w59_ {P : Prop} (h : P := by (with_reducible repeat (first | apply Kd.V_alloc | apply Kd.V_drewN | apply Kd.V_drew)); exact HO_505000.out) : P := h
theorem w58_ {P : Prop} (h : P := by have := HJ17.out; have := HJ172.out; have := HJ214.out; have := HJ320.out; have := HK5.out; have := HK6.out; omega) : P := h
theorem w57_ {P : Prop} (h : P := by (with_reducible repeat (first | apply raz_ | apply rnz_ | apply rdz_)); exact Kd.R_mono HO515.out (fun _ hk => trivial)) : P := h
theorem w56_ {P : Prop} (h : P := by first | exact Kd.own_blk (Kd.R_ne HO_4.out BK478.out (by decide)) | exact (HO_4.out.1 _ rfl).2 | exact (HO_4.out.1 _ rfl).1.2) : P := h
theorem w55_ {P : Prop} (h : P := by repeat (first | (with_reducible first | exact HB.out | apply below_alloc | apply pw_below_drewN | apply below_drew1) | exact HB.out)) : P := h
theorem w54_ {P : Prop} (h : P := by (with_reducible repeat (first | apply Kd.V_alloc | apply Kd.V_drewN | apply Kd.V_drew)); exact Kd.V_mono HO_505000.out (fun _ hk => hk.2.2)) : P := h
theorem w53_ {P : Prop} (h : P := by first | exact Kd.R_nil _ _ _ _ _ | exact Kd.N_nil _ _ _ _ _ | exact Kd.V_nil _ _ _ _ _ | exact Kd.Q_nil _ _ _ _ _ | exact Kd.S_nil _ _ _ _ _) : P := h
theorem w52_ {P : Prop} (h : P := by repeat (first | (with_reducible first | exact HB.out | apply baz_ | apply bnz_ | apply bdz_ | refine ubsz_ ?_ (by assumption)) | exact HB.out)) : P := h
theorem w51_ {P : Prop} (h : P := by repeat (first | (with_reducible first | exact HB.out | apply baz_ | apply bnz_ | apply bdz_ | refine bsz_ ?_ (IsS54.ge HI0.out)) | exact HB.out)) : P := h
theorem w50_ {P : Prop} (h : P := by repeat (first | (with_reducible first | exact HB.out | apply baz_ | apply bnz_ | apply bdz_ | refine bsz_ ?_ (IsS54.ge HI451.out)) | exact HB.out)) : P := h
theorem w49_ {P : Prop} (h : P := by repeat (first | (with_reducible first | exact HK.out | apply KeepBut.set_ | apply keep_drewN | apply keep_drew | apply keep_alloc) | exact HK.out)) : P := h
theorem w48_ {P : Prop} (h : P := by (with_reducible repeat (first | apply Kd.V_alloc | apply Kd.V_drewN | apply Kd.V_drew)); exact Kd.V_mono HO498.out (fun _ hk => ⟨hk.1.2, hk.1.1.2⟩)) : P := h
theorem w47_ {P : Prop} (h : P := by repeat (first | (with_reducible first | exact HI0.out | apply IsS54.alloc | apply IsS54.drewN | apply IsS54.drew | apply IsS54.set_1 | apply IsS54.set_2) | exact HI0.out)) : P := h
theorem w46_ {P : Prop} (h : P := by repeat (first | (with_reducible first | exact HB.out | apply baz_ | apply bnz_ | apply bdz_ | refine bsz_ ?_ (IsS54.ge HI0.out) | refine bsz_ ?_ GE132.out) | exact HB.out)) : P := h
theorem w45_ {P : Prop} (h : P := by repeat (first | (with_reducible first | exact HB.out | apply baz_ | apply bnz_ | apply bdz_ | refine bsz_ ?_ (IsS54.ge HI0.out) | refine bsz_ ?_ GE112.out) | exact HB.out)) : P := h
theorem w44_ {P : Prop} (h : P := by repeat (first | (with_reducible first | exact HB.out | apply baz_ | apply bnz_ | apply bdz_ | refine bsz_ ?_ (IsS54.ge HI389.out) | refine bsz_ ?_ GE388.out) | exact HB.out)) : P := h
theorem w43_ {P : Prop} (h : P := by repeat (first | (with_reducible first | exact HB.out | apply baz_ | apply bnz_ | apply bdz_ | refine bsz_ ?_ (IsS54.ge HI180.out) | refine bsz_ ?_ GE179.out) | exact HB.out)) : P := h
theorem w42_ {P : Prop} (h : P := by repeat (first | (with_reducible first | exact HI451.out | apply IsS54.alloc | apply IsS54.drewN | apply IsS54.drew | apply IsS54.set_1 | apply IsS54.set_2) | exact HI451.out)) : P := h
theorem w41_ {P : Prop} (h : P := by repeat (first | (with_reducible first | exact HK.out | apply KeepBut.set_ | apply keep_drewN | apply keep_drew | apply keep_alloc | refine keep_far ?_ GW169.out _) | exact HK.out)) : P := h
theorem w40_ {P : Prop} (h : P := by repeat (first | (with_reducible first | exact HK.out | apply KeepBut.set_ | apply keep_drewN | apply keep_drew | apply keep_alloc | refine keep_far ?_ GW132.out _) | exact HK.out)) : P := h
theorem w39_ {P : Prop} (h : P := by repeat (first | (with_reducible first | exact HK.out | apply KeepBut.set_ | apply keep_drewN | apply keep_drew | apply keep_alloc | refine keep_far ?_ GW112.out _) | exact HK.out)) : P := h
theorem w38_ {P : Prop} (h : P := by repeat (first | (with_reducible first | exact HB.out | apply baz_ | apply bnz_ | apply bdz_ | refine bsz_ ?_ (IsS54.ge HI0.out) | refine bsz_ ?_ GE132.out | refine bsz_ ?_ GE139.out) | exact HB.out)) : P := h
theorem w37_ {P : Prop} (h : P := by repeat (first | (with_reducible first | exact HB.out | apply baz_ | apply bnz_ | apply bdz_ | refine bsz_ ?_ (IsS54.ge HI0.out) | refine bsz_ ?_ GE112.out | refine bsz_ ?_ GE119.out) | exact HB.out)) : P := h
theorem w36_ {P : Prop} (h : P := by repeat (first | (with_reducible first | exact HI0.out | apply IsS54.alloc | apply IsS54.drewN | apply IsS54.drew | apply IsS54.set_1 | apply IsS54.set_2 | refine IsS54.far ?_ NB0_132.out _) | exact HI0.out)) : P := h
theorem w35_ {P : Prop} (h : P := by repeat (first | (with_reducible first | exact HI0.out | apply IsS54.alloc | apply IsS54.drewN | apply IsS54.drew | apply IsS54.set_1 | apply IsS54.set_2 | refine IsS54.far ?_ NB0_112.out _) | exact HI0.out)) : P := h
theorem w34_ {P : Prop} (h : P := by repeat (first | (with_reducible first | exact HI389.out | apply IsS54.alloc | apply IsS54.drewN | apply IsS54.drew | apply IsS54.set_1 | apply IsS54.set_2 | refine IsS54.far ?_ NB389_388.out _) | exact HI389.out)) : P := h
theorem w33_ {P : Prop} (h : P := by repeat (first | (with_reducible first | exact HI180.out | apply IsS54.alloc | apply IsS54.drewN | apply IsS54.drew | apply IsS54.set_1 | apply IsS54.set_2 | refine IsS54.far ?_ NB180_179.out _) | exact HI180.out)) : P := h
theorem w32_ {P : Prop} (h : P := by repeat (first | (with_reducible first | exact HK.out | apply KeepBut.set_ | apply keep_drewN | apply keep_drew | apply keep_alloc | refine keep_far ?_ GW132.out _ | refine keep_far ?_ GW139.out _) | exact HK.out)) : P := h
theorem w31_ {P : Prop} (h : P := by repeat (first | (with_reducible first | exact HK.out | apply KeepBut.set_ | apply keep_drewN | apply keep_drew | apply keep_alloc | refine keep_far ?_ GW112.out _ | refine keep_far ?_ GW119.out _) | exact HK.out)) : P := h
theorem w30_ {P : Prop} (h : P := by repeat (first | (with_reducible first | exact HB.out | apply baz_ | apply bnz_ | apply bdz_ | refine bsz_ ?_ GB13.out | refine bsz_ ?_ GE424.out | refine bsz_ ?_ GE425.out | refine bsz_ ?_ GE431.out) | exact HB.out)) : P := h
theorem w29_ {P : Prop} (h : P := by first | (simp only [putAll, Act.put, List.setIfInBounds_toArray, List.set_cons_zero, List.set_cons_succ]; done) | (simp only [putAll, Act.put, List.setIfInBounds_toArray, List.set_cons_zero, List.set_cons_succ]; rfl)) : P := h
theorem w28_ {P : Prop} (h : P := by repeat (first | (with_reducible first | exact HI0.out | apply IsS54.alloc | apply IsS54.drewN | apply IsS54.drew | apply IsS54.set_1 | apply IsS54.set_2 | refine IsS54.far ?_ NB0_132.out _ | refine IsS54.far ?_ NB0_139.out _) | exact HI0.out)) : P := h
theorem w27_ {P : Prop} (h : P := by repeat (first | (with_reducible first | exact HI0.out | apply IsS54.alloc | apply IsS54.drewN | apply IsS54.drew | apply IsS54.set_1 | apply IsS54.set_2 | refine IsS54.far ?_ NB0_112.out _ | refine IsS54.far ?_ NB0_119.out _) | exact HI0.out)) : P := h
theorem w26_ {P : Prop} (h : P := by (with_reducible repeat (first | apply raz_ | apply rnz_ | apply rdz_)); exact (Kd.R_mono (Kd.R_far (p := ⟨gb478, 1, none⟩) (Kd.R_far (p := ⟨gb478, 0, none⟩) (Kd.R_types HO_4.out BK478.out (by decide)) (fun _ hk => hk.2) (.slice none 0 0)) (fun _ hk => hk.2) (.int .i64 t477)) (fun _ h_ => h_.1))) : P := h
theorem w25_ {P : Prop} (h : P := by (with_reducible repeat (first | refine knz_ ?_ _ | refine kdz_ ?_ | refine kaz_ ?_ _)); refine blk_far ?_ (by have h_ := Kd.R_ne HO430.out BK431.out (by decide); intro e_; exact h_ (w93_)) _; (with_reducible repeat (first | refine knz_ ?_ _ | refine kdz_ ?_ | refine kaz_ ?_ _)); exact BK431.out) : P := h
theorem w24_ {P : Prop} (h : P := by (with_reducible repeat (first | refine knz_ ?_ _ | refine kdz_ ?_ | refine kaz_ ?_ _)); refine blk_far ?_ (by have h_ := Kd.R_ne HO430.out BK425.out (by decide); intro e_; exact h_ (w93_)) _; (with_reducible repeat (first | refine knz_ ?_ _ | refine kdz_ ?_ | refine kaz_ ?_ _)); exact BK425.out) : P := h
theorem w23_ {P : Prop} (h : P := by (with_reducible repeat (first | refine knz_ ?_ _ | refine kdz_ ?_ | refine kaz_ ?_ _)); refine blk_far ?_ (by have h_ := Kd.R_ne HO430.out BK424.out (by decide); intro e_; exact h_ (w93_)) _; (with_reducible repeat (first | refine knz_ ?_ _ | refine kdz_ ?_ | refine kaz_ ?_ _)); exact BK424.out) : P := h
theorem w22_ {P : Prop} (h : P := by (with_reducible repeat (first | apply raz_ | apply rnz_ | apply rdz_)); exact (Kd.R_mono (Kd.R_far (p := ⟨gb372, 1, none⟩) (Kd.R_far (p := ⟨gb372, 0, none⟩) (Kd.R_types HO369.out BK372.out (by decide)) (fun _ hk => hk.2) (.slice Ao14 t366.length co14)) (fun _ hk => hk.2) (.int .i64 t370)) (fun _ h_ => h_.1))) : P := h
theorem w21_ {P : Prop} (h : P := by (with_reducible repeat (first | apply raz_ | apply rnz_ | apply rdz_)); exact (Kd.R_mono (Kd.R_far (p := ⟨gb372, 1, none⟩) (Kd.R_far (p := ⟨gb372, 0, none⟩) (Kd.R_types HO369.out BK372.out (by decide)) (fun _ hk => hk.2) (.slice Ao27 t366.length co27)) (fun _ hk => hk.2) (.int .i64 t370)) (fun _ h_ => h_.1))) : P := h
theorem w20_ {P : Prop} (h : P := by (with_reducible repeat (first | apply raz_ | apply rnz_ | apply rdz_)); exact (Kd.R_mono (Kd.R_far (p := ⟨gb372, 1, none⟩) (Kd.R_far (p := ⟨gb372, 0, none⟩) (Kd.R_types HO369.out BK372.out (by decide)) (fun _ hk => hk.2) (.slice Ao39 t366.length co39)) (fun _ hk => hk.2) (.int .i64 t370)) (fun _ h_ => h_.1))) : P := h
theorem w19_ {P : Prop} (h : P := by (with_reducible repeat (first | apply raz_ | apply rnz_ | apply rdz_)); exact (Kd.R_mono (Kd.R_far (p := ⟨gb605, 1, none⟩) (Kd.R_far (p := ⟨gb605, 0, none⟩) (Kd.R_types HO589.out BK605.out (by decide)) (fun _ hk => hk.2) (.slice Ao391 t600.length co391)) (fun _ hk => hk.2) (.int .i64 t603)) (fun _ h_ => h_.1))) : P := h
theorem w18_ {P : Prop} (h : P := by (with_reducible repeat (first | apply raz_ | apply rnz_ | apply rdz_)); exact (Kd.R_mono (Kd.R_far (p := ⟨gb605, 1, none⟩) (Kd.R_far (p := ⟨gb605, 0, none⟩) (Kd.R_types HO583.out BK605.out (by decide)) (fun _ hk => hk.2) (.slice Ao391 t600.length co391)) (fun _ hk => hk.2) (.int .i64 t603)) (fun _ h_ => h_.1))) : P := h
theorem w17_ {P : Prop} (h : P := by (with_reducible repeat (first | apply raz_ | apply rnz_ | apply rdz_)); exact (Kd.R_mono (Kd.R_far (p := ⟨gb599, 1, none⟩) (Kd.R_far (p := ⟨gb599, 0, none⟩) (Kd.R_types HO596.out BK599.out (by decide)) (fun _ hk => hk.2) (.slice Ao383 t594.length co383)) (fun _ hk => hk.2) (.int .i64 t597)) (fun _ h_ => h_.1))) : P := h
theorem w16_ {P : Prop} (h : P := by (with_reducible repeat (first | apply raz_ | apply rnz_ | apply rdz_)); exact (Kd.R_mono (Kd.R_far (p := ⟨gb599, 1, none⟩) (Kd.R_far (p := ⟨gb599, 0, none⟩) (Kd.R_types HO589.out BK599.out (by decide)) (fun _ hk => hk.2) (.slice Ao383 t594.length co383)) (fun _ hk => hk.2) (.int .i64 t597)) (fun _ h_ => h_.1))) : P := h
theorem w15_ {P : Prop} (h : P := by (with_reducible repeat (first | apply raz_ | apply rnz_ | apply rdz_)); exact (Kd.R_mono (Kd.R_far (p := ⟨gb599, 1, none⟩) (Kd.R_far (p := ⟨gb599, 0, none⟩) (Kd.R_types HO583.out BK599.out (by decide)) (fun _ hk => hk.2) (.slice Ao383 t594.length co383)) (fun _ hk => hk.2) (.int .i64 t597)) (fun _ h_ => h_.1))) : P := h
theorem w14_ {P : Prop} (h : P := by (with_reducible repeat (first | apply raz_ | apply rnz_ | apply rdz_)); exact (Kd.R_mono (Kd.R_far (p := ⟨gb586, 1, none⟩) (Kd.R_far (p := ⟨gb586, 0, none⟩) (Kd.R_types HO583.out BK586.out (by decide)) (fun _ hk => hk.2) (.slice Ao368 t581.length co368)) (fun _ hk => hk.2) (.int .i64 t584)) (fun _ h_ => h_.1))) : P := h
theorem w13_ {P : Prop} (h : P := by (with_reducible repeat (first | refine knz_ ?_ _ | refine kdz_ ?_ | refine kaz_ ?_ _)); refine blk_far ?_ NB362_372.out _; (with_reducible repeat (first | refine knz_ ?_ _ | refine kdz_ ?_ | refine kaz_ ?_ _)); refine blk_far ?_ NB362_372.out _; (with_reducible repeat (first | refine knz_ ?_ _ | refine kdz_ ?_ | refine kaz_ ?_ _)); exact BK362.out) : P := h
theorem w12_ {P : Prop} (h : P := by (with_reducible repeat (first | refine knz_ ?_ _ | refine kdz_ ?_ | refine kaz_ ?_ _)); refine blk_far ?_ NB132_139.out _; (with_reducible repeat (first | refine knz_ ?_ _ | refine kdz_ ?_ | refine kaz_ ?_ _)); refine blk_far ?_ NB132_139.out _; (with_reducible repeat (first | refine knz_ ?_ _ | refine kdz_ ?_ | refine kaz_ ?_ _)); exact BK132.out) : P := h
theorem w11_ {P : Prop} (h : P := by (with_reducible repeat (first | apply Kd.V_alloc | apply Kd.V_drewN | apply Kd.V_drew)); exact (Kd.V_mono (Kd.V_far (p := ⟨gb396, 1, none⟩) (Kd.V_far (p := ⟨gb396, 0, none⟩) (Kd.V_mono HO392.out (fun k_ hk => (⟨hk, hk.2⟩ : _ ∧ k_ ≠ gb396))) (fun _ hk => hk.2) (.slice Ao9 t390.length co9)) (fun _ hk => hk.2) (.int .i64 t393)) (fun _ h_ => h_.1))) : P := h
theorem w10_ {P : Prop} (h : P := by (with_reducible repeat (first | apply Kd.V_alloc | apply Kd.V_drewN | apply Kd.V_drew)); exact (Kd.V_mono (Kd.V_far (p := ⟨gb504, 1, none⟩) (Kd.V_far (p := ⟨gb504, 0, none⟩) (Kd.V_mono HO498.out (fun k_ hk => (⟨hk, hk.2⟩ : _ ∧ k_ ≠ gb504))) (fun _ hk => hk.2) (.slice Ao21 t496.length co21)) (fun _ hk => hk.2) (.int .i64 t499)) (fun _ h_ => h_.1))) : P := h
theorem w9_ {P : Prop} (h : P := by (with_reducible repeat (first | apply Kd.V_alloc | apply Kd.V_drewN | apply Kd.V_drew)); exact (Kd.V_mono (Kd.V_far (p := ⟨gb187, 1, none⟩) (Kd.V_far (p := ⟨gb187, 0, none⟩) (Kd.V_mono HO183.out (fun k_ hk => (⟨hk, hk.2⟩ : _ ∧ k_ ≠ gb187))) (fun _ hk => hk.2) (.slice Ao11 t181.length co11)) (fun _ hk => hk.2) (.int .i64 t184)) (fun _ h_ => h_.1))) : P := h
theorem w8_ {P : Prop} (h : P := by (with_reducible repeat (first | apply Kd.V_alloc | apply Kd.V_drewN | apply Kd.V_drew)); exact (Kd.V_mono (Kd.V_far (p := ⟨gb586, 1, none⟩) (Kd.V_far (p := ⟨gb586, 0, none⟩) (Kd.V_mono HO576.out (fun k_ hk => (⟨hk, hk.2⟩ : _ ∧ k_ ≠ gb586))) (fun _ hk => hk.2) (.slice Ao368 t581.length co368)) (fun _ hk => hk.2) (.int .i64 t584)) (fun _ h_ => h_.1))) : P := h
theorem w7_ {P : Prop} (h : P := by (with_reducible repeat (first | apply Kd.V_alloc | apply Kd.V_drewN | apply Kd.V_drew)); exact (Kd.V_mono (Kd.V_far (p := ⟨gb580, 1, none⟩) (Kd.V_far (p := ⟨gb580, 0, none⟩) (Kd.V_mono HO576.out (fun k_ hk => (⟨hk, hk.2⟩ : _ ∧ k_ ≠ gb580))) (fun _ hk => hk.2) (.slice Ao363 t574.length co363)) (fun _ hk => hk.2) (.int .i64 t577)) (fun _ h_ => h_.1))) : P := h
theorem w6_ {P : Prop} (h : P := by (with_reducible repeat (first | apply Kd.V_alloc | apply Kd.V_drewN | apply Kd.V_drew)); exact (Kd.V_mono (Kd.V_far (p := ⟨gb613, 1, none⟩) (Kd.V_far (p := ⟨gb613, 0, none⟩) (Kd.V_mono HO_581000.out (fun k_ hk => (⟨hk, hk.2⟩ : _ ∧ k_ ≠ gb613))) (fun _ hk => hk.2) (.slice Ao461 t608.length co461)) (fun _ hk => hk.2) (.int .i64 t611)) (fun _ h_ => h_.1))) : P := h
theorem w5_ {P : Prop} (h : P := by (with_reducible repeat (first | refine knz_ ?_ _ | refine kdz_ ?_ | refine kaz_ ?_ _)); refine blk_put (cs := #[.slice none 0 0, .int .i64 0]) ?_ 1 _ rfl; (with_reducible repeat (first | refine knz_ ?_ _ | refine kdz_ ?_ | refine kaz_ ?_ _)); refine blk_put (cs := #[.slice none 0 0, .int .i64 0]) ?_ 0 _ rfl; (with_reducible repeat (first | refine knz_ ?_ _ | refine kdz_ ?_ | refine kaz_ ?_ _)); exact BK472.out) : P := h
theorem w4_ {P : Prop} (h : P := by (with_reducible repeat (first | refine knz_ ?_ _ | refine kdz_ ?_ | refine kaz_ ?_ _)); refine blk_put (cs := #[.slice none 0 0, .int .i64 0]) ?_ 1 _ rfl; (with_reducible repeat (first | refine knz_ ?_ _ | refine kdz_ ?_ | refine kaz_ ?_ _)); refine blk_put (cs := #[.slice none 0 0, .int .i64 0]) ?_ 0 _ rfl; (with_reducible repeat (first | refine knz_ ?_ _ | refine kdz_ ?_ | refine kaz_ ?_ _)); exact BK425.out) : P := h
theorem w3_ {P : Prop} (h : P := by (with_reducible repeat (first | refine knz_ ?_ _ | refine kdz_ ?_ | refine kaz_ ?_ _)); refine blk_put (cs := #[.slice none 0 0, .int .i64 0]) ?_ 1 _ rfl; (with_reducible repeat (first | refine knz_ ?_ _ | refine kdz_ ?_ | refine kaz_ ?_ _)); refine blk_put (cs := #[.slice none 0 0, .int .i64 0]) ?_ 0 _ rfl; (with_reducible repeat (first | refine knz_ ?_ _ | refine kdz_ ?_ | refine kaz_ ?_ _)); exact BK404.out) : P := h
theorem w2_ {P : Prop} (h : P := by (with_reducible repeat (first | refine knz_ ?_ _ | refine kdz_ ?_ | refine kaz_ ?_ _)); refine blk_put (cs := #[.slice none 0 0, .int .i64 0]) ?_ 1 _ rfl; (with_reducible repeat (first | refine knz_ ?_ _ | refine kdz_ ?_ | refine kaz_ ?_ _)); refine blk_put (cs := #[.slice none 0 0, .int .i64 0]) ?_ 0 _ rfl; (with_reducible repeat (first | refine knz_ ?_ _ | refine kdz_ ?_ | refine kaz_ ?_ _)); exact BK362.out) : P := h
theorem w1_ {P : Prop} (h : P := by (with_reducible repeat (first | refine knz_ ?_ _ | refine kdz_ ?_ | refine kaz_ ?_ _)); refine blk_put (cs := #[.slice none 0 0, .int .i64 0]) ?_ 1 _ rfl; (with_reducible repeat (first | refine knz_ ?_ _ | refine kdz_ ?_ | refine kaz_ ?_ _)); refine blk_put (cs := #[.slice none 0 0, .int .i64 0]) ?_ 0 _ rfl; (with_reducible repeat (first | refine knz_ ?_ _ | refine kdz_ ?_ | refine kaz_ ?_ _)); refine blk_far ?_ NB362_372.out _; (with_reducible repeat (first | refine knz_ ?_ _ | refine kdz_ ?_ | refine kaz_ ?_ _)); refine blk_far ?_ NB362_372.out _; (with_reducible repeat (first | refine knz_ ?_ _ | refine kdz_ ?_ | refine kaz_ ?_ _)); exact BK362.out) : P := h
end Go.Proofs.YtimladcenifppaaGreatDoor
section
namespace Go.Proofs.YtimladcenifppaaGreatDoor.P
open Go.RowKit Go.Proofs.YtimladcenifppaaGreatDoorW.PrintWords Go.Proofs.YtimladcenifppaaGreatDoorW.PrintLast Go.Proofs.YtimladcenifppaaGreatDoorW.PrintMore
attribute [local go_sem] max2_int min2_int max_two min_two max_three min_three max_four min_four   -- for this text's walks alone
set_option linter.unusedVariables false
set_option linter.unusedSimpArgs false

def errW : Option Int → Value
  | none => .nilIface
  | some c => .iface 0 (.int .i64 c)
theorem errW_none : errW none = .nilIface := rfl
theorem errW_some (c : Int) : errW (some c) = .iface 0 (.int .i64 c) := rfl

theorem info3 : (Tryz.prog.info? 3).map (fun i => (i.zero, i.size, i.bytes)) = some (some (.int .i64 0), 1, 8) := by kernel_rfl
theorem info9 : (Tryz.prog.info? 9).map (fun i => (i.zero, i.size, i.bytes)) = some (some (.string ⟨#[]⟩), 1, 16) := by kernel_rfl
-- the values' own types
def rd_L2 (xs : List (List Int)) (i : Int) : (List Int) := xs.getD i.toNat ([] : List Int)
theorem at_L2 {w : World} {A : Option Addr} {n : Nat} {xs : List (List Int)} (h : Kd.C (Kd.slice 3 (Kd.int .i64)) w A n xs) (i : Int) (h0 : 0 ≤ i) (h1 : i < n) : ∃ ad A0 c0, A = some ad ∧ w.cell? (ad.add i.toNat) = some (.slice A0 (rd_L2 xs i).length c0) ∧ (rd_L2 xs i).length ≤ c0 ∧ (Kd.int .i64).C w A0 (rd_L2 xs i).length (rd_L2 xs i) := by
  obtain ⟨ad, c, e, _, hK, hc0⟩ := Kd.C_get h ([] : List Int) i h0 h1
  have hc : ∀ j u, c[j]? = some u → w.cell? (ad.add (i.toNat * 1 + j)) = some u := hc0
  obtain ⟨A0, c0, rfl, l0, g0⟩ := hK
  exact ⟨ad, A0, c0, e, by have hq := hc 0 _ rfl; rwa [Nat.mul_one, Nat.add_zero] at hq, l0, g0⟩

end Go.Proofs.YtimladcenifppaaGreatDoor.P
end

section
namespace Go.Proofs.YtimladcenifppaaGreatDoor.P
open Go.RowKit Go.Proofs.YtimladcenifppaaGreatDoorW.PrintWords Go.Proofs.YtimladcenifppaaGreatDoorW.PrintLast Go.Proofs.YtimladcenifppaaGreatDoorW.PrintMore
set_option linter.unusedVariables false
structure Upz_ (w W : World) : Prop where mk :: (out : Below w.heap.size w W)
instance (w : World) : Nonempty (Upz_ w w) := ⟨⟨Below.refl _ _⟩⟩
instance (w W : World) (n : Nat) [h : Nonempty (Upz_ w W)] : Nonempty (Upz_ w (W.drewN n)) := h.elim fun h => ⟨⟨pw_below_drewN h.out n⟩⟩
instance (w W : World) (n : Obj) [h : Nonempty (Upz_ w W)] : Nonempty (Upz_ w (W.alloc n)) := h.elim fun h => ⟨⟨below_alloc h.out n⟩⟩
instance (w W : World) [h : Nonempty (Upz_ w W)] : Nonempty (Upz_ w W.drew) := h.elim fun h => ⟨⟨below_drew1 h.out⟩⟩
theorem ukz_ {w W : World} {g : Nat} {o : Obj} (h : w.heap[g]? = some o) [u : Nonempty (Upz_ w W)] : W.heap[g]? = some o := u.elim fun u => blk_below h u.out
theorem urz_ {α : Type} {d : Kd α} {e : Nat} {w W : World} {b : Nat} {ok : Nat → Prop} {v : Value} {xs : List α} (h : d.R e w b ok v xs) [u : Nonempty (Upz_ w W)] : d.R e W b ok v xs := u.elim fun u => Kd.R_below h u.out
theorem ucz_ {α : Type} {d : Kd α} {w W : World} {A : Option Addr} {n : Nat} {xs : List α} (h : d.C w A n xs) [u : Nonempty (Upz_ w W)] : d.C W A n xs := u.elim fun u => Kd.C_below h u.out
theorem ubz_ {w0 w W : World} (h : Below w0.heap.size w0 w) [u : Nonempty (Upz_ w W)] : Below w0.heap.size w0 W := u.elim fun u => below_step h u.out
theorem ukbz_ {w W W2 : World} {g : Nat} {o : Obj} (h : w.heap[g]? = some o) (hb : Below W.heap.size W W2) [u : Nonempty (Upz_ w W)] : W2.heap[g]? = some o := blk_below (ukz_ h) hb
theorem uklz_ {w W : World} {g : Nat} {o : Obj} (h : w.heap[g]? = some o) [u : Nonempty (Upz_ w W)] : g < W.heap.size := blk_lt (ukz_ h)
theorem ubsz_ {w W : World} {g j : Nat} {v : Value} (h : Below w.heap.size w W) (hg : Aside0 (w.heap.size ≤ g)) : Below w.heap.size w (W.setCell ⟨g, j, none⟩ v) := Go.Proofs.YtimladcenifppaaGreatDoorW.PrintWords.below_set h hg.out
theorem usz_ : type_of% @List.setIfInBounds_toArray.{0} := @List.setIfInBounds_toArray.{0}
theorem utz_ : type_of% @List.set_cons_zero.{0} := @List.set_cons_zero.{0}
theorem uvz_ : type_of% @List.set_cons_succ.{0} := @List.set_cons_succ.{0}
theorem vfarz_ {κ : IntKind} {e base n c g : Nat} {ok : Nat → Prop} {W : World} {A : Option Addr} {xs : List Int} (h : Kd.V (Kd.int κ) e W base ok (.slice A n c) xs) (hok : ∀ k, ok k → k ≠ g) : ∀ ad, A = some ad → 0 < n → ad.block ≠ g := by
  rintro ad rfl hn rfl
  have hF := Kd.V_F h
  have hc := Kd.foot_int (Kd.F_now hF) 0 (by omega) (by omega)
  have hc2 := Kd.foot_int (Kd.F_now (Kd.F_far (p := ad.add (0 : Int).toNat) hF (fun k hk => by rw [add_block]; exact hok k hk) (.bool true))) 0 (by omega) (by omega)
  rw [World.cell?_setCell_same' _ _ _ (by rw [hc]; rfl)] at hc2
  cases hc2
theorem Az_ {p : Prop} (h : p) : Aside0 p := ⟨h⟩
theorem baz_ : type_of% @below_alloc := @below_alloc
theorem bnz_ : type_of% @pw_below_drewN := @pw_below_drewN
theorem bdz_ : type_of% @below_drew1 := @below_drew1
theorem bsz_ : type_of% @below_set := @below_set
theorem raz_ : type_of% @Kd.R_alloc := @Kd.R_alloc
theorem rnz_ : type_of% @Kd.R_drewN := @Kd.R_drewN
theorem rdz_ : type_of% @Kd.R_drew := @Kd.R_drew
theorem knz_ : type_of% @blk_drewN := @blk_drewN
theorem kdz_ : type_of% @blk_drew := @blk_drew
theorem kaz_ : type_of% @blk_alloc := @blk_alloc
theorem kbz_ : type_of% @blk_below := @blk_below
theorem rez_ : type_of% @Kd.R_elder' := @Kd.R_elder'
theorem btz_ : type_of% @below_step := @below_step
theorem asz_ {p : Prop} (h : p := by first | (with_reducible assumption) | assumption) : p := h
theorem qaz_ {p : Prop} (h : p := by first | rfl | (simp; done) | (simp [*]; done)) : p := h
theorem maz_ {p : Prop} (h : p := by (try simp only [List.map_toArray, List.map_cons, List.map_nil]); first | done | rfl | (simp only [List.length_drop, List.length_take]; rfl)) : p := h
theorem bqz_ {α β : Type} {x : Option α} {f : α → Option β} {r : β} (h : x.bind f = some r) : ∃ a, Aside0 (x = some a) ∧ f a = some r := by
  obtain ⟨a, h1, h2⟩ := Option.bind_eq_some_iff.mp h
  exact ⟨a, ⟨h1⟩, h2⟩
theorem nfz_ : ¬ (false = true) := by decide
end Go.Proofs.YtimladcenifppaaGreatDoor.P
end

section
namespace Go.Proofs.YtimladcenifppaaGreatDoor.P
open Go.RowKit Go.Proofs.YtimladcenifppaaGreatDoorW.PrintWords Go.Proofs.YtimladcenifppaaGreatDoorW.PrintLast Go.Proofs.YtimladcenifppaaGreatDoorW.PrintMore
attribute [local go_sem] max2_int min2_int max_two min_two max_three min_three max_four min_four   -- for this text's walks alone
set_option linter.unusedVariables false
set_option linter.unusedSimpArgs false

def laws_big.f (l0 : List Int) (l1 : List Int) : Option (Bool) := if (l0.length : Int) > 1048576 then (some true) else (some (decide ((l1.length : Int) > (wrap64 (1048576 - (l0.length : Int))))))
set_option maxHeartbeats 8000000 in
set_option maxRecDepth 100000 in
theorem laws_big.calls (A0 : Option Addr) (c0 : Nat) (l0 : List Int) (A1 : Option Addr) (c1 : Nat) (l1 : List Int) (r : Bool) (w : World) (hr0 : Kd.C (Kd.int .u8) w A0 l0.length l0) (hc0 : l0.length ≤ c0) (hr1 : Kd.C (Kd.int .u8) w A1 l1.length l1) (hc1 : l1.length ≤ c1) (h : laws_big.f l0 l1 = some r) :
  Calls Tryz.prog 4 #[.slice A0 l0.length c0, .slice A1 l1.length c1] w fun e w' => e = .returned (.bool r) ∧ Drawn0 w w' := by
 have HR0 := Az_ hr0
 have HC0 := Az_ hc0
 clear hr0 hc0
 have HR1 := Az_ hr1
 have HC1 := Az_ hc1
 clear hr1 hc1
 have H : (if (l0.length : Int) > 1048576 then (some true) else (some (decide ((l1.length : Int) > (wrap64 (1048576 - (l0.length : Int))))))) = some r := h
 clear h
 by_cases c3 : (l0.length : Int) > 1048576
 ·rw [if_pos c3] at H
  have c3b0 := decide_eq_true c3
  have c3b1 : decide (1048576 < l0.length) = true := decide_eq_true (by omega)
  clear c3
  obtain rfl := Option.some.inj H
  go_enter Tryz.func4, Tryz.ntmps4
  go_wp2
  go_ret
  exact ⟨w79_, w77_⟩
 ·rw [if_neg c3] at H
  have c3b0 := decide_eq_false c3
  have c3b1 : decide (1048576 < l0.length) = false := decide_eq_false (by omega)
  clear c3
  obtain rfl := Option.some.inj H
  go_enter Tryz.func4, Tryz.ntmps4
  go_wp2
  go_ret
  exact ⟨w79_, w77_⟩

def IsS54 (w0 W : World) (g : Nat) (f0 : List Int) (f1 : Int) (f2 : Int) : Prop := ∃ A0 c0, W.heap[g]? = some (.cells #[.slice A0 f0.length c0, .int .i64 f1, .int .u64 f2] 54 (0, 0)) ∧ w0.heap.size ≤ g ∧ Kd.C (Kd.int .u8) w0 A0 f0.length f0
theorem IsS54.grown {w0 W : World} {g : Nat} {f0 : List Int} {f1 : Int} {f2 : Int} {W1 : World} {row : Option Nat} (h : IsS54 w0 W g f0 f1 f2) (hw : W.grownBy W1 row) (hne : some g ≠ row) : IsS54 w0 W1 g f0 f1 f2 := by
 obtain ⟨A0, c0, hb, hg, hr0⟩ := h
 exact ⟨A0, c0, blk_grown hb hw hne, hg, hr0⟩
theorem IsS54.fresh {w0 W : World} {g : Nat} {f0 : List Int} {f1 : Int} {f2 : Int} (h : IsS54 w0 W g f0 f1 f2) : ∀ k, W.heap.size ≤ k → k ≠ g := by
 obtain ⟨A0, c0, hb, hg, hr0⟩ := h
 exact Kd.freshB hb
theorem IsS54.kept {w0 W : World} {g : Nat} {f0 : List Int} {f1 : Int} {f2 : Int} {W1 : World} {S : Nat → Prop} (h : IsS54 w0 W g f0 f1 f2) (hk : Kept W W1 S) (hne : ¬ S g) : IsS54 w0 W1 g f0 f1 f2 := by
 obtain ⟨A0, c0, hb, hg, hr0⟩ := h
 exact ⟨A0, c0, blk_kept hb hk hne, hg, hr0⟩
theorem IsS54.below {w0 W : World} {g : Nat} {f0 : List Int} {f1 : Int} {f2 : Int} {W1 : World} (h : IsS54 w0 W g f0 f1 f2) (hw : Below W.heap.size W W1) : IsS54 w0 W1 g f0 f1 f2 := h.grown (grown_of_below hw none) (by simp)
theorem IsS54.alloc {w0 W : World} {g : Nat} {f0 : List Int} {f1 : Int} {f2 : Int} (h : IsS54 w0 W g f0 f1 f2) (o : Obj) : IsS54 w0 (W.alloc o) g f0 f1 f2 := h.below (baz_ (Below.refl _ _) o)
theorem IsS54.drewN {w0 W : World} {g : Nat} {f0 : List Int} {f1 : Int} {f2 : Int} (h : IsS54 w0 W g f0 f1 f2) (m : Nat) : IsS54 w0 (W.drewN m) g f0 f1 f2 := h
theorem IsS54.drew {w0 W : World} {g : Nat} {f0 : List Int} {f1 : Int} {f2 : Int} (h : IsS54 w0 W g f0 f1 f2) : IsS54 w0 W.drew g f0 f1 f2 := h
theorem IsS54.at_ {w0 W : World} {g : Nat} {f0 : List Int} {f1 : Int} {f2 : Int} {w' : World} {m : Nat} (hq : W.drewN m = w') (h : IsS54 w0 W g f0 f1 f2) : IsS54 w0 w' g f0 f1 f2 := by subst hq; exact IsS54.drewN h m
theorem IsS54.apart {w0 W : World} {g : Nat} {f0 : List Int} {f1 : Int} {f2 : Int} {α : Type} {d : Kd α} {e : Nat} {base : Nat} {ok : Nat → Prop} {v : Value} {xs : List α} (h : IsS54 w0 W g f0 f1 f2) (ho : d.R e W base ok v xs) (ht : ∀ q, q ∈ e :: d.E → q ≠ 54) : d.R e W base (fun k => ok k ∧ k ≠ g) v xs := by
 obtain ⟨A0, c0, hb, hg, hr0⟩ := h
 exact Kd.R_types ho hb ht
theorem IsS54.own_ne {w0 W : World} {g : Nat} {f0 : List Int} {f1 : Int} {f2 : Int} {α : Type} {d : Kd α} {e : Nat} {base : Nat} {ok : Nat → Prop} {v : Value} {xs : List α} (h : IsS54 w0 W g f0 f1 f2) (ho : d.R e W base ok v xs) (ht : e ≠ 54) : some g ≠ v.ownBlock := by
 obtain ⟨A0, c0, hb, hg, hr0⟩ := h
 exact Kd.R_ne ho hb ht
theorem IsS54.lt {w0 W : World} {g : Nat} {f0 : List Int} {f1 : Int} {f2 : Int} (h : IsS54 w0 W g f0 f1 f2) : g < W.heap.size := by
 obtain ⟨A0, c0, hb, hg, hr0⟩ := h
 exact blk_lt hb
theorem IsS54.ge {w0 W : World} {g : Nat} {f0 : List Int} {f1 : Int} {f2 : Int} (h : IsS54 w0 W g f0 f1 f2) : w0.heap.size ≤ g := by
 obtain ⟨A0, c0, hb, hg, hr0⟩ := h
 exact hg
theorem IsS54.far {w0 W : World} {g : Nat} {f0 : List Int} {f1 : Int} {f2 : Int} {p : Addr} (h : IsS54 w0 W g f0 f1 f2) (hne : g ≠ p.block) (u : Value) : IsS54 w0 (W.setCell p u) g f0 f1 f2 := by
 obtain ⟨A0, c0, hb, hg, hr0⟩ := h
 exact ⟨A0, c0, blk_far hb hne u, hg, hr0⟩
theorem cellS54_0 {W : World} {g : Nat} {A0 : Option Addr} {c0 : Nat} {f0 : List Int} {f1 : Int} {f2 : Int} (h : W.heap[g]? = some (.cells #[.slice A0 f0.length c0, .int .i64 f1, .int .u64 f2] 54 (0, 0))) : W.cell? ⟨g, 0, none⟩ = some (.slice A0 f0.length c0) := (blk_cell h 0).trans rfl
theorem cellS54_1 {W : World} {g : Nat} {A0 : Option Addr} {c0 : Nat} {f0 : List Int} {f1 : Int} {f2 : Int} (h : W.heap[g]? = some (.cells #[.slice A0 f0.length c0, .int .i64 f1, .int .u64 f2] 54 (0, 0))) : W.cell? ⟨g, 1, none⟩ = some (.int .i64 f1) := (blk_cell h 1).trans rfl
theorem IsS54.set_1 {w0 W : World} {g : Nat} {f0 : List Int} {f1 : Int} {f2 : Int} (h : IsS54 w0 W g f0 f1 f2) (x : Int) : IsS54 w0 (W.setCell ⟨g, 1, none⟩ (.int .i64 x)) g f0 x f2 := by
 obtain ⟨A0, c0, hb, hg, hr0⟩ := h
 exact ⟨A0, c0, by simpa using blk_set hb 1 (.int .i64 x), hg, hr0⟩
theorem cellS54_2 {W : World} {g : Nat} {A0 : Option Addr} {c0 : Nat} {f0 : List Int} {f1 : Int} {f2 : Int} (h : W.heap[g]? = some (.cells #[.slice A0 f0.length c0, .int .i64 f1, .int .u64 f2] 54 (0, 0))) : W.cell? ⟨g, 2, none⟩ = some (.int .u64 f2) := (blk_cell h 2).trans rfl
theorem IsS54.set_2 {w0 W : World} {g : Nat} {f0 : List Int} {f1 : Int} {f2 : Int} (h : IsS54 w0 W g f0 f1 f2) (x : Int) : IsS54 w0 (W.setCell ⟨g, 2, none⟩ (.int .u64 x)) g f0 f1 x := by
 obtain ⟨A0, c0, hb, hg, hr0⟩ := h
 exact ⟨A0, c0, by simpa using blk_set hb 2 (.int .u64 x), hg, hr0⟩
def spec_l1Cur_next.f (s0_0 : List Int) (s0_1 : Int) (s0_2 : Int) : Option (Int × Int × Int) := if s0_1 < (s0_0.length : Int) then (if 0 ≤ s0_1 then (if (wrap64 (s0_1 + 1)) ≤ (s0_0.length : Int) then (some (wrap64 (rd s0_0 s0_1), wrap64 (s0_1 + 1), IntKind.u64.wrap ((IntKind.u64.wrap ((IntKind.u64.wrap (s0_2 * 6364136223846793005)) + (IntKind.u64.wrap (wrap64 (rd s0_0 s0_1))))) + 1442695040888963407))) else (some (wrap64 (Go.bits .and .u64 ((IntKind.u64.wrap ((IntKind.u64.wrap ((IntKind.u64.wrap (s0_2 * 6364136223846793005)) + (IntKind.u64.wrap (wrap64 (rd s0_0 s0_1))))) + 1442695040888963407)) / 1099511627776) 255), wrap64 (s0_1 + 1), IntKind.u64.wrap ((IntKind.u64.wrap ((IntKind.u64.wrap (s0_2 * 6364136223846793005)) + (IntKind.u64.wrap (wrap64 (rd s0_0 s0_1))))) + 1442695040888963407)))) else (none)) else (if (wrap64 (s0_1 + 1)) ≤ (s0_0.length : Int) then (some (0, wrap64 (s0_1 + 1), IntKind.u64.wrap ((IntKind.u64.wrap ((IntKind.u64.wrap (s0_2 * 6364136223846793005)) + 0)) + 1442695040888963407))) else (some (wrap64 (Go.bits .and .u64 ((IntKind.u64.wrap ((IntKind.u64.wrap ((IntKind.u64.wrap (s0_2 * 6364136223846793005)) + 0)) + 1442695040888963407)) / 1099511627776) 255), wrap64 (s0_1 + 1), IntKind.u64.wrap ((IntKind.u64.wrap ((IntKind.u64.wrap (s0_2 * 6364136223846793005)) + 0)) + 1442695040888963407))))
set_option maxHeartbeats 8000000 in
set_option maxRecDepth 100000 in
theorem spec_l1Cur_next.calls (g : Nat) (s0_0 : List Int) (s0_1 : Int) (s0_2 : Int) (r1 : Int) (r2 : Int) (r3 : Int) (w0 w : World) (hI : IsS54 w0 w g s0_0 s0_1 s0_2) (hB : Below w0.heap.size w0 w) (h : spec_l1Cur_next.f s0_0 s0_1 s0_2 = some (r1, r2, r3)) :
  Calls Tryz.prog 74 #[.pointer (some ⟨g, 0, none⟩)] w fun e w' => e = .returned (.int .i64 r1) ∧ IsS54 w0 w' g s0_0 r2 r3 ∧ Below w0.heap.size w0 w' ∧ KeepBut w w' g none := by
 have HI0 := Az_ hI
 have HK := Az_ (KeepBut.refl w g none)
 have HL := Az_ hB.size
 clear hI
 have HW0 := Az_ hB.size
 have HB := Az_ hB
 clear hB
 have H : (if s0_1 < (s0_0.length : Int) then (if 0 ≤ s0_1 then (if (wrap64 (s0_1 + 1)) ≤ (s0_0.length : Int) then (some (wrap64 (rd s0_0 s0_1), wrap64 (s0_1 + 1), IntKind.u64.wrap ((IntKind.u64.wrap ((IntKind.u64.wrap (s0_2 * 6364136223846793005)) + (IntKind.u64.wrap (wrap64 (rd s0_0 s0_1))))) + 1442695040888963407))) else (some (wrap64 (Go.bits .and .u64 ((IntKind.u64.wrap ((IntKind.u64.wrap ((IntKind.u64.wrap (s0_2 * 6364136223846793005)) + (IntKind.u64.wrap (wrap64 (rd s0_0 s0_1))))) + 1442695040888963407)) / 1099511627776) 255), wrap64 (s0_1 + 1), IntKind.u64.wrap ((IntKind.u64.wrap ((IntKind.u64.wrap (s0_2 * 6364136223846793005)) + (IntKind.u64.wrap (wrap64 (rd s0_0 s0_1))))) + 1442695040888963407)))) else (none)) else (if (wrap64 (s0_1 + 1)) ≤ (s0_0.length : Int) then (some (0, wrap64 (s0_1 + 1), IntKind.u64.wrap ((IntKind.u64.wrap ((IntKind.u64.wrap (s0_2 * 6364136223846793005)) + 0)) + 1442695040888963407))) else (some (wrap64 (Go.bits .and .u64 ((IntKind.u64.wrap ((IntKind.u64.wrap ((IntKind.u64.wrap (s0_2 * 6364136223846793005)) + 0)) + 1442695040888963407)) / 1099511627776) 255), wrap64 (s0_1 + 1), IntKind.u64.wrap ((IntKind.u64.wrap ((IntKind.u64.wrap (s0_2 * 6364136223846793005)) + 0)) + 1442695040888963407))))) = some (r1, r2, r3) := h
 clear h
 by_cases c2 : s0_1 < (s0_0.length : Int)
 ·rw [if_pos c2] at H
  have c2b0 := decide_eq_true c2
  clear c2
  by_cases c3 : 0 ≤ s0_1; rotate_left
  ·rw [if_neg c3] at H
   exact absurd H (by simp)
  rw [if_pos c3] at H
  have c3b0 := decide_eq_true c3
  clear c3
  by_cases c4 : (wrap64 (s0_1 + 1)) ≤ (s0_0.length : Int); rotate_left
  ·rw [if_neg c4] at H
   have c4b0 := decide_eq_false c4
   clear c4
   simp only [Option.some.injEq, Prod.mk.injEq] at H
   obtain ⟨rfl, rfl, rfl⟩ := H
   obtain ⟨ASz6_0, cSz6_0, HGz6, hgz6, HSz6_0⟩ := HI0.out
   have hcz6_0 := cellS54_0 HGz6
   have hcz6_1 := cellS54_1 HGz6
   have hcz6_2 := cellS54_2 HGz6
   have hfz6_1 := blk_frozen HGz6 1
   have hfz6_2 := blk_frozen HGz6 2
   clear HGz6 hgz6
   have p101 : 0 ≤ (s0_1 : Int) := od_
   have q101 : s0_1 < (s0_0.length : Int) := od_
   obtain ⟨ad101, e101, hx101_0⟩ := Kd.at_int HSz6_0 s0_1 p101 q101
   cases e101
   replace hx101_0 := pw_cell_below HB.out hx101_0
   replace p101 := eq_true p101
   replace q101 := eq_true q101
   go_enter Tryz.func74, Tryz.ntmps74
   go_wp2
   repeat (go_quiet (fail); try go_wp2)
   go_ret
   (try simp only [Int.add_zero])
   exact ⟨w74_, w47_, w51_, w49_⟩
  rw [if_pos c4] at H
  have c4b0 := decide_eq_true c4
  clear c4
  simp only [Option.some.injEq, Prod.mk.injEq] at H
  obtain ⟨rfl, rfl, rfl⟩ := H
  obtain ⟨ASz5_0, cSz5_0, HGz5, hgz5, HSz5_0⟩ := HI0.out
  have hcz5_0 := cellS54_0 HGz5
  have hcz5_1 := cellS54_1 HGz5
  have hcz5_2 := cellS54_2 HGz5
  have hfz5_1 := blk_frozen HGz5 1
  have hfz5_2 := blk_frozen HGz5 2
  clear HGz5 hgz5
  have p101 : 0 ≤ (s0_1 : Int) := od_
  have q101 : s0_1 < (s0_0.length : Int) := od_
  obtain ⟨ad101, e101, hx101_0⟩ := Kd.at_int HSz5_0 s0_1 p101 q101
  cases e101
  replace hx101_0 := pw_cell_below HB.out hx101_0
  replace p101 := eq_true p101
  replace q101 := eq_true q101
  go_enter Tryz.func74, Tryz.ntmps74
  go_wp2
  repeat (go_quiet (fail); try go_wp2)
  go_ret
  (try simp only [Int.add_zero])
  exact ⟨w74_, w47_, w51_, w49_⟩
 ·rw [if_neg c2] at H
  have c2b0 := decide_eq_false c2
  clear c2
  by_cases c7 : (wrap64 (s0_1 + 1)) ≤ (s0_0.length : Int)
  ·rw [if_pos c7] at H
   have c7b0 := decide_eq_true c7
   clear c7
   simp only [Option.some.injEq, Prod.mk.injEq] at H
   obtain ⟨rfl, rfl, rfl⟩ := H
   obtain ⟨ASz8_0, cSz8_0, HGz8, hgz8, HSz8_0⟩ := HI0.out
   have hcz8_0 := cellS54_0 HGz8
   have hcz8_1 := cellS54_1 HGz8
   have hcz8_2 := cellS54_2 HGz8
   have hfz8_1 := blk_frozen HGz8 1
   have hfz8_2 := blk_frozen HGz8 2
   clear HGz8 hgz8
   go_enter Tryz.func74, Tryz.ntmps74
   go_wp2
   repeat (go_quiet (fail); try go_wp2)
   go_ret
   (try simp only [Int.add_zero])
   exact ⟨w74_, w47_, w51_, w49_⟩
  ·rw [if_neg c7] at H
   have c7b0 := decide_eq_false c7
   clear c7
   simp only [Option.some.injEq, Prod.mk.injEq] at H
   obtain ⟨rfl, rfl, rfl⟩ := H
   obtain ⟨ASz9_0, cSz9_0, HGz9, hgz9, HSz9_0⟩ := HI0.out
   have hcz9_0 := cellS54_0 HGz9
   have hcz9_1 := cellS54_1 HGz9
   have hcz9_2 := cellS54_2 HGz9
   have hfz9_1 := blk_frozen HGz9 1
   have hfz9_2 := blk_frozen HGz9 2
   clear HGz9 hgz9
   go_enter Tryz.func74, Tryz.ntmps74
   go_wp2
   repeat (go_quiet (fail); try go_wp2)
   go_ret
   (try simp only [Int.add_zero])
   exact ⟨w74_, w47_, w51_, w49_⟩

def spec_l1Cur_pick.f (s0_0 : List Int) (s0_1 : Int) (s0_2 : Int) (a1 : Int) : Option (Int × Int × Int) := if a1 ≤ 1 then (some (0, s0_1, s0_2)) else ((spec_l1Cur_next.f s0_0 s0_1 s0_2).bind fun bt102 => (if a1 > 200 then ((spec_l1Cur_next.f s0_0 bt102.2.1 bt102.2.2).bind fun bt105 => (if a1 = 0 then (none) else (some (Int.tmod (wrap64 ((wrap64 (bt102.1 * 256)) + bt105.1)) a1, bt105.2.1, bt105.2.2)))) else (if a1 = 0 then (none) else (some (Int.tmod bt102.1 a1, bt102.2.1, bt102.2.2)))))
set_option maxHeartbeats 8000000 in
set_option maxRecDepth 100000 in
theorem spec_l1Cur_pick.calls (g : Nat) (s0_0 : List Int) (s0_1 : Int) (s0_2 : Int) (a1 : Int) (r1 : Int) (r2 : Int) (r3 : Int) (w0 w : World) (hI : IsS54 w0 w g s0_0 s0_1 s0_2) (hB : Below w0.heap.size w0 w) (h : spec_l1Cur_pick.f s0_0 s0_1 s0_2 a1 = some (r1, r2, r3)) :
  Calls Tryz.prog 57 #[.pointer (some ⟨g, 0, none⟩), .int .i64 a1] w fun e w' => e = .returned (.int .i64 r1) ∧ IsS54 w0 w' g s0_0 r2 r3 ∧ Below w0.heap.size w0 w' ∧ KeepBut w w' g none := by
 have HI0 := Az_ hI
 have HK := Az_ (KeepBut.refl w g none)
 have HL := Az_ hB.size
 clear hI
 have HW0 := Az_ hB.size
 have HB := Az_ hB
 clear hB
 have H : (if a1 ≤ 1 then (some (0, s0_1, s0_2)) else ((spec_l1Cur_next.f s0_0 s0_1 s0_2).bind fun bt102 => (if a1 > 200 then ((spec_l1Cur_next.f s0_0 bt102.2.1 bt102.2.2).bind fun bt105 => (if a1 = 0 then (none) else (some (Int.tmod (wrap64 ((wrap64 (bt102.1 * 256)) + bt105.1)) a1, bt105.2.1, bt105.2.2)))) else (if a1 = 0 then (none) else (some (Int.tmod bt102.1 a1, bt102.2.1, bt102.2.2)))))) = some (r1, r2, r3) := h
 clear h
 by_cases c3 : a1 ≤ 1
 ·rw [if_pos c3] at H
  have c3b0 := decide_eq_true c3
  clear c3
  simp only [Option.some.injEq, Prod.mk.injEq] at H
  obtain ⟨rfl, rfl, rfl⟩ := H
  go_enter Tryz.func57, Tryz.ntmps57
  go_wp2
  go_ret
  exact ⟨w74_, w47_, w51_, w49_⟩
 ·rw [if_neg c3] at H
  have c3b0 := decide_eq_false c3
  clear c3
  replace H := bqz_ H; obtain ⟨⟨t102, t103, t104⟩, A4, H⟩ := H
  replace H : (if a1 > 200 then ((spec_l1Cur_next.f s0_0 t103 t104).bind fun bt105 => (if a1 = 0 then (none) else (some (Int.tmod (wrap64 ((wrap64 (t102 * 256)) + bt105.1)) a1, bt105.2.1, bt105.2.2)))) else (if a1 = 0 then (none) else (some (Int.tmod t102 a1, t103, t104)))) = some (r1, r2, r3) := H
  by_cases c5 : a1 > 200
  ·rw [if_pos c5] at H
   have c5b0 := decide_eq_true c5
   clear c5
   replace H := bqz_ H; obtain ⟨⟨t105, t106, t107⟩, A6, H⟩ := H
   replace H : (if a1 = 0 then (none) else (some (Int.tmod (wrap64 ((wrap64 (t102 * 256)) + t105)) a1, t106, t107))) = some (r1, r2, r3) := H
   by_cases c7 : a1 = 0
   ·rw [if_pos c7] at H
    exact absurd H (by simp)
   rw [if_neg c7] at H
   have c7b0 : (a1 == 0) = false := beq_eq_false_iff_ne.mpr c7
   have c7b1 : (a1 != 0) = true := bne_iff_ne.mpr c7
   simp only [Option.some.injEq, Prod.mk.injEq] at H
   obtain ⟨rfl, rfl, rfl⟩ := H
   go_enter Tryz.func57, Tryz.ntmps57
   go_wp2_with (first | ((with_reducible refine gate_callee (f := 74) rfl ?_); refine goesL_ (some 9) rfl rfl Tryz.func74 (w94_) rfl #[.pointer (some ⟨g, 0, none⟩)] rfl maz_ ?_; (with_reducible refine (spec_l1Cur_next.calls g s0_0 s0_1 s0_2 t102 t103 t104 w0 _ ?side1 ?side2 A4.out).mono ?_); (case side1 => repeat (first | (with_reducible first | exact HI0.out | apply IsS54.alloc | apply IsS54.drewN | apply IsS54.drew | apply IsS54.set_1 | apply IsS54.set_2) | exact HI0.out)); (case side2 => repeat (first | (with_reducible first | exact HB.out | apply baz_ | apply bnz_ | apply bdz_ | refine bsz_ ?_ (IsS54.ge HI0.out)) | exact HB.out)); rintro e w8 ⟨rfl, hi, hb, hk⟩; refine ⟨_, rfl, ?_⟩; replace HK := Az_ (KeepBut.trans (w49_) hk (.inl rfl)); replace HB := Az_ (hb); replace HI0 := Az_ (hi); (try clear hb); (try clear hk); (try clear hi)) | ((with_reducible refine gate_callee (f := 74) rfl ?_); refine goesL_ (some 15) rfl rfl Tryz.func74 (w94_) rfl #[.pointer (some ⟨g, 0, none⟩)] rfl maz_ ?_; (with_reducible refine (spec_l1Cur_next.calls g s0_0 t103 t104 t105 t106 t107 w0 _ ?side1 ?side2 A6.out).mono ?_); (case side1 => repeat (first | (with_reducible first | exact HI0.out | apply IsS54.alloc | apply IsS54.drewN | apply IsS54.drew | apply IsS54.set_1 | apply IsS54.set_2) | exact HI0.out)); (case side2 => repeat (first | (with_reducible first | exact HB.out | apply baz_ | apply bnz_ | apply bdz_ | refine bsz_ ?_ (IsS54.ge HI0.out)) | exact HB.out)); rintro e w9 ⟨rfl, hi, hb, hk⟩; refine ⟨_, rfl, ?_⟩; replace HK := Az_ (KeepBut.trans (w49_) hk (.inl rfl)); replace HB := Az_ (hb); replace HI0 := Az_ (hi); (try clear hb); (try clear hk); (try clear hi)))
   go_ret
   exact ⟨w74_, w47_, w51_, w49_⟩
  ·rw [if_neg c5] at H
   have c5b0 := decide_eq_false c5
   clear c5
   by_cases c10 : a1 = 0
   ·rw [if_pos c10] at H
    exact absurd H (by simp)
   ·rw [if_neg c10] at H
    have c10b0 : (a1 == 0) = false := beq_eq_false_iff_ne.mpr c10
    have c10b1 : (a1 != 0) = true := bne_iff_ne.mpr c10
    simp only [Option.some.injEq, Prod.mk.injEq] at H
    obtain ⟨rfl, rfl, rfl⟩ := H
    go_enter Tryz.func57, Tryz.ntmps57
    go_wp2_with (((with_reducible refine gate_callee (f := 74) rfl ?_); refine goesL_ (some 9) rfl rfl Tryz.func74 (w94_) rfl #[.pointer (some ⟨g, 0, none⟩)] rfl maz_ ?_; (with_reducible refine (spec_l1Cur_next.calls g s0_0 s0_1 s0_2 t102 t103 t104 w0 _ ?side1 ?side2 A4.out).mono ?_); (case side1 => repeat (first | (with_reducible first | exact HI0.out | apply IsS54.alloc | apply IsS54.drewN | apply IsS54.drew | apply IsS54.set_1 | apply IsS54.set_2) | exact HI0.out)); (case side2 => repeat (first | (with_reducible first | exact HB.out | apply baz_ | apply bnz_ | apply bdz_ | refine bsz_ ?_ (IsS54.ge HI0.out)) | exact HB.out)); rintro e w11 ⟨rfl, hi, hb, hk⟩; refine ⟨_, rfl, ?_⟩; replace HK := Az_ (KeepBut.trans (w49_) hk (.inl rfl)); replace HB := Az_ (hb); replace HI0 := Az_ (hi); (try clear hb); (try clear hk); (try clear hi)))
    go_ret
    exact ⟨w74_, w47_, w51_, w49_⟩

def spec_l1Cur_among.f (s0_0 : List Int) (s0_1 : Int) (s0_2 : Int) (l1 : List Int) : Option (Int × Int × Int) := (spec_l1Cur_pick.f s0_0 s0_1 s0_2 (l1.length : Int)).bind fun bt108 => (if 0 ≤ bt108.1 then (if bt108.1 < (l1.length : Int) then (some (rd l1 bt108.1, bt108.2.1, bt108.2.2)) else (none)) else (none))
set_option maxHeartbeats 8000000 in
set_option maxRecDepth 100000 in
theorem spec_l1Cur_among.calls (g : Nat) (s0_0 : List Int) (s0_1 : Int) (s0_2 : Int) (A1 : Option Addr) (c1 : Nat) (l1 : List Int) (r1 : Int) (r2 : Int) (r3 : Int) (w0 w : World) (hI : IsS54 w0 w g s0_0 s0_1 s0_2) (hB : Below w0.heap.size w0 w) (hr1 : Kd.C (Kd.int .i64) w A1 l1.length l1) (hc1 : l1.length ≤ c1) (hf1 : ∀ ad, A1 = some ad → 0 < l1.length → ad.block ≠ g) (h : spec_l1Cur_among.f s0_0 s0_1 s0_2 l1 = some (r1, r2, r3)) :
  Calls Tryz.prog 58 #[.pointer (some ⟨g, 0, none⟩), .slice A1 l1.length c1] w fun e w' => e = .returned (.int .i64 r1) ∧ IsS54 w0 w' g s0_0 r2 r3 ∧ Below w0.heap.size w0 w' ∧ KeepBut w w' g none := by
 have HR1 := Az_ hr1
 have HC1 := Az_ hc1
 clear hr1 hc1
 have HI0 := Az_ hI
 have HK := Az_ (KeepBut.refl w g none)
 have HL := Az_ hB.size
 clear hI
 have HW0 := Az_ hB.size
 have HB := Az_ hB
 clear hB
 have H : ((spec_l1Cur_pick.f s0_0 s0_1 s0_2 (l1.length : Int)).bind fun bt108 => (if 0 ≤ bt108.1 then (if bt108.1 < (l1.length : Int) then (some (rd l1 bt108.1, bt108.2.1, bt108.2.2)) else (none)) else (none))) = some (r1, r2, r3) := h
 clear h
 replace H := bqz_ H; obtain ⟨⟨t108, t109, t110⟩, A3, H⟩ := H
 replace H : (if 0 ≤ t108 then (if t108 < (l1.length : Int) then (some (rd l1 t108, t109, t110)) else (none)) else (none)) = some (r1, r2, r3) := H
 by_cases c4 : 0 ≤ t108
 ·rw [if_pos c4] at H
  have c4b0 := decide_eq_true c4
  clear c4
  by_cases c5 : t108 < (l1.length : Int); rotate_left
  ·rw [if_neg c5] at H
   exact absurd H (by simp)
  rw [if_pos c5] at H
  have c5b0 := decide_eq_true c5
  clear c5
  simp only [Option.some.injEq, Prod.mk.injEq] at H
  obtain ⟨rfl, rfl, rfl⟩ := H
  go_enter Tryz.func58, Tryz.ntmps58
  go_wp2_with (((with_reducible refine gate_callee (f := 57) rfl ?_); refine goesL_ (some 9) rfl rfl Tryz.func57 (w94_) rfl #[.pointer (some ⟨g, 0, none⟩), .int .i64 (l1.length : Int)] rfl maz_ ?_; (with_reducible refine (spec_l1Cur_pick.calls g s0_0 s0_1 s0_2 (l1.length : Int) t108 t109 t110 w0 _ ?side1 ?side2 A3.out).mono ?_); (case side1 => repeat (first | (with_reducible first | exact HI0.out | apply IsS54.alloc | apply IsS54.drewN | apply IsS54.drew | apply IsS54.set_1 | apply IsS54.set_2) | exact HI0.out)); (case side2 => repeat (first | (with_reducible first | exact HB.out | apply baz_ | apply bnz_ | apply bdz_ | refine bsz_ ?_ (IsS54.ge HI0.out)) | exact HB.out)); rintro e w6 ⟨rfl, hi, hb, hk⟩; refine ⟨_, rfl, ?_⟩; replace HK := Az_ (KeepBut.trans (w49_) hk (.inl rfl)); replace HB := Az_ (hb); replace HI0 := Az_ (hi); (try clear hb); (try clear hk); (try clear hi); have p111 : 0 ≤ (t108 : Int) := od_; have q111 : t108 < (l1.length : Int) := od_; obtain ⟨ad111, e111, hx111_0⟩ := Kd.at_int HR1.out t108 p111 q111; cases e111; replace hx111_0 := keep_cell HK.out hx111_0 (by first | (rw [add_block]; exact hf1 _ rfl (by omega)) | exact hf1 _ rfl (by omega) | exact hf1 ad111 rfl (by omega)); replace p111 := eq_true p111; replace q111 := eq_true q111))
  go_ret
  exact ⟨w74_, w47_, w51_, w49_⟩
 ·rw [if_neg c4] at H
  exact absurd H (by simp)


def spec_l1Cur_sureShelf.l0 : Nat → Int → List Int → Int → Int → List Int → Int → Option (List Int × Int × Int × Int)
 | 0, _, _, _, _, _, _ => none
 | k + 1, x4, x1000, x1001, x1002, x120000, x120001 => if x4 > 0 then ((spec_l1Cur_among.f x1000 x1001 x1002 (([1, 5, 10, 20, 30, 40] : List Int))).bind fun bt126 => (if x120000.length < 17592186044416 then (spec_l1Cur_sureShelf.l0 k (wrap64 (x4 - 1)) x1000 bt126.2.1 bt126.2.2 (x120000 ++ [bt126.1]) x120001) else (none))) else (some (x120000, x120001, x1001, x1002))
def spec_l1Cur_sureShelf.f (k : Nat) (s0_0 : List Int) (s0_1 : Int) (s0_2 : Int) : Option (List Int × Int × Int × Int) := (spec_l1Cur_among.f s0_0 s0_1 s0_2 (([0, 1, 2, 3] : List Int))).bind fun bt116 => ((spec_l1Cur_pick.f s0_0 bt116.2.1 bt116.2.2 5).bind fun bt120 => (spec_l1Cur_sureShelf.l0 k (wrap64 (1 + bt120.1)) s0_0 bt120.2.1 bt120.2.2 ([] : List Int) bt116.1))
def spec_l1Cur_sureShelf.T5 : Bool × List (List Nat × List Nat) := (true, [([], []), ([0], [0]), ([], []), ([], []), ([2, 3], [2, 3]), ([4], [4]), ([1, 5, 4], [1, 5]), ([0, 1, 2, 3, 4, 5, 6], []), ([7, 6, 6, 0, 1, 2, 3, 4, 5, 6], [6, 7])])
def spec_l1Cur_sureShelf.B5 : List Nat := [0, 1, 0, 0, 12, 28, 63, 127, 255]
theorem spec_l1Cur_sureShelf.tab5 : rtab .any (opsOf Tryz.f54 5) = spec_l1Cur_sureShelf.T5 := by kernel_rfl
theorem spec_l1Cur_sureShelf.bits5 : waitsOk spec_l1Cur_sureShelf.T5.2 spec_l1Cur_sureShelf.B5 = true := by kernel_rfl
set_option maxHeartbeats 8000000 in
set_option maxRecDepth 100000 in
theorem spec_l1Cur_sureShelf.calls (k : Nat) (g : Nat) (s0_0 : List Int) (s0_1 : Int) (s0_2 : Int) (r1 : List Int) (r2 : Int) (r3 : Int) (r4 : Int) (w0 w : World) (hI : IsS54 w0 w g s0_0 s0_1 s0_2) (hB : Below w0.heap.size w0 w) (h : spec_l1Cur_sureShelf.f k s0_0 s0_1 s0_2 = some (r1, r2, r3, r4)) :
  Calls Tryz.prog 54 #[.pointer (some ⟨g, 0, none⟩)] w fun e w' => ∃ v0_ : Value, e = .returned (.agg #[v0_, .int .i64 r2]) ∧ Kd.R (Kd.int .i64) 3 w' w.heap.size (fun _ => True) v0_ r1 ∧ IsS54 w0 w' g s0_0 r3 r4 ∧ Below w0.heap.size w0 w' ∧ KeepBut w w' g none := by
 have hu26 := Tryz.underlying26
 have HI0 := Az_ hI
 have HK := Az_ (KeepBut.refl w g none)
 have HL := Az_ hB.size
 clear hI
 have HW0 := Az_ hB.size
 have HB := Az_ hB
 clear hB
 have H : ((spec_l1Cur_among.f s0_0 s0_1 s0_2 (([0, 1, 2, 3] : List Int))).bind fun bt116 => ((spec_l1Cur_pick.f s0_0 bt116.2.1 bt116.2.2 5).bind fun bt120 => (spec_l1Cur_sureShelf.l0 k (wrap64 (1 + bt120.1)) s0_0 bt120.2.1 bt120.2.2 ([] : List Int) bt116.1))) = some (r1, r2, r3, r4) := h
 clear h
 obtain ⟨y113, hy113⟩ : ∃ y_ : List Int, y_ = (([0, 1, 2, 3] : List Int)) := ⟨_, rfl⟩
 replace H : ((spec_l1Cur_among.f s0_0 s0_1 s0_2 y113).bind fun bt116 => ((spec_l1Cur_pick.f s0_0 bt116.2.1 bt116.2.2 5).bind fun bt120 => (spec_l1Cur_sureShelf.l0 k (wrap64 (1 + bt120.1)) s0_0 bt120.2.1 bt120.2.2 ([] : List Int) bt116.1))) = some (r1, r2, r3, r4) := by first | (rw [hy113]; with_reducible exact H) | (have H2_ := (Option.bind_some _ _).symm.trans H; rw [hy113]; with_reducible exact H2_) | (have H2_ := (Option.bind_some _ _).symm.trans H; with_reducible exact H2_) | with_reducible exact H | (rw [hy113]; exact H) | exact H
 have Ny113 := Az_ hy113
 clear hy113
 replace H := bqz_ H; obtain ⟨⟨t116, t117, t118⟩, A2, H⟩ := H
 replace H := bqz_ H; obtain ⟨⟨t120, t121, t122⟩, A3, H⟩ := H
 replace H : (spec_l1Cur_sureShelf.l0 k (wrap64 (1 + t120)) s0_0 t121 t122 ([] : List Int) t116) = some (r1, r2, r3, r4) := H
 have H' := Az_ H
 clear H
 go_enter Tryz.func54, Tryz.ntmps54
 go_wp2_with (first | ((with_reducible refine gate_dst (N := 2) rfl ?_); refine box_event ?hg (N := 2) ?hd (cs := #[.slice none 0 0, .int .i64 0]) (t := 26) ?hr ?_; (case hd => rfl); (case hg => rfl); (case hr => first | (go_simp; done) | (go_simp; rfl)); intro gb112 hg w4 hbox hb; replace HB := Az_ (btz_ (w51_) hb); have BK112 := Az_ (hbox); have GW112 := Az_ ((by rw [hg]; exact (keep_size (w := w) (g := g) (row := none) (w49_)) : w.heap.size ≤ gb112)); have GE112 := Az_ ((Nat.le_trans HW0.out (by rw [hg]; exact (keep_size (w := w) (g := g) (row := none) (w49_)) : w.heap.size ≤ gb112) : w0.heap.size ≤ gb112)); replace HK := Az_ (KeepBut.trans (w49_) (KeepBut.of_below hb g none) (.inl rfl)); have NB0_112 := Az_ ((by rw [hg]; exact Nat.ne_of_lt (IsS54.lt (show IsS54 w0 _ g s0_0 s0_1 s0_2 from w47_)) : g ≠ gb112)); have NB112_0 := Az_ ((by rw [hg]; exact Nat.ne_of_gt (IsS54.lt (show IsS54 w0 _ g s0_0 s0_1 s0_2 from w47_)) : gb112 ≠ g)); replace HI0 := Az_ (IsS54.below (w47_) hb); clear hb hbox hg) | ((with_reducible refine gate_dst (N := 6) rfl ?_); refine Kd.R_lit (Kd.int .i64) _ 3 ?hg (N := 6) ?hd (xs := ([0, 1, 2, 3] : List Int)) (inner := [.int .i64 0, .int .i64 1, .int .i64 2, .int .i64 3]) (ok := fun _ => True) (okp := fun _ => True) ?hr ?hp (fun _ hk => hk) trivial (Below.refl _ _) (Nat.le_refl _) (by simp) ?_; (case hd => rfl); (case hg => rfl); (case hr => first | (go_simp; done) | (go_simp; rfl)); (case hp => exact (Reps.one (show Kd.M (Kd.int .i64) _ _ _ 0 [.int .i64 0] from rfl) (Reps.one (show Kd.M (Kd.int .i64) _ _ _ 1 [.int .i64 1] from rfl) (Reps.one (show Kd.M (Kd.int .i64) _ _ _ 2 [.int .i64 2] from rfl) (Reps.one (show Kd.M (Kd.int .i64) _ _ _ 3 [.int .i64 3] from rfl) (Reps.none _ _)))))); intro v114 w5 ho6 hb hg_ hnew_; clear hg_ hnew_; (first | rw [← Ny113.out] at ho6 | (simp only [Int.reduceToNat] at ho6; rw [← Ny113.out] at ho6)); have n0_ := Az_ (Kd.R_lower ho6 (keep_size (w := w) (g := g) (row := none) (w39_))); have n1_ := Az_ (IsS54.below (w35_) hb); have n3_ := Az_ (KeepBut.trans (w39_) (KeepBut.of_below hb g none) (.inl rfl)); have n4_ := Az_ (btz_ (w45_) hb); clear HI0; clear HK; clear HB; have HO115 := n0_; have HI0 := n1_; replace BK112 := Az_ (ukbz_ BK112.out hb); have HK := n3_; have HB := n4_; clear n0_ n1_ n3_ n4_; clear hb ho6; obtain ⟨Ao7, co7, eo7⟩ := Kd.R_slice HO115.out; subst eo7) | ((with_reducible refine gate_callee (f := 58) rfl ?_); refine goesL_ (some 7) rfl rfl Tryz.func58 (w94_) rfl #[.pointer (some ⟨g, 0, none⟩), .slice Ao7 y113.length co7] rfl maz_ ?_; (with_reducible refine (spec_l1Cur_among.calls g s0_0 s0_1 s0_2 _ _ y113 t116 t117 t118 w0 _ ?side1 ?side2 ?side3 ?side4 ?side5 A2.out).mono ?_); (case side1 => repeat (first | (with_reducible first | exact HI0.out | apply IsS54.alloc | apply IsS54.drewN | apply IsS54.drew | apply IsS54.set_1 | apply IsS54.set_2 | refine IsS54.far ?_ NB0_112.out _) | exact HI0.out)); (case side2 => repeat (first | (with_reducible first | exact HB.out | apply baz_ | apply bnz_ | apply bdz_ | refine bsz_ ?_ (IsS54.ge HI0.out) | refine bsz_ ?_ GE112.out) | exact HB.out)); (case side3 => exact ucz_ ((Kd.R_reads' HO115.out).2.2)); (case side4 => exact (Kd.R_reads' HO115.out).2.1); (case side5 => exact far_slice (IsS54.own_ne HI0.out HO115.out (by decide))); rintro e w8 ⟨rfl, hi, hb, hk⟩; refine ⟨_, rfl, ?_⟩; replace BK112 := Az_ (KeepBut.blk hk (g' := gb112) (o := .cells #[.slice none 0 0, .int .i64 0] 26 (0, 0)) (by exact ukz_ BK112.out) NB112_0.out (by simp)); replace HO115 := Az_ (Kd.R_mono (Kd.R_keep (IsS54.apart (show IsS54 w0 _ g s0_0 s0_1 s0_2 from w35_) (by exact urz_ HO115.out) (by decide)) hk (fun _ h => h.2)) (fun _ h => h.1)); replace HK := Az_ (KeepBut.trans (w39_) hk (.inl rfl)); replace HB := Az_ (hb); replace HI0 := Az_ (hi); (try clear hb); (try clear hk); (try clear hi)) | ((with_reducible refine gate_dst (N := 3) rfl ?_); refine box_event ?hg (N := 3) ?hd (cs := #[.slice none 0 0, .int .i64 0]) (t := 26) ?hr ?_; (case hd => rfl); (case hg => rfl); (case hr => first | (go_simp; done) | (go_simp; rfl)); intro gb119 hg w9 hbox hb; have n0_ := Az_ (Kd.R_below (by exact urz_ HO115.out) hb); have n1_ := Az_ (IsS54.below (w35_) hb); have n3_ := Az_ (KeepBut.trans (w39_) (KeepBut.of_below hb g none) (.inl rfl)); have n4_ := Az_ (btz_ (w45_) hb); have n5_ := Az_ (hbox); have n6_ := Az_ ((by rw [hg]; exact (keep_size (w := w) (g := g) (row := none) (w39_)) : w.heap.size ≤ gb119)); have n7_ := Az_ ((Nat.le_trans HW0.out (by rw [hg]; exact (keep_size (w := w) (g := g) (row := none) (w39_)) : w.heap.size ≤ gb119) : w0.heap.size ≤ gb119)); have n8_ := Az_ ((by rw [hg]; exact Nat.ne_of_lt (uklz_ BK112.out) : gb112 ≠ gb119)); have n9_ := Az_ ((by rw [hg]; exact Nat.ne_of_gt (uklz_ BK112.out) : gb119 ≠ gb112)); have n10_ := Az_ ((by rw [hg]; exact Nat.ne_of_lt (IsS54.lt (show IsS54 w0 _ g s0_0 t117 t118 from w35_)) : g ≠ gb119)); have n11_ := Az_ ((by rw [hg]; exact Nat.ne_of_gt (IsS54.lt (show IsS54 w0 _ g s0_0 t117 t118 from w35_)) : gb119 ≠ g)); clear HO115; clear HI0; clear HK; clear HB; have HO115 := n0_; have HI0 := n1_; replace BK112 := Az_ (ukbz_ BK112.out hb); have HK := n3_; have HB := n4_; have BK119 := n5_; have GW119 := n6_; have GE119 := n7_; have NB112_119 := n8_; have NB119_112 := n9_; have NB0_119 := n10_; have NB119_0 := n11_; clear n0_ n1_ n3_ n4_ n5_ n6_ n7_ n8_ n9_ n10_ n11_; clear hb hbox hg; have hnb10 := NB119_112.out; have hnc10 := NB112_119.out; have hnb11 := NB119_0.out; have hnc11 := NB0_119.out; have hcz12_0 : w9.cell? ⟨gb119, 0, none⟩ = some (.slice none 0 0) := (blk_cell BK119.out 0).trans rfl; have hcz12_1 : w9.cell? ⟨gb119, 1, none⟩ = some (.int .i64 0) := (blk_cell BK119.out 1).trans rfl; have hfz12_0 := blk_frozen BK119.out 0; have hfz12_1 := blk_frozen BK119.out 1) | ((with_reducible refine gate_callee (f := 57) rfl ?_); refine goesL_ (some 10) rfl rfl Tryz.func57 (w94_) rfl #[.pointer (some ⟨g, 0, none⟩), .int .i64 5] rfl maz_ ?_; (with_reducible refine (spec_l1Cur_pick.calls g s0_0 t117 t118 5 t120 t121 t122 w0 _ ?side1 ?side2 A3.out).mono ?_); (case side1 => repeat (first | (with_reducible first | exact HI0.out | apply IsS54.alloc | apply IsS54.drewN | apply IsS54.drew | apply IsS54.set_1 | apply IsS54.set_2 | refine IsS54.far ?_ NB0_112.out _ | refine IsS54.far ?_ NB0_119.out _) | exact HI0.out)); (case side2 => repeat (first | (with_reducible first | exact HB.out | apply baz_ | apply bnz_ | apply bdz_ | refine bsz_ ?_ (IsS54.ge HI0.out) | refine bsz_ ?_ GE112.out | refine bsz_ ?_ GE119.out) | exact HB.out)); rintro e w13 ⟨rfl, hi, hb, hk⟩; refine ⟨_, rfl, ?_⟩; replace BK112 := Az_ (KeepBut.blk hk (g' := gb112) (o := .cells #[.slice none 0 0, .int .i64 0] 26 (0, 0)) (by (with_reducible repeat (first | refine knz_ ?_ _ | refine kdz_ ?_ | refine kaz_ ?_ _)); refine blk_far ?_ NB112_119.out _; (with_reducible repeat (first | refine knz_ ?_ _ | refine kdz_ ?_ | refine kaz_ ?_ _)); refine blk_far ?_ NB112_119.out _; (with_reducible repeat (first | refine knz_ ?_ _ | refine kdz_ ?_ | refine kaz_ ?_ _)); exact BK112.out) NB112_0.out (by simp)); replace HO115 := Az_ (Kd.R_mono (Kd.R_keep (IsS54.apart (show IsS54 w0 _ g s0_0 t117 t118 from w27_) (by (with_reducible repeat (first | apply raz_ | apply rnz_ | apply rdz_)); exact (Kd.R_mono (Kd.R_far (p := ⟨gb119, 1, none⟩) (Kd.R_far (p := ⟨gb119, 0, none⟩) (Kd.R_types HO115.out BK119.out (by decide)) (fun _ hk => hk.2) (.slice none 0 0)) (fun _ hk => hk.2) (.int .i64 t116)) (fun _ h_ => h_.1))) (by decide)) hk (fun _ h => h.2)) (fun _ h => h.1)); replace BK119 := Az_ (KeepBut.blk hk (g' := gb119) (o := .cells #[.slice none 0 0, .int .i64 t116] 26 (0, 0)) (by (with_reducible repeat (first | refine knz_ ?_ _ | refine kdz_ ?_ | refine kaz_ ?_ _)); refine blk_put (cs := #[.slice none 0 0, .int .i64 0]) ?_ 1 _ rfl; (with_reducible repeat (first | refine knz_ ?_ _ | refine kdz_ ?_ | refine kaz_ ?_ _)); refine blk_put (cs := #[.slice none 0 0, .int .i64 0]) ?_ 0 _ rfl; (with_reducible repeat (first | refine knz_ ?_ _ | refine kdz_ ?_ | refine kaz_ ?_ _)); exact BK119.out) NB119_0.out (by simp)); replace HK := Az_ (KeepBut.trans (w31_) hk (.inl rfl)); replace HB := Az_ (hb); replace HI0 := Az_ (hi); (try clear hb); (try clear hk); (try clear hi)))
 go_loopg [4] k (fun kq v4 w' => ∃ (x4_1 : Int) (x1001_1 : Int) (x1002_1 : Int) (x120000_1 : List Int) (u120000 : Value), v4 = .int .i64 x4_1 ∧ Aside0 (spec_l1Cur_sureShelf.l0 kq x4_1 s0_0 x1001_1 x1002_1 x120000_1 t116 = some (r1, r2, r3, r4)) ∧ Aside0 (kq ≤ k) ∧ Aside0 (Kd.R (Kd.int .i64) 3 w' w.heap.size (fun _ => True) u120000 x120000_1) ∧ Aside0 (w'.heap[gb112]? = some (.cells #[(.slice none 0 0), .int .i64 0] 26 (0, 0))) ∧ Aside0 (w'.heap[gb119]? = some (.cells #[u120000, .int .i64 t116] 26 (0, 0))) ∧ Aside0 (IsS54 w0 w' g s0_0 x1001_1 x1002_1) ∧ Aside0 (KeepBut w w' g none) ∧ Aside0 (Below w0.heap.size w0 w'))
 case atStart => exact ⟨(wrap64 (1 + t120)), (t121), (t122), (([] : List Int)), (.slice none 0 0), qaz_, H', ⟨Nat.le_refl _⟩, ⟨w53_⟩, ⟨by (with_reducible repeat (first | refine knz_ ?_ _ | refine kdz_ ?_ | refine kaz_ ?_ _)); exact BK112.out⟩, ⟨by (with_reducible repeat (first | refine knz_ ?_ _ | refine kdz_ ?_ | refine kaz_ ?_ _)); exact BK119.out⟩, ⟨w27_⟩, ⟨w31_⟩, ⟨w37_⟩⟩
 case round =>
  clear H'
  clear hcz12_0 hcz12_1 hfz12_0 hfz12_1
  obtain ⟨x4_1, x1001_1, x1002_1, x120000_1, u120000, rfl, HA, HK1, HO_120000, BK112, BK119, HI0, HK, HB⟩ := hrel
  cases gk with
  | zero => exact absurd HA.out (by simp [spec_l1Cur_sureShelf.l0])
  | succ k1 =>
   have H := HA.out
   clear HA
   simp only [spec_l1Cur_sureShelf.l0] at H
   by_cases c14 : x4_1 > 0
   ·rw [if_pos c14] at H
    have c14b0 := decide_eq_true c14
    clear c14
    obtain ⟨y123, hy123⟩ : ∃ y_ : List Int, y_ = (([1, 5, 10, 20, 30, 40] : List Int)) := ⟨_, rfl⟩
    replace H : ((spec_l1Cur_among.f s0_0 x1001_1 x1002_1 y123).bind fun bt126 => (if x120000_1.length < 17592186044416 then (spec_l1Cur_sureShelf.l0 k1 (wrap64 (x4_1 - 1)) s0_0 bt126.2.1 bt126.2.2 (x120000_1 ++ [bt126.1]) t116) else (none))) = some (r1, r2, r3, r4) := by first | (rw [hy123]; with_reducible exact H) | (have H2_ := (Option.bind_some _ _).symm.trans H; rw [hy123]; with_reducible exact H2_) | (have H2_ := (Option.bind_some _ _).symm.trans H; with_reducible exact H2_) | with_reducible exact H | (rw [hy123]; exact H) | exact H
    have Ny123 := Az_ hy123
    clear hy123
    replace H := bqz_ H; obtain ⟨⟨t126, t127, t128⟩, A15, H⟩ := H
    replace H : (if x120000_1.length < 17592186044416 then (spec_l1Cur_sureShelf.l0 k1 (wrap64 (x4_1 - 1)) s0_0 t127 t128 (x120000_1 ++ [t126]) t116) else (none)) = some (r1, r2, r3, r4) := H
    by_cases c16 : x120000_1.length < 17592186044416; rotate_left
    ·rw [if_neg c16] at H
     exact absurd H (by simp)
    rw [if_pos c16] at H
    have LMc16 := Az_ c16
    clear c16
    obtain ⟨y129, hy129⟩ : ∃ y_ : List Int, y_ = (x120000_1 ++ [t126]) := ⟨_, rfl⟩
    replace H : (spec_l1Cur_sureShelf.l0 k1 (wrap64 (x4_1 - 1)) s0_0 t127 t128 y129 t116) = some (r1, r2, r3, r4) := by first | (rw [hy129]; with_reducible exact H) | (have H2_ := (Option.bind_some _ _).symm.trans H; rw [hy129]; with_reducible exact H2_) | (have H2_ := (Option.bind_some _ _).symm.trans H; with_reducible exact H2_) | with_reducible exact H | (rw [hy129]; exact H) | exact H
    have Ny129 := Az_ hy129
    clear hy129
    have H' := Az_ H
    clear H
    try go_wp2
    have n0_ := Az_ (rdz_ HO_120000.out)
    have n1_ := Az_ (kdz_ BK112.out)
    have n2_ := Az_ (kdz_ BK119.out)
    have n3_ := Az_ (IsS54.drew HI0.out)
    have n4_ := Az_ (keep_drew HK.out)
    have n5_ := Az_ (bdz_ HB.out)
    clear HO_120000 BK112 BK119 HI0 HK HB
    have HO_120000 := n0_
    have BK112 := n1_
    have BK119 := n2_
    have HI0 := n3_
    have HK := n4_
    have HB := n5_
    clear n0_ n1_ n2_ n3_ n4_ n5_
    refine start_ (n := 9) (S := fun w' => w'.cell? ⟨gb119, 0, none⟩ = some (u120000) ∧ w'.cell? ⟨gb119, 1, none⟩ = some (.int .i64 t116)) (ds := [8]) #[false, false, false, false, false, false, false, false, false] (w94_) rfl rfl ⟨(blk_cell BK119.out 0).trans rfl, (blk_cell BK119.out 1).trans rfl⟩ (fun hHeld => ?_); refine with_tabW spec_l1Cur_sureShelf.tab5 spec_l1Cur_sureShelf.bits5 (fun HT_ HW_ => ?_)
    generalize wr.drew = w17 at HO_120000 BK112 BK119 HI0 HK HB hHeld ⊢
    refine pz_ 0 16 [1,8] ?_
    refine pz_ 2 18 [1,1,1,6] ?_
    refine tz2_ 1 17 [3,6] ?_
    refine one_ (i := 3) (N := some 19) (mz_ [4,5]) rfl rfl (one_of HT_.out (w94_)) (by decide) (fun K hK => ?_)
    refine Kd.R_lit_step (Kd.int .i64) _ 3 ?hg (N := 19) ?hd (xs := ([1, 5, 10, 20, 30, 40] : List Int)) (inner := [.int .i64 1, .int .i64 5, .int .i64 10, .int .i64 20, .int .i64 30, .int .i64 40]) (ok := fun _ => True) (okp := fun _ => True) ?hr ?hp (fun _ hk => hk) trivial (Below.refl _ _) (Nat.le_refl _) (by simp) ?_; (case hd => rfl); (case hg => rfl); (case hr => first | (go_simp; done) | (go_simp; rfl)); (case hp => exact (Reps.one (show Kd.M (Kd.int .i64) _ _ _ 1 [.int .i64 1] from rfl) (Reps.one (show Kd.M (Kd.int .i64) _ _ _ 5 [.int .i64 5] from rfl) (Reps.one (show Kd.M (Kd.int .i64) _ _ _ 10 [.int .i64 10] from rfl) (Reps.one (show Kd.M (Kd.int .i64) _ _ _ 20 [.int .i64 20] from rfl) (Reps.one (show Kd.M (Kd.int .i64) _ _ _ 30 [.int .i64 30] from rfl) (Reps.one (show Kd.M (Kd.int .i64) _ _ _ 40 [.int .i64 40] from rfl) (Reps.none _ _))))))))
    intro v124 w18 ho19 hb hg_ hnew_
    clear hg_ hnew_
    (first | rw [← Ny123.out] at ho19 | (simp only [Int.reduceToNat] at ho19; rw [← Ny123.out] at ho19))
    have n0_ := Az_ (rez_ (by exact urz_ HO_120000.out) (Kd.R_base ho19) hb)
    have n1_ := Az_ (Kd.R_lower (Kd.R_new' ho19 (Kd.R_lt (by exact urz_ HO_120000.out))) (keep_size (w := w) (g := g) (row := none) (w31_)))
    have n4_ := Az_ (IsS54.below (w27_) hb)
    have n5_ := Az_ (KeepBut.trans (w31_) (KeepBut.of_below hb g none) (.inl rfl))
    have n6_ := Az_ (btz_ (w37_) hb)
    clear HO_120000 HI0 HK HB
    have HO_120000 := n0_
    have HO125 := n1_
    replace BK112 := Az_ (ukbz_ BK112.out hb)
    replace BK119 := Az_ (ukbz_ BK119.out hb)
    have HI0 := n4_
    have HK := n5_
    have HB := n6_
    clear n0_ n1_ n4_ n5_ n6_ hb ho19
    obtain ⟨Ao20, co20, eo20⟩ := Kd.R_slice HO125.out
    (first | subst eo20 | (injection eo20 with f1_ f2_ f3_; have f4_ := f1_.symm; have f5_ := f3_.symm; clear f1_ f2_ f3_; subst f4_; subst f5_))
    refine hK.out _ _ ⟨(blk_cell BK119.out 0).trans rfl, (blk_cell BK119.out 1).trans rfl⟩ (fun hHeld => ?_)
    clear hK K
    refine nz_ 19 ?_
    refine one_ (i := 4) (N := some 20) (mz_ [5,4]) rfl rfl (one_of HT_.out (w94_)) (by decide) (fun K hK => ?_)
    refine goes_ Tryz.func58 (w94_) rfl #[.pointer (some ⟨g, 0, none⟩), .slice Ao20 y123.length co20] (by rfl) rfl rfl maz_ ?_
    with_reducible refine (spec_l1Cur_among.calls g s0_0 x1001_1 x1002_1 _ _ y123 t126 t127 t128 w0 _ ?side1 ?side2 ?side3 ?side4 ?side5 A15.out).mono ?_
    (case side1 => repeat (first | (with_reducible first | exact HI0.out | apply IsS54.alloc | apply IsS54.drewN | apply IsS54.drew | apply IsS54.set_1 | apply IsS54.set_2 | refine IsS54.far ?_ NB0_112.out _ | refine IsS54.far ?_ NB0_119.out _) | exact HI0.out))
    (case side2 => repeat (first | (with_reducible first | exact HB.out | apply baz_ | apply bnz_ | apply bdz_ | refine bsz_ ?_ (IsS54.ge HI0.out) | refine bsz_ ?_ GE112.out | refine bsz_ ?_ GE119.out) | exact HB.out))
    (case side3 => repeat (first | exact (Kd.R_reads' HO125.out).2.2 | (with_reducible refine Kd.C_alloc ?_ _) | (with_reducible refine Kd.C_drewN ?_ _) | (with_reducible refine Kd.C_drew ?_)))
    (case side4 => exact (Kd.R_reads' HO125.out).2.1)
    (case side5 => exact far_slice (IsS54.own_ne HI0.out HO125.out (by decide)))
    rintro e w21 ⟨rfl, hi, hb, hk⟩
    refine ⟨_, rfl, ?_⟩
    have n0_ := Az_ (Kd.R_mono (Kd.R_keep (IsS54.apart (show IsS54 w0 _ g s0_0 x1001_1 x1002_1 from w27_) (by exact urz_ HO_120000.out) (by decide)) hk (fun _ h => h.2)) (fun _ h => h.1))
    have n1_ := Az_ (KeepBut.blk hk (g' := gb112) (o := .cells #[.slice none 0 0, .int .i64 0] 26 (0, 0)) (by exact ukz_ BK112.out) NB112_0.out (by simp))
    have n2_ := Az_ (KeepBut.blk hk (g' := gb119) (o := .cells #[u120000, .int .i64 t116] 26 (0, 0)) (by exact ukz_ BK119.out) NB119_0.out (by simp))
    have n3_ := Az_ (Kd.R_mono (Kd.R_keep (IsS54.apart (show IsS54 w0 _ g s0_0 x1001_1 x1002_1 from w27_) (by exact urz_ HO125.out) (by decide)) hk (fun _ h => h.2)) (fun _ h => h.1))
    have n4_ := Az_ (KeepBut.trans (w31_) hk (.inl rfl))
    have n5_ := Az_ (hb)
    have n6_ := Az_ (hi)
    clear HO_120000 BK112 BK119 HO125 HK HB HI0
    have HO_120000 := n0_
    have BK112 := n1_
    have BK119 := n2_
    have HO125 := n3_
    have HK := n4_
    have HB := n5_
    have HI0 := n6_
    clear n0_ n1_ n2_ n3_ n4_ n5_ n6_
    clear hb
    clear hk
    clear hi
    refine hK.out _ _ ⟨(blk_cell BK119.out 0).trans rfl, (blk_cell BK119.out 1).trans rfl⟩ (fun hHeld => ?_)
    clear hK K
    refine nz_ 20 ?_
    refine one_ (i := 5) (N := some 21) (mz_ [6,3]) rfl rfl (one_of HT_.out (w94_)) (by decide) (fun K hK => ?_)
    refine value_ (w1 := ?_) (v := ?_) (by rfl) rfl ?_ ?_
    rotate_left 2
    ·go_simp
     constructor
     ·rfl
     ·rfl
    refine hK.out _ _ ⟨(blk_cell (kaz_ BK119.out _) 0).trans rfl, (blk_cell (kaz_ BK119.out _) 1).trans rfl⟩ (fun hHeld => ?_)
    clear hK K
    refine nz_ 21 ?_
    refine one_ (i := 6) (N := some 22) (mz_ [7,2]) rfl rfl (one_of HT_.out (w94_)) (by decide) (fun K hK => ?_)
    refine Kd.R_append_step (Kd.int .i64) w.heap.size (by rfl) (.tmp 17) (.tmp 21) 24 3 (.int .i64 0) 8 rfl Tryz.underlying24 info3 rfl (by decide) (by omega) u120000 x120000_1 t126 [.int .i64 t126] (fun k_ => some k_ ≠ (.slice Ao20 y123.length co20 : Value).ownBlock) (fun _ => False) rfl rfl ?aP (fun _ hk => hk.elim) ?aF ?aO (Below.refl _ _) ?aS ?aL ?_
    (case aP => exact rfl)
    (case aF => exact (fun k_ hk => Kd.fresh' (Kd.R_lt (by exact urz_ HO125.out)) k_ hk))
    (case aO => exact (by (with_reducible repeat (first | apply raz_ | apply rnz_ | apply rdz_)); exact Kd.R_mono HO_120000.out (fun _ hk => hk.2)))
    (case aS => exact (keep_size (w := w) (g := g) (row := none) (w31_)))
    (case aL => have := LMc16.out; omega)
    intro v130 w22 ho hb hg hat
    rw [← Ny129.out] at ho
    have n0_ := Az_ (blk_grown (g := gb112) (o := .cells #[.slice none 0 0, .int .i64 0] 26 (0, 0)) (by exact ukz_ BK112.out) hg (Kd.R_ne HO_120000.out BK112.out (by decide)))
    have n1_ := Az_ (blk_grown (g := gb119) (o := .cells #[u120000, .int .i64 t116] 26 (0, 0)) (by exact ukz_ BK119.out) hg (Kd.R_ne HO_120000.out BK119.out (by decide)))
    have n2_ := Az_ (IsS54.grown (show IsS54 w0 _ g s0_0 t127 t128 from w27_) hg (IsS54.own_ne HI0.out HO_120000.out (by decide)))
    have n3_ := Az_ (Kd.R_after (ok := (fun _ => True)) (by exact urz_ HO125.out) hg hat)
    have n4_ := Az_ (below_weaken (w37_) HL.out hb)
    have n5_ := Az_ (KeepBut.trans (w31_) (KeepBut.of_grown hg g) (Kd.R_base2 HO_120000.out))
    have n6_ := Az_ (ho)
    clear BK112 BK119 HI0 HO125 HB HK HO_120000
    have BK112 := n0_
    have BK119 := n1_
    have HI0 := n2_
    have HO125 := n3_
    have HB := n4_
    have HK := n5_
    have HO131 := n6_
    clear n0_ n1_ n2_ n3_ n4_ n5_ n6_ ho hb hg hat
    obtain ⟨Ao23, co23, eo23⟩ := Kd.R_slice HO131.out
    (first | subst eo23 | (injection eo23 with f1_ f2_ f3_; have f4_ := f1_.symm; have f5_ := f3_.symm; clear f1_ f2_ f3_; subst f4_; subst f5_))
    refine hK.out _ _ ⟨(blk_cell BK119.out 0).trans rfl, (blk_cell BK119.out 1).trans rfl⟩ (fun hHeld => ?_)
    clear hK K
    refine nz_ 22 ?_
    refine pz_ 7 23 [8,1] ?_
    refine last_ (i := 8) (N := none) (mz_ [9]) rfl rfl (one_of HT_.out (w94_)) (by decide) (fun K hK => ?_)
    have hs24 : w22.cell? ⟨gb119, 0, none⟩ = some (u120000) := (blk_cell BK119.out 0).trans rfl
    have hfs24 := blk_frozen BK119.out 0
    have hns24_0 := NB112_119.out
    have hms24_0 := NB119_112.out
    refine skip_ (w1 := ?_) (by rfl) rfl ?_ ?_
    rotate_left
    ·go_simp
     rfl
    refine hK.out _ _ ?_
    clear hK K
    refine done_ (done_of HT_.out (w94_)) ?_
    try go_wp2
    go_roundg k1
    case measure => have := HK1.out; omega
    case rel => exact ⟨(wrap64 (x4_1 - 1)), (t127), (t128), (y129), (.slice Ao23 y129.length co23), qaz_, H', ⟨w85_⟩, ⟨by (with_reducible repeat (first | apply raz_ | apply rnz_ | apply rdz_)); exact Kd.R_mono (Kd.R_far (p := ⟨gb119, 0, none⟩) (Kd.R_types HO131.out BK119.out (by decide)) (fun _ hk => hk.2) (.slice Ao23 y129.length co23)) (fun _ hk => trivial)⟩, ⟨by (with_reducible repeat (first | refine knz_ ?_ _ | refine kdz_ ?_ | refine kaz_ ?_ _)); refine blk_far ?_ NB112_119.out _; (with_reducible repeat (first | refine knz_ ?_ _ | refine kdz_ ?_ | refine kaz_ ?_ _)); exact BK112.out⟩, ⟨by (with_reducible repeat (first | refine knz_ ?_ _ | refine kdz_ ?_ | refine kaz_ ?_ _)); refine blk_put (cs := #[u120000, .int .i64 t116]) ?_ 0 _ rfl; (with_reducible repeat (first | refine knz_ ?_ _ | refine kdz_ ?_ | refine kaz_ ?_ _)); exact BK119.out⟩, ⟨w27_⟩, ⟨w31_⟩, ⟨w37_⟩⟩
   ·rw [if_neg c14] at H
    have c14b0 := decide_eq_false c14
    clear c14
    simp only [Option.some.injEq, Prod.mk.injEq] at H
    obtain ⟨rfl, rfl, rfl, rfl⟩ := H
    have hnb25 := NB119_112.out
    have hnc25 := NB112_119.out
    have hnb26 := NB119_0.out
    have hnc26 := NB0_119.out
    have hcz27_0 : wr.cell? ⟨gb119, 0, none⟩ = some (u120000) := (blk_cell BK119.out 0).trans rfl
    have hcz27_1 : wr.cell? ⟨gb119, 1, none⟩ = some (.int .i64 t116) := (blk_cell BK119.out 1).trans rfl
    have hfz27_0 := blk_frozen BK119.out 0
    have hfz27_1 := blk_frozen BK119.out 1
    obtain ⟨Ao28, co28, eo28⟩ := Kd.R_slice HO_120000.out
    subst eo28
    have hnb29 := NB112_0.out
    have hnc29 := NB0_112.out
    have hcz30_0 : wr.cell? ⟨gb112, 0, none⟩ = some (.slice none 0 0) := (blk_cell BK112.out 0).trans rfl
    have hcz30_1 : wr.cell? ⟨gb112, 1, none⟩ = some (.int .i64 0) := (blk_cell BK112.out 1).trans rfl
    have hfz30_0 := blk_frozen BK112.out 0
    have hfz30_1 := blk_frozen BK112.out 1
    go_wp2
    refine bodyPost_ret (results_cell_row rfl _ _ gb112 26 #[.slice Ao28 x120000_1.length co28, .int .i64 t116] (0, 0) _ rfl (by (with_reducible repeat (first | refine knz_ ?_ _ | refine kdz_ ?_ | refine kaz_ ?_ _)); refine blk_put (cs := #[.slice Ao28 x120000_1.length co28, .int .i64 0]) ?_ 1 _ rfl; (with_reducible repeat (first | refine knz_ ?_ _ | refine kdz_ ?_ | refine kaz_ ?_ _)); refine blk_put (cs := #[.slice none 0 0, .int .i64 0]) ?_ 0 _ rfl; (with_reducible repeat (first | refine knz_ ?_ _ | refine kdz_ ?_ | refine kaz_ ?_ _)); exact BK112.out) Tryz.underlying26 rfl (w94_)) rfl ?_
    exact ⟨_, w74_, by (with_reducible repeat (first | apply raz_ | apply rnz_ | apply rdz_)); exact Kd.R_mono (Kd.R_far (p := ⟨gb112, 1, none⟩) (Kd.R_far (p := ⟨gb112, 0, none⟩) (Kd.R_types HO_120000.out BK112.out (by decide)) (fun _ hk => hk.2) (.slice Ao28 x120000_1.length co28)) (fun _ hk => hk.2) (.int .i64 t116)) (fun _ hk => trivial), w27_, w37_, w31_⟩


def spec_l1Cur_shelf.f (k : Nat) (s0_0 : List Int) (s0_1 : Int) (s0_2 : Int) : Option (List Int × Int × Int × Int) := (spec_l1Cur_sureShelf.f k s0_0 s0_1 s0_2).bind fun bt133 => ((spec_l1Cur_pick.f s0_0 bt133.2.2.1 bt133.2.2.2 14).bind fun bt140 => (if bt140.1 = 0 then ((spec_l1Cur_among.f s0_0 bt140.2.1 bt140.2.2 (([(-1), 10, 11, 4611686018427387904] : List Int))).bind fun bt146 => (some (bt133.1, bt146.1, bt146.2.1, bt146.2.2))) else (if bt140.1 = 1 then ((spec_l1Cur_among.f s0_0 bt140.2.1 bt140.2.2 (([0, (-1), 100, 101, 4611686018427387904] : List Int))).bind fun bt152 => (if 0 < (bt133.1.length : Int) then (some ((bt133.1.set (0 : Int).toNat bt152.1), bt133.2.1, bt152.2.1, bt152.2.2)) else (none))) else (if bt140.1 = 2 then ((some (([[], (([1, 2, 3, 4, 5, 6, 7, 8] : List Int)), (([1, 2, 3, 4, 5, 6, 7, 8, 9] : List Int))] : List (List Int)) : List (List Int))).bind fun y162 => ((spec_l1Cur_pick.f s0_0 bt140.2.1 bt140.2.2 3).bind fun bt165 => (if 0 ≤ bt165.1 then (if bt165.1 < (y162.length : Int) then (some (rd_L2 y162 bt165.1, bt133.2.1, bt165.2.1, bt165.2.2)) else (none)) else (none)))) else (some (bt133.1, bt133.2.1, bt140.2.1, bt140.2.2))))))
set_option maxHeartbeats 8000000 in
set_option maxRecDepth 100000 in
theorem spec_l1Cur_shelf.calls (k : Nat) (g : Nat) (s0_0 : List Int) (s0_1 : Int) (s0_2 : Int) (r1 : List Int) (r2 : Int) (r3 : Int) (r4 : Int) (w0 w : World) (hI : IsS54 w0 w g s0_0 s0_1 s0_2) (hB : Below w0.heap.size w0 w) (h : spec_l1Cur_shelf.f k s0_0 s0_1 s0_2 = some (r1, r2, r3, r4)) :
  Calls Tryz.prog 32 #[.pointer (some ⟨g, 0, none⟩)] w fun e w' => ∃ v0_ : Value, e = .returned (.agg #[v0_, .int .i64 r2]) ∧ Kd.V (Kd.int .i64) 3 w' w.heap.size (fun k_ => (w.heap.size ≤ k_)) v0_ r1 ∧ IsS54 w0 w' g s0_0 r3 r4 ∧ Below w0.heap.size w0 w' ∧ KeepBut w w' g none := by
 have hu26 := Tryz.underlying26
 have HI0 := Az_ hI
 have HK := Az_ (KeepBut.refl w g none)
 have HL := Az_ hB.size
 clear hI
 have HW0 := Az_ hB.size
 have HB := Az_ hB
 clear hB
 have H : ((spec_l1Cur_sureShelf.f k s0_0 s0_1 s0_2).bind fun bt133 => ((spec_l1Cur_pick.f s0_0 bt133.2.2.1 bt133.2.2.2 14).bind fun bt140 => (if bt140.1 = 0 then ((spec_l1Cur_among.f s0_0 bt140.2.1 bt140.2.2 (([(-1), 10, 11, 4611686018427387904] : List Int))).bind fun bt146 => (some (bt133.1, bt146.1, bt146.2.1, bt146.2.2))) else (if bt140.1 = 1 then ((spec_l1Cur_among.f s0_0 bt140.2.1 bt140.2.2 (([0, (-1), 100, 101, 4611686018427387904] : List Int))).bind fun bt152 => (if 0 < (bt133.1.length : Int) then (some ((bt133.1.set (0 : Int).toNat bt152.1), bt133.2.1, bt152.2.1, bt152.2.2)) else (none))) else (if bt140.1 = 2 then ((some (([[], (([1, 2, 3, 4, 5, 6, 7, 8] : List Int)), (([1, 2, 3, 4, 5, 6, 7, 8, 9] : List Int))] : List (List Int)) : List (List Int))).bind fun y162 => ((spec_l1Cur_pick.f s0_0 bt140.2.1 bt140.2.2 3).bind fun bt165 => (if 0 ≤ bt165.1 then (if bt165.1 < (y162.length : Int) then (some (rd_L2 y162 bt165.1, bt133.2.1, bt165.2.1, bt165.2.2)) else (none)) else (none)))) else (some (bt133.1, bt133.2.1, bt140.2.1, bt140.2.2))))))) = some (r1, r2, r3, r4) := h
 clear h
 replace H := bqz_ H; obtain ⟨⟨t133, t136, t137, t138⟩, A2, H⟩ := H
 replace H := bqz_ H; obtain ⟨⟨t140, t141, t142⟩, A3, H⟩ := H
 replace H : (if t140 = 0 then ((spec_l1Cur_among.f s0_0 t141 t142 (([(-1), 10, 11, 4611686018427387904] : List Int))).bind fun bt146 => (some (t133, bt146.1, bt146.2.1, bt146.2.2))) else (if t140 = 1 then ((spec_l1Cur_among.f s0_0 t141 t142 (([0, (-1), 100, 101, 4611686018427387904] : List Int))).bind fun bt152 => (if 0 < (t133.length : Int) then (some ((t133.set (0 : Int).toNat bt152.1), t136, bt152.2.1, bt152.2.2)) else (none))) else (if t140 = 2 then ((some (([[], (([1, 2, 3, 4, 5, 6, 7, 8] : List Int)), (([1, 2, 3, 4, 5, 6, 7, 8, 9] : List Int))] : List (List Int)) : List (List Int))).bind fun y162 => ((spec_l1Cur_pick.f s0_0 t141 t142 3).bind fun bt165 => (if 0 ≤ bt165.1 then (if bt165.1 < (y162.length : Int) then (some (rd_L2 y162 bt165.1, t136, bt165.2.1, bt165.2.2)) else (none)) else (none)))) else (some (t133, t136, t141, t142))))) = some (r1, r2, r3, r4) := H
 by_cases c4 : t140 = 0
 ·rw [if_pos c4] at H
  have c4b0 : (t140 == 0) = true := beq_iff_eq.mpr c4
  have c4b1 : (t140 != 0) = false := bne_eq_false_iff_eq.mpr c4
  clear c4
  obtain ⟨y143, hy143⟩ : ∃ y_ : List Int, y_ = (([(-1), 10, 11, 4611686018427387904] : List Int)) := ⟨_, rfl⟩
  replace H : ((spec_l1Cur_among.f s0_0 t141 t142 y143).bind fun bt146 => (some (t133, bt146.1, bt146.2.1, bt146.2.2))) = some (r1, r2, r3, r4) := by first | (rw [hy143]; with_reducible exact H) | (have H2_ := (Option.bind_some _ _).symm.trans H; rw [hy143]; with_reducible exact H2_) | (have H2_ := (Option.bind_some _ _).symm.trans H; with_reducible exact H2_) | with_reducible exact H | (rw [hy143]; exact H) | exact H
  have Ny143 := Az_ hy143
  clear hy143
  replace H := bqz_ H; obtain ⟨⟨t146, t147, t148⟩, A5, H⟩ := H
  replace H : (some (t133, t146, t147, t148)) = some (r1, r2, r3, r4) := H
  simp only [Option.some.injEq, Prod.mk.injEq] at H
  obtain ⟨rfl, rfl, rfl, rfl⟩ := H
  go_enter Tryz.func32, Tryz.ntmps32
  go_wp2_with (first | ((with_reducible refine gate_dst (N := 2) rfl ?_); refine box_event ?hg (N := 2) ?hd (cs := #[.slice none 0 0, .int .i64 0]) (t := 26) ?hr ?_; (case hd => rfl); (case hg => rfl); (case hr => first | (go_simp; done) | (go_simp; rfl)); intro gb132 hg w6 hbox hb; replace HB := Az_ (btz_ (w51_) hb); have BK132 := Az_ (hbox); have GW132 := Az_ ((by rw [hg]; exact (keep_size (w := w) (g := g) (row := none) (w49_)) : w.heap.size ≤ gb132)); have GE132 := Az_ ((Nat.le_trans HW0.out (by rw [hg]; exact (keep_size (w := w) (g := g) (row := none) (w49_)) : w.heap.size ≤ gb132) : w0.heap.size ≤ gb132)); replace HK := Az_ (KeepBut.trans (w49_) (KeepBut.of_below hb g none) (.inl rfl)); have NB0_132 := Az_ ((by rw [hg]; exact Nat.ne_of_lt (IsS54.lt (show IsS54 w0 _ g s0_0 s0_1 s0_2 from w47_)) : g ≠ gb132)); have NB132_0 := Az_ ((by rw [hg]; exact Nat.ne_of_gt (IsS54.lt (show IsS54 w0 _ g s0_0 s0_1 s0_2 from w47_)) : gb132 ≠ g)); replace HI0 := Az_ (IsS54.below (w47_) hb); clear hb hbox hg) | ((with_reducible refine gate_callee (f := 54) rfl ?_); refine goesL_ (some 5) rfl rfl Tryz.func54 (w94_) rfl #[.pointer (some ⟨g, 0, none⟩)] rfl maz_ ?_; (with_reducible refine (spec_l1Cur_sureShelf.calls k g s0_0 s0_1 s0_2 t133 t136 t137 t138 w0 _ ?side1 ?side2 A2.out).mono ?_); (case side1 => repeat (first | (with_reducible first | exact HI0.out | apply IsS54.alloc | apply IsS54.drewN | apply IsS54.drew | apply IsS54.set_1 | apply IsS54.set_2 | refine IsS54.far ?_ NB0_132.out _) | exact HI0.out)); (case side2 => repeat (first | (with_reducible first | exact HB.out | apply baz_ | apply bnz_ | apply bdz_ | refine bsz_ ?_ (IsS54.ge HI0.out) | refine bsz_ ?_ GE132.out) | exact HB.out)); rintro e w7 ⟨v134, rfl, ho0, hi, hb, hk⟩; refine ⟨_, rfl, ?_⟩; replace BK132 := Az_ (KeepBut.blk hk (g' := gb132) (o := .cells #[.slice none 0 0, .int .i64 0] 26 (0, 0)) (w86_) NB132_0.out (by simp)); have HO135 := Az_ (Kd.R_lower (Kd.R_newM (M := fun k_ => (w.heap.size ≤ k_)) ho0 (keep_size (w := w) (g := g) (row := none) (w40_)) (fun k_ h_ => h_)) (keep_size (w := w) (g := g) (row := none) (w40_))); replace HK := Az_ (KeepBut.trans (w40_) hk (.inl rfl)); replace HB := Az_ (hb); replace HI0 := Az_ (hi); (try clear hb); (try clear hk); (try clear hi); (try clear ho0)) | ((with_reducible refine gate_dst (N := 3) rfl ?_); refine box_event ?hg (N := 3) ?hd (cs := #[.slice none 0 0, .int .i64 0]) (t := 26) ?hr ?_; (case hd => rfl); (case hg => rfl); (case hr => first | (go_simp; done) | (go_simp; rfl)); intro gb139 hg w8 hbox hb; have n0_ := Az_ (Kd.R_below (w87_) hb); have n1_ := Az_ (IsS54.below (w36_) hb); have n3_ := Az_ (KeepBut.trans (w40_) (KeepBut.of_below hb g none) (.inl rfl)); have n4_ := Az_ (btz_ (w46_) hb); have n5_ := Az_ (hbox); have n6_ := Az_ ((by rw [hg]; exact (keep_size (w := w) (g := g) (row := none) (w40_)) : w.heap.size ≤ gb139)); have n7_ := Az_ ((Nat.le_trans HW0.out (by rw [hg]; exact (keep_size (w := w) (g := g) (row := none) (w40_)) : w.heap.size ≤ gb139) : w0.heap.size ≤ gb139)); have n8_ := Az_ ((by rw [hg]; exact Nat.ne_of_lt (uklz_ BK132.out) : gb132 ≠ gb139)); have n9_ := Az_ ((by rw [hg]; exact Nat.ne_of_gt (uklz_ BK132.out) : gb139 ≠ gb132)); have n10_ := Az_ ((by rw [hg]; exact Nat.ne_of_lt (IsS54.lt (show IsS54 w0 _ g s0_0 t137 t138 from w36_)) : g ≠ gb139)); have n11_ := Az_ ((by rw [hg]; exact Nat.ne_of_gt (IsS54.lt (show IsS54 w0 _ g s0_0 t137 t138 from w36_)) : gb139 ≠ g)); clear HO135; clear HI0; clear HK; clear HB; have HO135 := n0_; have HI0 := n1_; replace BK132 := Az_ (ukbz_ BK132.out hb); have HK := n3_; have HB := n4_; have BK139 := n5_; have GW139 := n6_; have GE139 := n7_; have NB132_139 := n8_; have NB139_132 := n9_; have NB0_139 := n10_; have NB139_0 := n11_; clear n0_ n1_ n3_ n4_ n5_ n6_ n7_ n8_ n9_ n10_ n11_; clear hb hbox hg; obtain ⟨Ao9, co9, eo9⟩ := Kd.R_slice HO135.out; subst eo9; have hnb10 := NB139_132.out; have hnc10 := NB132_139.out; have hnb11 := NB139_0.out; have hnc11 := NB0_139.out; have hcz12_0 : w8.cell? ⟨gb139, 0, none⟩ = some (.slice none 0 0) := (blk_cell BK139.out 0).trans rfl; have hcz12_1 : w8.cell? ⟨gb139, 1, none⟩ = some (.int .i64 0) := (blk_cell BK139.out 1).trans rfl; have hfz12_0 := blk_frozen BK139.out 0; have hfz12_1 := blk_frozen BK139.out 1) | ((with_reducible refine gate_callee (f := 57) rfl ?_); refine goesL_ (some 7) rfl rfl Tryz.func57 (w94_) rfl #[.pointer (some ⟨g, 0, none⟩), .int .i64 14] rfl maz_ ?_; (with_reducible refine (spec_l1Cur_pick.calls g s0_0 t137 t138 14 t140 t141 t142 w0 _ ?side1 ?side2 A3.out).mono ?_); (case side1 => repeat (first | (with_reducible first | exact HI0.out | apply IsS54.alloc | apply IsS54.drewN | apply IsS54.drew | apply IsS54.set_1 | apply IsS54.set_2 | refine IsS54.far ?_ NB0_132.out _ | refine IsS54.far ?_ NB0_139.out _) | exact HI0.out)); (case side2 => repeat (first | (with_reducible first | exact HB.out | apply baz_ | apply bnz_ | apply bdz_ | refine bsz_ ?_ (IsS54.ge HI0.out) | refine bsz_ ?_ GE132.out | refine bsz_ ?_ GE139.out) | exact HB.out)); rintro e w13 ⟨rfl, hi, hb, hk⟩; refine ⟨_, rfl, ?_⟩; replace BK132 := Az_ (KeepBut.blk hk (g' := gb132) (o := .cells #[.slice none 0 0, .int .i64 0] 26 (0, 0)) (w12_) NB132_0.out (by simp)); replace HO135 := Az_ (Kd.R_mono (Kd.R_keep (IsS54.apart (show IsS54 w0 _ g s0_0 t137 t138 from w28_) (by (with_reducible repeat (first | apply raz_ | apply rnz_ | apply rdz_)); exact (Kd.R_mono (Kd.R_far (p := ⟨gb139, 1, none⟩) (Kd.R_far (p := ⟨gb139, 0, none⟩) (Kd.R_types HO135.out BK139.out (by decide)) (fun _ hk => hk.2) (.slice Ao9 t133.length co9)) (fun _ hk => hk.2) (.int .i64 t136)) (fun _ h_ => h_.1))) (by decide)) hk (fun _ h => h.2)) (fun _ h => h.1)); replace BK139 := Az_ (KeepBut.blk hk (g' := gb139) (o := .cells #[.slice Ao9 t133.length co9, .int .i64 t136] 26 (0, 0)) (by (with_reducible repeat (first | refine knz_ ?_ _ | refine kdz_ ?_ | refine kaz_ ?_ _)); refine blk_put (cs := #[.slice Ao9 t133.length co9, .int .i64 0]) ?_ 1 _ rfl; (with_reducible repeat (first | refine knz_ ?_ _ | refine kdz_ ?_ | refine kaz_ ?_ _)); refine blk_put (cs := #[.slice none 0 0, .int .i64 0]) ?_ 0 _ rfl; (with_reducible repeat (first | refine knz_ ?_ _ | refine kdz_ ?_ | refine kaz_ ?_ _)); exact BK139.out) NB139_0.out (by simp)); replace HK := Az_ (KeepBut.trans (w32_) hk (.inl rfl)); replace HB := Az_ (hb); replace HI0 := Az_ (hi); (try clear hb); (try clear hk); (try clear hi)) | ((with_reducible refine gate_dst (N := 11) rfl ?_); refine Kd.R_lit (Kd.int .i64) _ 3 ?hg (N := 11) ?hd (xs := ([(-1), 10, 11, 4611686018427387904] : List Int)) (inner := [.int .i64 (-1), .int .i64 10, .int .i64 11, .int .i64 4611686018427387904]) (ok := fun _ => True) (okp := fun _ => True) ?hr ?hp (fun _ hk => hk) trivial (Below.refl _ _) (Nat.le_refl _) (by simp) ?_; (case hd => rfl); (case hg => rfl); (case hr => first | (go_simp; done) | (go_simp; rfl)); (case hp => exact (Reps.one (show Kd.M (Kd.int .i64) _ _ _ (-1) [.int .i64 (-1)] from rfl) (Reps.one (show Kd.M (Kd.int .i64) _ _ _ 10 [.int .i64 10] from rfl) (Reps.one (show Kd.M (Kd.int .i64) _ _ _ 11 [.int .i64 11] from rfl) (Reps.one (show Kd.M (Kd.int .i64) _ _ _ 4611686018427387904 [.int .i64 4611686018427387904] from rfl) (Reps.none _ _)))))); intro v144 w14 ho15 hb hg_ hnew_; clear hg_ hnew_; (first | rw [← Ny143.out] at ho15 | (simp only [Int.reduceToNat] at ho15; rw [← Ny143.out] at ho15)); have n0_ := Az_ (rez_ (w87_) (Kd.R_base ho15) hb); have n1_ := Az_ (Kd.R_lower (Kd.R_new' (Kd.R_newM (M := fun k_ => (w.heap.size ≤ k_)) ho15 (keep_size (w := w) (g := g) (row := none) (w32_)) (fun k_ h_ => h_)) (Kd.R_lt (w87_))) (keep_size (w := w) (g := g) (row := none) (w32_))); have n2_ := Az_ (IsS54.below (w28_) hb); have n5_ := Az_ (KeepBut.trans (w32_) (KeepBut.of_below hb g none) (.inl rfl)); have n6_ := Az_ (btz_ (w38_) hb); clear HO135; clear HI0; clear HK; clear HB; have HO135 := n0_; have HO145 := n1_; have HI0 := n2_; replace BK132 := Az_ (ukbz_ BK132.out hb); replace BK139 := Az_ (ukbz_ BK139.out hb); have HK := n5_; have HB := n6_; clear n0_ n1_ n2_ n5_ n6_; clear hb ho15; obtain ⟨Ao16, co16, eo16⟩ := Kd.R_slice HO145.out; subst eo16) | ((with_reducible refine gate_callee (f := 58) rfl ?_); refine goesL_ (some 12) rfl rfl Tryz.func58 (w94_) rfl #[.pointer (some ⟨g, 0, none⟩), .slice Ao16 y143.length co16] rfl maz_ ?_; (with_reducible refine (spec_l1Cur_among.calls g s0_0 t141 t142 _ _ y143 t146 t147 t148 w0 _ ?side1 ?side2 ?side3 ?side4 ?side5 A5.out).mono ?_); (case side1 => repeat (first | (with_reducible first | exact HI0.out | apply IsS54.alloc | apply IsS54.drewN | apply IsS54.drew | apply IsS54.set_1 | apply IsS54.set_2 | refine IsS54.far ?_ NB0_132.out _ | refine IsS54.far ?_ NB0_139.out _) | exact HI0.out)); (case side2 => repeat (first | (with_reducible first | exact HB.out | apply baz_ | apply bnz_ | apply bdz_ | refine bsz_ ?_ (IsS54.ge HI0.out) | refine bsz_ ?_ GE132.out | refine bsz_ ?_ GE139.out) | exact HB.out)); (case side3 => exact ucz_ ((Kd.R_reads' HO145.out).2.2)); (case side4 => exact (Kd.R_reads' HO145.out).2.1); (case side5 => exact far_slice (IsS54.own_ne HI0.out HO145.out (by decide))); rintro e w17 ⟨rfl, hi, hb, hk⟩; refine ⟨_, rfl, ?_⟩; replace BK132 := Az_ (KeepBut.blk hk (g' := gb132) (o := .cells #[.slice none 0 0, .int .i64 0] 26 (0, 0)) (w86_) NB132_0.out (by simp)); replace HO135 := Az_ (Kd.R_mono (Kd.R_keep (IsS54.apart (show IsS54 w0 _ g s0_0 t141 t142 from w28_) (w87_) (by decide)) hk (fun _ h => h.2)) (fun _ h => h.1)); replace BK139 := Az_ (KeepBut.blk hk (g' := gb139) (o := .cells #[.slice Ao9 t133.length co9, .int .i64 t136] 26 (0, 0)) (by exact ukz_ BK139.out) NB139_0.out (by simp)); replace HO145 := Az_ (Kd.R_mono (Kd.R_keep (IsS54.apart (show IsS54 w0 _ g s0_0 t141 t142 from w28_) (by exact urz_ HO145.out) (by decide)) hk (fun _ h => h.2)) (fun _ h => h.1)); replace HK := Az_ (KeepBut.trans (w32_) hk (.inl rfl)); replace HB := Az_ (hb); replace HI0 := Az_ (hi); (try clear hb); (try clear hk); (try clear hi); have hcz18_0 : w17.cell? ⟨gb139, 0, none⟩ = some (.slice Ao9 t133.length co9) := (blk_cell BK139.out 0).trans rfl; have hcz18_1 : w17.cell? ⟨gb139, 1, none⟩ = some (.int .i64 t136) := (blk_cell BK139.out 1).trans rfl; have hfz18_0 := blk_frozen BK139.out 0; have hfz18_1 := blk_frozen BK139.out 1; have hnb19 := NB132_0.out; have hnc19 := NB0_132.out; have hcz20_0 : w17.cell? ⟨gb132, 0, none⟩ = some (.slice none 0 0) := (blk_cell BK132.out 0).trans rfl; have hcz20_1 : w17.cell? ⟨gb132, 1, none⟩ = some (.int .i64 0) := (blk_cell BK132.out 1).trans rfl; have hfz20_0 := blk_frozen BK132.out 0; have hfz20_1 := blk_frozen BK132.out 1))
  refine bodyPost_ret (results_cell_row rfl _ _ gb132 26 #[.slice Ao9 t133.length co9, .int .i64 t146] (0, 0) _ rfl (by (with_reducible repeat (first | refine knz_ ?_ _ | refine kdz_ ?_ | refine kaz_ ?_ _)); refine blk_put (cs := #[.slice Ao9 t133.length co9, .int .i64 0]) ?_ 1 _ rfl; (with_reducible repeat (first | refine knz_ ?_ _ | refine kdz_ ?_ | refine kaz_ ?_ _)); refine blk_put (cs := #[.slice none 0 0, .int .i64 0]) ?_ 0 _ rfl; (with_reducible repeat (first | refine knz_ ?_ _ | refine kdz_ ?_ | refine kaz_ ?_ _)); refine blk_far ?_ NB132_139.out _; (with_reducible repeat (first | refine knz_ ?_ _ | refine kdz_ ?_ | refine kaz_ ?_ _)); exact BK132.out) Tryz.underlying26 rfl (w94_)) rfl ?_
  exact ⟨_, w74_, Kd.R_V (by (with_reducible repeat (first | apply raz_ | apply rnz_ | apply rdz_)); exact Kd.R_mono (Kd.R_far (p := ⟨gb132, 1, none⟩) (Kd.R_far (p := ⟨gb132, 0, none⟩) (Kd.R_far (p := ⟨gb139, 1, none⟩) (Kd.R_types (Kd.R_types HO135.out BK139.out (by decide)) BK132.out (by decide)) (fun _ hk => hk.1.2) (.int .i64 t146)) (fun _ hk => hk.2) (.slice Ao9 t133.length co9)) (fun _ hk => hk.2) (.int .i64 t146)) (fun _ hk => hk.1.1.1.1)), w28_, w38_, w32_⟩
 ·rw [if_neg c4] at H
  have c4b0 : (t140 == 0) = false := beq_eq_false_iff_ne.mpr c4
  have c4b1 : (t140 != 0) = true := bne_iff_ne.mpr c4
  by_cases c21 : t140 = 1
  ·rw [if_pos c21] at H
   have c21b0 : (t140 == 1) = true := beq_iff_eq.mpr c21
   have c21b1 : (t140 != 1) = false := bne_eq_false_iff_eq.mpr c21
   clear c21
   obtain ⟨y149, hy149⟩ : ∃ y_ : List Int, y_ = (([0, (-1), 100, 101, 4611686018427387904] : List Int)) := ⟨_, rfl⟩
   replace H : ((spec_l1Cur_among.f s0_0 t141 t142 y149).bind fun bt152 => (if 0 < (t133.length : Int) then (some ((t133.set (0 : Int).toNat bt152.1), t136, bt152.2.1, bt152.2.2)) else (none))) = some (r1, r2, r3, r4) := by first | (rw [hy149]; with_reducible exact H) | (have H2_ := (Option.bind_some _ _).symm.trans H; rw [hy149]; with_reducible exact H2_) | (have H2_ := (Option.bind_some _ _).symm.trans H; with_reducible exact H2_) | with_reducible exact H | (rw [hy149]; exact H) | exact H
   have Ny149 := Az_ hy149
   clear hy149
   replace H := bqz_ H; obtain ⟨⟨t152, t153, t154⟩, A22, H⟩ := H
   replace H : (if 0 < (t133.length : Int) then (some ((t133.set (0 : Int).toNat t152), t136, t153, t154)) else (none)) = some (r1, r2, r3, r4) := H
   by_cases c23 : 0 < (t133.length : Int); rotate_left
   ·rw [if_neg c23] at H
    exact absurd H (by simp)
   rw [if_pos c23] at H
   have c23b0 := decide_eq_true c23
   have c23b1 : decide (0 < t133.length) = true := decide_eq_true (by omega)
   clear c23
   obtain ⟨y155, hy155⟩ : ∃ y_ : List Int, y_ = (t133.set (0 : Int).toNat t152) := ⟨_, rfl⟩
   replace H : (some (y155, t136, t153, t154)) = some (r1, r2, r3, r4) := by first | (rw [hy155]; with_reducible exact H) | (have H2_ := (Option.bind_some _ _).symm.trans H; rw [hy155]; with_reducible exact H2_) | (have H2_ := (Option.bind_some _ _).symm.trans H; with_reducible exact H2_) | with_reducible exact H | (rw [hy155]; exact H) | exact H
   have Ny155 := Az_ hy155
   clear hy155
   simp only [Option.some.injEq, Prod.mk.injEq] at H
   obtain ⟨rfl, rfl, rfl, rfl⟩ := H
   go_enter Tryz.func32, Tryz.ntmps32
   try go_wp2_with (first | ((with_reducible refine gate_dst (N := 2) rfl ?_); refine box_event ?hg (N := 2) ?hd (cs := #[.slice none 0 0, .int .i64 0]) (t := 26) ?hr ?_; (case hd => rfl); (case hg => rfl); (case hr => first | (go_simp; done) | (go_simp; rfl)); intro gb132 hg w25 hbox hb; replace HB := Az_ (btz_ (w51_) hb); have BK132 := Az_ (hbox); have GW132 := Az_ ((by rw [hg]; exact (keep_size (w := w) (g := g) (row := none) (w49_)) : w.heap.size ≤ gb132)); have GE132 := Az_ ((Nat.le_trans HW0.out (by rw [hg]; exact (keep_size (w := w) (g := g) (row := none) (w49_)) : w.heap.size ≤ gb132) : w0.heap.size ≤ gb132)); replace HK := Az_ (KeepBut.trans (w49_) (KeepBut.of_below hb g none) (.inl rfl)); have NB0_132 := Az_ ((by rw [hg]; exact Nat.ne_of_lt (IsS54.lt (show IsS54 w0 _ g s0_0 s0_1 s0_2 from w47_)) : g ≠ gb132)); have NB132_0 := Az_ ((by rw [hg]; exact Nat.ne_of_gt (IsS54.lt (show IsS54 w0 _ g s0_0 s0_1 s0_2 from w47_)) : gb132 ≠ g)); replace HI0 := Az_ (IsS54.below (w47_) hb); clear hb hbox hg) | ((with_reducible refine gate_callee (f := 54) rfl ?_); refine goesL_ (some 5) rfl rfl Tryz.func54 (w94_) rfl #[.pointer (some ⟨g, 0, none⟩)] rfl maz_ ?_; (with_reducible refine (spec_l1Cur_sureShelf.calls k g s0_0 s0_1 s0_2 t133 t136 t137 t138 w0 _ ?side1 ?side2 A2.out).mono ?_); (case side1 => repeat (first | (with_reducible first | exact HI0.out | apply IsS54.alloc | apply IsS54.drewN | apply IsS54.drew | apply IsS54.set_1 | apply IsS54.set_2 | refine IsS54.far ?_ NB0_132.out _) | exact HI0.out)); (case side2 => repeat (first | (with_reducible first | exact HB.out | apply baz_ | apply bnz_ | apply bdz_ | refine bsz_ ?_ (IsS54.ge HI0.out) | refine bsz_ ?_ GE132.out) | exact HB.out)); rintro e w26 ⟨v134, rfl, ho0, hi, hb, hk⟩; refine ⟨_, rfl, ?_⟩; replace BK132 := Az_ (KeepBut.blk hk (g' := gb132) (o := .cells #[.slice none 0 0, .int .i64 0] 26 (0, 0)) (w86_) NB132_0.out (by simp)); have HO135 := Az_ (Kd.R_lower (Kd.R_newM (M := fun k_ => (w.heap.size ≤ k_)) ho0 (keep_size (w := w) (g := g) (row := none) (w40_)) (fun k_ h_ => h_)) (keep_size (w := w) (g := g) (row := none) (w40_))); replace HK := Az_ (KeepBut.trans (w40_) hk (.inl rfl)); replace HB := Az_ (hb); replace HI0 := Az_ (hi); (try clear hb); (try clear hk); (try clear hi); (try clear ho0)) | ((with_reducible refine gate_dst (N := 3) rfl ?_); refine box_event ?hg (N := 3) ?hd (cs := #[.slice none 0 0, .int .i64 0]) (t := 26) ?hr ?_; (case hd => rfl); (case hg => rfl); (case hr => first | (go_simp; done) | (go_simp; rfl)); intro gb139 hg w27 hbox hb; have n0_ := Az_ (Kd.R_below (w87_) hb); have n1_ := Az_ (IsS54.below (w36_) hb); have n3_ := Az_ (KeepBut.trans (w40_) (KeepBut.of_below hb g none) (.inl rfl)); have n4_ := Az_ (btz_ (w46_) hb); have n5_ := Az_ (hbox); have n6_ := Az_ ((by rw [hg]; exact (keep_size (w := w) (g := g) (row := none) (w40_)) : w.heap.size ≤ gb139)); have n7_ := Az_ ((Nat.le_trans HW0.out (by rw [hg]; exact (keep_size (w := w) (g := g) (row := none) (w40_)) : w.heap.size ≤ gb139) : w0.heap.size ≤ gb139)); have n8_ := Az_ ((by rw [hg]; exact Nat.ne_of_lt (uklz_ BK132.out) : gb132 ≠ gb139)); have n9_ := Az_ ((by rw [hg]; exact Nat.ne_of_gt (uklz_ BK132.out) : gb139 ≠ gb132)); have n10_ := Az_ ((by rw [hg]; exact Nat.ne_of_lt (IsS54.lt (show IsS54 w0 _ g s0_0 t137 t138 from w36_)) : g ≠ gb139)); have n11_ := Az_ ((by rw [hg]; exact Nat.ne_of_gt (IsS54.lt (show IsS54 w0 _ g s0_0 t137 t138 from w36_)) : gb139 ≠ g)); clear HO135; clear HI0; clear HK; clear HB; have HO135 := n0_; have HI0 := n1_; replace BK132 := Az_ (ukbz_ BK132.out hb); have HK := n3_; have HB := n4_; have BK139 := n5_; have GW139 := n6_; have GE139 := n7_; have NB132_139 := n8_; have NB139_132 := n9_; have NB0_139 := n10_; have NB139_0 := n11_; clear n0_ n1_ n3_ n4_ n5_ n6_ n7_ n8_ n9_ n10_ n11_; clear hb hbox hg; obtain ⟨Ao28, co28, eo28⟩ := Kd.R_slice HO135.out; subst eo28; have hnb29 := NB139_132.out; have hnc29 := NB132_139.out; have hnb30 := NB139_0.out; have hnc30 := NB0_139.out; have hcz31_0 : w27.cell? ⟨gb139, 0, none⟩ = some (.slice none 0 0) := (blk_cell BK139.out 0).trans rfl; have hcz31_1 : w27.cell? ⟨gb139, 1, none⟩ = some (.int .i64 0) := (blk_cell BK139.out 1).trans rfl; have hfz31_0 := blk_frozen BK139.out 0; have hfz31_1 := blk_frozen BK139.out 1) | ((with_reducible refine gate_callee (f := 57) rfl ?_); refine goesL_ (some 7) rfl rfl Tryz.func57 (w94_) rfl #[.pointer (some ⟨g, 0, none⟩), .int .i64 14] rfl maz_ ?_; (with_reducible refine (spec_l1Cur_pick.calls g s0_0 t137 t138 14 t140 t141 t142 w0 _ ?side1 ?side2 A3.out).mono ?_); (case side1 => repeat (first | (with_reducible first | exact HI0.out | apply IsS54.alloc | apply IsS54.drewN | apply IsS54.drew | apply IsS54.set_1 | apply IsS54.set_2 | refine IsS54.far ?_ NB0_132.out _ | refine IsS54.far ?_ NB0_139.out _) | exact HI0.out)); (case side2 => repeat (first | (with_reducible first | exact HB.out | apply baz_ | apply bnz_ | apply bdz_ | refine bsz_ ?_ (IsS54.ge HI0.out) | refine bsz_ ?_ GE132.out | refine bsz_ ?_ GE139.out) | exact HB.out)); rintro e w32 ⟨rfl, hi, hb, hk⟩; refine ⟨_, rfl, ?_⟩; replace BK132 := Az_ (KeepBut.blk hk (g' := gb132) (o := .cells #[.slice none 0 0, .int .i64 0] 26 (0, 0)) (w12_) NB132_0.out (by simp)); replace HO135 := Az_ (Kd.R_mono (Kd.R_keep (IsS54.apart (show IsS54 w0 _ g s0_0 t137 t138 from w28_) (by (with_reducible repeat (first | apply raz_ | apply rnz_ | apply rdz_)); exact (Kd.R_mono (Kd.R_far (p := ⟨gb139, 1, none⟩) (Kd.R_far (p := ⟨gb139, 0, none⟩) (Kd.R_types HO135.out BK139.out (by decide)) (fun _ hk => hk.2) (.slice Ao28 t133.length co28)) (fun _ hk => hk.2) (.int .i64 t136)) (fun _ h_ => h_.1))) (by decide)) hk (fun _ h => h.2)) (fun _ h => h.1)); replace BK139 := Az_ (KeepBut.blk hk (g' := gb139) (o := .cells #[.slice Ao28 t133.length co28, .int .i64 t136] 26 (0, 0)) (by (with_reducible repeat (first | refine knz_ ?_ _ | refine kdz_ ?_ | refine kaz_ ?_ _)); refine blk_put (cs := #[.slice Ao28 t133.length co28, .int .i64 0]) ?_ 1 _ rfl; (with_reducible repeat (first | refine knz_ ?_ _ | refine kdz_ ?_ | refine kaz_ ?_ _)); refine blk_put (cs := #[.slice none 0 0, .int .i64 0]) ?_ 0 _ rfl; (with_reducible repeat (first | refine knz_ ?_ _ | refine kdz_ ?_ | refine kaz_ ?_ _)); exact BK139.out) NB139_0.out (by simp)); replace HK := Az_ (KeepBut.trans (w32_) hk (.inl rfl)); replace HB := Az_ (hb); replace HI0 := Az_ (hi); (try clear hb); (try clear hk); (try clear hi)))
   have n0_ := Az_ (rdz_ HO135.out)
   have n1_ := Az_ (kdz_ BK132.out)
   have n2_ := Az_ (kdz_ BK139.out)
   have n3_ := Az_ (IsS54.drew HI0.out)
   have n4_ := Az_ (keep_drew HK.out)
   have n5_ := Az_ (bdz_ HB.out)
   clear HO135 BK132 BK139 HI0 HK HB
   have HO135 := n0_
   have BK132 := n1_
   have BK139 := n2_
   have HI0 := n3_
   have HK := n4_
   have HB := n5_
   clear n0_ n1_ n2_ n3_ n4_ n5_
   refine start_ (n := 7) (S := fun w' => w'.cell? ⟨gb139, 0, none⟩ = some (.slice Ao28 t133.length co28) ∧ w'.cell? ⟨gb139, 1, none⟩ = some (.int .i64 t136)) (ds := [6]) #[false, false, false, false, false, false, false] (w94_) rfl rfl ⟨(blk_cell BK139.out 0).trans rfl, (blk_cell BK139.out 1).trans rfl⟩ (fun hHeld => ?_)
   generalize w32.drew = w33 at HO135 BK132 BK139 HI0 HK HB hHeld ⊢
   refine pzk_ 0 16 [1,6] ?_
   refine pzk_ 2 18 [1,1,1,4] ?_
   refine tzk2_ 1 17 [3,4] ?_
   refine one_ (i := 3) (N := some 19) (mz_ [4,3]) rfl rfl (w94_) (by decide) (fun K hK => ?_)
   refine Kd.R_lit_step (Kd.int .i64) _ 3 ?hg (N := 19) ?hd (xs := ([0, (-1), 100, 101, 4611686018427387904] : List Int)) (inner := [.int .i64 0, .int .i64 (-1), .int .i64 100, .int .i64 101, .int .i64 4611686018427387904]) (ok := fun _ => True) (okp := fun _ => True) ?hr ?hp (fun _ hk => hk) trivial (Below.refl _ _) (Nat.le_refl _) (by simp) ?_; (case hd => rfl); (case hg => rfl); (case hr => first | (go_simp; done) | (go_simp; rfl)); (case hp => exact (Reps.one (show Kd.M (Kd.int .i64) _ _ _ 0 [.int .i64 0] from rfl) (Reps.one (show Kd.M (Kd.int .i64) _ _ _ (-1) [.int .i64 (-1)] from rfl) (Reps.one (show Kd.M (Kd.int .i64) _ _ _ 100 [.int .i64 100] from rfl) (Reps.one (show Kd.M (Kd.int .i64) _ _ _ 101 [.int .i64 101] from rfl) (Reps.one (show Kd.M (Kd.int .i64) _ _ _ 4611686018427387904 [.int .i64 4611686018427387904] from rfl) (Reps.none _ _)))))))
   intro v150 w34 ho35 hb hg_ hnew_
   clear hg_ hnew_
   (first | rw [← Ny149.out] at ho35 | (simp only [Int.reduceToNat] at ho35; rw [← Ny149.out] at ho35))
   have n0_ := Az_ (rez_ (w87_) (Kd.R_base ho35) hb)
   have n1_ := Az_ (Kd.R_lower (Kd.R_new' (Kd.R_newM (M := fun k_ => (w.heap.size ≤ k_)) ho35 (keep_size (w := w) (g := g) (row := none) (w32_)) (fun k_ h_ => h_)) (Kd.R_lt (w87_))) (keep_size (w := w) (g := g) (row := none) (w32_)))
   have n2_ := Az_ (IsS54.below (w28_) hb)
   have n5_ := Az_ (KeepBut.trans (w32_) (KeepBut.of_below hb g none) (.inl rfl))
   have n6_ := Az_ (btz_ (w38_) hb)
   clear HO135 HI0 HK HB
   have HO135 := n0_
   have HO151 := n1_
   have HI0 := n2_
   replace BK132 := Az_ (ukbz_ BK132.out hb)
   replace BK139 := Az_ (ukbz_ BK139.out hb)
   have HK := n5_
   have HB := n6_
   clear n0_ n1_ n2_ n5_ n6_ hb ho35
   obtain ⟨Ao36, co36, eo36⟩ := Kd.R_slice HO151.out
   (first | subst eo36 | (injection eo36 with f1_ f2_ f3_; have f4_ := f1_.symm; have f5_ := f3_.symm; clear f1_ f2_ f3_; subst f4_; subst f5_))
   refine hK.out _ _ ⟨(blk_cell BK139.out 0).trans rfl, (blk_cell BK139.out 1).trans rfl⟩ (fun hHeld => ?_)
   clear hK K
   refine nz_ 19 ?_
   refine one_ (i := 4) (N := some 20) (mz_ [5,2]) rfl rfl (w94_) (by decide) (fun K hK => ?_)
   refine goes_ Tryz.func58 (w94_) rfl #[.pointer (some ⟨g, 0, none⟩), .slice Ao36 y149.length co36] (by rfl) rfl rfl maz_ ?_
   with_reducible refine (spec_l1Cur_among.calls g s0_0 t141 t142 _ _ y149 t152 t153 t154 w0 _ ?side1 ?side2 ?side3 ?side4 ?side5 A22.out).mono ?_
   (case side1 => repeat (first | (with_reducible first | exact HI0.out | apply IsS54.alloc | apply IsS54.drewN | apply IsS54.drew | apply IsS54.set_1 | apply IsS54.set_2 | refine IsS54.far ?_ NB0_132.out _ | refine IsS54.far ?_ NB0_139.out _) | exact HI0.out))
   (case side2 => repeat (first | (with_reducible first | exact HB.out | apply baz_ | apply bnz_ | apply bdz_ | refine bsz_ ?_ (IsS54.ge HI0.out) | refine bsz_ ?_ GE132.out | refine bsz_ ?_ GE139.out) | exact HB.out))
   (case side3 => repeat (first | exact (Kd.R_reads' HO151.out).2.2 | (with_reducible refine Kd.C_alloc ?_ _) | (with_reducible refine Kd.C_drewN ?_ _) | (with_reducible refine Kd.C_drew ?_)))
   (case side4 => exact (Kd.R_reads' HO151.out).2.1)
   (case side5 => exact far_slice (IsS54.own_ne HI0.out HO151.out (by decide)))
   rintro e w37 ⟨rfl, hi, hb, hk⟩
   refine ⟨_, rfl, ?_⟩
   have n0_ := Az_ (KeepBut.blk hk (g' := gb132) (o := .cells #[.slice none 0 0, .int .i64 0] 26 (0, 0)) (w86_) NB132_0.out (by simp))
   have n1_ := Az_ (Kd.R_mono (Kd.R_keep (IsS54.apart (show IsS54 w0 _ g s0_0 t141 t142 from w28_) (w87_) (by decide)) hk (fun _ h => h.2)) (fun _ h => h.1))
   have n2_ := Az_ (KeepBut.blk hk (g' := gb139) (o := .cells #[.slice Ao28 t133.length co28, .int .i64 t136] 26 (0, 0)) (by exact ukz_ BK139.out) NB139_0.out (by simp))
   have n3_ := Az_ (Kd.R_mono (Kd.R_keep (IsS54.apart (show IsS54 w0 _ g s0_0 t141 t142 from w28_) (by exact urz_ HO151.out) (by decide)) hk (fun _ h => h.2)) (fun _ h => h.1))
   have n4_ := Az_ (KeepBut.trans (w32_) hk (.inl rfl))
   have n5_ := Az_ (hb)
   have n6_ := Az_ (hi)
   clear BK132 HO135 BK139 HO151 HK HB HI0
   have BK132 := n0_
   have HO135 := n1_
   have BK139 := n2_
   have HO151 := n3_
   have HK := n4_
   have HB := n5_
   have HI0 := n6_
   clear n0_ n1_ n2_ n3_ n4_ n5_ n6_
   clear hb
   clear hk
   clear hi
   have p24 : 0 ≤ (0 : Int) := (by omega)
   have q24 : (0 : Int) < ((t133.length : Int) : Int) := od_
   have qi24 : (0 < t133.length) = True := eq_true (by omega)
   obtain ⟨go24, co24, eo24, gb24, gl24, cl24, HG24⟩ := Kd.R_form HO135.out (by omega)
   (first | cases eo24 | (injection eo24 with ea_ en_ ec_; (first | subst ea_ | (injection ea_ with ea_; subst ea_)); subst ec_; clear en_))
   have GB24 := Az_ gb24
   have GG24 := Az_ HG24
   clear gb24 gl24 HG24
   obtain ⟨hx24_0, hf24_0⟩ := Kd.R_celln 0 HO135.out (0 : Int) p24 q24
   (try rw [show ((0 : Int)).toNat = 0 from rfl] at hx24_0)
   (try simp only [Nat.reduceMul, Nat.zero_mul, Nat.zero_add, Nat.reduceAdd] at hx24_0)
   (try rw [show ((0 : Int)).toNat = 0 from rfl] at hf24_0)
   (try simp only [Nat.reduceMul, Nat.zero_mul, Nat.zero_add, Nat.reduceAdd] at hf24_0)
   replace p24 := eq_true p24
   replace q24 := eq_true q24
   have HN0_go24 := Az_ (show g ≠ go24 from by have h_ := IsS54.own_ne HI0.out HO135.out (by decide); intro e_; exact h_ (w93_))
   have HP38 := Kd.R_putn HO135.out (0 : Int) t152
   rw [← Ny155.out] at HP38
   have HQ38 := Az_ HP38
   clear HP38
   refine hK.out _ _ ⟨(blk_cell BK139.out 0).trans rfl, (blk_cell BK139.out 1).trans rfl⟩ (fun hHeld => ?_)
   clear hK K
   refine nz_ 20 ?_
   refine pzk_ 5 21 [6,1] ?_
   refine last_ (i := 6) (N := none) (mz_ [7]) rfl rfl (w94_) (by decide) (fun K hK => ?_)
   refine skip_ (w1 := ?_) (by rfl) rfl ?_ ?_
   rotate_left
   ·go_simp
    rfl
   refine hK.out _ _ ?_
   clear hK K
   refine done_ (w94_) ?_
   have n0_ : Aside0 (Kd.R (Kd.int .i64) 3 (w37.setCell ⟨go24, 0, none⟩ (.int .i64 t152)) w.heap.size (fun k_ => (w.heap.size ≤ k_) ∧ some k_ ≠ (.slice Ao36 y149.length co36 : Value).ownBlock) (.slice (some ⟨go24, 0, none⟩) t133.length co28) y155) := ⟨by (with_reducible repeat (first | apply raz_ | apply rnz_ | apply rdz_)); exact Kd.R_mono HQ38.out (fun _ hk => ⟨hk.1.1, hk.2⟩)⟩
   have n1_ : Aside0 (Kd.R (Kd.int .i64) 3 (w37.setCell ⟨go24, 0, none⟩ (.int .i64 t152)) w.heap.size (fun k_ => (w.heap.size ≤ k_) ∧ some k_ ≠ (.slice (some ⟨go24, 0, none⟩) t133.length co28 : Value).ownBlock) (.slice Ao36 y149.length co36) y149) := ⟨by (with_reducible repeat (first | apply raz_ | apply rnz_ | apply rdz_)); exact Kd.R_mono (Kd.R_far (p := ⟨go24, 0, none⟩) (Kd.R_mono HO151.out (fun k_ hk => (⟨hk, fun e_ => hk.2 (w93_)⟩ : _ ∧ k_ ≠ go24))) (fun _ hk => hk.2) (.int .i64 t152)) (fun _ hk => ⟨hk.1.1.1, hk.1.2⟩)⟩
   have n2_ : Aside0 ((w37.setCell ⟨go24, 0, none⟩ (.int .i64 t152)).heap[gb132]? = some (.cells #[.slice none 0 0, .int .i64 0] 26 (0, 0))) := ⟨by (with_reducible repeat (first | refine knz_ ?_ _ | refine kdz_ ?_ | refine kaz_ ?_ _)); refine blk_far ?_ (by have h_ := Kd.R_ne HO135.out BK132.out (by decide); intro e_; exact h_ (w93_)) _; (with_reducible repeat (first | refine knz_ ?_ _ | refine kdz_ ?_ | refine kaz_ ?_ _)); exact BK132.out⟩
   have n3_ : Aside0 ((w37.setCell ⟨go24, 0, none⟩ (.int .i64 t152)).heap[gb139]? = some (.cells #[.slice (some ⟨go24, 0, none⟩) t133.length co28, .int .i64 t136] 26 (0, 0))) := ⟨by (with_reducible repeat (first | refine knz_ ?_ _ | refine kdz_ ?_ | refine kaz_ ?_ _)); refine blk_far ?_ (by have h_ := Kd.R_ne HO135.out BK139.out (by decide); intro e_; exact h_ (w93_)) _; (with_reducible repeat (first | refine knz_ ?_ _ | refine kdz_ ?_ | refine kaz_ ?_ _)); exact BK139.out⟩
   have n4_ : Aside0 (IsS54 w0 (w37.setCell ⟨go24, 0, none⟩ (.int .i64 t152)) g s0_0 t153 t154) := ⟨by repeat (first | (with_reducible first | exact HI0.out | apply IsS54.alloc | apply IsS54.drewN | apply IsS54.drew | apply IsS54.set_1 | apply IsS54.set_2 | refine IsS54.far ?_ HN0_go24.out _ | refine IsS54.far ?_ NB0_132.out _ | refine IsS54.far ?_ NB0_139.out _) | exact HI0.out)⟩
   have n5_ : Aside0 (KeepBut w (w37.setCell ⟨go24, 0, none⟩ (.int .i64 t152)) g none) := ⟨by repeat (first | (with_reducible first | exact HK.out | apply KeepBut.set_ | apply keep_drewN | apply keep_drew | apply keep_alloc | refine keep_far ?_ GB24.out _ | refine keep_far ?_ GW132.out _ | refine keep_far ?_ GW139.out _) | exact HK.out)⟩
   have n6_ : Aside0 (Below w0.heap.size w0 (w37.setCell ⟨go24, 0, none⟩ (.int .i64 t152))) := ⟨by repeat (first | (with_reducible first | exact HB.out | apply baz_ | apply bnz_ | apply bdz_ | refine bsz_ ?_ (Nat.le_trans HL.out GB24.out) | refine bsz_ ?_ (IsS54.ge HI0.out) | refine bsz_ ?_ GE132.out | refine bsz_ ?_ GE139.out) | exact HB.out)⟩
   clear HO135
   clear HO151
   clear BK132
   clear BK139
   clear HI0
   clear HK
   clear HB
   generalize (w37.setCell ⟨go24, 0, none⟩ (.int .i64 t152)) = w39 at n0_ n1_ n2_ n3_ n4_ n5_ n6_ ⊢
   have HO135 := n0_
   have HO151 := n1_
   have BK132 := n2_
   have BK139 := n3_
   have HI0 := n4_
   have HK := n5_
   have HB := n6_
   clear n0_ n1_ n2_ n3_ n4_ n5_ n6_
   have hcz40_0 : w39.cell? ⟨gb139, 0, none⟩ = some (.slice (some ⟨go24, 0, none⟩) t133.length co28) := (blk_cell BK139.out 0).trans rfl
   have hcz40_1 : w39.cell? ⟨gb139, 1, none⟩ = some (.int .i64 t136) := (blk_cell BK139.out 1).trans rfl
   have hfz40_0 := blk_frozen BK139.out 0
   have hfz40_1 := blk_frozen BK139.out 1
   have hnb41 := NB132_0.out
   have hnc41 := NB0_132.out
   have hcz42_0 : w39.cell? ⟨gb132, 0, none⟩ = some (.slice none 0 0) := (blk_cell BK132.out 0).trans rfl
   have hcz42_1 : w39.cell? ⟨gb132, 1, none⟩ = some (.int .i64 0) := (blk_cell BK132.out 1).trans rfl
   have hfz42_0 := blk_frozen BK132.out 0
   have hfz42_1 := blk_frozen BK132.out 1
   try go_wp2
   refine bodyPost_ret (results_cell_row rfl _ _ gb132 26 #[.slice (some ⟨go24, 0, none⟩) t133.length co28, .int .i64 t136] (0, 0) _ rfl (by (with_reducible repeat (first | refine knz_ ?_ _ | refine kdz_ ?_ | refine kaz_ ?_ _)); refine blk_put (cs := #[.slice (some ⟨go24, 0, none⟩) t133.length co28, .int .i64 0]) ?_ 1 _ rfl; (with_reducible repeat (first | refine knz_ ?_ _ | refine kdz_ ?_ | refine kaz_ ?_ _)); refine blk_put (cs := #[.slice none 0 0, .int .i64 0]) ?_ 0 _ rfl; (with_reducible repeat (first | refine knz_ ?_ _ | refine kdz_ ?_ | refine kaz_ ?_ _)); exact BK132.out) Tryz.underlying26 rfl (w94_)) rfl ?_
   exact ⟨_, w74_, Kd.R_V (by (with_reducible repeat (first | apply raz_ | apply rnz_ | apply rdz_)); exact Kd.R_mono (Kd.R_far (p := ⟨gb132, 1, none⟩) (Kd.R_far (p := ⟨gb132, 0, none⟩) (Kd.R_types HO135.out BK132.out (by decide)) (fun _ hk => hk.2) (.slice (some ⟨go24, 0, none⟩) t133.length co28)) (fun _ hk => hk.2) (.int .i64 t136)) (fun _ hk => hk.1.1)), w28_, w38_, w32_⟩
  ·rw [if_neg c21] at H
   have c21b0 : (t140 == 1) = false := beq_eq_false_iff_ne.mpr c21
   have c21b1 : (t140 != 1) = true := bne_iff_ne.mpr c21
   by_cases c43 : t140 = 2
   ·rw [if_pos c43] at H
    have c43b0 : (t140 == 2) = true := beq_iff_eq.mpr c43
    have c43b1 : (t140 != 2) = false := bne_eq_false_iff_eq.mpr c43
    clear c43
    obtain ⟨y156, hy156⟩ : ∃ y_ : List Int, y_ = (([1, 2, 3, 4, 5, 6, 7, 8] : List Int)) := ⟨_, rfl⟩
    replace H : ((some (([[], y156, (([1, 2, 3, 4, 5, 6, 7, 8, 9] : List Int))] : List (List Int)) : List (List Int))).bind fun y162 => ((spec_l1Cur_pick.f s0_0 t141 t142 3).bind fun bt165 => (if 0 ≤ bt165.1 then (if bt165.1 < (y162.length : Int) then (some (rd_L2 y162 bt165.1, t136, bt165.2.1, bt165.2.2)) else (none)) else (none)))) = some (r1, r2, r3, r4) := by first | (rw [hy156]; with_reducible exact H) | (have H2_ := (Option.bind_some _ _).symm.trans H; rw [hy156]; with_reducible exact H2_) | (have H2_ := (Option.bind_some _ _).symm.trans H; with_reducible exact H2_) | with_reducible exact H | (rw [hy156]; exact H) | exact H
    have Ny156 := Az_ hy156
    clear hy156
    obtain ⟨y159, hy159⟩ : ∃ y_ : List Int, y_ = (([1, 2, 3, 4, 5, 6, 7, 8, 9] : List Int)) := ⟨_, rfl⟩
    replace H : ((some (([[], y156, y159] : List (List Int)) : List (List Int))).bind fun y162 => ((spec_l1Cur_pick.f s0_0 t141 t142 3).bind fun bt165 => (if 0 ≤ bt165.1 then (if bt165.1 < (y162.length : Int) then (some (rd_L2 y162 bt165.1, t136, bt165.2.1, bt165.2.2)) else (none)) else (none)))) = some (r1, r2, r3, r4) := by first | (rw [hy159]; with_reducible exact H) | (have H2_ := (Option.bind_some _ _).symm.trans H; rw [hy159]; with_reducible exact H2_) | (have H2_ := (Option.bind_some _ _).symm.trans H; with_reducible exact H2_) | with_reducible exact H | (rw [hy159]; exact H) | exact H
    have Ny159 := Az_ hy159
    clear hy159
    obtain ⟨y162, hy162⟩ : ∃ y_ : List (List Int), y_ = (([[], y156, y159] : List (List Int))) := ⟨_, rfl⟩
    replace H : ((spec_l1Cur_pick.f s0_0 t141 t142 3).bind fun bt165 => (if 0 ≤ bt165.1 then (if bt165.1 < (y162.length : Int) then (some (rd_L2 y162 bt165.1, t136, bt165.2.1, bt165.2.2)) else (none)) else (none))) = some (r1, r2, r3, r4) := by first | (rw [hy162]; with_reducible exact H) | (have H2_ := (Option.bind_some _ _).symm.trans H; rw [hy162]; with_reducible exact H2_) | (have H2_ := (Option.bind_some _ _).symm.trans H; with_reducible exact H2_) | with_reducible exact H | (rw [hy162]; exact H) | exact H
    have Ny162 := Az_ hy162
    clear hy162
    replace H := bqz_ H; obtain ⟨⟨t165, t166, t167⟩, A44, H⟩ := H
    replace H : (if 0 ≤ t165 then (if t165 < (y162.length : Int) then (some (rd_L2 y162 t165, t136, t166, t167)) else (none)) else (none)) = some (r1, r2, r3, r4) := H
    by_cases c45 : 0 ≤ t165; rotate_left
    ·rw [if_neg c45] at H
     exact absurd H (by simp)
    rw [if_pos c45] at H
    have c45b0 := decide_eq_true c45
    clear c45
    by_cases c46 : t165 < (y162.length : Int); rotate_left
    ·rw [if_neg c46] at H
     exact absurd H (by simp)
    rw [if_pos c46] at H
    have c46b0 := decide_eq_true c46
    clear c46
    simp only [Option.some.injEq, Prod.mk.injEq] at H
    obtain ⟨rfl, rfl, rfl, rfl⟩ := H
    go_enter Tryz.func32, Tryz.ntmps32
    go_wp2_with (first | ((with_reducible refine gate_dst (N := 2) rfl ?_); refine box_event ?hg (N := 2) ?hd (cs := #[.slice none 0 0, .int .i64 0]) (t := 26) ?hr ?_; (case hd => rfl); (case hg => rfl); (case hr => first | (go_simp; done) | (go_simp; rfl)); intro gb132 hg w47 hbox hb; replace HB := Az_ (btz_ (w51_) hb); have BK132 := Az_ (hbox); have GW132 := Az_ ((by rw [hg]; exact (keep_size (w := w) (g := g) (row := none) (w49_)) : w.heap.size ≤ gb132)); have GE132 := Az_ ((Nat.le_trans HW0.out (by rw [hg]; exact (keep_size (w := w) (g := g) (row := none) (w49_)) : w.heap.size ≤ gb132) : w0.heap.size ≤ gb132)); replace HK := Az_ (KeepBut.trans (w49_) (KeepBut.of_below hb g none) (.inl rfl)); have NB0_132 := Az_ ((by rw [hg]; exact Nat.ne_of_lt (IsS54.lt (show IsS54 w0 _ g s0_0 s0_1 s0_2 from w47_)) : g ≠ gb132)); have NB132_0 := Az_ ((by rw [hg]; exact Nat.ne_of_gt (IsS54.lt (show IsS54 w0 _ g s0_0 s0_1 s0_2 from w47_)) : gb132 ≠ g)); replace HI0 := Az_ (IsS54.below (w47_) hb); clear hb hbox hg) | ((with_reducible refine gate_callee (f := 54) rfl ?_); refine goesL_ (some 5) rfl rfl Tryz.func54 (w94_) rfl #[.pointer (some ⟨g, 0, none⟩)] rfl maz_ ?_; (with_reducible refine (spec_l1Cur_sureShelf.calls k g s0_0 s0_1 s0_2 t133 t136 t137 t138 w0 _ ?side1 ?side2 A2.out).mono ?_); (case side1 => repeat (first | (with_reducible first | exact HI0.out | apply IsS54.alloc | apply IsS54.drewN | apply IsS54.drew | apply IsS54.set_1 | apply IsS54.set_2 | refine IsS54.far ?_ NB0_132.out _) | exact HI0.out)); (case side2 => repeat (first | (with_reducible first | exact HB.out | apply baz_ | apply bnz_ | apply bdz_ | refine bsz_ ?_ (IsS54.ge HI0.out) | refine bsz_ ?_ GE132.out) | exact HB.out)); rintro e w48 ⟨v134, rfl, ho0, hi, hb, hk⟩; refine ⟨_, rfl, ?_⟩; replace BK132 := Az_ (KeepBut.blk hk (g' := gb132) (o := .cells #[.slice none 0 0, .int .i64 0] 26 (0, 0)) (w86_) NB132_0.out (by simp)); have HO135 := Az_ (Kd.R_lower (Kd.R_newM (M := fun k_ => (w.heap.size ≤ k_)) ho0 (keep_size (w := w) (g := g) (row := none) (w40_)) (fun k_ h_ => h_)) (keep_size (w := w) (g := g) (row := none) (w40_))); replace HK := Az_ (KeepBut.trans (w40_) hk (.inl rfl)); replace HB := Az_ (hb); replace HI0 := Az_ (hi); (try clear hb); (try clear hk); (try clear hi); (try clear ho0)) | ((with_reducible refine gate_dst (N := 3) rfl ?_); refine box_event ?hg (N := 3) ?hd (cs := #[.slice none 0 0, .int .i64 0]) (t := 26) ?hr ?_; (case hd => rfl); (case hg => rfl); (case hr => first | (go_simp; done) | (go_simp; rfl)); intro gb139 hg w49 hbox hb; have n0_ := Az_ (Kd.R_below (w87_) hb); have n1_ := Az_ (IsS54.below (w36_) hb); have n3_ := Az_ (KeepBut.trans (w40_) (KeepBut.of_below hb g none) (.inl rfl)); have n4_ := Az_ (btz_ (w46_) hb); have n5_ := Az_ (hbox); have n6_ := Az_ ((by rw [hg]; exact (keep_size (w := w) (g := g) (row := none) (w40_)) : w.heap.size ≤ gb139)); have n7_ := Az_ ((Nat.le_trans HW0.out (by rw [hg]; exact (keep_size (w := w) (g := g) (row := none) (w40_)) : w.heap.size ≤ gb139) : w0.heap.size ≤ gb139)); have n8_ := Az_ ((by rw [hg]; exact Nat.ne_of_lt (uklz_ BK132.out) : gb132 ≠ gb139)); have n9_ := Az_ ((by rw [hg]; exact Nat.ne_of_gt (uklz_ BK132.out) : gb139 ≠ gb132)); have n10_ := Az_ ((by rw [hg]; exact Nat.ne_of_lt (IsS54.lt (show IsS54 w0 _ g s0_0 t137 t138 from w36_)) : g ≠ gb139)); have n11_ := Az_ ((by rw [hg]; exact Nat.ne_of_gt (IsS54.lt (show IsS54 w0 _ g s0_0 t137 t138 from w36_)) : gb139 ≠ g)); clear HO135; clear HI0; clear HK; clear HB; have HO135 := n0_; have HI0 := n1_; replace BK132 := Az_ (ukbz_ BK132.out hb); have HK := n3_; have HB := n4_; have BK139 := n5_; have GW139 := n6_; have GE139 := n7_; have NB132_139 := n8_; have NB139_132 := n9_; have NB0_139 := n10_; have NB139_0 := n11_; clear n0_ n1_ n3_ n4_ n5_ n6_ n7_ n8_ n9_ n10_ n11_; clear hb hbox hg; obtain ⟨Ao50, co50, eo50⟩ := Kd.R_slice HO135.out; subst eo50; have hnb51 := NB139_132.out; have hnc51 := NB132_139.out; have hnb52 := NB139_0.out; have hnc52 := NB0_139.out; have hcz53_0 : w49.cell? ⟨gb139, 0, none⟩ = some (.slice none 0 0) := (blk_cell BK139.out 0).trans rfl; have hcz53_1 : w49.cell? ⟨gb139, 1, none⟩ = some (.int .i64 0) := (blk_cell BK139.out 1).trans rfl; have hfz53_0 := blk_frozen BK139.out 0; have hfz53_1 := blk_frozen BK139.out 1) | ((with_reducible refine gate_callee (f := 57) rfl ?_); refine goesL_ (some 7) rfl rfl Tryz.func57 (w94_) rfl #[.pointer (some ⟨g, 0, none⟩), .int .i64 14] rfl maz_ ?_; (with_reducible refine (spec_l1Cur_pick.calls g s0_0 t137 t138 14 t140 t141 t142 w0 _ ?side1 ?side2 A3.out).mono ?_); (case side1 => repeat (first | (with_reducible first | exact HI0.out | apply IsS54.alloc | apply IsS54.drewN | apply IsS54.drew | apply IsS54.set_1 | apply IsS54.set_2 | refine IsS54.far ?_ NB0_132.out _ | refine IsS54.far ?_ NB0_139.out _) | exact HI0.out)); (case side2 => repeat (first | (with_reducible first | exact HB.out | apply baz_ | apply bnz_ | apply bdz_ | refine bsz_ ?_ (IsS54.ge HI0.out) | refine bsz_ ?_ GE132.out | refine bsz_ ?_ GE139.out) | exact HB.out)); rintro e w54 ⟨rfl, hi, hb, hk⟩; refine ⟨_, rfl, ?_⟩; replace BK132 := Az_ (KeepBut.blk hk (g' := gb132) (o := .cells #[.slice none 0 0, .int .i64 0] 26 (0, 0)) (w12_) NB132_0.out (by simp)); replace HO135 := Az_ (Kd.R_mono (Kd.R_keep (IsS54.apart (show IsS54 w0 _ g s0_0 t137 t138 from w28_) (by (with_reducible repeat (first | apply raz_ | apply rnz_ | apply rdz_)); exact (Kd.R_mono (Kd.R_far (p := ⟨gb139, 1, none⟩) (Kd.R_far (p := ⟨gb139, 0, none⟩) (Kd.R_types HO135.out BK139.out (by decide)) (fun _ hk => hk.2) (.slice Ao50 t133.length co50)) (fun _ hk => hk.2) (.int .i64 t136)) (fun _ h_ => h_.1))) (by decide)) hk (fun _ h => h.2)) (fun _ h => h.1)); replace BK139 := Az_ (KeepBut.blk hk (g' := gb139) (o := .cells #[.slice Ao50 t133.length co50, .int .i64 t136] 26 (0, 0)) (by (with_reducible repeat (first | refine knz_ ?_ _ | refine kdz_ ?_ | refine kaz_ ?_ _)); refine blk_put (cs := #[.slice Ao50 t133.length co50, .int .i64 0]) ?_ 1 _ rfl; (with_reducible repeat (first | refine knz_ ?_ _ | refine kdz_ ?_ | refine kaz_ ?_ _)); refine blk_put (cs := #[.slice none 0 0, .int .i64 0]) ?_ 0 _ rfl; (with_reducible repeat (first | refine knz_ ?_ _ | refine kdz_ ?_ | refine kaz_ ?_ _)); exact BK139.out) NB139_0.out (by simp)); replace HK := Az_ (KeepBut.trans (w32_) hk (.inl rfl)); replace HB := Az_ (hb); replace HI0 := Az_ (hi); (try clear hb); (try clear hk); (try clear hi)) | ((with_reducible refine gate_dst (N := 24) rfl ?_); refine Kd.R_lit (Kd.int .i64) _ 3 ?hg (N := 24) ?hd (xs := ([1, 2, 3, 4, 5, 6, 7, 8] : List Int)) (inner := [.int .i64 1, .int .i64 2, .int .i64 3, .int .i64 4, .int .i64 5, .int .i64 6, .int .i64 7, .int .i64 8]) (ok := fun _ => True) (okp := fun _ => True) ?hr ?hp (fun _ hk => hk) trivial (Below.refl _ _) (Nat.le_refl _) (by simp) ?_; (case hd => rfl); (case hg => rfl); (case hr => first | (go_simp; done) | (go_simp; rfl)); (case hp => exact (Reps.one (show Kd.M (Kd.int .i64) _ _ _ 1 [.int .i64 1] from rfl) (Reps.one (show Kd.M (Kd.int .i64) _ _ _ 2 [.int .i64 2] from rfl) (Reps.one (show Kd.M (Kd.int .i64) _ _ _ 3 [.int .i64 3] from rfl) (Reps.one (show Kd.M (Kd.int .i64) _ _ _ 4 [.int .i64 4] from rfl) (Reps.one (show Kd.M (Kd.int .i64) _ _ _ 5 [.int .i64 5] from rfl) (Reps.one (show Kd.M (Kd.int .i64) _ _ _ 6 [.int .i64 6] from rfl) (Reps.one (show Kd.M (Kd.int .i64) _ _ _ 7 [.int .i64 7] from rfl) (Reps.one (show Kd.M (Kd.int .i64) _ _ _ 8 [.int .i64 8] from rfl) (Reps.none _ _)))))))))); intro v157 w55 ho56 hb hg_ hnew_; clear hg_ hnew_; (first | rw [← Ny156.out] at ho56 | (simp only [Int.reduceToNat] at ho56; rw [← Ny156.out] at ho56)); have n0_ := Az_ (rez_ (w87_) (Kd.R_base ho56) hb); have n1_ := Az_ (Kd.R_lower (Kd.R_new' (Kd.R_newM (M := fun k_ => (w.heap.size ≤ k_)) ho56 (keep_size (w := w) (g := g) (row := none) (w32_)) (fun k_ h_ => h_)) (Kd.R_lt (w87_))) (keep_size (w := w) (g := g) (row := none) (w32_))); have n2_ := Az_ (IsS54.below (w28_) hb); have n5_ := Az_ (KeepBut.trans (w32_) (KeepBut.of_below hb g none) (.inl rfl)); have n6_ := Az_ (btz_ (w38_) hb); clear HO135; clear HI0; clear HK; clear HB; have HO135 := n0_; have HO158 := n1_; have HI0 := n2_; replace BK132 := Az_ (ukbz_ BK132.out hb); replace BK139 := Az_ (ukbz_ BK139.out hb); have HK := n5_; have HB := n6_; clear n0_ n1_ n2_ n5_ n6_; clear hb ho56) | ((with_reducible refine gate_dst (N := 25) rfl ?_); refine Kd.R_lit (Kd.int .i64) _ 3 ?hg (N := 25) ?hd (xs := ([1, 2, 3, 4, 5, 6, 7, 8, 9] : List Int)) (inner := [.int .i64 1, .int .i64 2, .int .i64 3, .int .i64 4, .int .i64 5, .int .i64 6, .int .i64 7, .int .i64 8, .int .i64 9]) (ok := fun _ => True) (okp := fun _ => True) ?hr ?hp (fun _ hk => hk) trivial (Below.refl _ _) (Nat.le_refl _) (by simp) ?_; (case hd => rfl); (case hg => rfl); (case hr => first | (go_simp; done) | (go_simp; rfl)); (case hp => exact (Reps.one (show Kd.M (Kd.int .i64) _ _ _ 1 [.int .i64 1] from rfl) (Reps.one (show Kd.M (Kd.int .i64) _ _ _ 2 [.int .i64 2] from rfl) (Reps.one (show Kd.M (Kd.int .i64) _ _ _ 3 [.int .i64 3] from rfl) (Reps.one (show Kd.M (Kd.int .i64) _ _ _ 4 [.int .i64 4] from rfl) (Reps.one (show Kd.M (Kd.int .i64) _ _ _ 5 [.int .i64 5] from rfl) (Reps.one (show Kd.M (Kd.int .i64) _ _ _ 6 [.int .i64 6] from rfl) (Reps.one (show Kd.M (Kd.int .i64) _ _ _ 7 [.int .i64 7] from rfl) (Reps.one (show Kd.M (Kd.int .i64) _ _ _ 8 [.int .i64 8] from rfl) (Reps.one (show Kd.M (Kd.int .i64) _ _ _ 9 [.int .i64 9] from rfl) (Reps.none _ _))))))))))); intro v160 w57 ho58 hb hg_ hnew_; clear hg_ hnew_; (first | rw [← Ny159.out] at ho58 | (simp only [Int.reduceToNat] at ho58; rw [← Ny159.out] at ho58)); have n0_ := Az_ (rez_ (w87_) (Kd.R_base ho58) hb); have n1_ := Az_ (rez_ (by exact urz_ HO158.out) (Kd.R_base ho58) hb); have n2_ := Az_ (Kd.R_lower (Kd.R_new' (Kd.R_new' (Kd.R_newM (M := fun k_ => (w.heap.size ≤ k_)) ho58 (keep_size (w := w) (g := g) (row := none) (w32_)) (fun k_ h_ => h_)) (Kd.R_lt (w87_))) (Kd.R_lt (by exact urz_ HO158.out))) (keep_size (w := w) (g := g) (row := none) (w32_))); have n3_ := Az_ (IsS54.below (w28_) hb); have n6_ := Az_ (KeepBut.trans (w32_) (KeepBut.of_below hb g none) (.inl rfl)); have n7_ := Az_ (btz_ (w38_) hb); clear HO135; clear HO158; clear HI0; clear HK; clear HB; have HO135 := n0_; have HO158 := n1_; have HO161 := n2_; have HI0 := n3_; replace BK132 := Az_ (ukbz_ BK132.out hb); replace BK139 := Az_ (ukbz_ BK139.out hb); have HK := n6_; have HB := n7_; clear n0_ n1_ n2_ n3_ n6_ n7_; clear hb ho58; obtain ⟨Ao59, co59, eo59⟩ := Kd.R_slice HO158.out; subst eo59; obtain ⟨Ao60, co60, eo60⟩ := Kd.R_slice HO161.out; subst eo60) | ((with_reducible refine gate_dst (N := 26) rfl ?_); refine Kd.N_lit (Kd.slice 3 (Kd.int .i64)) _ 24 ?hg (N' := 26) ?hd (xs := ([[], y156, y159] : List (List Int))) (inner := [.slice none 0 0, .slice Ao59 y156.length co59, .slice Ao60 y159.length co60]) (ok := (fun k_ => (w.heap.size ≤ k_) ∧ some k_ ≠ (.slice Ao50 t133.length co50 : Value).ownBlock ∧ k_ ≠ gb132 ∧ k_ ≠ gb139 ∧ k_ ≠ g)) (okp := (fun k_ => (w.heap.size ≤ k_) ∧ some k_ ≠ (.slice Ao50 t133.length co50 : Value).ownBlock ∧ k_ ≠ gb132 ∧ k_ ≠ gb139 ∧ k_ ≠ g)) ?hr ?hp (fun _ hk => hk) ((show ∀ k_, w57.heap.size ≤ k_ → (fun k_ => (w.heap.size ≤ k_) ∧ some k_ ≠ (.slice Ao50 t133.length co50 : Value).ownBlock ∧ k_ ≠ gb132 ∧ k_ ≠ gb139 ∧ k_ ≠ g) k_ from fun k_ hk => ⟨(Nat.le_trans (keep_size (w := w) (g := g) (row := none) (w32_)) hk), Kd.fresh' (Kd.R_lt (w87_)) k_ hk, Kd.freshB (g := gb132) (o := .cells #[.slice none 0 0, .int .i64 0] 26 (0, 0)) (w86_) k_ hk, Kd.freshB (g := gb139) (o := .cells #[.slice Ao50 t133.length co50, .int .i64 t136] 26 (0, 0)) (by exact ukz_ BK139.out) k_ hk, IsS54.fresh (w28_) k_ hk⟩) _ (Nat.le_refl _)) (Below.refl _ _) (Nat.le_refl _) (by simp) ?_; (case hd => rfl); (case hg => rfl); (case hr => first | (go_simp; done) | (go_simp; rfl)); (case hp => exact (Reps.one (show Kd.FK (Kd.slice 3 (Kd.int .i64)) _ _ [] [.slice none 0 0] from (Kd.FK_slice_mk (Nat.le_refl _) (Kd.F_nil _ _ _))) (Reps.one (show Kd.FK (Kd.slice 3 (Kd.int .i64)) _ _ y156 [.slice Ao59 y156.length co59] from (Kd.FK_slice_mk (Kd.R_reads' (Kd.R_mono (ok' := (fun k_ => (w.heap.size ≤ k_) ∧ some k_ ≠ (.slice Ao50 t133.length co50 : Value).ownBlock ∧ k_ ≠ gb132 ∧ k_ ≠ gb139 ∧ k_ ≠ g)) (IsS54.apart HI0.out (Kd.R_types (Kd.R_types (HO158.out) BK132.out (by decide)) BK139.out (by decide)) (by decide)) (fun k_ hk => ⟨hk.1.1.1.1.1.1, ⟨hk.1.1.1.1.2, ⟨hk.1.1.2, ⟨hk.1.2, hk.2⟩⟩⟩⟩))).2.1 (Kd.R_F (Kd.R_mono (ok' := (fun k_ => (w.heap.size ≤ k_) ∧ some k_ ≠ (.slice Ao50 t133.length co50 : Value).ownBlock ∧ k_ ≠ gb132 ∧ k_ ≠ gb139 ∧ k_ ≠ g)) (IsS54.apart HI0.out (Kd.R_types (Kd.R_types (HO158.out) BK132.out (by decide)) BK139.out (by decide)) (by decide)) (fun k_ hk => ⟨hk.1.1.1.1.1.1, ⟨hk.1.1.1.1.2, ⟨hk.1.1.2, ⟨hk.1.2, hk.2⟩⟩⟩⟩))))) (Reps.one (show Kd.FK (Kd.slice 3 (Kd.int .i64)) _ _ y159 [.slice Ao60 y159.length co60] from (Kd.FK_slice_mk (Kd.R_reads' (Kd.R_mono (ok' := (fun k_ => (w.heap.size ≤ k_) ∧ some k_ ≠ (.slice Ao50 t133.length co50 : Value).ownBlock ∧ k_ ≠ gb132 ∧ k_ ≠ gb139 ∧ k_ ≠ g)) (IsS54.apart HI0.out (Kd.R_types (Kd.R_types (HO161.out) BK132.out (by decide)) BK139.out (by decide)) (by decide)) (fun k_ hk => ⟨hk.1.1.1.1.1.1, ⟨hk.1.1.1.1.2, ⟨hk.1.1.2, ⟨hk.1.2, hk.2⟩⟩⟩⟩))).2.1 (Kd.R_F (Kd.R_mono (ok' := (fun k_ => (w.heap.size ≤ k_) ∧ some k_ ≠ (.slice Ao50 t133.length co50 : Value).ownBlock ∧ k_ ≠ gb132 ∧ k_ ≠ gb139 ∧ k_ ≠ g)) (IsS54.apart HI0.out (Kd.R_types (Kd.R_types (HO161.out) BK132.out (by decide)) BK139.out (by decide)) (by decide)) (fun k_ hk => ⟨hk.1.1.1.1.1.1, ⟨hk.1.1.1.1.2, ⟨hk.1.1.2, ⟨hk.1.2, hk.2⟩⟩⟩⟩))))) (Reps.none _ _))))); intro v163 w61 ho62 hb hg_ hnew_; clear hg_ hnew_; (first | rw [← Ny162.out] at ho62 | (simp only [Int.reduceToNat] at ho62; rw [← Ny162.out] at ho62)); have n0_ := Az_ (Kd.R_below (w87_) hb); have n1_ := Az_ (Kd.N_lower ho62 (keep_size (w := w) (g := g) (row := none) (w32_))); have n2_ := Az_ (IsS54.below (w28_) hb); have n5_ := Az_ (KeepBut.trans (w32_) (KeepBut.of_below hb g none) (.inl rfl)); have n6_ := Az_ (btz_ (w38_) hb); clear HO135; clear HI0; clear HK; clear HB; clear HO158; clear HO161; have HO135 := n0_; have HO164 := n1_; have HI0 := n2_; replace BK132 := Az_ (ukbz_ BK132.out hb); replace BK139 := Az_ (ukbz_ BK139.out hb); have HK := n5_; have HB := n6_; clear n0_ n1_ n2_ n5_ n6_; clear hb ho62) | ((with_reducible refine gate_callee (f := 57) rfl ?_); refine goesL_ (some 28) rfl rfl Tryz.func57 (w94_) rfl #[.pointer (some ⟨g, 0, none⟩), .int .i64 3] rfl maz_ ?_; (with_reducible refine (spec_l1Cur_pick.calls g s0_0 t141 t142 3 t165 t166 t167 w0 _ ?side1 ?side2 A44.out).mono ?_); (case side1 => repeat (first | (with_reducible first | exact HI0.out | apply IsS54.alloc | apply IsS54.drewN | apply IsS54.drew | apply IsS54.set_1 | apply IsS54.set_2 | refine IsS54.far ?_ NB0_132.out _ | refine IsS54.far ?_ NB0_139.out _) | exact HI0.out)); (case side2 => repeat (first | (with_reducible first | exact HB.out | apply baz_ | apply bnz_ | apply bdz_ | refine bsz_ ?_ (IsS54.ge HI0.out) | refine bsz_ ?_ GE132.out | refine bsz_ ?_ GE139.out) | exact HB.out)); rintro e w63 ⟨rfl, hi, hb, hk⟩; refine ⟨_, rfl, ?_⟩; replace BK132 := Az_ (KeepBut.blk hk (g' := gb132) (o := .cells #[.slice none 0 0, .int .i64 0] 26 (0, 0)) (w86_) NB132_0.out (by simp)); replace HO135 := Az_ (Kd.R_mono (Kd.R_keep (IsS54.apart (show IsS54 w0 _ g s0_0 t141 t142 from w28_) (w87_) (by decide)) hk (fun _ h => h.2)) (fun _ h => h.1)); replace BK139 := Az_ (KeepBut.blk hk (g' := gb139) (o := .cells #[.slice Ao50 t133.length co50, .int .i64 t136] 26 (0, 0)) (by exact ukz_ BK139.out) NB139_0.out (by simp)); replace HO164 := Az_ (Kd.N_mono (Kd.N_keep (Kd.N_mono (ok := fun k_ => (((w.heap.size ≤ k_)) ∧ (some k_ ≠ (.slice Ao50 t133.length co50 : Value).ownBlock ∧ (k_ ≠ gb132 ∧ (k_ ≠ gb139 ∧ k_ ≠ g))))) (by (with_reducible repeat (first | apply Kd.N_alloc | apply Kd.N_drewN | apply Kd.N_drew)); exact HO164.out) (fun k_ hk_ => (⟨hk_, hk_.2.2.2.2⟩ : _ ∧ k_ ≠ g))) hk (fun _ h => h.2)) (fun _ h => h.1)); replace HK := Az_ (KeepBut.trans (w32_) hk (.inl rfl)); replace HB := Az_ (hb); replace HI0 := Az_ (hi); (try clear hb); (try clear hk); (try clear hi); obtain ⟨Ao64, co64, eo64⟩ := Kd.N_slice HO164.out; subst eo64; have p168 : 0 ≤ (t165 : Int) := od_; have q168 : t165 < (y162.length : Int) := od_; obtain ⟨ad168, A168_0, c168_0, e168, hx168_0, hl168_0, hi168_0⟩ := at_L2 (Kd.N_reads' HO164.out).2.2 t165 p168 q168; cases e168; obtain ⟨ce168, hce168, hMe168, hcc168⟩ := Kd.N_get HO164.out [] t165 p168 (by first | exact q168 | exact od_ | (have e_ := (Kd.N_reads' HO164.out).1; omega)); obtain ⟨ua168_0, uc168_0, rfl, ul168_0, ge168_0⟩ := Kd.FK_slice_open hMe168; have hv168_0 := hcc168 0 _ rfl; rw [Nat.add_zero, show ((Kd.slice 3 (Kd.int .i64))).sz = 1 from rfl, Nat.mul_one] at hv168_0; replace hv168_0 := Option.some.inj (hv168_0.symm.trans hx168_0); injection hv168_0 with hva_ hvn_ hvc_; rw [hva_] at ge168_0; rw [hvc_] at ul168_0; have HL168_0 := Az_ (show Kd.V (Kd.int .i64) 3 _ w.heap.size _ _ (rd_L2 y162 t165) from Kd.V_mk ul168_0 ge168_0); clear hva_ hvn_ hvc_ ge168_0 ul168_0; clear hcc168 hce168; have HR168_0 := Az_ hi168_0; have HC168_0 := Az_ hl168_0; clear hi168_0 hl168_0; replace p168 := eq_true p168; replace q168 := eq_true q168; have hcz65_0 : w63.cell? ⟨gb139, 0, none⟩ = some (.slice Ao50 t133.length co50) := (blk_cell BK139.out 0).trans rfl; have hcz65_1 : w63.cell? ⟨gb139, 1, none⟩ = some (.int .i64 t136) := (blk_cell BK139.out 1).trans rfl; have hfz65_0 := blk_frozen BK139.out 0; have hfz65_1 := blk_frozen BK139.out 1; have hnb66 := NB132_0.out; have hnc66 := NB0_132.out; have hcz67_0 : w63.cell? ⟨gb132, 0, none⟩ = some (.slice none 0 0) := (blk_cell BK132.out 0).trans rfl; have hcz67_1 : w63.cell? ⟨gb132, 1, none⟩ = some (.int .i64 0) := (blk_cell BK132.out 1).trans rfl; have hfz67_0 := blk_frozen BK132.out 0; have hfz67_1 := blk_frozen BK132.out 1))
    refine bodyPost_ret (results_cell_row rfl _ _ gb132 26 #[.slice A168_0 (rd_L2 y162 t165).length c168_0, .int .i64 t136] (0, 0) _ rfl (by (with_reducible repeat (first | refine knz_ ?_ _ | refine kdz_ ?_ | refine kaz_ ?_ _)); refine blk_put (cs := #[.slice A168_0 (rd_L2 y162 t165).length c168_0, .int .i64 0]) ?_ 1 _ rfl; (with_reducible repeat (first | refine knz_ ?_ _ | refine kdz_ ?_ | refine kaz_ ?_ _)); refine blk_put (cs := #[.slice none 0 0, .int .i64 0]) ?_ 0 _ rfl; (with_reducible repeat (first | refine knz_ ?_ _ | refine kdz_ ?_ | refine kaz_ ?_ _)); refine blk_far ?_ NB132_139.out _; (with_reducible repeat (first | refine knz_ ?_ _ | refine kdz_ ?_ | refine kaz_ ?_ _)); exact BK132.out) Tryz.underlying26 rfl (w94_)) rfl ?_
    exact ⟨_, w74_, by (with_reducible repeat (first | apply Kd.V_alloc | apply Kd.V_drewN | apply Kd.V_drew)); exact Kd.V_mono (Kd.V_far (p := ⟨gb132, 1, none⟩) (Kd.V_far (p := ⟨gb132, 0, none⟩) (Kd.V_far (p := ⟨gb139, 0, none⟩) (Kd.V_mono (Kd.V_mono HL168_0.out (fun k_ hk => (⟨hk, hk.1.2.2.2.1⟩ : _ ∧ k_ ≠ gb139))) (fun k_ hk => (⟨hk, hk.1.1.2.2.1⟩ : _ ∧ k_ ≠ gb132))) (fun _ hk => hk.1.2) (.slice A168_0 (rd_L2 y162 t165).length c168_0)) (fun _ hk => hk.2) (.slice A168_0 (rd_L2 y162 t165).length c168_0)) (fun _ hk => hk.2) (.int .i64 t136)) (fun _ hk => hk.1.1.1.1), w28_, w38_, w32_⟩
   ·rw [if_neg c43] at H
    have c43b0 : (t140 == 2) = false := beq_eq_false_iff_ne.mpr c43
    have c43b1 : (t140 != 2) = true := bne_iff_ne.mpr c43
    simp only [Option.some.injEq, Prod.mk.injEq] at H
    obtain ⟨rfl, rfl, rfl, rfl⟩ := H
    go_enter Tryz.func32, Tryz.ntmps32
    go_wp2_with (first | ((with_reducible refine gate_dst (N := 2) rfl ?_); refine box_event ?hg (N := 2) ?hd (cs := #[.slice none 0 0, .int .i64 0]) (t := 26) ?hr ?_; (case hd => rfl); (case hg => rfl); (case hr => first | (go_simp; done) | (go_simp; rfl)); intro gb132 hg w68 hbox hb; replace HB := Az_ (btz_ (w51_) hb); have BK132 := Az_ (hbox); have GW132 := Az_ ((by rw [hg]; exact (keep_size (w := w) (g := g) (row := none) (w49_)) : w.heap.size ≤ gb132)); have GE132 := Az_ ((Nat.le_trans HW0.out (by rw [hg]; exact (keep_size (w := w) (g := g) (row := none) (w49_)) : w.heap.size ≤ gb132) : w0.heap.size ≤ gb132)); replace HK := Az_ (KeepBut.trans (w49_) (KeepBut.of_below hb g none) (.inl rfl)); have NB0_132 := Az_ ((by rw [hg]; exact Nat.ne_of_lt (IsS54.lt (show IsS54 w0 _ g s0_0 s0_1 s0_2 from w47_)) : g ≠ gb132)); have NB132_0 := Az_ ((by rw [hg]; exact Nat.ne_of_gt (IsS54.lt (show IsS54 w0 _ g s0_0 s0_1 s0_2 from w47_)) : gb132 ≠ g)); replace HI0 := Az_ (IsS54.below (w47_) hb); clear hb hbox hg) | ((with_reducible refine gate_callee (f := 54) rfl ?_); refine goesL_ (some 5) rfl rfl Tryz.func54 (w94_) rfl #[.pointer (some ⟨g, 0, none⟩)] rfl maz_ ?_; (with_reducible refine (spec_l1Cur_sureShelf.calls k g s0_0 s0_1 s0_2 t133 t136 t137 t138 w0 _ ?side1 ?side2 A2.out).mono ?_); (case side1 => repeat (first | (with_reducible first | exact HI0.out | apply IsS54.alloc | apply IsS54.drewN | apply IsS54.drew | apply IsS54.set_1 | apply IsS54.set_2 | refine IsS54.far ?_ NB0_132.out _) | exact HI0.out)); (case side2 => repeat (first | (with_reducible first | exact HB.out | apply baz_ | apply bnz_ | apply bdz_ | refine bsz_ ?_ (IsS54.ge HI0.out) | refine bsz_ ?_ GE132.out) | exact HB.out)); rintro e w69 ⟨v134, rfl, ho0, hi, hb, hk⟩; refine ⟨_, rfl, ?_⟩; replace BK132 := Az_ (KeepBut.blk hk (g' := gb132) (o := .cells #[.slice none 0 0, .int .i64 0] 26 (0, 0)) (w86_) NB132_0.out (by simp)); have HO135 := Az_ (Kd.R_lower (Kd.R_newM (M := fun k_ => (w.heap.size ≤ k_)) ho0 (keep_size (w := w) (g := g) (row := none) (w40_)) (fun k_ h_ => h_)) (keep_size (w := w) (g := g) (row := none) (w40_))); replace HK := Az_ (KeepBut.trans (w40_) hk (.inl rfl)); replace HB := Az_ (hb); replace HI0 := Az_ (hi); (try clear hb); (try clear hk); (try clear hi); (try clear ho0)) | ((with_reducible refine gate_dst (N := 3) rfl ?_); refine box_event ?hg (N := 3) ?hd (cs := #[.slice none 0 0, .int .i64 0]) (t := 26) ?hr ?_; (case hd => rfl); (case hg => rfl); (case hr => first | (go_simp; done) | (go_simp; rfl)); intro gb139 hg w70 hbox hb; have n0_ := Az_ (Kd.R_below (w87_) hb); have n1_ := Az_ (IsS54.below (w36_) hb); have n3_ := Az_ (KeepBut.trans (w40_) (KeepBut.of_below hb g none) (.inl rfl)); have n4_ := Az_ (btz_ (w46_) hb); have n5_ := Az_ (hbox); have n6_ := Az_ ((by rw [hg]; exact (keep_size (w := w) (g := g) (row := none) (w40_)) : w.heap.size ≤ gb139)); have n7_ := Az_ ((Nat.le_trans HW0.out (by rw [hg]; exact (keep_size (w := w) (g := g) (row := none) (w40_)) : w.heap.size ≤ gb139) : w0.heap.size ≤ gb139)); have n8_ := Az_ ((by rw [hg]; exact Nat.ne_of_lt (uklz_ BK132.out) : gb132 ≠ gb139)); have n9_ := Az_ ((by rw [hg]; exact Nat.ne_of_gt (uklz_ BK132.out) : gb139 ≠ gb132)); have n10_ := Az_ ((by rw [hg]; exact Nat.ne_of_lt (IsS54.lt (show IsS54 w0 _ g s0_0 t137 t138 from w36_)) : g ≠ gb139)); have n11_ := Az_ ((by rw [hg]; exact Nat.ne_of_gt (IsS54.lt (show IsS54 w0 _ g s0_0 t137 t138 from w36_)) : gb139 ≠ g)); clear HO135; clear HI0; clear HK; clear HB; have HO135 := n0_; have HI0 := n1_; replace BK132 := Az_ (ukbz_ BK132.out hb); have HK := n3_; have HB := n4_; have BK139 := n5_; have GW139 := n6_; have GE139 := n7_; have NB132_139 := n8_; have NB139_132 := n9_; have NB0_139 := n10_; have NB139_0 := n11_; clear n0_ n1_ n3_ n4_ n5_ n6_ n7_ n8_ n9_ n10_ n11_; clear hb hbox hg; obtain ⟨Ao71, co71, eo71⟩ := Kd.R_slice HO135.out; subst eo71; have hnb72 := NB139_132.out; have hnc72 := NB132_139.out; have hnb73 := NB139_0.out; have hnc73 := NB0_139.out; have hcz74_0 : w70.cell? ⟨gb139, 0, none⟩ = some (.slice none 0 0) := (blk_cell BK139.out 0).trans rfl; have hcz74_1 : w70.cell? ⟨gb139, 1, none⟩ = some (.int .i64 0) := (blk_cell BK139.out 1).trans rfl; have hfz74_0 := blk_frozen BK139.out 0; have hfz74_1 := blk_frozen BK139.out 1) | ((with_reducible refine gate_callee (f := 57) rfl ?_); refine goesL_ (some 7) rfl rfl Tryz.func57 (w94_) rfl #[.pointer (some ⟨g, 0, none⟩), .int .i64 14] rfl maz_ ?_; (with_reducible refine (spec_l1Cur_pick.calls g s0_0 t137 t138 14 t140 t141 t142 w0 _ ?side1 ?side2 A3.out).mono ?_); (case side1 => repeat (first | (with_reducible first | exact HI0.out | apply IsS54.alloc | apply IsS54.drewN | apply IsS54.drew | apply IsS54.set_1 | apply IsS54.set_2 | refine IsS54.far ?_ NB0_132.out _ | refine IsS54.far ?_ NB0_139.out _) | exact HI0.out)); (case side2 => repeat (first | (with_reducible first | exact HB.out | apply baz_ | apply bnz_ | apply bdz_ | refine bsz_ ?_ (IsS54.ge HI0.out) | refine bsz_ ?_ GE132.out | refine bsz_ ?_ GE139.out) | exact HB.out)); rintro e w75 ⟨rfl, hi, hb, hk⟩; refine ⟨_, rfl, ?_⟩; replace BK132 := Az_ (KeepBut.blk hk (g' := gb132) (o := .cells #[.slice none 0 0, .int .i64 0] 26 (0, 0)) (w12_) NB132_0.out (by simp)); replace HO135 := Az_ (Kd.R_mono (Kd.R_keep (IsS54.apart (show IsS54 w0 _ g s0_0 t137 t138 from w28_) (by (with_reducible repeat (first | apply raz_ | apply rnz_ | apply rdz_)); exact (Kd.R_mono (Kd.R_far (p := ⟨gb139, 1, none⟩) (Kd.R_far (p := ⟨gb139, 0, none⟩) (Kd.R_types HO135.out BK139.out (by decide)) (fun _ hk => hk.2) (.slice Ao71 t133.length co71)) (fun _ hk => hk.2) (.int .i64 t136)) (fun _ h_ => h_.1))) (by decide)) hk (fun _ h => h.2)) (fun _ h => h.1)); replace BK139 := Az_ (KeepBut.blk hk (g' := gb139) (o := .cells #[.slice Ao71 t133.length co71, .int .i64 t136] 26 (0, 0)) (by (with_reducible repeat (first | refine knz_ ?_ _ | refine kdz_ ?_ | refine kaz_ ?_ _)); refine blk_put (cs := #[.slice Ao71 t133.length co71, .int .i64 0]) ?_ 1 _ rfl; (with_reducible repeat (first | refine knz_ ?_ _ | refine kdz_ ?_ | refine kaz_ ?_ _)); refine blk_put (cs := #[.slice none 0 0, .int .i64 0]) ?_ 0 _ rfl; (with_reducible repeat (first | refine knz_ ?_ _ | refine kdz_ ?_ | refine kaz_ ?_ _)); exact BK139.out) NB139_0.out (by simp)); replace HK := Az_ (KeepBut.trans (w32_) hk (.inl rfl)); replace HB := Az_ (hb); replace HI0 := Az_ (hi); (try clear hb); (try clear hk); (try clear hi); have hcz76_0 : w75.cell? ⟨gb139, 0, none⟩ = some (.slice Ao71 t133.length co71) := (blk_cell BK139.out 0).trans rfl; have hcz76_1 : w75.cell? ⟨gb139, 1, none⟩ = some (.int .i64 t136) := (blk_cell BK139.out 1).trans rfl; have hfz76_0 := blk_frozen BK139.out 0; have hfz76_1 := blk_frozen BK139.out 1; have hnb77 := NB132_0.out; have hnc77 := NB0_132.out; have hcz78_0 : w75.cell? ⟨gb132, 0, none⟩ = some (.slice none 0 0) := (blk_cell BK132.out 0).trans rfl; have hcz78_1 : w75.cell? ⟨gb132, 1, none⟩ = some (.int .i64 0) := (blk_cell BK132.out 1).trans rfl; have hfz78_0 := blk_frozen BK132.out 0; have hfz78_1 := blk_frozen BK132.out 1))
    refine bodyPost_ret (results_cell_row rfl _ _ gb132 26 #[.slice Ao71 t133.length co71, .int .i64 t136] (0, 0) _ rfl (by (with_reducible repeat (first | refine knz_ ?_ _ | refine kdz_ ?_ | refine kaz_ ?_ _)); refine blk_put (cs := #[.slice Ao71 t133.length co71, .int .i64 0]) ?_ 1 _ rfl; (with_reducible repeat (first | refine knz_ ?_ _ | refine kdz_ ?_ | refine kaz_ ?_ _)); refine blk_put (cs := #[.slice none 0 0, .int .i64 0]) ?_ 0 _ rfl; (with_reducible repeat (first | refine knz_ ?_ _ | refine kdz_ ?_ | refine kaz_ ?_ _)); exact BK132.out) Tryz.underlying26 rfl (w94_)) rfl ?_
    exact ⟨_, w74_, Kd.R_V (by (with_reducible repeat (first | apply raz_ | apply rnz_ | apply rdz_)); exact Kd.R_mono (Kd.R_far (p := ⟨gb132, 1, none⟩) (Kd.R_far (p := ⟨gb132, 0, none⟩) (Kd.R_types HO135.out BK132.out (by decide)) (fun _ hk => hk.2) (.slice Ao71 t133.length co71)) (fun _ hk => hk.2) (.int .i64 t136)) (fun _ hk => hk.1.1)), w28_, w38_, w32_⟩

def spec_l1Cur_volume.f (s0_0 : List Int) (s0_1 : Int) (s0_2 : Int) (l1_0 : List Int) (a1_1 : Int) : Option (Int × Int × Int) := (spec_l1Cur_pick.f s0_0 s0_1 s0_2 (wrap64 ((l1_0.length : Int) + 1))).bind fun bt170 => ((spec_l1Cur_pick.f s0_0 bt170.2.1 bt170.2.2 16).bind fun bt173 => (some (wrap64 (bt170.1 - (wrap64 (Int.tdiv bt173.1 15))), bt173.2.1, bt173.2.2)))
set_option maxHeartbeats 8000000 in
set_option maxRecDepth 100000 in
theorem spec_l1Cur_volume.calls (g : Nat) (s0_0 : List Int) (s0_1 : Int) (s0_2 : Int) (A1_0 : Option Addr) (c1_0 : Nat) (l1_0 : List Int) (a1_1 : Int) (r1 : Int) (r2 : Int) (r3 : Int) (w0 w : World) (hI : IsS54 w0 w g s0_0 s0_1 s0_2) (hB : Below w0.heap.size w0 w) (hr1_0 : Kd.C (Kd.int .i64) w A1_0 l1_0.length l1_0) (hc1_0 : l1_0.length ≤ c1_0) (hf1_0 : ∀ ad, A1_0 = some ad → 0 < l1_0.length → ad.block ≠ g) (h : spec_l1Cur_volume.f s0_0 s0_1 s0_2 l1_0 a1_1 = some (r1, r2, r3)) :
  Calls Tryz.prog 33 #[.pointer (some ⟨g, 0, none⟩), .agg #[.slice A1_0 l1_0.length c1_0, .int .i64 a1_1]] w fun e w' => e = .returned (.int .i64 r1) ∧ IsS54 w0 w' g s0_0 r2 r3 ∧ Below w0.heap.size w0 w' ∧ KeepBut w w' g none := by
 have hu26 := Tryz.underlying26
 have HR1_0 := Az_ hr1_0
 have HC1_0 := Az_ hc1_0
 clear hr1_0 hc1_0
 have HI0 := Az_ hI
 have HK := Az_ (KeepBut.refl w g none)
 have HL := Az_ hB.size
 clear hI
 have HW0 := Az_ hB.size
 have HB := Az_ hB
 clear hB
 have H : ((spec_l1Cur_pick.f s0_0 s0_1 s0_2 (wrap64 ((l1_0.length : Int) + 1))).bind fun bt170 => ((spec_l1Cur_pick.f s0_0 bt170.2.1 bt170.2.2 16).bind fun bt173 => (some (wrap64 (bt170.1 - (wrap64 (Int.tdiv bt173.1 15))), bt173.2.1, bt173.2.2)))) = some (r1, r2, r3) := h
 clear h
 replace H := bqz_ H; obtain ⟨⟨t170, t171, t172⟩, A3, H⟩ := H
 replace H := bqz_ H; obtain ⟨⟨t173, t174, t175⟩, A4, H⟩ := H
 replace H : (some (wrap64 (t170 - (wrap64 (Int.tdiv t173 15))), t174, t175)) = some (r1, r2, r3) := H
 simp only [Option.some.injEq, Prod.mk.injEq] at H
 obtain ⟨rfl, rfl, rfl⟩ := H
 go_enter Tryz.func33, Tryz.ntmps33
 go_wp2_with (first | ((with_reducible refine gate_dst (N := 3) rfl ?_); refine box_event ?hg (N := 3) ?hd (cs := #[.slice A1_0 l1_0.length c1_0, .int .i64 a1_1]) (t := 26) ?hr ?_; (case hd => rfl); (case hg => rfl); (case hr => first | (go_simp; done) | (go_simp; rfl)); intro gb169 hg w5 hbox hb; replace HB := Az_ (btz_ (w51_) hb); have BK169 := Az_ (hbox); have GW169 := Az_ ((by rw [hg]; exact (keep_size (w := w) (g := g) (row := none) (w49_)) : w.heap.size ≤ gb169)); have GE169 := Az_ ((Nat.le_trans HW0.out (by rw [hg]; exact (keep_size (w := w) (g := g) (row := none) (w49_)) : w.heap.size ≤ gb169) : w0.heap.size ≤ gb169)); replace HK := Az_ (KeepBut.trans (w49_) (KeepBut.of_below hb g none) (.inl rfl)); have NB0_169 := Az_ ((by rw [hg]; exact Nat.ne_of_lt (IsS54.lt (show IsS54 w0 _ g s0_0 s0_1 s0_2 from w47_)) : g ≠ gb169)); have NB169_0 := Az_ ((by rw [hg]; exact Nat.ne_of_gt (IsS54.lt (show IsS54 w0 _ g s0_0 s0_1 s0_2 from w47_)) : gb169 ≠ g)); replace HI0 := Az_ (IsS54.below (w47_) hb); clear hb hbox hg; have hnb6 := NB169_0.out; have hnc6 := NB0_169.out; have hcz7_0 : w5.cell? ⟨gb169, 0, none⟩ = some (.slice A1_0 l1_0.length c1_0) := (blk_cell BK169.out 0).trans rfl; have hcz7_1 : w5.cell? ⟨gb169, 1, none⟩ = some (.int .i64 a1_1) := (blk_cell BK169.out 1).trans rfl; have hfz7_0 := blk_frozen BK169.out 0; have hfz7_1 := blk_frozen BK169.out 1) | ((with_reducible refine gate_callee (f := 57) rfl ?_); refine goesL_ (some 10) rfl rfl Tryz.func57 (w94_) rfl #[.pointer (some ⟨g, 0, none⟩), .int .i64 (wrap64 ((l1_0.length : Int) + 1))] rfl maz_ ?_; (with_reducible refine (spec_l1Cur_pick.calls g s0_0 s0_1 s0_2 (wrap64 ((l1_0.length : Int) + 1)) t170 t171 t172 w0 _ ?side1 ?side2 A3.out).mono ?_); (case side1 => repeat (first | (with_reducible first | exact HI0.out | apply IsS54.alloc | apply IsS54.drewN | apply IsS54.drew | apply IsS54.set_1 | apply IsS54.set_2 | refine IsS54.far ?_ NB0_169.out _) | exact HI0.out)); (case side2 => repeat (first | (with_reducible first | exact HB.out | apply baz_ | apply bnz_ | apply bdz_ | refine bsz_ ?_ (IsS54.ge HI0.out) | refine bsz_ ?_ GE169.out) | exact HB.out)); rintro e w8 ⟨rfl, hi, hb, hk⟩; refine ⟨_, rfl, ?_⟩; replace BK169 := Az_ (KeepBut.blk hk (g' := gb169) (o := .cells #[.slice A1_0 l1_0.length c1_0, .int .i64 a1_1] 26 (0, 0)) (by exact ukz_ BK169.out) NB169_0.out (by simp)); replace HK := Az_ (KeepBut.trans (w41_) hk (.inl rfl)); replace HB := Az_ (hb); replace HI0 := Az_ (hi); (try clear hb); (try clear hk); (try clear hi)) | ((with_reducible refine gate_callee (f := 57) rfl ?_); refine goesL_ (some 12) rfl rfl Tryz.func57 (w94_) rfl #[.pointer (some ⟨g, 0, none⟩), .int .i64 16] rfl maz_ ?_; (with_reducible refine (spec_l1Cur_pick.calls g s0_0 t171 t172 16 t173 t174 t175 w0 _ ?side1 ?side2 A4.out).mono ?_); (case side1 => repeat (first | (with_reducible first | exact HI0.out | apply IsS54.alloc | apply IsS54.drewN | apply IsS54.drew | apply IsS54.set_1 | apply IsS54.set_2 | refine IsS54.far ?_ NB0_169.out _) | exact HI0.out)); (case side2 => repeat (first | (with_reducible first | exact HB.out | apply baz_ | apply bnz_ | apply bdz_ | refine bsz_ ?_ (IsS54.ge HI0.out) | refine bsz_ ?_ GE169.out) | exact HB.out)); rintro e w9 ⟨rfl, hi, hb, hk⟩; refine ⟨_, rfl, ?_⟩; replace BK169 := Az_ (KeepBut.blk hk (g' := gb169) (o := .cells #[.slice A1_0 l1_0.length c1_0, .int .i64 a1_1] 26 (0, 0)) (by exact ukz_ BK169.out) NB169_0.out (by simp)); replace HK := Az_ (KeepBut.trans (w41_) hk (.inl rfl)); replace HB := Az_ (hb); replace HI0 := Az_ (hi); (try clear hb); (try clear hk); (try clear hi)))
 go_ret
 exact ⟨w74_, by repeat (first | (with_reducible first | exact HI0.out | apply IsS54.alloc | apply IsS54.drewN | apply IsS54.drew | apply IsS54.set_1 | apply IsS54.set_2 | refine IsS54.far ?_ NB0_169.out _) | exact HI0.out), by repeat (first | (with_reducible first | exact HB.out | apply baz_ | apply bnz_ | apply bdz_ | refine bsz_ ?_ (IsS54.ge HI0.out) | refine bsz_ ?_ GE169.out) | exact HB.out), w41_⟩

def spec_l1Cur_one.f (s0_0 : List Int) (s0_1 : Int) (s0_2 : Int) (a1 : Int) : Option (Bool × Int × Int) := (spec_l1Cur_pick.f s0_0 s0_1 s0_2 a1).bind fun bt176 => (some ((bt176.1 == 0), bt176.2.1, bt176.2.2))
set_option maxHeartbeats 8000000 in
set_option maxRecDepth 100000 in
theorem spec_l1Cur_one.calls (g : Nat) (s0_0 : List Int) (s0_1 : Int) (s0_2 : Int) (a1 : Int) (r1 : Bool) (r2 : Int) (r3 : Int) (w0 w : World) (hI : IsS54 w0 w g s0_0 s0_1 s0_2) (hB : Below w0.heap.size w0 w) (h : spec_l1Cur_one.f s0_0 s0_1 s0_2 a1 = some (r1, r2, r3)) :
  Calls Tryz.prog 34 #[.pointer (some ⟨g, 0, none⟩), .int .i64 a1] w fun e w' => e = .returned (.bool r1) ∧ IsS54 w0 w' g s0_0 r2 r3 ∧ Below w0.heap.size w0 w' ∧ KeepBut w w' g none := by
 have HI0 := Az_ hI
 have HK := Az_ (KeepBut.refl w g none)
 have HL := Az_ hB.size
 clear hI
 have HW0 := Az_ hB.size
 have HB := Az_ hB
 clear hB
 have H : ((spec_l1Cur_pick.f s0_0 s0_1 s0_2 a1).bind fun bt176 => (some ((bt176.1 == 0), bt176.2.1, bt176.2.2))) = some (r1, r2, r3) := h
 clear h
 replace H := bqz_ H; obtain ⟨⟨t176, t177, t178⟩, A3, H⟩ := H
 replace H : (some ((t176 == 0), t177, t178)) = some (r1, r2, r3) := H
 simp only [Option.some.injEq, Prod.mk.injEq] at H
 obtain ⟨rfl, rfl, rfl⟩ := H
 go_enter Tryz.func34, Tryz.ntmps34
 go_wp2_with (((with_reducible refine gate_callee (f := 57) rfl ?_); refine goesL_ (some 7) rfl rfl Tryz.func57 (w94_) rfl #[.pointer (some ⟨g, 0, none⟩), .int .i64 a1] rfl maz_ ?_; (with_reducible refine (spec_l1Cur_pick.calls g s0_0 s0_1 s0_2 a1 t176 t177 t178 w0 _ ?side1 ?side2 A3.out).mono ?_); (case side1 => repeat (first | (with_reducible first | exact HI0.out | apply IsS54.alloc | apply IsS54.drewN | apply IsS54.drew | apply IsS54.set_1 | apply IsS54.set_2) | exact HI0.out)); (case side2 => repeat (first | (with_reducible first | exact HB.out | apply baz_ | apply bnz_ | apply bdz_ | refine bsz_ ?_ (IsS54.ge HI0.out)) | exact HB.out)); rintro e w4 ⟨rfl, hi, hb, hk⟩; refine ⟨_, rfl, ?_⟩; replace HK := Az_ (KeepBut.trans (w49_) hk (.inl rfl)); replace HB := Az_ (hb); replace HI0 := Az_ (hi); (try clear hb); (try clear hk); (try clear hi)))
 go_ret
 exact ⟨w74_, w47_, w51_, w49_⟩


def spec_DrawWormEats.f (k : Nat) (l0 : List Int) : Option (List Int × Int × Int × Bool × Int × Bool) := (spec_l1Cur_shelf.f k l0 0 0).bind fun bt181 => ((spec_l1Cur_volume.f l0 bt181.2.2.1 bt181.2.2.2 bt181.1 bt181.2.1).bind fun bt188 => ((spec_l1Cur_one.f l0 bt188.2.1 bt188.2.2 2).bind fun bt191 => ((spec_l1Cur_volume.f l0 bt191.2.1 bt191.2.2 bt181.1 bt181.2.1).bind fun bt194 => ((spec_l1Cur_one.f l0 bt194.2.1 bt194.2.2 2).bind fun bt197 => (some (bt181.1, bt181.2.1, bt188.1, bt191.1, bt194.1, bt197.1))))))
def spec_DrawWormEats.T6 : Bool × List (List Nat × List Nat) := (true, [([], []), ([], []), ([], []), ([], []), ([], []), ([4], [4]), ([0, 5, 0], [0]), ([1, 6, 0, 1, 6], [1]), ([2, 7, 0, 1, 2, 6, 7], [2]), ([3, 8, 0, 1, 2, 3, 6, 7, 8], [3]), ([5, 9, 0, 1, 2, 3, 4, 5, 6, 7, 8, 9], [5])])
def spec_DrawWormEats.B6 : List Nat := [0, 0, 0, 0, 0, 16, 49, 115, 247, 511, 1023]
theorem spec_DrawWormEats.tab6 : rtab .any (opsOf Tryz.f5 6) = spec_DrawWormEats.T6 := by kernel_rfl
theorem spec_DrawWormEats.bits6 : waitsOk spec_DrawWormEats.T6.2 spec_DrawWormEats.B6 = true := by kernel_rfl
set_option maxHeartbeats 8000000 in
set_option maxRecDepth 100000 in
theorem spec_DrawWormEats.calls (k : Nat) (A0 : Option Addr) (c0 : Nat) (l0 : List Int) (r1 : List Int) (r2 : Int) (r3 : Int) (r4 : Bool) (r5 : Int) (r6 : Bool) (w : World) (hr0 : Kd.C (Kd.int .u8) w A0 l0.length l0) (hc0 : l0.length ≤ c0) (h : spec_DrawWormEats.f k l0 = some (r1, r2, r3, r4, r5, r6)) :
  Calls Tryz.prog 5 #[.slice A0 l0.length c0] w fun e w' => ∃ v0_ : Value, e = .returned (.tuple #[.agg #[v0_, .int .i64 r2], .int .i64 r3, .bool r4, .int .i64 r5, .bool r6]) ∧ Kd.V (Kd.int .i64) 3 w' w.heap.size (fun k_ => (w.heap.size ≤ k_)) v0_ r1 ∧ Below w.heap.size w w' := by
 have hu26 := Tryz.underlying26
 have hu54 := Tryz.underlying54
 have HR0 := Az_ hr0
 have HC0 := Az_ hc0
 clear hr0 hc0
 have HB := Az_ (Below.refl w.heap.size w)
 have H : ((spec_l1Cur_shelf.f k l0 0 0).bind fun bt181 => ((spec_l1Cur_volume.f l0 bt181.2.2.1 bt181.2.2.2 bt181.1 bt181.2.1).bind fun bt188 => ((spec_l1Cur_one.f l0 bt188.2.1 bt188.2.2 2).bind fun bt191 => ((spec_l1Cur_volume.f l0 bt191.2.1 bt191.2.2 bt181.1 bt181.2.1).bind fun bt194 => ((spec_l1Cur_one.f l0 bt194.2.1 bt194.2.2 2).bind fun bt197 => (some (bt181.1, bt181.2.1, bt188.1, bt191.1, bt194.1, bt197.1))))))) = some (r1, r2, r3, r4, r5, r6) := h
 clear h
 replace H := bqz_ H; obtain ⟨⟨t181, t184, t185, t186⟩, A2, H⟩ := H
 replace H := bqz_ H; obtain ⟨⟨t188, t189, t190⟩, A3, H⟩ := H
 replace H := bqz_ H; obtain ⟨⟨t191, t192, t193⟩, A4, H⟩ := H
 replace H := bqz_ H; obtain ⟨⟨t194, t195, t196⟩, A5, H⟩ := H
 replace H := bqz_ H; obtain ⟨⟨t197, t198, t199⟩, A6, H⟩ := H
 replace H : (some (t181, t184, t188, t191, t194, t197)) = some (r1, r2, r3, r4, r5, r6) := H
 simp only [Option.some.injEq, Prod.mk.injEq] at H
 obtain ⟨rfl, rfl, rfl, rfl, rfl, rfl⟩ := H
 go_enter Tryz.func5, Tryz.ntmps5
 try go_wp2_with (first | ((with_reducible refine gate_dst (N := 2) rfl ?_); refine box_event ?hg (N := 2) ?hd (cs := #[.slice none 0 0, .int .i64 0]) (t := 26) ?hr ?_; (case hd => rfl); (case hg => rfl); (case hr => first | (go_simp; done) | (go_simp; rfl)); intro gb179 hg w7 hbox hb; have BK179 := Az_ (hbox); have GW179 := Az_ ((by rw [hg]; exact (below_size (ubz_ HB.out)) : w.heap.size ≤ gb179)); have GE179 := Az_ ((by rw [hg]; exact (below_size (ubz_ HB.out)) : w.heap.size ≤ gb179)); replace HB := Az_ (btz_ (ubz_ HB.out) hb); clear hb hbox hg) | ((with_reducible refine gate_dst (N := 14) rfl ?_); refine box_event ?hg (N := 14) ?hd (cs := #[.slice A0 l0.length c0, .int .i64 0, .int .u64 0]) (t := 54) ?hr ?_; (case hd => rfl); (case hg => rfl); (case hr => first | (go_simp; done) | (go_simp; rfl)); intro gb180 hg w8 hbox hb; have n1_ := Az_ (btz_ (w52_) hb); have n2_ := Az_ (hbox); have n3_ := Az_ ((by rw [hg]; exact (below_size (w52_)) : w.heap.size ≤ gb180)); have n4_ := Az_ ((by rw [hg]; exact (below_size (w52_)) : w.heap.size ≤ gb180)); have n5_ := Az_ ((by rw [hg]; exact Nat.ne_of_lt (uklz_ BK179.out) : gb179 ≠ gb180)); have n6_ := Az_ ((by rw [hg]; exact Nat.ne_of_gt (uklz_ BK179.out) : gb180 ≠ gb179)); clear HB; replace BK179 := Az_ (ukbz_ BK179.out hb); have HB := n1_; have BK180 := n2_; have GW180 := n3_; have GE180 := n4_; have NB179_180 := n5_; have NB180_179 := n6_; clear n1_ n2_ n3_ n4_ n5_ n6_; clear hb hbox hg) | ((with_reducible refine gate_callee (f := 32) rfl ?_); refine goesL_ (some 16) rfl rfl Tryz.func32 (w94_) rfl #[.pointer (some ⟨gb180, 0, none⟩)] rfl maz_ ?_; have HI180 := Az_ (show IsS54 w w8 gb180 l0 0 0 from ⟨_, _, BK180.out, GE180.out, HR0.out⟩); (with_reducible refine (spec_l1Cur_shelf.calls k gb180 l0 0 0 t181 t184 t185 t186 w _ ?side1 ?side2 A2.out).mono ?_); (case side1 => repeat (first | (with_reducible first | exact HI180.out | apply IsS54.alloc | apply IsS54.drewN | apply IsS54.drew | apply IsS54.set_1 | apply IsS54.set_2 | refine IsS54.far ?_ NB180_179.out _) | exact HI180.out)); (case side2 => repeat (first | (with_reducible first | exact HB.out | apply baz_ | apply bnz_ | apply bdz_ | refine bsz_ ?_ (IsS54.ge HI180.out) | refine bsz_ ?_ GE179.out) | exact HB.out)); rintro e w9 ⟨v182, rfl, ho0, hi, hb, hk⟩; refine ⟨_, rfl, ?_⟩; have HO183 := Az_ (Kd.V_lower (Kd.V_mono (ok' := fun k_ => (w.heap.size ≤ k_) ∧ k_ ≠ gb179 ∧ k_ ≠ gb180) ho0 (fun k_ hk_ => ⟨(Nat.le_trans (below_size (w43_)) hk_), (Kd.freshB (g := gb179) (o := .cells #[.slice none 0 0, .int .i64 0] 26 (0, 0)) (by exact ukz_ BK179.out) k_ hk_), (IsS54.fresh (w33_) k_ hk_)⟩)) (below_size (w43_))); replace BK179 := Az_ (KeepBut.blk hk (g' := gb179) (o := .cells #[.slice none 0 0, .int .i64 0] 26 (0, 0)) (by exact ukz_ BK179.out) NB179_180.out (by simp)); replace HB := Az_ (hb); replace HI180 := Az_ (hi); (try clear hb); (try clear hk); (try clear hi); (try clear ho0)) | ((with_reducible refine gate_dst (N := 8) rfl ?_); refine box_event ?hg (N := 8) ?hd (cs := #[.slice none 0 0, .int .i64 0]) (t := 26) ?hr ?_; (case hd => rfl); (case hg => rfl); (case hr => first | (go_simp; done) | (go_simp; rfl)); intro gb187 hg w10 hbox hb; have n0_ := Az_ (Kd.V_below (Kd.V_elderB (w62_) gb187 (Nat.le_of_eq hg.symm)) hb); have n2_ := Az_ (IsS54.below (w33_) hb); have n3_ := Az_ (btz_ (w43_) hb); have n4_ := Az_ (hbox); have n5_ := Az_ ((by rw [hg]; exact (below_size (w43_)) : w.heap.size ≤ gb187)); have n6_ := Az_ ((by rw [hg]; exact (below_size (w43_)) : w.heap.size ≤ gb187)); have n7_ := Az_ ((by rw [hg]; exact Nat.ne_of_lt (uklz_ BK179.out) : gb179 ≠ gb187)); have n8_ := Az_ ((by rw [hg]; exact Nat.ne_of_gt (uklz_ BK179.out) : gb187 ≠ gb179)); have n9_ := Az_ ((by rw [hg]; exact Nat.ne_of_lt (IsS54.lt (show IsS54 w _ gb180 l0 t185 t186 from w33_)) : gb180 ≠ gb187)); have n10_ := Az_ ((by rw [hg]; exact Nat.ne_of_gt (IsS54.lt (show IsS54 w _ gb180 l0 t185 t186 from w33_)) : gb187 ≠ gb180)); clear HO183; clear HI180; clear HB; have HO183 := n0_; replace BK179 := Az_ (ukbz_ BK179.out hb); have HI180 := n2_; have HB := n3_; have BK187 := n4_; have GW187 := n5_; have GE187 := n6_; have NB179_187 := n7_; have NB187_179 := n8_; have NB180_187 := n9_; have NB187_180 := n10_; clear n0_ n2_ n3_ n4_ n5_ n6_ n7_ n8_ n9_ n10_; clear hb hbox hg; obtain ⟨Ao11, co11, eo11⟩ := Kd.V_slice HO183.out; subst eo11; have hnb12 := NB187_179.out; have hnc12 := NB179_187.out; have hnb13 := NB187_180.out; have hnc13 := NB180_187.out; have hcz14_0 : w10.cell? ⟨gb187, 0, none⟩ = some (.slice none 0 0) := (blk_cell BK187.out 0).trans rfl; have hcz14_1 : w10.cell? ⟨gb187, 1, none⟩ = some (.int .i64 0) := (blk_cell BK187.out 1).trans rfl; have hfz14_0 := blk_frozen BK187.out 0; have hfz14_1 := blk_frozen BK187.out 1) | ((with_reducible refine gate_callee (f := 33) rfl ?_); refine goesL_ (some 19) rfl rfl Tryz.func33 (w94_) rfl #[.pointer (some ⟨gb180, 0, none⟩), .agg #[.slice Ao11 t181.length co11, .int .i64 t184]] rfl maz_ ?_; (with_reducible refine (spec_l1Cur_volume.calls gb180 l0 t185 t186 _ _ t181 t184 t188 t189 t190 w _ ?side1 ?side2 ?side3 ?side4 ?side5 A3.out).mono ?_); (case side1 => repeat (first | (with_reducible first | exact HI180.out | apply IsS54.alloc | apply IsS54.drewN | apply IsS54.drew | apply IsS54.set_1 | apply IsS54.set_2 | refine IsS54.far ?_ NB180_179.out _ | refine IsS54.far ?_ NB180_187.out _) | exact HI180.out)); (case side2 => repeat (first | (with_reducible first | exact HB.out | apply baz_ | apply bnz_ | apply bdz_ | refine bsz_ ?_ (IsS54.ge HI180.out) | refine bsz_ ?_ GE179.out | refine bsz_ ?_ GE187.out) | exact HB.out)); (case side3 => refine (Kd.V_reads' (e := 3) (base := w.heap.size) (ok := fun k_ => (((w.heap.size ≤ k_) ∧ (k_ ≠ gb179 ∧ k_ ≠ gb180)) ∧ k_ ≠ gb187)) (n := t181.length) (c := co11) ?_).2.2; exact (w9_)); (case side4 => exact (Kd.V_reads' HO183.out).2.1); (case side5 => exact vfarz_ HO183.out (fun k_ hk_ => hk_.1.2.2)); rintro e w15 ⟨rfl, hi, hb, hk⟩; refine ⟨_, rfl, ?_⟩; replace BK179 := Az_ (KeepBut.blk hk (g' := gb179) (o := .cells #[.slice none 0 0, .int .i64 0] 26 (0, 0)) (by (with_reducible repeat (first | refine knz_ ?_ _ | refine kdz_ ?_ | refine kaz_ ?_ _)); refine blk_far ?_ NB179_187.out _; (with_reducible repeat (first | refine knz_ ?_ _ | refine kdz_ ?_ | refine kaz_ ?_ _)); refine blk_far ?_ NB179_187.out _; (with_reducible repeat (first | refine knz_ ?_ _ | refine kdz_ ?_ | refine kaz_ ?_ _)); exact BK179.out) NB179_180.out (by simp)); replace HO183 := Az_ (Kd.V_mono (Kd.V_keep (Kd.V_mono (ok := fun k_ => ((((w.heap.size ≤ k_)) ∧ (k_ ≠ gb179 ∧ k_ ≠ gb180)) ∧ k_ ≠ gb187)) (w9_) (fun k_ hk_ => (⟨hk_, hk_.1.2.2⟩ : _ ∧ k_ ≠ gb180))) hk (fun _ h => h.2)) (fun _ h => h.1)); replace BK187 := Az_ (KeepBut.blk hk (g' := gb187) (o := .cells #[.slice Ao11 t181.length co11, .int .i64 t184] 26 (0, 0)) (by (with_reducible repeat (first | refine knz_ ?_ _ | refine kdz_ ?_ | refine kaz_ ?_ _)); refine blk_put (cs := #[.slice Ao11 t181.length co11, .int .i64 0]) ?_ 1 _ rfl; (with_reducible repeat (first | refine knz_ ?_ _ | refine kdz_ ?_ | refine kaz_ ?_ _)); refine blk_put (cs := #[.slice none 0 0, .int .i64 0]) ?_ 0 _ rfl; (with_reducible repeat (first | refine knz_ ?_ _ | refine kdz_ ?_ | refine kaz_ ?_ _)); exact BK187.out) NB187_180.out (by simp)); replace HB := Az_ (hb); replace HI180 := Az_ (hi); (try clear hb); (try clear hk); (try clear hi)) | ((with_reducible refine gate_callee (f := 34) rfl ?_); refine goesL_ (some 21) rfl rfl Tryz.func34 (w94_) rfl #[.pointer (some ⟨gb180, 0, none⟩), .int .i64 2] rfl maz_ ?_; (with_reducible refine (spec_l1Cur_one.calls gb180 l0 t189 t190 2 t191 t192 t193 w _ ?side1 ?side2 A4.out).mono ?_); (case side1 => repeat (first | (with_reducible first | exact HI180.out | apply IsS54.alloc | apply IsS54.drewN | apply IsS54.drew | apply IsS54.set_1 | apply IsS54.set_2 | refine IsS54.far ?_ NB180_179.out _ | refine IsS54.far ?_ NB180_187.out _) | exact HI180.out)); (case side2 => repeat (first | (with_reducible first | exact HB.out | apply baz_ | apply bnz_ | apply bdz_ | refine bsz_ ?_ (IsS54.ge HI180.out) | refine bsz_ ?_ GE179.out | refine bsz_ ?_ GE187.out) | exact HB.out)); rintro e w16 ⟨rfl, hi, hb, hk⟩; refine ⟨_, rfl, ?_⟩; replace BK179 := Az_ (KeepBut.blk hk (g' := gb179) (o := .cells #[.slice none 0 0, .int .i64 0] 26 (0, 0)) (by exact ukz_ BK179.out) NB179_180.out (by simp)); replace HO183 := Az_ (Kd.V_mono (Kd.V_keep (Kd.V_mono (ok := fun k_ => ((((w.heap.size ≤ k_)) ∧ (k_ ≠ gb179 ∧ k_ ≠ gb180)) ∧ k_ ≠ gb187)) (w62_) (fun k_ hk_ => (⟨hk_, hk_.1.2.2⟩ : _ ∧ k_ ≠ gb180))) hk (fun _ h => h.2)) (fun _ h => h.1)); replace BK187 := Az_ (KeepBut.blk hk (g' := gb187) (o := .cells #[.slice Ao11 t181.length co11, .int .i64 t184] 26 (0, 0)) (by exact ukz_ BK187.out) NB187_180.out (by simp)); replace HB := Az_ (hb); replace HI180 := Az_ (hi); (try clear hb); (try clear hk); (try clear hi); have hcz17_0 : w16.cell? ⟨gb187, 0, none⟩ = some (.slice Ao11 t181.length co11) := (blk_cell BK187.out 0).trans rfl; have hcz17_1 : w16.cell? ⟨gb187, 1, none⟩ = some (.int .i64 t184) := (blk_cell BK187.out 1).trans rfl; have hfz17_0 := blk_frozen BK187.out 0; have hfz17_1 := blk_frozen BK187.out 1) | ((with_reducible refine gate_callee (f := 33) rfl ?_); refine goesL_ (some 24) rfl rfl Tryz.func33 (w94_) rfl #[.pointer (some ⟨gb180, 0, none⟩), .agg #[.slice Ao11 t181.length co11, .int .i64 t184]] rfl maz_ ?_; (with_reducible refine (spec_l1Cur_volume.calls gb180 l0 t192 t193 _ _ t181 t184 t194 t195 t196 w _ ?side1 ?side2 ?side3 ?side4 ?side5 A5.out).mono ?_); (case side1 => repeat (first | (with_reducible first | exact HI180.out | apply IsS54.alloc | apply IsS54.drewN | apply IsS54.drew | apply IsS54.set_1 | apply IsS54.set_2 | refine IsS54.far ?_ NB180_179.out _ | refine IsS54.far ?_ NB180_187.out _) | exact HI180.out)); (case side2 => repeat (first | (with_reducible first | exact HB.out | apply baz_ | apply bnz_ | apply bdz_ | refine bsz_ ?_ (IsS54.ge HI180.out) | refine bsz_ ?_ GE179.out | refine bsz_ ?_ GE187.out) | exact HB.out)); (case side3 => exact ucz_ ((Kd.V_reads' HO183.out).2.2)); (case side4 => exact (Kd.V_reads' HO183.out).2.1); (case side5 => exact vfarz_ HO183.out (fun k_ hk_ => hk_.1.2.2)); rintro e w18 ⟨rfl, hi, hb, hk⟩; refine ⟨_, rfl, ?_⟩; replace BK179 := Az_ (KeepBut.blk hk (g' := gb179) (o := .cells #[.slice none 0 0, .int .i64 0] 26 (0, 0)) (by exact ukz_ BK179.out) NB179_180.out (by simp)); replace HO183 := Az_ (Kd.V_mono (Kd.V_keep (Kd.V_mono (ok := fun k_ => ((((w.heap.size ≤ k_)) ∧ (k_ ≠ gb179 ∧ k_ ≠ gb180)) ∧ k_ ≠ gb187)) (w62_) (fun k_ hk_ => (⟨hk_, hk_.1.2.2⟩ : _ ∧ k_ ≠ gb180))) hk (fun _ h => h.2)) (fun _ h => h.1)); replace BK187 := Az_ (KeepBut.blk hk (g' := gb187) (o := .cells #[.slice Ao11 t181.length co11, .int .i64 t184] 26 (0, 0)) (by exact ukz_ BK187.out) NB187_180.out (by simp)); replace HB := Az_ (hb); replace HI180 := Az_ (hi); (try clear hb); (try clear hk); (try clear hi)))
 have n0_ := Az_ (Kd.V_drew HO183.out)
 have n1_ := Az_ (kdz_ BK179.out)
 have n2_ := Az_ (kdz_ BK187.out)
 have n3_ := Az_ (IsS54.drew HI180.out)
 have n4_ := Az_ (bdz_ HB.out)
 clear HO183 BK179 BK187 HI180 HB
 have HO183 := n0_
 have BK179 := n1_
 have BK187 := n2_
 have HI180 := n3_
 have HB := n4_
 clear n0_ n1_ n2_ n3_ n4_
 refine start_ (n := 11) (S := fun w' => w'.cell? ⟨gb187, 0, none⟩ = some (.slice Ao11 t181.length co11) ∧ w'.cell? ⟨gb187, 1, none⟩ = some (.int .i64 t184)) (ds := []) #[false, false, false, false, false, false, false, false, false, false, false] (w94_) rfl rfl ⟨(blk_cell BK187.out 0).trans rfl, (blk_cell BK187.out 1).trans rfl⟩ (fun hHeld => ?_); refine with_tabW spec_DrawWormEats.tab6 spec_DrawWormEats.bits6 (fun HT_ HW_ => ?_)
 generalize w18.drew = w19 at HO183 BK179 BK187 HI180 HB hHeld ⊢
 refine pz_ 1 26 [0,1,1,9] ?_
 refine pz_ 2 27 [0,1,2,8] ?_
 refine pz_ 3 28 [0,1,3,7] ?_
 refine pz_ 4 29 [0,1,4,6] ?_
 refine tz2_ 0 25 [5,6] ?_
 refine one_ (i := 5) (N := some 30) (mz_ [6,5]) rfl rfl (one_of HT_.out (w94_)) (by decide) (fun K hK => ?_)
 refine goes_ Tryz.func34 (w94_) rfl #[.pointer (some ⟨gb180, 0, none⟩), .int .i64 2] (by rfl) rfl rfl maz_ ?_
 with_reducible refine (spec_l1Cur_one.calls gb180 l0 t195 t196 2 t197 t198 t199 w _ ?side1 ?side2 A6.out).mono ?_
 (case side1 => repeat (first | (with_reducible first | exact HI180.out | apply IsS54.alloc | apply IsS54.drewN | apply IsS54.drew | apply IsS54.set_1 | apply IsS54.set_2 | refine IsS54.far ?_ NB180_179.out _ | refine IsS54.far ?_ NB180_187.out _) | exact HI180.out))
 (case side2 => repeat (first | (with_reducible first | exact HB.out | apply baz_ | apply bnz_ | apply bdz_ | refine bsz_ ?_ (IsS54.ge HI180.out) | refine bsz_ ?_ GE179.out | refine bsz_ ?_ GE187.out) | exact HB.out))
 rintro e w20 ⟨rfl, hi, hb, hk⟩
 refine ⟨_, rfl, ?_⟩
 have n0_ := Az_ (KeepBut.blk hk (g' := gb179) (o := .cells #[.slice none 0 0, .int .i64 0] 26 (0, 0)) (by exact ukz_ BK179.out) NB179_180.out (by simp))
 have n1_ := Az_ (Kd.V_mono (Kd.V_keep (Kd.V_mono (ok := fun k_ => ((((w.heap.size ≤ k_)) ∧ (k_ ≠ gb179 ∧ k_ ≠ gb180)) ∧ k_ ≠ gb187)) (w62_) (fun k_ hk_ => (⟨hk_, hk_.1.2.2⟩ : _ ∧ k_ ≠ gb180))) hk (fun _ h => h.2)) (fun _ h => h.1))
 have n2_ := Az_ (KeepBut.blk hk (g' := gb187) (o := .cells #[.slice Ao11 t181.length co11, .int .i64 t184] 26 (0, 0)) (by exact ukz_ BK187.out) NB187_180.out (by simp))
 have n3_ := Az_ (hb)
 have n4_ := Az_ (hi)
 clear BK179 HO183 BK187 HB HI180
 have BK179 := n0_
 have HO183 := n1_
 have BK187 := n2_
 have HB := n3_
 have HI180 := n4_
 clear n0_ n1_ n2_ n3_ n4_
 clear hb
 clear hk
 clear hi
 refine hK.out _ _ ⟨(blk_cell BK187.out 0).trans rfl, (blk_cell BK187.out 1).trans rfl⟩ (fun hHeld => ?_)
 clear hK K
 refine nz_ 30 ?_
 refine one_ (i := 6) (N := none) (mz_ [7,4]) rfl rfl (one_of HT_.out (w94_)) (by decide) (fun K hK => ?_)
 have hs21 : w20.cell? ⟨gb179, 0, none⟩ = some (.slice none 0 0) := (blk_cell BK179.out 0).trans rfl
 have hfs21 := blk_frozen BK179.out 0
 have hns21_1 := NB187_179.out
 have hms21_1 := NB179_187.out
 have hs22 : w20.cell? ⟨gb179, 1, none⟩ = some (.int .i64 0) := (blk_cell BK179.out 1).trans rfl
 have hfs22 := blk_frozen BK179.out 1
 have hns22_1 := NB187_179.out
 have hms22_1 := NB179_187.out
 refine skip_ (w1 := ?_) (by rfl) rfl ?_ ?_
 rotate_left
 ·go_simp
  rfl
 refine hK.out _ _ ⟨((cell_far (p := ⟨gb179, _, none⟩) NB187_179.out _).trans (((cell_far (p := ⟨gb179, _, none⟩) NB187_179.out _).trans (hHeld.1)))), ((cell_far (p := ⟨gb179, _, none⟩) NB187_179.out _).trans (((cell_far (p := ⟨gb179, _, none⟩) NB187_179.out _).trans (hHeld.2))))⟩ (fun hHeld => ?_)
 clear hK K
 refine pz_ 7 3 [8,3] ?_
 refine pz_ 8 4 [9,2] ?_
 refine pz_ 9 5 [10,1] ?_
 refine pz_ 10 6 [11] ?_
 refine done_ (done_of HT_.out (w94_)) ?_
 try go_wp2
 refine bodyPost_ret (results_list (rs := [.cell 2 26, .tmp 3, .tmp 4, .tmp 5, .tmp 6]) rfl (by simp) (.cell gb179 26 #[.slice Ao11 t181.length co11, .int .i64 t184] (0, 0) _ rfl (by (with_reducible repeat (first | refine knz_ ?_ _ | refine kdz_ ?_ | refine kaz_ ?_ _)); refine blk_put (cs := #[.slice Ao11 t181.length co11, .int .i64 0]) ?_ 1 _ rfl; (with_reducible repeat (first | refine knz_ ?_ _ | refine kdz_ ?_ | refine kaz_ ?_ _)); refine blk_put (cs := #[.slice none 0 0, .int .i64 0]) ?_ 0 _ rfl; (with_reducible repeat (first | refine knz_ ?_ _ | refine kdz_ ?_ | refine kaz_ ?_ _)); exact BK179.out) Tryz.underlying26 rfl (w94_) (.tmp (.tmp (.tmp (.tmp .nil)))))) rfl ?_
 exact ⟨_, w74_, by (with_reducible repeat (first | apply Kd.V_alloc | apply Kd.V_drewN | apply Kd.V_drew)); exact Kd.V_mono (Kd.V_far (p := ⟨gb179, 1, none⟩) (Kd.V_far (p := ⟨gb179, 0, none⟩) (Kd.V_mono HO183.out (fun k_ hk => (⟨hk, hk.1.2.1⟩ : _ ∧ k_ ≠ gb179))) (fun _ hk => hk.2) (.slice Ao11 t181.length co11)) (fun _ hk => hk.2) (.int .i64 t184)) (fun _ hk => hk.1.1.1), by repeat (first | (with_reducible first | exact HB.out | apply baz_ | apply bnz_ | apply bdz_ | refine bsz_ ?_ (IsS54.ge HI180.out) | refine bsz_ ?_ GE179.out | refine bsz_ ?_ GE187.out) | exact HB.out)⟩

def impl_within.f (a0 : Int) (a1 : Int) (a2 : Int) : Option (Bool) := if a0 ≥ a1 then (some (decide (a0 ≤ a2))) else (some false)
set_option maxHeartbeats 8000000 in
set_option maxRecDepth 100000 in
theorem impl_within.calls (a0 : Int) (a1 : Int) (a2 : Int) (r : Bool) (w : World) (h : impl_within.f a0 a1 a2 = some r) :
  Calls Tryz.prog 47 #[.int .i64 a0, .int .i64 a1, .int .i64 a2] w fun e w' => e = .returned (.bool r) ∧ Drawn0 w w' := by
 have H : (if a0 ≥ a1 then (some (decide (a0 ≤ a2))) else (some false)) = some r := h
 clear h
 by_cases c4 : a0 ≥ a1
 ·rw [if_pos c4] at H
  have c4b0 := decide_eq_true c4
  clear c4
  obtain rfl := Option.some.inj H
  go_enter Tryz.func47, Tryz.ntmps47
  go_wp2
  go_ret
  exact ⟨w79_, w77_⟩
 ·rw [if_neg c4] at H
  have c4b0 := decide_eq_false c4
  clear c4
  obtain rfl := Option.some.inj H
  go_enter Tryz.func47, Tryz.ntmps47
  go_wp2
  go_ret
  exact ⟨w79_, w77_⟩

def impl_allWithin.l0 : Nat → Int → Int → List Int → Int → Int → Option (Bool)
 | 0, _, _, _, _, _ => none
 | k + 1, x1, x2, x9, x10, x11 => if x11 < x10 then (if 0 ≤ x11 then (if x11 < (x9.length : Int) then ((impl_within.f (rd x9 x11) x1 x2).bind fun t201 => (if t201 = true then (impl_allWithin.l0 k x1 x2 x9 x10 (wrap64 (x11 + 1))) else (some false))) else (none)) else (none)) else (some true)
def impl_allWithin.f (k : Nat) (l0 : List Int) (a1 : Int) (a2 : Int) : Option (Bool) := impl_allWithin.l0 k a1 a2 l0 (l0.length : Int) 0
set_option maxHeartbeats 8000000 in
set_option maxRecDepth 100000 in
theorem impl_allWithin.calls (k : Nat) (A0 : Option Addr) (c0 : Nat) (l0 : List Int) (a1 : Int) (a2 : Int) (r : Bool) (w : World) (hr0 : Kd.C (Kd.int .i64) w A0 l0.length l0) (hc0 : l0.length ≤ c0) (h : impl_allWithin.f k l0 a1 a2 = some r) :
  Calls Tryz.prog 48 #[.slice A0 l0.length c0, .int .i64 a1, .int .i64 a2] w fun e w' => e = .returned (.bool r) ∧ Drawn0 w w' := by
 have HR0 := Az_ hr0
 have HC0 := Az_ hc0
 clear hr0 hc0
 have H : (impl_allWithin.l0 k a1 a2 l0 (l0.length : Int) 0) = some r := h
 clear h
 have H' := Az_ H
 clear H
 go_enter Tryz.func48, Tryz.ntmps48
 go_wp2
 go_loopg [11] k (fun kq v11 w' => ∃ (x11_1 : Int), v11 = .int .i64 x11_1 ∧ Aside0 (impl_allWithin.l0 kq a1 a2 l0 (l0.length : Int) x11_1 = some r) ∧ Aside0 (kq ≤ k) ∧ Drawn0 w w')
 case atStart => exact ⟨(0), qaz_, H', ⟨Nat.le_refl _⟩, w77_⟩
 case round =>
  clear H'
  obtain ⟨x11_1, rfl, HA, HK1, ⟨m1, rfl⟩⟩ := hrel
  cases gk with
  | zero => exact absurd HA.out (by simp [impl_allWithin.l0])
  | succ k1 =>
   have H := HA.out
   clear HA
   simp only [impl_allWithin.l0] at H
   by_cases c4 : x11_1 < (l0.length : Int)
   ·rw [if_pos c4] at H
    have c4b0 := decide_eq_true c4
    clear c4
    by_cases c5 : 0 ≤ x11_1; rotate_left
    ·rw [if_neg c5] at H
     exact absurd H (by simp)
    rw [if_pos c5] at H
    have c5b0 := decide_eq_true c5
    clear c5
    by_cases c6 : x11_1 < (l0.length : Int); rotate_left
    ·rw [if_neg c6] at H
     exact absurd H (by simp)
    rw [if_pos c6] at H
    have c6b0 := decide_eq_true c6
    clear c6
    replace H := bqz_ H; obtain ⟨t201, A7, H⟩ := H
    replace H : (if t201 = true then (impl_allWithin.l0 k1 a1 a2 l0 (l0.length : Int) (wrap64 (x11_1 + 1))) else (some false)) = some r := H
    by_cases c8 : t201 = true; rotate_left
    ·replace c8 := Bool.eq_false_iff.mpr c8
     subst c8
     rw [if_neg nfz_] at H
     obtain rfl := Option.some.inj H
     have p200 : 0 ≤ (x11_1 : Int) := od_
     have q200 : x11_1 < (l0.length : Int) := od_
     obtain ⟨ad200, e200, hx200_0⟩ := Kd.at_int HR0.out x11_1 p200 q200
     cases e200
     replace p200 := eq_true p200
     replace q200 := eq_true q200
     go_wp2_with (((with_reducible refine gate_callee (f := 47) rfl ?_); refine goesL_ (some 18) rfl rfl Tryz.func47 (w94_) rfl #[.int .i64 (rd l0 x11_1), .int .i64 a1, .int .i64 a2] rfl maz_ ?_; (with_reducible refine (impl_within.calls (rd l0 x11_1) a1 a2 false _ A7.out).mono ?_); rintro e w' ⟨rfl, ⟨nd, rfl⟩⟩; refine ⟨_, rfl, ?_⟩))
     go_ret
     exact ⟨w79_, w77_⟩
    subst c8
    rw [if_pos rfl] at H
    have H' := Az_ H
    clear H
    have p200 : 0 ≤ (x11_1 : Int) := od_
    have q200 : x11_1 < (l0.length : Int) := od_
    obtain ⟨ad200, e200, hx200_0⟩ := Kd.at_int HR0.out x11_1 p200 q200
    cases e200
    replace p200 := eq_true p200
    replace q200 := eq_true q200
    go_wp2_with (((with_reducible refine gate_callee (f := 47) rfl ?_); refine goesL_ (some 18) rfl rfl Tryz.func47 (w94_) rfl #[.int .i64 (rd l0 x11_1), .int .i64 a1, .int .i64 a2] rfl maz_ ?_; (with_reducible refine (impl_within.calls (rd l0 x11_1) a1 a2 true _ A7.out).mono ?_); rintro e w' ⟨rfl, ⟨nd, rfl⟩⟩; refine ⟨_, rfl, ?_⟩))
    go_roundg k1
    case measure => have := HK1.out; omega
    case rel => exact ⟨(wrap64 (x11_1 + 1)), qaz_, H', ⟨w85_⟩, w77_⟩
   ·rw [if_neg c4] at H
    have c4b0 := decide_eq_false c4
    clear c4
    obtain rfl := Option.some.inj H
    go_wp2
    go_ret
    exact ⟨w79_, w77_⟩

def impl_IsShelf.f (k : Nat) (l0_0 : List Int) (a0_1 : Int) : Option (Bool) := (impl_within.f (l0_0.length : Int) 1 8).bind fun t203 => (if t203 = true then ((impl_allWithin.f k l0_0 1 100).bind fun t204 => (if t204 = true then ((impl_within.f a0_1 0 10).bind fun t205 => (some t205)) else (some false))) else (some false))
set_option maxHeartbeats 8000000 in
set_option maxRecDepth 100000 in
theorem impl_IsShelf.calls (k : Nat) (A0_0 : Option Addr) (c0_0 : Nat) (l0_0 : List Int) (a0_1 : Int) (r : Bool) (w : World) (hr0_0 : Kd.C (Kd.int .i64) w A0_0 l0_0.length l0_0) (hc0_0 : l0_0.length ≤ c0_0) (h : impl_IsShelf.f k l0_0 a0_1 = some r) :
  Calls Tryz.prog 19 #[.agg #[.slice A0_0 l0_0.length c0_0, .int .i64 a0_1]] w fun e w' => e = .returned (.bool r) ∧ Below w.heap.size w w' := by
 have hu26 := Tryz.underlying26
 have HR0_0 := Az_ hr0_0
 have HC0_0 := Az_ hc0_0
 clear hr0_0 hc0_0
 have HB := Az_ (Below.refl w.heap.size w)
 have H : ((impl_within.f (l0_0.length : Int) 1 8).bind fun t203 => (if t203 = true then ((impl_allWithin.f k l0_0 1 100).bind fun t204 => (if t204 = true then ((impl_within.f a0_1 0 10).bind fun t205 => (some t205)) else (some false))) else (some false))) = some r := h
 clear h
 replace H := bqz_ H; obtain ⟨t203, A2, H⟩ := H
 replace H : (if t203 = true then ((impl_allWithin.f k l0_0 1 100).bind fun t204 => (if t204 = true then ((impl_within.f a0_1 0 10).bind fun t205 => (some t205)) else (some false))) else (some false)) = some r := H
 by_cases c3 : t203 = true
 ·subst c3
  rw [if_pos rfl] at H
  replace H := bqz_ H; obtain ⟨t204, A4, H⟩ := H
  replace H : (if t204 = true then ((impl_within.f a0_1 0 10).bind fun t205 => (some t205)) else (some false)) = some r := H
  by_cases c5 : t204 = true; rotate_left
  ·replace c5 := Bool.eq_false_iff.mpr c5
   subst c5
   rw [if_neg nfz_] at H
   obtain rfl := Option.some.inj H
   go_enter Tryz.func19, Tryz.ntmps19
   go_wp2_with (first | ((with_reducible refine gate_dst (N := 1) rfl ?_); refine box_event ?hg (N := 1) ?hd (cs := #[.slice A0_0 l0_0.length c0_0, .int .i64 a0_1]) (t := 26) ?hr ?_; (case hd => rfl); (case hg => rfl); (case hr => first | (go_simp; done) | (go_simp; rfl)); intro gb202 hg w9 hbox hb; have BK202 := Az_ (hbox); have GW202 := Az_ ((by rw [hg]; exact (below_size (ubz_ HB.out)) : w.heap.size ≤ gb202)); have GE202 := Az_ ((by rw [hg]; exact (below_size (ubz_ HB.out)) : w.heap.size ≤ gb202)); replace HB := Az_ (btz_ (ubz_ HB.out) hb); clear hb hbox hg; have hcz10_0 : w9.cell? ⟨gb202, 0, none⟩ = some (.slice A0_0 l0_0.length c0_0) := (blk_cell BK202.out 0).trans rfl; have hcz10_1 : w9.cell? ⟨gb202, 1, none⟩ = some (.int .i64 a0_1) := (blk_cell BK202.out 1).trans rfl; have hfz10_0 := blk_frozen BK202.out 0; have hfz10_1 := blk_frozen BK202.out 1) | ((with_reducible refine gate_callee (f := 47) rfl ?_); refine goesL_ (some 6) rfl rfl Tryz.func47 (w94_) rfl #[.int .i64 (l0_0.length : Int), .int .i64 1, .int .i64 8] rfl maz_ ?_; (with_reducible refine (impl_within.calls (l0_0.length : Int) 1 8 true _ A2.out).mono ?_); rintro e w' ⟨rfl, ⟨nd, rfl⟩⟩; refine ⟨_, rfl, ?_⟩) | (go_at_call 48; (with_reducible refine (impl_allWithin.calls k _ _ l0_0 1 100 false _ ?side1 ?side2 A4.out).mono ?_); (case side1 => repeat (first | exact (Kd.C_below HR0_0.out (w52_)) | (with_reducible refine Kd.C_alloc ?_ _) | (with_reducible refine Kd.C_drewN ?_ _) | (with_reducible refine Kd.C_drew ?_))); (case side2 => exact HC0_0.out); rintro e w' ⟨rfl, ⟨nd, rfl⟩⟩))
   go_ret
   exact ⟨w74_, w52_⟩
  subst c5
  rw [if_pos rfl] at H
  replace H := bqz_ H; obtain ⟨t205, A6, H⟩ := H
  replace H : (some t205) = some r := H
  obtain rfl := Option.some.inj H
  go_enter Tryz.func19, Tryz.ntmps19
  go_wp2_with (first | ((with_reducible refine gate_dst (N := 1) rfl ?_); refine box_event ?hg (N := 1) ?hd (cs := #[.slice A0_0 l0_0.length c0_0, .int .i64 a0_1]) (t := 26) ?hr ?_; (case hd => rfl); (case hg => rfl); (case hr => first | (go_simp; done) | (go_simp; rfl)); intro gb202 hg w7 hbox hb; have BK202 := Az_ (hbox); have GW202 := Az_ ((by rw [hg]; exact (below_size (ubz_ HB.out)) : w.heap.size ≤ gb202)); have GE202 := Az_ ((by rw [hg]; exact (below_size (ubz_ HB.out)) : w.heap.size ≤ gb202)); replace HB := Az_ (btz_ (ubz_ HB.out) hb); clear hb hbox hg; have hcz8_0 : w7.cell? ⟨gb202, 0, none⟩ = some (.slice A0_0 l0_0.length c0_0) := (blk_cell BK202.out 0).trans rfl; have hcz8_1 : w7.cell? ⟨gb202, 1, none⟩ = some (.int .i64 a0_1) := (blk_cell BK202.out 1).trans rfl; have hfz8_0 := blk_frozen BK202.out 0; have hfz8_1 := blk_frozen BK202.out 1) | ((with_reducible refine gate_callee (f := 47) rfl ?_); refine goesL_ (some 6) rfl rfl Tryz.func47 (w94_) rfl #[.int .i64 (l0_0.length : Int), .int .i64 1, .int .i64 8] rfl maz_ ?_; (with_reducible refine (impl_within.calls (l0_0.length : Int) 1 8 true _ A2.out).mono ?_); rintro e w' ⟨rfl, ⟨nd, rfl⟩⟩; refine ⟨_, rfl, ?_⟩) | (go_at_call 48; (with_reducible refine (impl_allWithin.calls k _ _ l0_0 1 100 true _ ?side1 ?side2 A4.out).mono ?_); (case side1 => repeat (first | exact (Kd.C_below HR0_0.out (w52_)) | (with_reducible refine Kd.C_alloc ?_ _) | (with_reducible refine Kd.C_drewN ?_ _) | (with_reducible refine Kd.C_drew ?_))); (case side2 => exact HC0_0.out); rintro e w' ⟨rfl, ⟨nd, rfl⟩⟩) | (go_at_call 47; (with_reducible refine (impl_within.calls a0_1 0 10 t205 _ A6.out).mono ?_); rintro e w' ⟨rfl, ⟨nd, rfl⟩⟩))
  go_ret
  exact ⟨w74_, w52_⟩
 ·replace c3 := Bool.eq_false_iff.mpr c3
  subst c3
  rw [if_neg nfz_] at H
  obtain rfl := Option.some.inj H
  go_enter Tryz.func19, Tryz.ntmps19
  go_wp2_with (first | ((with_reducible refine gate_dst (N := 1) rfl ?_); refine box_event ?hg (N := 1) ?hd (cs := #[.slice A0_0 l0_0.length c0_0, .int .i64 a0_1]) (t := 26) ?hr ?_; (case hd => rfl); (case hg => rfl); (case hr => first | (go_simp; done) | (go_simp; rfl)); intro gb202 hg w11 hbox hb; have BK202 := Az_ (hbox); have GW202 := Az_ ((by rw [hg]; exact (below_size (ubz_ HB.out)) : w.heap.size ≤ gb202)); have GE202 := Az_ ((by rw [hg]; exact (below_size (ubz_ HB.out)) : w.heap.size ≤ gb202)); replace HB := Az_ (btz_ (ubz_ HB.out) hb); clear hb hbox hg; have hcz12_0 : w11.cell? ⟨gb202, 0, none⟩ = some (.slice A0_0 l0_0.length c0_0) := (blk_cell BK202.out 0).trans rfl; have hcz12_1 : w11.cell? ⟨gb202, 1, none⟩ = some (.int .i64 a0_1) := (blk_cell BK202.out 1).trans rfl; have hfz12_0 := blk_frozen BK202.out 0; have hfz12_1 := blk_frozen BK202.out 1) | ((with_reducible refine gate_callee (f := 47) rfl ?_); refine goesL_ (some 6) rfl rfl Tryz.func47 (w94_) rfl #[.int .i64 (l0_0.length : Int), .int .i64 1, .int .i64 8] rfl maz_ ?_; (with_reducible refine (impl_within.calls (l0_0.length : Int) 1 8 false _ A2.out).mono ?_); rintro e w' ⟨rfl, ⟨nd, rfl⟩⟩; refine ⟨_, rfl, ?_⟩))
  go_ret
  exact ⟨w74_, w52_⟩

def impl_Shelf_has.f (k : Nat) (l0_0 : List Int) (a0_1 : Int) (l1 : List Int) : Option (Bool) := (impl_allWithin.f k l1 0 (wrap64 ((l0_0.length : Int) - 1))).bind fun t207 => (some t207)
set_option maxHeartbeats 8000000 in
set_option maxRecDepth 100000 in
theorem impl_Shelf_has.calls (k : Nat) (A0_0 : Option Addr) (c0_0 : Nat) (l0_0 : List Int) (a0_1 : Int) (A1 : Option Addr) (c1 : Nat) (l1 : List Int) (r : Bool) (w : World) (hr0_0 : Kd.C (Kd.int .i64) w A0_0 l0_0.length l0_0) (hc0_0 : l0_0.length ≤ c0_0) (hr1 : Kd.C (Kd.int .i64) w A1 l1.length l1) (hc1 : l1.length ≤ c1) (h : impl_Shelf_has.f k l0_0 a0_1 l1 = some r) :
  Calls Tryz.prog 35 #[.agg #[.slice A0_0 l0_0.length c0_0, .int .i64 a0_1], .slice A1 l1.length c1] w fun e w' => e = .returned (.bool r) ∧ Below w.heap.size w w' := by
 have hu26 := Tryz.underlying26
 have HR0_0 := Az_ hr0_0
 have HC0_0 := Az_ hc0_0
 clear hr0_0 hc0_0
 have HR1 := Az_ hr1
 have HC1 := Az_ hc1
 clear hr1 hc1
 have HB := Az_ (Below.refl w.heap.size w)
 have H : ((impl_allWithin.f k l1 0 (wrap64 ((l0_0.length : Int) - 1))).bind fun t207 => (some t207)) = some r := h
 clear h
 replace H := bqz_ H; obtain ⟨t207, A3, H⟩ := H
 replace H : (some t207) = some r := H
 obtain rfl := Option.some.inj H
 go_enter Tryz.func35, Tryz.ntmps35
 go_wp2_with (first | ((with_reducible refine gate_dst (N := 2) rfl ?_); refine box_event ?hg (N := 2) ?hd (cs := #[.slice A0_0 l0_0.length c0_0, .int .i64 a0_1]) (t := 26) ?hr ?_; (case hd => rfl); (case hg => rfl); (case hr => first | (go_simp; done) | (go_simp; rfl)); intro gb206 hg w4 hbox hb; have BK206 := Az_ (hbox); have GW206 := Az_ ((by rw [hg]; exact (below_size (ubz_ HB.out)) : w.heap.size ≤ gb206)); have GE206 := Az_ ((by rw [hg]; exact (below_size (ubz_ HB.out)) : w.heap.size ≤ gb206)); replace HB := Az_ (btz_ (ubz_ HB.out) hb); clear hb hbox hg; have hcz5_0 : w4.cell? ⟨gb206, 0, none⟩ = some (.slice A0_0 l0_0.length c0_0) := (blk_cell BK206.out 0).trans rfl; have hcz5_1 : w4.cell? ⟨gb206, 1, none⟩ = some (.int .i64 a0_1) := (blk_cell BK206.out 1).trans rfl; have hfz5_0 := blk_frozen BK206.out 0; have hfz5_1 := blk_frozen BK206.out 1) | ((with_reducible refine gate_callee (f := 48) rfl ?_); refine goesL_ (some 10) rfl rfl Tryz.func48 (w94_) rfl #[.slice A1 l1.length c1, .int .i64 0, .int .i64 (wrap64 ((l0_0.length : Int) - 1))] rfl maz_ ?_; (with_reducible refine (impl_allWithin.calls k _ _ l1 0 (wrap64 ((l0_0.length : Int) - 1)) t207 _ ?side1 ?side2 A3.out).mono ?_); (case side1 => exact ucz_ ((Kd.C_below HR1.out HB.out))); (case side2 => first | exact HC1.out | (rw [List.length_take]; have := HC1.out; omega)); rintro e w' ⟨rfl, ⟨nd, rfl⟩⟩; refine ⟨_, rfl, ?_⟩))
 go_ret
 exact ⟨w74_, w52_⟩

def impl_Shelf_width.f (l0_0 : List Int) (a0_1 : Int) (a1 : Int) : Option (Int) := if 0 ≤ a1 then (if a1 < (l0_0.length : Int) then (some (wrap64 ((rd l0_0 a1) + (wrap64 (2 * a0_1))))) else (none)) else (none)
set_option maxHeartbeats 8000000 in
set_option maxRecDepth 100000 in
theorem impl_Shelf_width.calls (A0_0 : Option Addr) (c0_0 : Nat) (l0_0 : List Int) (a0_1 : Int) (a1 : Int) (r : Int) (w : World) (hr0_0 : Kd.C (Kd.int .i64) w A0_0 l0_0.length l0_0) (hc0_0 : l0_0.length ≤ c0_0) (h : impl_Shelf_width.f l0_0 a0_1 a1 = some r) :
  Calls Tryz.prog 63 #[.agg #[.slice A0_0 l0_0.length c0_0, .int .i64 a0_1], .int .i64 a1] w fun e w' => e = .returned (.int .i64 r) ∧ Below w.heap.size w w' := by
 have hu26 := Tryz.underlying26
 have HR0_0 := Az_ hr0_0
 have HC0_0 := Az_ hc0_0
 clear hr0_0 hc0_0
 have HB := Az_ (Below.refl w.heap.size w)
 have H : (if 0 ≤ a1 then (if a1 < (l0_0.length : Int) then (some (wrap64 ((rd l0_0 a1) + (wrap64 (2 * a0_1))))) else (none)) else (none)) = some r := h
 clear h
 by_cases c3 : 0 ≤ a1
 ·rw [if_pos c3] at H
  have c3b0 := decide_eq_true c3
  clear c3
  by_cases c4 : a1 < (l0_0.length : Int); rotate_left
  ·rw [if_neg c4] at H
   exact absurd H (by simp)
  rw [if_pos c4] at H
  have c4b0 := decide_eq_true c4
  clear c4
  obtain rfl := Option.some.inj H
  go_enter Tryz.func63, Tryz.ntmps63
  go_wp2_with (((with_reducible refine gate_dst (N := 2) rfl ?_); refine box_event ?hg (N := 2) ?hd (cs := #[.slice A0_0 l0_0.length c0_0, .int .i64 a0_1]) (t := 26) ?hr ?_; (case hd => rfl); (case hg => rfl); (case hr => first | (go_simp; done) | (go_simp; rfl)); intro gb208 hg w5 hbox hb; have BK208 := Az_ (hbox); have GW208 := Az_ ((by rw [hg]; exact (below_size (ubz_ HB.out)) : w.heap.size ≤ gb208)); have GE208 := Az_ ((by rw [hg]; exact (below_size (ubz_ HB.out)) : w.heap.size ≤ gb208)); replace HB := Az_ (btz_ (ubz_ HB.out) hb); clear hb hbox hg; have hcz6_0 : w5.cell? ⟨gb208, 0, none⟩ = some (.slice A0_0 l0_0.length c0_0) := (blk_cell BK208.out 0).trans rfl; have hcz6_1 : w5.cell? ⟨gb208, 1, none⟩ = some (.int .i64 a0_1) := (blk_cell BK208.out 1).trans rfl; have hfz6_0 := blk_frozen BK208.out 0; have hfz6_1 := blk_frozen BK208.out 1; have p209 : 0 ≤ (a1 : Int) := od_; have q209 : a1 < (l0_0.length : Int) := od_; obtain ⟨ad209, e209, hx209_0⟩ := Kd.at_int HR0_0.out a1 p209 q209; cases e209; replace hx209_0 := hbz_ HB.out hx209_0; replace p209 := eq_true p209; replace q209 := eq_true q209))
  repeat (go_quiet (fail); try go_wp2)
  go_ret
  exact ⟨w74_, w52_⟩
 ·rw [if_neg c3] at H
  exact absurd H (by simp)


def impl_Shelf_left.l0 : Nat → Int → Int → Int → List Int → Int → Option (Int)
 | 0, _, _, _, _, _ => none
 | k + 1, x5, x7, x8, x211000, x211001 => if x8 < x7 then ((impl_Shelf_width.f x211000 x211001 x8).bind fun t211 => (impl_Shelf_left.l0 k (wrap64 (x5 + t211)) x7 (wrap64 (x8 + 1)) x211000 x211001)) else (some x5)
def impl_Shelf_left.f (k : Nat) (l0_0 : List Int) (a0_1 : Int) (a1 : Int) : Option (Int) := impl_Shelf_left.l0 k 0 a1 0 l0_0 a0_1
set_option maxHeartbeats 8000000 in
set_option maxRecDepth 100000 in
theorem impl_Shelf_left.calls (k : Nat) (A0_0 : Option Addr) (c0_0 : Nat) (l0_0 : List Int) (a0_1 : Int) (a1 : Int) (r : Int) (w : World) (hr0_0 : Kd.C (Kd.int .i64) w A0_0 l0_0.length l0_0) (hc0_0 : l0_0.length ≤ c0_0) (h : impl_Shelf_left.f k l0_0 a0_1 a1 = some r) :
  Calls Tryz.prog 42 #[.agg #[.slice A0_0 l0_0.length c0_0, .int .i64 a0_1], .int .i64 a1] w fun e w' => e = .returned (.int .i64 r) ∧ Below w.heap.size w w' := by
 have hu26 := Tryz.underlying26
 have HR0_0 := Az_ hr0_0
 have HC0_0 := Az_ hc0_0
 clear hr0_0 hc0_0
 have HB := Az_ (Below.refl w.heap.size w)
 have H : (impl_Shelf_left.l0 k 0 a1 0 l0_0 a0_1) = some r := h
 clear h
 have H' := Az_ H
 clear H
 go_enter Tryz.func42, Tryz.ntmps42
 go_wp2_with (((with_reducible refine gate_dst (N := 2) rfl ?_); refine box_event ?hg (N := 2) ?hd (cs := #[.slice A0_0 l0_0.length c0_0, .int .i64 a0_1]) (t := 26) ?hr ?_; (case hd => rfl); (case hg => rfl); (case hr => first | (go_simp; done) | (go_simp; rfl)); intro gb210 hg w3 hbox hb; have BK210 := Az_ (hbox); have GW210 := Az_ ((by rw [hg]; exact (below_size (ubz_ HB.out)) : w.heap.size ≤ gb210)); have GE210 := Az_ ((by rw [hg]; exact (below_size (ubz_ HB.out)) : w.heap.size ≤ gb210)); replace HB := Az_ (btz_ (ubz_ HB.out) hb); clear hb hbox hg))
 go_loopg [5, 8] k (fun kq v5 v8 w' => ∃ (x5_1 : Int) (x8_1 : Int), v5 = .int .i64 x5_1 ∧ v8 = .int .i64 x8_1 ∧ Aside0 (impl_Shelf_left.l0 kq x5_1 a1 x8_1 l0_0 a0_1 = some r) ∧ Aside0 (kq ≤ k) ∧ Aside0 (w'.heap[gb210]? = some (.cells #[(.slice A0_0 l0_0.length c0_0), .int .i64 a0_1] 26 (0, 0))) ∧ Aside0 (Below w.heap.size w w'))
 case atStart => exact ⟨(0), (0), qaz_, qaz_, H', ⟨Nat.le_refl _⟩, ⟨by (with_reducible repeat (first | refine knz_ ?_ _ | refine kdz_ ?_ | refine kaz_ ?_ _)); exact BK210.out⟩, ⟨w52_⟩⟩
 case round =>
  clear H'
  obtain ⟨x5_1, x8_1, rfl, rfl, HA, HK1, BK210, HB⟩ := hrel
  cases gk with
  | zero => exact absurd HA.out (by simp [impl_Shelf_left.l0])
  | succ k1 =>
   have H := HA.out
   clear HA
   simp only [impl_Shelf_left.l0] at H
   by_cases c4 : x8_1 < a1
   ·rw [if_pos c4] at H
    have c4b0 := decide_eq_true c4
    clear c4
    replace H := bqz_ H; obtain ⟨t211, A5, H⟩ := H
    replace H : (impl_Shelf_left.l0 k1 (wrap64 (x5_1 + t211)) a1 (wrap64 (x8_1 + 1)) l0_0 a0_1) = some r := H
    have H' := Az_ H
    clear H
    have hcz6_0 : wr.cell? ⟨gb210, 0, none⟩ = some (.slice A0_0 l0_0.length c0_0) := (blk_cell BK210.out 0).trans rfl
    have hcz6_1 : wr.cell? ⟨gb210, 1, none⟩ = some (.int .i64 a0_1) := (blk_cell BK210.out 1).trans rfl
    have hfz6_0 := blk_frozen BK210.out 0
    have hfz6_1 := blk_frozen BK210.out 1
    go_wp2_with (((with_reducible refine gate_callee (f := 63) rfl ?_); refine goesL_ (some 14) rfl rfl Tryz.func63 (w94_) rfl #[.agg #[.slice A0_0 l0_0.length c0_0, .int .i64 a0_1], .int .i64 x8_1] rfl maz_ ?_; (with_reducible refine (impl_Shelf_width.calls _ _ l0_0 a0_1 x8_1 t211 _ ?side1 ?side2 A5.out).mono ?_); (case side1 => exact ucz_ ((Kd.C_below HR0_0.out HB.out))); (case side2 => exact HC0_0.out); rintro e w7 ⟨rfl, hb⟩; refine ⟨_, rfl, ?_⟩; have n1_ := Az_ (btz_ (w52_) hb); clear HB; replace BK210 := Az_ (ukbz_ BK210.out hb); have HB := n1_; clear n1_; (try clear hb)))
    go_roundg k1
    case measure => have := HK1.out; omega
    case rel => exact ⟨(wrap64 (x5_1 + t211)), (wrap64 (x8_1 + 1)), qaz_, qaz_, H', ⟨w85_⟩, ⟨by (with_reducible repeat (first | refine knz_ ?_ _ | refine kdz_ ?_ | refine kaz_ ?_ _)); exact BK210.out⟩, ⟨w52_⟩⟩
   ·rw [if_neg c4] at H
    have c4b0 := decide_eq_false c4
    clear c4
    obtain rfl := Option.some.inj H
    go_wp2
    go_ret
    exact ⟨w74_, w52_⟩

def impl_Shelf_face.f (k : Nat) (l0_0 : List Int) (a0_1 : Int) (a1 : Int) (a2 : Bool) : Option (Int) := if a2 = true then ((impl_Shelf_left.f k l0_0 a0_1 a1).bind fun t213 => (some (wrap64 (t213 + a0_1)))) else ((impl_Shelf_left.f k l0_0 a0_1 (wrap64 (a1 + 1))).bind fun t214 => (some (wrap64 (t214 - a0_1))))
def impl_Shelf_face.T3 : Bool × List (List Nat × List Nat) := (true, [([], []), ([], []), ([1], [1]), ([0, 2], [0, 2]), ([], []), ([4], [4]), ([3, 5], [3, 5]), ([6, 3, 0, 1, 2, 3, 4, 5, 6], [6])])
def impl_Shelf_face.B3 : List Nat := [0, 0, 2, 7, 0, 16, 63, 127]
theorem impl_Shelf_face.tab3 : rtab .any (opsOf Tryz.f36 3) = impl_Shelf_face.T3 := by kernel_rfl
theorem impl_Shelf_face.bits3 : waitsOk impl_Shelf_face.T3.2 impl_Shelf_face.B3 = true := by kernel_rfl
set_option maxHeartbeats 8000000 in
set_option maxRecDepth 100000 in
theorem impl_Shelf_face.calls (k : Nat) (A0_0 : Option Addr) (c0_0 : Nat) (l0_0 : List Int) (a0_1 : Int) (a1 : Int) (a2 : Bool) (r : Int) (w : World) (hr0_0 : Kd.C (Kd.int .i64) w A0_0 l0_0.length l0_0) (hc0_0 : l0_0.length ≤ c0_0) (h : impl_Shelf_face.f k l0_0 a0_1 a1 a2 = some r) :
  Calls Tryz.prog 36 #[.agg #[.slice A0_0 l0_0.length c0_0, .int .i64 a0_1], .int .i64 a1, .bool a2] w fun e w' => e = .returned (.int .i64 r) ∧ Below w.heap.size w w' := by
 have hu26 := Tryz.underlying26
 have HR0_0 := Az_ hr0_0
 have HC0_0 := Az_ hc0_0
 clear hr0_0 hc0_0
 have HB := Az_ (Below.refl w.heap.size w)
 have H : (if a2 = true then ((impl_Shelf_left.f k l0_0 a0_1 a1).bind fun t213 => (some (wrap64 (t213 + a0_1)))) else ((impl_Shelf_left.f k l0_0 a0_1 (wrap64 (a1 + 1))).bind fun t214 => (some (wrap64 (t214 - a0_1))))) = some r := h
 clear h
 by_cases c4 : a2 = true
 ·subst c4
  rw [if_pos rfl] at H
  replace H := bqz_ H; obtain ⟨t213, A5, H⟩ := H
  replace H : (some (wrap64 (t213 + a0_1))) = some r := H
  obtain rfl := Option.some.inj H
  go_enter Tryz.func36, Tryz.ntmps36
  try go_wp2_with (((with_reducible refine gate_dst (N := 3) rfl ?_); refine box_event ?hg (N := 3) ?hd (cs := #[.slice A0_0 l0_0.length c0_0, .int .i64 a0_1]) (t := 26) ?hr ?_; (case hd => rfl); (case hg => rfl); (case hr => first | (go_simp; done) | (go_simp; rfl)); intro gb212 hg w6 hbox hb; have BK212 := Az_ (hbox); have GW212 := Az_ ((by rw [hg]; exact (below_size (ubz_ HB.out)) : w.heap.size ≤ gb212)); have GE212 := Az_ ((by rw [hg]; exact (below_size (ubz_ HB.out)) : w.heap.size ≤ gb212)); replace HB := Az_ (btz_ (ubz_ HB.out) hb); clear hb hbox hg))
  have n0_ := Az_ (kdz_ BK212.out)
  have n1_ := Az_ (bdz_ HB.out)
  clear BK212 HB
  have BK212 := n0_
  have HB := n1_
  clear n0_ n1_
  refine start_ (n := 7) (S := fun w' => w'.cell? ⟨gb212, 0, none⟩ = some (.slice A0_0 l0_0.length c0_0) ∧ w'.cell? ⟨gb212, 1, none⟩ = some (.int .i64 a0_1)) (ds := []) #[false, false, false, false, false, false, false] (w94_) rfl rfl ⟨(blk_cell BK212.out 0).trans rfl, (blk_cell BK212.out 1).trans rfl⟩ (fun hHeld => ?_)
  generalize w6.drew = w7 at BK212 HB hHeld ⊢
  refine pzk_ 1 9 [0,1,1,5] ?_
  refine pzk_ 3 11 [0,1,1,1,1,3] ?_
  refine tzk2_ 0 8 [2,1,1,3] ?_
  refine tzk2_ 4 12 [2,1,2,2] ?_
  refine one_ (i := 2) (N := some 10) (mz_ [5,2]) rfl rfl (w94_) (by decide) (fun K hK => ?_)
  refine goes_ Tryz.func42 (w94_) rfl #[.agg #[.slice A0_0 l0_0.length c0_0, .int .i64 a0_1], .int .i64 a1] (by rfl) rfl rfl maz_ ?_
  with_reducible refine (impl_Shelf_left.calls k _ _ l0_0 a0_1 a1 t213 _ ?side1 ?side2 A5.out).mono ?_
  (case side1 => repeat (first | exact (Kd.C_below HR0_0.out HB.out) | (with_reducible refine Kd.C_alloc ?_ _) | (with_reducible refine Kd.C_drewN ?_ _) | (with_reducible refine Kd.C_drew ?_)))
  (case side2 => exact HC0_0.out)
  rintro e w8 ⟨rfl, hb⟩
  refine ⟨_, rfl, ?_⟩
  have n1_ := Az_ (btz_ (w52_) hb)
  clear HB
  replace BK212 := Az_ (ukbz_ BK212.out hb)
  have HB := n1_
  clear n1_
  clear hb
  refine hK.out _ _ ⟨(blk_cell BK212.out 0).trans rfl, (blk_cell BK212.out 1).trans rfl⟩ (fun hHeld => ?_)
  clear hK K
  refine nz_ 10 ?_
  refine pzk_ 5 13 [6,1] ?_
  refine pzk_ 6 6 [7] ?_
  refine done_ (w94_) ?_
  try go_wp2
  go_ret
  exact ⟨w74_, w52_⟩
 ·replace c4 := Bool.eq_false_iff.mpr c4
  subst c4
  rw [if_neg nfz_] at H
  replace H := bqz_ H; obtain ⟨t214, A9, H⟩ := H
  replace H : (some (wrap64 (t214 - a0_1))) = some r := H
  obtain rfl := Option.some.inj H
  go_enter Tryz.func36, Tryz.ntmps36
  try go_wp2_with (((with_reducible refine gate_dst (N := 3) rfl ?_); refine box_event ?hg (N := 3) ?hd (cs := #[.slice A0_0 l0_0.length c0_0, .int .i64 a0_1]) (t := 26) ?hr ?_; (case hd => rfl); (case hg => rfl); (case hr => first | (go_simp; done) | (go_simp; rfl)); intro gb212 hg w10 hbox hb; have BK212 := Az_ (hbox); have GW212 := Az_ ((by rw [hg]; exact (below_size (ubz_ HB.out)) : w.heap.size ≤ gb212)); have GE212 := Az_ ((by rw [hg]; exact (below_size (ubz_ HB.out)) : w.heap.size ≤ gb212)); replace HB := Az_ (btz_ (ubz_ HB.out) hb); clear hb hbox hg))
  have n0_ := Az_ (kdz_ BK212.out)
  have n1_ := Az_ (bdz_ HB.out)
  clear BK212 HB
  have BK212 := n0_
  have HB := n1_
  clear n0_ n1_
  refine start_ (n := 8) (S := fun w' => w'.cell? ⟨gb212, 0, none⟩ = some (.slice A0_0 l0_0.length c0_0) ∧ w'.cell? ⟨gb212, 1, none⟩ = some (.int .i64 a0_1)) (ds := []) #[false, false, false, false, false, false, false, false] (w94_) rfl rfl ⟨(blk_cell BK212.out 0).trans rfl, (blk_cell BK212.out 1).trans rfl⟩ (fun hHeld => ?_); refine with_tabW impl_Shelf_face.tab3 impl_Shelf_face.bits3 (fun HT_ HW_ => ?_)
  generalize w10.drew = w11 at BK212 HB hHeld ⊢
  refine pz_ 1 15 [0,1,1,6] ?_
  refine pz_ 2 16 [0,1,2,5] ?_
  refine pz_ 4 18 [0,1,2,1,1,3] ?_
  refine tz2_ 0 14 [3,1,1,3] ?_
  refine tz2_ 5 19 [3,1,2,2] ?_
  refine one_ (i := 3) (N := some 17) (mz_ [6,2]) rfl rfl (one_of HT_.out (w94_)) (by decide) (fun K hK => ?_)
  refine goes_ Tryz.func42 (w94_) rfl #[.agg #[.slice A0_0 l0_0.length c0_0, .int .i64 a0_1], .int .i64 (wrap64 (a1 + 1))] (by rfl) rfl rfl maz_ ?_
  with_reducible refine (impl_Shelf_left.calls k _ _ l0_0 a0_1 (wrap64 (a1 + 1)) t214 _ ?side1 ?side2 A9.out).mono ?_
  (case side1 => repeat (first | exact (Kd.C_below HR0_0.out HB.out) | (with_reducible refine Kd.C_alloc ?_ _) | (with_reducible refine Kd.C_drewN ?_ _) | (with_reducible refine Kd.C_drew ?_)))
  (case side2 => exact HC0_0.out)
  rintro e w12 ⟨rfl, hb⟩
  refine ⟨_, rfl, ?_⟩
  have n1_ := Az_ (btz_ (w52_) hb)
  clear HB
  replace BK212 := Az_ (ukbz_ BK212.out hb)
  have HB := n1_
  clear n1_
  clear hb
  refine hK.out _ _ ⟨(blk_cell BK212.out 0).trans rfl, (blk_cell BK212.out 1).trans rfl⟩ (fun hHeld => ?_)
  clear hK K
  refine nz_ 17 ?_
  refine pz_ 6 20 [7,1] ?_
  refine pz_ 7 6 [8] ?_
  refine done_ (done_of HT_.out (w94_)) ?_
  try go_wp2
  go_ret
  exact ⟨w74_, w52_⟩

end Go.Proofs.YtimladcenifppaaGreatDoor.P
end
