/- Lean functions with the answers of the program's Go functions, and for each the proof that the Go code comes to these answers; no condition. -/
import Derived.Test.YtodacdcbeleleaaDoorZbh0
import Derived.Test.YtodacdcbeleleaaDoorZbh1
import Derived.Test.YtodacdcbeleleaaDoorZbh2
import Derived.Test.YtodacdcbeleleaaDoorZbh3
import Derived.Test.YtodacdcbeleleaaDoorZbh4
import Derived.Test.YtodacdcbeleleaaDoorZbh5
import Derived.Test.YtodacdcbeleleaaDoorZbh6
import Derived.Test.YtodacdcbeleleaaDoorZbh7
import Derived.Test.YtodacdcbeleleaaDoorZbh8
import Derived.Test.YtodacdcbeleleaaDoorZbh9
import Derived.Test.YtodacdcbeleleaaDoorZbh10
import Derived.Test.YtodacdcbeleleaaDoorZbh11
import Derived.Test.YtodacdcbeleleaaDoorZbh12
import Derived.Test.YtodacdcbeleleaaDoorZbh13
import Derived.Test.YtodacdcbeleleaaDoorZbh14
import Derived.Test.YtodacdcbeleleaaDoorZbh15
import Derived.Test.YtodacdcbeleleaaDoorZbh16
import Derived.Test.YtodacdcbeleleaaDoorZbh17
import Derived.Test.YtodacdcbeleleaaDoorZbh18
import Derived.Test.YtodacdcbeleleaaDoorZbh19
import Derived.Test.YtodacdcbeleleaaDoorZbh20
import Derived.Test.YtodacdcbeleleaaDoorProg
import Derived.Below
import Derived.Deep.Draws
import Derived.Deep.AppendLies
import Derived.Maps.AppendAt
import Derived.OwnWalk
import Derived.Laws.BytesArg
import Derived.Laws.MakeOwn
import Derived.Laws.OwnMore
import Derived.Deep.OwnRows
import Derived.Tactics
import Derived.Lib.ConvBytes
import Derived.Laws.Slices
import Derived.WalkKit
import Derived.KernelRfl
import Derived.RowKit3
import Derived.Deep.LoopGhost
import Derived.Deep.QuietTactic
import Derived.BigQuiet
import Derived.WideLaws
import Derived.Deep.DeepCutAuto
import Derived.Deep.CutBlock
import Derived.Deep.RegionHeld3
import Derived.Laws.Rows
import Derived.Lib.AppendStr
import Derived.ArgAppend
import Derived.Laws.IdiomCopy
import Derived.OrdersHeld
import Derived.Laws.BitsLemmas
import Derived.RowKit
import Derived.Shelf.Utf8.RuneCount
import Derived.Shelf.Strconv.Itoa0
import Derived.Shelf.Strconv.Itoa1
import Derived.Shelf.LaysM
import Derived.Shelf.Strconv.Itoa2
import Derived.Shelf.Strconv.Itoa3
import Derived.Shelf.Strings.Search1
import Derived.Shelf.Strings.Search2
import Derived.Shelf.Strings.Search3
import Derived.Shelf.Strings.Count
import Derived.Shelf.Strings.Shaped
import Derived.Shelf.Strings.Split
namespace Go.Proofs.YtodacdcbeleleaaDoor
set_option linter.unusedVariables false
def mzl_ : Bool → List Nat → List Bool
  | _, [] => []
  | b, n :: r => List.replicate n b ++ mzl_ (!b) r
abbrev mz_ (r : List Nat) : Array Bool := (mzl_ true r).toArray
section
open Go.RowKit Go.Proofs.YtodacdcbeleleaaDoorW.PrintWords Go.Proofs.YtodacdcbeleleaaDoorW.PrintLast Go.Proofs.YtodacdcbeleleaaDoorW.PrintMore
theorem nz_ {P : Program} {ops : Array Oper} {Q : Exit → Act → World → Prop} {md : Region.Mode} {S : World → Prop} {ds : List Nat} {fuel : Nat} {l : Array Bool} {a a' : Act} {w : World} {v : Value} (N : Nat) (h : wpAnyLast P md ops Q S ds fuel l a' w) (ha : a.put (some N) v = a' := by simp only [Act.put, usz_, utz_, uvz_, i64_w, i32_w]; rfl) : wpAnyLast P md ops Q S ds fuel l (a.put (some N) v) w := norm_ ha h
theorem pz_ {P : Program} {ops : Array Oper} {Q : Exit → Act → World → Prop} {md : Region.Mode} {S : World → Prop} {ds : List Nat} {fuel : Nat} {l : Array Bool} {a a' : Act} {w : World} (i N : Nat) (m : List Nat) {oi : Oper} {v : Value} (h : wpAnyLast P md ops Q S ds fuel (mz_ m) a' w) (hi : ops[i]? = some oi := by rfl) (hN : oi.dst = some N := by rfl) (hc : anyB md ops l (mz_ m) i = true := by exact any_of HT_.out (by kernel_rfl)) (hQ : ∀ c a w, Q (.panic c) (a.put oi.dst v) w → Q (.panic c) a w := by exact fun _ _ _ h => h) (hy : Yields P ops oi v a := by exact Or.inl ⟨by rfl, by intro w'; go_simp; with_reducible rfl⟩) (ha : a.put (some N) v = a' := by simp only [Act.put, usz_, utz_, uvz_, i64_w, i32_w]; rfl) : wpAnyLast P md ops Q S ds (fuel + 1) l a w := pure_ (i := i) (N := some N) (v := v) (a' := a') (mz_ m) hi hN hc hQ hy ha h
theorem pzk_ {P : Program} {ops : Array Oper} {Q : Exit → Act → World → Prop} {md : Region.Mode} {S : World → Prop} {ds : List Nat} {fuel : Nat} {l : Array Bool} {a a' : Act} {w : World} (i N : Nat) (m : List Nat) {oi : Oper} {v : Value} (h : wpAnyLast P md ops Q S ds fuel (mz_ m) a' w) (hi : ops[i]? = some oi := by rfl) (hN : oi.dst = some N := by rfl) (hc : anyB md ops l (mz_ m) i = true := by kernel_rfl) (hQ : ∀ c a w, Q (.panic c) (a.put oi.dst v) w → Q (.panic c) a w := by exact fun _ _ _ h => h) (hy : Yields P ops oi v a := by exact Or.inl ⟨by rfl, by intro w'; go_simp; with_reducible rfl⟩) (ha : a.put (some N) v = a' := by simp only [Act.put, usz_, utz_, uvz_, i64_w, i32_w]; rfl) : wpAnyLast P md ops Q S ds (fuel + 1) l a w := pure_ (i := i) (N := some N) (v := v) (a' := a') (mz_ m) hi hN hc hQ hy ha h
theorem qz_ {P : Program} {ops : Array Oper} {Q : Exit → Act → World → Prop} {md : Region.Mode} {S : World → Prop} {ds : List Nat} {fuel : Nat} {l : Array Bool} {a a' : Act} {w : World} (i N : Nat) (m : List Nat) {oi : Oper} (h : wpAnyLast P md ops Q S ds fuel (mz_ m) a' w) (hi : ops[i]? = some oi := by rfl) (hN : oi.dst = some N := by rfl) (hc : anyB md ops l (mz_ m) i = true := by exact any_of HT_.out (by kernel_rfl)) (hQ : ∀ c a w, Q (.panic c) (a.put oi.dst undef) w → Q (.panic c) a w := by exact fun _ _ _ h => h) (hy : Yields P ops oi undef a := by exact Or.inr ⟨by rfl, rfl⟩) (ha : a.put (some N) undef = a' := by simp only [Act.put, usz_, utz_, uvz_, i64_w, i32_w]; rfl) : wpAnyLast P md ops Q S ds (fuel + 1) l a w := pure_ (i := i) (N := some N) (v := undef) (a' := a') (mz_ m) hi hN hc hQ hy ha h
theorem tz2_ {P : Program} {ops : Array Oper} {Q : Exit → Act → World → Prop} {md : Region.Mode} {S : World → Prop} {ds : List Nat} {fuel : Nat} {l : Array Bool} {a a' : Act} {w : World} (i N : Nat) (m : List Nat) {oi : Oper} {v : Value} (h : wpAnyLast P md ops Q S ds fuel (mz_ m) a' w) (hi : ops[i]? = some oi := by rfl) (hN : oi.dst = some N := by rfl) (hc : takeB md ops ds l (mz_ m) i = true := by exact take_ofW HT_.out HW_.out (by kernel_rfl)) (hQ : ∀ c a w, Q (.panic c) (a.put oi.dst v) w → Q (.panic c) a w := by exact fun _ _ _ h => h) (hy : YieldsIf P ops S oi v a := by exact Or.inl ⟨by rfl, by rintro w' ⟨s0, s1⟩; go_simp; with_reducible rfl⟩) (hS : S w := by exact hHeld) (ha : a.put (some N) v = a' := by simp only [Act.put, usz_, utz_, uvz_, i64_w, i32_w]; rfl) : wpAnyLast P md ops Q S ds (fuel + 1) l a w := take_ (i := i) (N := some N) (v := v) (a' := a') (mz_ m) hi hN hc hQ hy hS ha h
theorem tz4_ {P : Program} {ops : Array Oper} {Q : Exit → Act → World → Prop} {md : Region.Mode} {S : World → Prop} {ds : List Nat} {fuel : Nat} {l : Array Bool} {a a' : Act} {w : World} (i N : Nat) (m : List Nat) {oi : Oper} {v : Value} (h : wpAnyLast P md ops Q S ds fuel (mz_ m) a' w) (hi : ops[i]? = some oi := by rfl) (hN : oi.dst = some N := by rfl) (hc : takeB md ops ds l (mz_ m) i = true := by exact take_ofW HT_.out HW_.out (by kernel_rfl)) (hQ : ∀ c a w, Q (.panic c) (a.put oi.dst v) w → Q (.panic c) a w := by exact fun _ _ _ h => h) (hy : YieldsIf P ops S oi v a := by exact Or.inl ⟨by rfl, by rintro w' ⟨s0, s1, s2, s3⟩; go_simp; with_reducible rfl⟩) (hS : S w := by exact hHeld) (ha : a.put (some N) v = a' := by simp only [Act.put, usz_, utz_, uvz_, i64_w, i32_w]; rfl) : wpAnyLast P md ops Q S ds (fuel + 1) l a w := take_ (i := i) (N := some N) (v := v) (a' := a') (mz_ m) hi hN hc hQ hy hS ha h
theorem tzk2_ {P : Program} {ops : Array Oper} {Q : Exit → Act → World → Prop} {md : Region.Mode} {S : World → Prop} {ds : List Nat} {fuel : Nat} {l : Array Bool} {a a' : Act} {w : World} (i N : Nat) (m : List Nat) {oi : Oper} {v : Value} (h : wpAnyLast P md ops Q S ds fuel (mz_ m) a' w) (hi : ops[i]? = some oi := by rfl) (hN : oi.dst = some N := by rfl) (hc : takeB md ops ds l (mz_ m) i = true := by kernel_rfl) (hQ : ∀ c a w, Q (.panic c) (a.put oi.dst v) w → Q (.panic c) a w := by exact fun _ _ _ h => h) (hy : YieldsIf P ops S oi v a := by exact Or.inl ⟨by rfl, by rintro w' ⟨s0, s1⟩; go_simp; with_reducible rfl⟩) (hS : S w := by exact hHeld) (ha : a.put (some N) v = a' := by simp only [Act.put, usz_, utz_, uvz_, i64_w, i32_w]; rfl) : wpAnyLast P md ops Q S ds (fuel + 1) l a w := take_ (i := i) (N := some N) (v := v) (a' := a') (mz_ m) hi hN hc hQ hy hS ha h
theorem od_ {p : Prop} [Decidable p] (h : decide p = true := by first | (with_reducible assumption) | assumption) : p := of_decide_eq_true h
theorem hbz_ {w w1 : World} {p : Addr} {v : Value} (hb : Below w.heap.size w w1) (h : w.cell? p = some v) : w1.cell? p = some v := (hb.cell (World.block_lt_of_cell? w _ h)).trans h
end
theorem w204_ {P : Prop} (h : P := by kernel_rfl) : P := h
theorem w203_ {P : Prop} (h : P := by exact ubz_ HB.out) : P := h
theorem w202_ {P : Prop} (h : P := by exact urz_ HO_4.out) : P := h
theorem w201_ {P : Prop} (h : P := by exact urz_ HO_6.out) : P := h
theorem w200_ {P : Prop} (h : P := by exact urz_ HO744.out) : P := h
theorem w199_ {P : Prop} (h : P := by exact urz_ HO739.out) : P := h
theorem w198_ {P : Prop} (h : P := by exact urz_ HO734.out) : P := h
theorem w197_ {P : Prop} (h : P := by exact urz_ HO729.out) : P := h
theorem w196_ {P : Prop} (h : P := by exact urz_ HO724.out) : P := h
theorem w195_ {P : Prop} (h : P := by exact urz_ HO716.out) : P := h
theorem w194_ {P : Prop} (h : P := by exact urz_ HO658.out) : P := h
theorem w193_ {P : Prop} (h : P := by exact urz_ HO653.out) : P := h
theorem w192_ {P : Prop} (h : P := by exact ukz_ BK565.out) : P := h
theorem w191_ {P : Prop} (h : P := by exact ukz_ BK557.out) : P := h
theorem w190_ {P : Prop} (h : P := by exact ukz_ BK551.out) : P := h
theorem w189_ {P : Prop} (h : P := by exact ukz_ BK550.out) : P := h
theorem w188_ {P : Prop} (h : P := by exact ukz_ BK507.out) : P := h
theorem w187_ {P : Prop} (h : P := by exact ukz_ BK493.out) : P := h
theorem w186_ {P : Prop} (h : P := by exact ukz_ BK371.out) : P := h
theorem w185_ {P : Prop} (h : P := by exact urz_ HO369.out) : P := h
theorem w184_ {P : Prop} (h : P := by exact ukz_ BK360.out) : P := h
theorem w183_ {P : Prop} (h : P := by exact ukz_ BK346.out) : P := h
theorem w182_ {P : Prop} (h : P := by exact ukz_ BK178.out) : P := h
theorem w181_ {P : Prop} (h : P := by exact ukz_ BK173.out) : P := h
theorem w180_ {P : Prop} (h : P := by exact ukz_ BK172.out) : P := h
theorem w179_ {P : Prop} (h : P := by exact urz_ HO129.out) : P := h
theorem w178_ {P : Prop} (h : P := by exact ukz_ BK122.out) : P := h
theorem w177_ {P : Prop} (h : P := by have := HK1.out; omega) : P := h
theorem w176_ {P : Prop} (h : P := by exact urz_ HO_742000.out) : P := h
theorem w175_ {P : Prop} (h : P := by exact urz_ HO_737000.out) : P := h
theorem w174_ {P : Prop} (h : P := by exact urz_ HO_179000.out) : P := h
theorem w173_ {P : Prop} (h : P := by first | omega | exact Nat.le_refl _) : P := h
theorem w172_ {P : Prop} (h : P := by have := HJ3.out; have := HK2.out; omega) : P := h
theorem w171_ {P : Prop} (h : P := by first | rfl | (simp; done) | (simp [*]; done)) : P := h
theorem w170_ {P : Prop} (h : P := by rw [List.length_append, List.length_singleton]; omega) : P := h
theorem w169_ {P : Prop} (h : P := by have := HK1.out; have := HK2.out; have := HK3.out; omega) : P := h
theorem w168_ {P : Prop} (h : P := by repeat (first | exact Drawn0.refl _ | apply Drawn0.step)) : P := h
theorem w167_ {P : Prop} (h : P := by (with_reducible repeat (first | apply raz_ | apply rnz_ | apply rdz_)); exact HO_3.out) : P := h
theorem w166_ {P : Prop} (h : P := by first | rfl | (simp [errW_none, errW_some] <;> rfl) | (simp [*, errW_none, errW_some] <;> rfl)) : P := h
theorem w165_ {P : Prop} (h : P := by simp only [putAll, Act.put, List.setIfInBounds_toArray, List.set_cons_zero, List.set_cons_succ]) : P := h
theorem w164_ {P : Prop} (h : P := by (with_reducible repeat (first | refine knz_ ?_ _ | refine kdz_ ?_ | refine kaz_ ?_ _)); exact BK741.out) : P := h
theorem w163_ {P : Prop} (h : P := by (with_reducible repeat (first | refine knz_ ?_ _ | refine kdz_ ?_ | refine kaz_ ?_ _)); exact BK736.out) : P := h
theorem w162_ {P : Prop} (h : P := by (with_reducible repeat (first | refine knz_ ?_ _ | refine kdz_ ?_ | refine kaz_ ?_ _)); exact BK655.out) : P := h
theorem w161_ {P : Prop} (h : P := by (with_reducible repeat (first | refine knz_ ?_ _ | refine kdz_ ?_ | refine kaz_ ?_ _)); exact BK650.out) : P := h
theorem w160_ {P : Prop} (h : P := by (with_reducible repeat (first | refine knz_ ?_ _ | refine kdz_ ?_ | refine kaz_ ?_ _)); exact BK460.out) : P := h
theorem w159_ {P : Prop} (h : P := by (with_reducible repeat (first | refine knz_ ?_ _ | refine kdz_ ?_ | refine kaz_ ?_ _)); exact BK447.out) : P := h
theorem w158_ {P : Prop} (h : P := by (with_reducible repeat (first | refine knz_ ?_ _ | refine kdz_ ?_ | refine kaz_ ?_ _)); exact BK446.out) : P := h
theorem w157_ {P : Prop} (h : P := by (with_reducible repeat (first | refine knz_ ?_ _ | refine kdz_ ?_ | refine kaz_ ?_ _)); exact BK407.out) : P := h
theorem w156_ {P : Prop} (h : P := by (with_reducible repeat (first | refine knz_ ?_ _ | refine kdz_ ?_ | refine kaz_ ?_ _)); exact BK395.out) : P := h
theorem w155_ {P : Prop} (h : P := by (with_reducible repeat (first | refine knz_ ?_ _ | refine kdz_ ?_ | refine kaz_ ?_ _)); exact BK394.out) : P := h
theorem w154_ {P : Prop} (h : P := by (with_reducible repeat (first | apply Kd.R_alloc | apply Kd.R_drewN | apply Kd.R_drew)); exact HO_3.out) : P := h
theorem w153_ {P : Prop} (h : P := by (with_reducible repeat (first | refine knz_ ?_ _ | refine kdz_ ?_ | refine kaz_ ?_ _)); exact BK328.out) : P := h
theorem w152_ {P : Prop} (h : P := by (with_reducible repeat (first | refine knz_ ?_ _ | refine kdz_ ?_ | refine kaz_ ?_ _)); exact BK322.out) : P := h
theorem w151_ {P : Prop} (h : P := by (with_reducible repeat (first | refine knz_ ?_ _ | refine kdz_ ?_ | refine kaz_ ?_ _)); exact BK247.out) : P := h
theorem w150_ {P : Prop} (h : P := by (with_reducible repeat (first | refine knz_ ?_ _ | refine kdz_ ?_ | refine kaz_ ?_ _)); exact BK223.out) : P := h
theorem w149_ {P : Prop} (h : P := by (with_reducible repeat (first | refine knz_ ?_ _ | refine kdz_ ?_ | refine kaz_ ?_ _)); exact BK222.out) : P := h
theorem w148_ {P : Prop} (h : P := by (with_reducible repeat (first | refine knz_ ?_ _ | refine kdz_ ?_ | refine kaz_ ?_ _)); exact BK210.out) : P := h
theorem w147_ {P : Prop} (h : P := by (with_reducible repeat (first | refine knz_ ?_ _ | refine kdz_ ?_ | refine kaz_ ?_ _)); exact BK173.out) : P := h
theorem w146_ {P : Prop} (h : P := by (with_reducible repeat (first | refine knz_ ?_ _ | refine kdz_ ?_ | refine kaz_ ?_ _)); exact BK172.out) : P := h
theorem w145_ {P : Prop} (h : P := by (with_reducible repeat (first | refine knz_ ?_ _ | refine kdz_ ?_ | refine kaz_ ?_ _)); exact BK167.out) : P := h
theorem w144_ {P : Prop} (h : P := by (with_reducible repeat (first | apply raz_ | apply rnz_ | apply rdz_)); exact Kd.R_mono HO563.out (fun _ hk => hk.2)) : P := h
theorem w143_ {P : Prop} (h : P := by (with_reducible repeat (first | apply raz_ | apply rnz_ | apply rdz_)); exact Kd.R_mono HO_4.out (fun _ hk => trivial)) : P := h
theorem w142_ {P : Prop} (h : P := by (with_reducible repeat (first | apply raz_ | apply rnz_ | apply rdz_)); exact Kd.R_mono HO_742000.out (fun _ hk => hk.2.2.1)) : P := h
theorem w141_ {P : Prop} (h : P := by (with_reducible repeat (first | apply raz_ | apply rnz_ | apply rdz_)); exact Kd.R_mono HO_737000.out (fun _ hk => hk.2.2.1)) : P := h
theorem w140_ {P : Prop} (h : P := by have := HJ7.out; have := HJ54.out; have := HJ160.out; have := HJ202.out; have := HJ291.out; first | omega | exact Nat.le_refl _) : P := h
theorem w139_ {P : Prop} (h : P := by (with_reducible repeat (first | apply raz_ | apply rnz_ | apply rdz_)); exact Kd.R_mono HO519.out (fun _ hk => ⟨hk.2, hk.1⟩)) : P := h
theorem w138_ {P : Prop} (h : P := by (with_reducible repeat (first | apply raz_ | apply rnz_ | apply rdz_)); exact Kd.R_mono HO784.out (fun _ hk => ⟨hk.1.2, hk.2⟩)) : P := h
theorem w137_ {P : Prop} (h : P := by (with_reducible repeat (first | apply raz_ | apply rnz_ | apply rdz_)); exact Kd.R_mono HO519.out (fun _ hk => ⟨hk.1.2, hk.2⟩)) : P := h
theorem w136_ {P : Prop} (h : P := by (with_reducible repeat (first | apply raz_ | apply rnz_ | apply rdz_)); exact Kd.R_mono HO_742000.out (fun _ hk => ⟨hk.2, hk.1⟩)) : P := h
theorem w135_ {P : Prop} (h : P := by (with_reducible repeat (first | apply raz_ | apply rnz_ | apply rdz_)); exact Kd.R_mono HO_737000.out (fun _ hk => ⟨hk.2, hk.1⟩)) : P := h
theorem w134_ {P : Prop} (h : P := by repeat (first | (with_reducible first | exact HB.out | apply below_alloc | apply pw_below_drewN | apply below_drew1) | exact HB.out)) : P := h
theorem w133_ {P : Prop} (h : P := by unfold Func.isWrapper; first | (rw [if_pos (by decide +kernel)]; kernel_rfl) | (rw [if_neg (by decide +kernel)]; exact ⟨rfl, rfl⟩)) : P := h
theorem w130_ {P : Prop} (h : P := by first | exact Kd.R_nil _ _ _ _ _ | exact Kd.N_nil _ _ _ _ _ | exact Kd.V_nil _ _ _ _ _ | exact Kd.Q_nil _ _ _ _ _ | exact Kd.S_nil _ _ _ _ _) : P := h
theorem w129_ {P : Prop} (h : P := by repeat (first | (with_reducible first | exact HB.out | apply baz_ | apply bnz_ | apply bdz_ | refine ubsz_ ?_ (by assumption)) | exact HB.out)) : P := h
theorem w128_ {P : Prop} (h : P := by repeat (first | (with_reducible first | exact HB.out | apply baz_ | apply bnz_ | apply bdz_ | refine bsz_ ?_ (IsS67.ge HI0.out)) | exact HB.out)) : P := h
theorem w127_ {P : Prop} (h : P := by have := HJ7.out; have := HJ54.out; have := HJ160.out; have := HJ202.out; have := HJ291.out; have := HJ460.out; first | omega | exact Nat.le_refl _) : P := h
theorem w126_ {P : Prop} (h : P := by repeat (first | (with_reducible first | exact HK.out | apply KeepBut.set_ | apply keep_drewN | apply keep_drew | apply keep_alloc) | exact HK.out)) : P := h
theorem w125_ {P : Prop} (h : P := by repeat (first | (with_reducible first | exact HB.out | apply below_alloc | apply pw_below_drewN | apply below_drew1 | refine below_set ?_ GE237.out) | exact HB.out)) : P := h
theorem w124_ {P : Prop} (h : P := by rw [← hq_]; exact (w129_)) : P := h
theorem w123_ {P : Prop} (h : P := by (with_reducible repeat (first | apply raz_ | apply rnz_ | apply rdz_)); exact Kd.R_mono HO739.out (fun _ hk => ⟨hk.1, ⟨hk.2.1, ⟨hk.2.2.2.1, hk.2.2.2.2.2.1⟩⟩⟩)) : P := h
theorem w122_ {P : Prop} (h : P := by (with_reducible repeat (first | apply raz_ | apply rnz_ | apply rdz_)); exact Kd.R_mono HO734.out (fun _ hk => ⟨hk.1, ⟨hk.2.1, ⟨hk.2.2.2.1, hk.2.2.2.2.2.1⟩⟩⟩)) : P := h
theorem w121_ {P : Prop} (h : P := by repeat (first | (with_reducible first | exact HI0.out | apply IsS67.alloc | apply IsS67.drewN | apply IsS67.drew | apply IsS67.set_1 | apply IsS67.set_2) | exact HI0.out)) : P := h
theorem w120_ {P : Prop} (h : P := by repeat (first | (with_reducible first | exact HB.out | apply baz_ | apply bnz_ | apply bdz_ | refine bsz_ ?_ (IsS67.ge HI0.out) | refine bsz_ ?_ GE306.out) | exact HB.out)) : P := h
theorem w119_ {P : Prop} (h : P := by (with_reducible repeat (first | apply raz_ | apply rnz_ | apply rdz_)); exact Kd.R_mono HO724.out (fun _ hk => ⟨hk.1, ⟨hk.2.2.1, ⟨hk.2.2.2.1, hk.2.2.2.2.2.1⟩⟩⟩)) : P := h
theorem w118_ {P : Prop} (h : P := by (with_reducible repeat (first | apply raz_ | apply rnz_ | apply rdz_)); exact Kd.R_mono HO716.out (fun _ hk => ⟨hk.1, ⟨hk.2.2.1, ⟨hk.2.2.2.1, hk.2.2.2.2.2.1⟩⟩⟩)) : P := h
theorem w117_ {P : Prop} (h : P := by repeat (first | (with_reducible first | exact HB.out | apply baz_ | apply bnz_ | apply bdz_ | refine bsz_ ?_ (IsS67.ge HI623.out) | refine bsz_ ?_ GE622.out) | exact HB.out)) : P := h
theorem w116_ {P : Prop} (h : P := by repeat (first | (with_reducible first | exact HB.out | apply baz_ | apply bnz_ | apply bdz_ | refine bsz_ ?_ (IsS67.ge HI595.out) | refine bsz_ ?_ GE594.out) | exact HB.out)) : P := h
theorem w115_ {P : Prop} (h : P := by repeat (first | (with_reducible first | exact HB.out | apply baz_ | apply bnz_ | apply bdz_ | refine bsz_ ?_ (IsS67.ge HI524.out) | refine bsz_ ?_ GE523.out) | exact HB.out)) : P := h
theorem w114_ {P : Prop} (h : P := by repeat (first | (with_reducible first | exact HB.out | apply baz_ | apply bnz_ | apply bdz_ | refine bsz_ ?_ (IsS67.ge HI347.out) | refine bsz_ ?_ GE346.out) | exact HB.out)) : P := h
theorem w113_ {P : Prop} (h : P := by repeat (first | (with_reducible first | exact HB.out | apply baz_ | apply bnz_ | apply bdz_ | refine bsz_ ?_ (IsS67.ge HI123.out) | refine bsz_ ?_ GE122.out) | exact HB.out)) : P := h
theorem w112_ {P : Prop} (h : P := by repeat (first | (with_reducible first | exact HK.out | apply KeepBut.set_ | apply keep_drewN | apply keep_drew | apply keep_alloc | refine keep_far ?_ GW322.out _) | exact HK.out)) : P := h
theorem w111_ {P : Prop} (h : P := by repeat (first | (with_reducible first | exact HK.out | apply KeepBut.set_ | apply keep_drewN | apply keep_drew | apply keep_alloc | refine keep_far ?_ GW306.out _) | exact HK.out)) : P := h
theorem w110_ {P : Prop} (h : P := by repeat (first | (with_reducible first | exact HK.out | apply KeepBut.set_ | apply keep_drewN | apply keep_drew | apply keep_alloc | refine keep_far ?_ GW265.out _) | exact HK.out)) : P := h
theorem w109_ {P : Prop} (h : P := by repeat (first | (with_reducible first | exact HK.out | apply KeepBut.set_ | apply keep_drewN | apply keep_drew | apply keep_alloc | refine keep_far ?_ GW115.out _) | exact HK.out)) : P := h
theorem w108_ {P : Prop} (h : P := by repeat (first | (with_reducible first | exact HB.out | apply baz_ | apply bnz_ | apply bdz_ | refine bsz_ ?_ (IsS67.ge HI0.out) | refine bsz_ ?_ GE322.out | refine bsz_ ?_ GE328.out) | exact HB.out)) : P := h
theorem w107_ {P : Prop} (h : P := by repeat (first | (with_reducible first | exact HB.out | apply baz_ | apply bnz_ | apply bdz_ | refine bsz_ ?_ (IsS67.ge HI0.out) | refine bsz_ ?_ GE265.out | refine bsz_ ?_ GE278.out) | exact HB.out)) : P := h
theorem w106_ {P : Prop} (h : P := by repeat (first | (with_reducible first | exact HB.out | apply baz_ | apply bnz_ | apply bdz_ | refine bsz_ ?_ (IsS67.ge HI552.out) | refine bsz_ ?_ GE550.out | refine bsz_ ?_ GE551.out) | exact HB.out)) : P := h
theorem w105_ {P : Prop} (h : P := by repeat (first | (with_reducible first | exact HB.out | apply baz_ | apply bnz_ | apply bdz_ | refine bsz_ ?_ (IsS67.ge HI481.out) | refine bsz_ ?_ GE479.out | refine bsz_ ?_ GE480.out) | exact HB.out)) : P := h
theorem w104_ {P : Prop} (h : P := by repeat (first | (with_reducible first | exact HB.out | apply baz_ | apply bnz_ | apply bdz_ | refine bsz_ ?_ (IsS67.ge HI347.out) | refine bsz_ ?_ GE346.out | refine bsz_ ?_ GE360.out) | exact HB.out)) : P := h
theorem w103_ {P : Prop} (h : P := by repeat (first | (with_reducible first | exact HI0.out | apply IsS67.alloc | apply IsS67.drewN | apply IsS67.drew | apply IsS67.set_1 | apply IsS67.set_2 | refine IsS67.far ?_ NB0_322.out _) | exact HI0.out)) : P := h
theorem w102_ {P : Prop} (h : P := by repeat (first | (with_reducible first | exact HI0.out | apply IsS67.alloc | apply IsS67.drewN | apply IsS67.drew | apply IsS67.set_1 | apply IsS67.set_2 | refine IsS67.far ?_ NB0_306.out _) | exact HI0.out)) : P := h
theorem w101_ {P : Prop} (h : P := by repeat (first | (with_reducible first | exact HI0.out | apply IsS67.alloc | apply IsS67.drewN | apply IsS67.drew | apply IsS67.set_1 | apply IsS67.set_2 | refine IsS67.far ?_ NB0_265.out _) | exact HI0.out)) : P := h
theorem w100_ {P : Prop} (h : P := by repeat (first | (with_reducible first | exact HI623.out | apply IsS67.alloc | apply IsS67.drewN | apply IsS67.drew | apply IsS67.set_1 | apply IsS67.set_2 | refine IsS67.far ?_ NB623_622.out _) | exact HI623.out)) : P := h
theorem w99_ {P : Prop} (h : P := by repeat (first | (with_reducible first | exact HI595.out | apply IsS67.alloc | apply IsS67.drewN | apply IsS67.drew | apply IsS67.set_1 | apply IsS67.set_2 | refine IsS67.far ?_ NB595_594.out _) | exact HI595.out)) : P := h
theorem w98_ {P : Prop} (h : P := by repeat (first | (with_reducible first | exact HI524.out | apply IsS67.alloc | apply IsS67.drewN | apply IsS67.drew | apply IsS67.set_1 | apply IsS67.set_2 | refine IsS67.far ?_ NB524_523.out _) | exact HI524.out)) : P := h
theorem w97_ {P : Prop} (h : P := by repeat (first | (with_reducible first | exact HI347.out | apply IsS67.alloc | apply IsS67.drewN | apply IsS67.drew | apply IsS67.set_1 | apply IsS67.set_2 | refine IsS67.far ?_ NB347_346.out _) | exact HI347.out)) : P := h
theorem w96_ {P : Prop} (h : P := by repeat (first | (with_reducible first | exact HK.out | apply KeepBut.set_ | apply keep_drewN | apply keep_drew | apply keep_alloc | refine keep_far ?_ GW322.out _ | refine keep_far ?_ GW328.out _) | exact HK.out)) : P := h
theorem w95_ {P : Prop} (h : P := by repeat (first | (with_reducible first | exact HK.out | apply KeepBut.set_ | apply keep_drewN | apply keep_drew | apply keep_alloc | refine keep_far ?_ GW265.out _ | refine keep_far ?_ GW278.out _) | exact HK.out)) : P := h
theorem w94_ {P : Prop} (h : P := by repeat (first | (with_reducible first | exact HI123.out | apply IsS67.alloc | apply IsS67.drewN | apply IsS67.drew | apply IsS67.set_1 | apply IsS67.set_2 | refine IsS67.far ?_ NB123_122.out _) | exact HI123.out)) : P := h
theorem w93_ {P : Prop} (h : P := by (with_reducible repeat (first | refine knz_ ?_ _ | refine kdz_ ?_ | refine kaz_ ?_ _)); refine blk_far ?_ NB721_741.out _; (with_reducible repeat (first | refine knz_ ?_ _ | refine kdz_ ?_ | refine kaz_ ?_ _)); exact BK721.out) : P := h
theorem w92_ {P : Prop} (h : P := by (with_reducible repeat (first | refine knz_ ?_ _ | refine kdz_ ?_ | refine kaz_ ?_ _)); refine blk_far ?_ NB721_736.out _; (with_reducible repeat (first | refine knz_ ?_ _ | refine kdz_ ?_ | refine kaz_ ?_ _)); exact BK721.out) : P := h
theorem w91_ {P : Prop} (h : P := by (with_reducible repeat (first | refine knz_ ?_ _ | refine kdz_ ?_ | refine kaz_ ?_ _)); refine blk_far ?_ NB721_731.out _; (with_reducible repeat (first | refine knz_ ?_ _ | refine kdz_ ?_ | refine kaz_ ?_ _)); exact BK721.out) : P := h
theorem w90_ {P : Prop} (h : P := by (with_reducible repeat (first | refine knz_ ?_ _ | refine kdz_ ?_ | refine kaz_ ?_ _)); refine blk_far ?_ NB721_726.out _; (with_reducible repeat (first | refine knz_ ?_ _ | refine kdz_ ?_ | refine kaz_ ?_ _)); exact BK721.out) : P := h
theorem w89_ {P : Prop} (h : P := by (with_reducible repeat (first | refine knz_ ?_ _ | refine kdz_ ?_ | refine kaz_ ?_ _)); refine blk_far ?_ NB655_660.out _; (with_reducible repeat (first | refine knz_ ?_ _ | refine kdz_ ?_ | refine kaz_ ?_ _)); exact BK655.out) : P := h
theorem w88_ {P : Prop} (h : P := by (with_reducible repeat (first | refine knz_ ?_ _ | refine kdz_ ?_ | refine kaz_ ?_ _)); refine blk_far ?_ NB650_660.out _; (with_reducible repeat (first | refine knz_ ?_ _ | refine kdz_ ?_ | refine kaz_ ?_ _)); exact BK650.out) : P := h
theorem w87_ {P : Prop} (h : P := by (with_reducible repeat (first | refine knz_ ?_ _ | refine kdz_ ?_ | refine kaz_ ?_ _)); refine blk_far ?_ NB557_565.out _; (with_reducible repeat (first | refine knz_ ?_ _ | refine kdz_ ?_ | refine kaz_ ?_ _)); exact BK557.out) : P := h
theorem w86_ {P : Prop} (h : P := by (with_reducible repeat (first | refine knz_ ?_ _ | refine kdz_ ?_ | refine kaz_ ?_ _)); refine blk_far ?_ NB551_565.out _; (with_reducible repeat (first | refine knz_ ?_ _ | refine kdz_ ?_ | refine kaz_ ?_ _)); exact BK551.out) : P := h
theorem w85_ {P : Prop} (h : P := by (with_reducible repeat (first | refine knz_ ?_ _ | refine kdz_ ?_ | refine kaz_ ?_ _)); refine blk_far ?_ NB550_565.out _; (with_reducible repeat (first | refine knz_ ?_ _ | refine kdz_ ?_ | refine kaz_ ?_ _)); exact BK550.out) : P := h
theorem w84_ {P : Prop} (h : P := by (with_reducible repeat (first | refine knz_ ?_ _ | refine kdz_ ?_ | refine kaz_ ?_ _)); refine blk_far ?_ NB322_328.out _; (with_reducible repeat (first | refine knz_ ?_ _ | refine kdz_ ?_ | refine kaz_ ?_ _)); exact BK322.out) : P := h
theorem w83_ {P : Prop} (h : P := by (with_reducible repeat (first | refine knz_ ?_ _ | refine kdz_ ?_ | refine kaz_ ?_ _)); refine blk_far ?_ NB265_278.out _; (with_reducible repeat (first | refine knz_ ?_ _ | refine kdz_ ?_ | refine kaz_ ?_ _)); exact BK265.out) : P := h
theorem w82_ {P : Prop} (h : P := by (with_reducible repeat (first | refine knz_ ?_ _ | refine kdz_ ?_ | refine kaz_ ?_ _)); refine blk_far ?_ NB223_227.out _; (with_reducible repeat (first | refine knz_ ?_ _ | refine kdz_ ?_ | refine kaz_ ?_ _)); exact BK223.out) : P := h
theorem w81_ {P : Prop} (h : P := by (with_reducible repeat (first | refine knz_ ?_ _ | refine kdz_ ?_ | refine kaz_ ?_ _)); refine blk_far ?_ NB222_227.out _; (with_reducible repeat (first | refine knz_ ?_ _ | refine kdz_ ?_ | refine kaz_ ?_ _)); exact BK222.out) : P := h
theorem w80_ {P : Prop} (h : P := by (with_reducible repeat (first | refine knz_ ?_ _ | refine kdz_ ?_ | refine kaz_ ?_ _)); refine blk_far ?_ NB173_178.out _; (with_reducible repeat (first | refine knz_ ?_ _ | refine kdz_ ?_ | refine kaz_ ?_ _)); exact BK173.out) : P := h
theorem w79_ {P : Prop} (h : P := by (with_reducible repeat (first | refine knz_ ?_ _ | refine kdz_ ?_ | refine kaz_ ?_ _)); refine blk_far ?_ NB172_178.out _; (with_reducible repeat (first | refine knz_ ?_ _ | refine kdz_ ?_ | refine kaz_ ?_ _)); exact BK172.out) : P := h
theorem w78_ {P : Prop} (h : P := by repeat (first | (with_reducible first | exact HB.out | apply baz_ | apply bnz_ | apply bdz_ | refine bsz_ ?_ (IsS67.ge HI552.out) | refine bsz_ ?_ GE550.out | refine bsz_ ?_ GE551.out | refine bsz_ ?_ GE557.out) | exact HB.out)) : P := h
theorem w77_ {P : Prop} (h : P := by repeat (first | (with_reducible first | exact HB.out | apply baz_ | apply bnz_ | apply bdz_ | refine bsz_ ?_ (IsS67.ge HI347.out) | refine bsz_ ?_ GE346.out | refine bsz_ ?_ GE360.out | refine bsz_ ?_ GE371.out) | exact HB.out)) : P := h
theorem w76_ {P : Prop} (h : P := by repeat (first | (with_reducible first | exact HB.out | apply baz_ | apply bnz_ | apply bdz_ | refine bsz_ ?_ (IsS125.ge HI177.out) | refine bsz_ ?_ GE172.out | refine bsz_ ?_ GE173.out | refine bsz_ ?_ GE178.out) | exact HB.out)) : P := h
theorem w75_ {P : Prop} (h : P := by (with_reducible repeat (first | refine knz_ ?_ _ | refine kdz_ ?_ | refine kaz_ ?_ _)); refine blk_put (cs := #[u179000]) ?_ 0 _ rfl; (with_reducible repeat (first | refine knz_ ?_ _ | refine kdz_ ?_ | refine kaz_ ?_ _)); exact BK178.out) : P := h
theorem w74_ {P : Prop} (h : P := by (with_reducible repeat (first | apply raz_ | apply rnz_ | apply rdz_)); exact Kd.R_mono (Kd.R_far (p := ⟨gb660, 0, none⟩) (Kd.R_types HO658.out BK660.out (by decide)) (fun _ hk => hk.2) (.slice Ao20 t656.length co20)) (fun _ hk => hk.1.2)) : P := h
theorem w73_ {P : Prop} (h : P := by (with_reducible repeat (first | apply raz_ | apply rnz_ | apply rdz_)); exact Kd.R_mono (Kd.R_far (p := ⟨gb660, 0, none⟩) (Kd.R_types HO653.out BK660.out (by decide)) (fun _ hk => hk.2) (.slice Ao20 t656.length co20)) (fun _ hk => hk.1.2)) : P := h
theorem w72_ {P : Prop} (h : P := by (with_reducible repeat (first | apply raz_ | apply rnz_ | apply rdz_)); exact (Kd.R_mono (Kd.R_far (p := ⟨gb655, 0, none⟩) (Kd.R_types HO653.out BK655.out (by decide)) (fun _ hk => hk.2) (.slice Ao14 t651.length co14)) (fun _ h_ => h_.1))) : P := h
theorem w71_ {P : Prop} (h : P := by repeat (first | (with_reducible first | exact HI0.out | apply IsS67.alloc | apply IsS67.drewN | apply IsS67.drew | apply IsS67.set_1 | apply IsS67.set_2 | refine IsS67.far ?_ NB0_322.out _ | refine IsS67.far ?_ NB0_328.out _) | exact HI0.out)) : P := h
theorem w70_ {P : Prop} (h : P := by repeat (first | (with_reducible first | exact HI0.out | apply IsS67.alloc | apply IsS67.drewN | apply IsS67.drew | apply IsS67.set_1 | apply IsS67.set_2 | refine IsS67.far ?_ NB0_265.out _ | refine IsS67.far ?_ NB0_278.out _) | exact HI0.out)) : P := h
theorem w69_ {P : Prop} (h : P := by (with_reducible repeat (first | apply raz_ | apply rnz_ | apply rdz_)); exact (Kd.R_mono (Kd.R_far (p := ⟨gb786, 0, none⟩) (Kd.R_types HO784.out BK786.out (by decide)) (fun _ hk => hk.2) (.slice Ao567 t782.length co567)) (fun _ h_ => h_.1))) : P := h
theorem w68_ {P : Prop} (h : P := by (with_reducible repeat (first | apply raz_ | apply rnz_ | apply rdz_)); exact (Kd.R_mono (Kd.R_far (p := ⟨gb741, 0, none⟩) (Kd.R_types HO739.out BK741.out (by decide)) (fun _ hk => hk.2) (.slice Ao325 t737.length co325)) (fun _ h_ => h_.1))) : P := h
theorem w67_ {P : Prop} (h : P := by (with_reducible repeat (first | apply raz_ | apply rnz_ | apply rdz_)); exact (Kd.R_mono (Kd.R_far (p := ⟨gb741, 0, none⟩) (Kd.R_types HO729.out BK741.out (by decide)) (fun _ hk => hk.2) (.slice Ao325 t737.length co325)) (fun _ h_ => h_.1))) : P := h
theorem w66_ {P : Prop} (h : P := by (with_reducible repeat (first | apply raz_ | apply rnz_ | apply rdz_)); exact (Kd.R_mono (Kd.R_far (p := ⟨gb741, 0, none⟩) (Kd.R_types HO724.out BK741.out (by decide)) (fun _ hk => hk.2) (.slice Ao325 t737.length co325)) (fun _ h_ => h_.1))) : P := h
theorem w65_ {P : Prop} (h : P := by (with_reducible repeat (first | apply raz_ | apply rnz_ | apply rdz_)); exact (Kd.R_mono (Kd.R_far (p := ⟨gb741, 0, none⟩) (Kd.R_types HO716.out BK741.out (by decide)) (fun _ hk => hk.2) (.slice Ao325 t737.length co325)) (fun _ h_ => h_.1))) : P := h
theorem w64_ {P : Prop} (h : P := by (with_reducible repeat (first | apply raz_ | apply rnz_ | apply rdz_)); exact (Kd.R_mono (Kd.R_far (p := ⟨gb741, 0, none⟩) (Kd.R_types HO734.out BK741.out (by decide)) (fun _ hk => hk.2) (.slice Ao325 t737.length co325)) (fun _ h_ => h_.1))) : P := h
theorem w63_ {P : Prop} (h : P := by (with_reducible repeat (first | apply raz_ | apply rnz_ | apply rdz_)); exact (Kd.R_mono (Kd.R_far (p := ⟨gb736, 0, none⟩) (Kd.R_types HO729.out BK736.out (by decide)) (fun _ hk => hk.2) (.slice Ao317 t732.length co317)) (fun _ h_ => h_.1))) : P := h
theorem w62_ {P : Prop} (h : P := by (with_reducible repeat (first | apply raz_ | apply rnz_ | apply rdz_)); exact (Kd.R_mono (Kd.R_far (p := ⟨gb736, 0, none⟩) (Kd.R_types HO724.out BK736.out (by decide)) (fun _ hk => hk.2) (.slice Ao317 t732.length co317)) (fun _ h_ => h_.1))) : P := h
theorem w61_ {P : Prop} (h : P := by (with_reducible repeat (first | apply raz_ | apply rnz_ | apply rdz_)); exact (Kd.R_mono (Kd.R_far (p := ⟨gb736, 0, none⟩) (Kd.R_types HO716.out BK736.out (by decide)) (fun _ hk => hk.2) (.slice Ao317 t732.length co317)) (fun _ h_ => h_.1))) : P := h
theorem w60_ {P : Prop} (h : P := by (with_reducible repeat (first | apply raz_ | apply rnz_ | apply rdz_)); exact (Kd.R_mono (Kd.R_far (p := ⟨gb736, 0, none⟩) (Kd.R_types HO734.out BK736.out (by decide)) (fun _ hk => hk.2) (.slice Ao317 t732.length co317)) (fun _ h_ => h_.1))) : P := h
theorem w59_ {P : Prop} (h : P := by (with_reducible repeat (first | apply raz_ | apply rnz_ | apply rdz_)); exact (Kd.R_mono (Kd.R_far (p := ⟨gb731, 0, none⟩) (Kd.R_types HO729.out BK731.out (by decide)) (fun _ hk => hk.2) (.slice Ao310 t727.length co310)) (fun _ h_ => h_.1))) : P := h
theorem w58_ {P : Prop} (h : P := by (with_reducible repeat (first | apply raz_ | apply rnz_ | apply rdz_)); exact (Kd.R_mono (Kd.R_far (p := ⟨gb731, 0, none⟩) (Kd.R_types HO724.out BK731.out (by decide)) (fun _ hk => hk.2) (.slice Ao310 t727.length co310)) (fun _ h_ => h_.1))) : P := h
theorem w57_ {P : Prop} (h : P := by (with_reducible repeat (first | apply raz_ | apply rnz_ | apply rdz_)); exact (Kd.R_mono (Kd.R_far (p := ⟨gb731, 0, none⟩) (Kd.R_types HO716.out BK731.out (by decide)) (fun _ hk => hk.2) (.slice Ao310 t727.length co310)) (fun _ h_ => h_.1))) : P := h
theorem w56_ {P : Prop} (h : P := by (with_reducible repeat (first | apply raz_ | apply rnz_ | apply rdz_)); exact (Kd.R_mono (Kd.R_far (p := ⟨gb726, 0, none⟩) (Kd.R_types HO724.out BK726.out (by decide)) (fun _ hk => hk.2) (.slice Ao302 t722.length co302)) (fun _ h_ => h_.1))) : P := h
theorem w55_ {P : Prop} (h : P := by (with_reducible repeat (first | apply raz_ | apply rnz_ | apply rdz_)); exact (Kd.R_mono (Kd.R_far (p := ⟨gb726, 0, none⟩) (Kd.R_types HO716.out BK726.out (by decide)) (fun _ hk => hk.2) (.slice Ao302 t722.length co302)) (fun _ h_ => h_.1))) : P := h
theorem w54_ {P : Prop} (h : P := by (with_reducible repeat (first | apply raz_ | apply rnz_ | apply rdz_)); exact (Kd.R_mono (Kd.R_far (p := ⟨gb697, 0, none⟩) (Kd.R_types HO686.out BK697.out (by decide)) (fun _ hk => hk.2) (.slice Ao174 t693.length co174)) (fun _ h_ => h_.1))) : P := h
theorem w53_ {P : Prop} (h : P := by (with_reducible repeat (first | apply raz_ | apply rnz_ | apply rdz_)); exact (Kd.R_mono (Kd.R_far (p := ⟨gb692, 0, none⟩) (Kd.R_types HO690.out BK692.out (by decide)) (fun _ hk => hk.2) (.slice Ao168 t688.length co168)) (fun _ h_ => h_.1))) : P := h
theorem w52_ {P : Prop} (h : P := by (with_reducible repeat (first | apply raz_ | apply rnz_ | apply rdz_)); exact (Kd.R_mono (Kd.R_far (p := ⟨gb692, 0, none⟩) (Kd.R_types HO686.out BK692.out (by decide)) (fun _ hk => hk.2) (.slice Ao168 t688.length co168)) (fun _ h_ => h_.1))) : P := h
theorem w51_ {P : Prop} (h : P := by (with_reducible repeat (first | apply raz_ | apply rnz_ | apply rdz_)); exact (Kd.R_mono (Kd.R_far (p := ⟨gb687, 0, none⟩) (Kd.R_types HO686.out BK687.out (by decide)) (fun _ hk => hk.2) (.slice Ao164 t684.length co164)) (fun _ h_ => h_.1))) : P := h
theorem w50_ {P : Prop} (h : P := by (with_reducible repeat (first | refine knz_ ?_ _ | refine kdz_ ?_ | refine kaz_ ?_ _)); refine blk_put (cs := #[.slice none 0 0]) ?_ 0 _ rfl; (with_reducible repeat (first | refine knz_ ?_ _ | refine kdz_ ?_ | refine kaz_ ?_ _)); exact BK660.out) : P := h
theorem w49_ {P : Prop} (h : P := by (with_reducible repeat (first | refine knz_ ?_ _ | refine kdz_ ?_ | refine kaz_ ?_ _)); refine blk_put (cs := #[.slice none 0 0]) ?_ 0 _ rfl; (with_reducible repeat (first | refine knz_ ?_ _ | refine kdz_ ?_ | refine kaz_ ?_ _)); exact BK565.out) : P := h
theorem w48_ {P : Prop} (h : P := by (with_reducible repeat (first | refine knz_ ?_ _ | refine kdz_ ?_ | refine kaz_ ?_ _)); refine blk_put (cs := #[.slice none 0 0]) ?_ 0 _ rfl; (with_reducible repeat (first | refine knz_ ?_ _ | refine kdz_ ?_ | refine kaz_ ?_ _)); exact BK544.out) : P := h
theorem w47_ {P : Prop} (h : P := by (with_reducible repeat (first | refine knz_ ?_ _ | refine kdz_ ?_ | refine kaz_ ?_ _)); refine blk_put (cs := #[.slice none 0 0]) ?_ 0 _ rfl; (with_reducible repeat (first | refine knz_ ?_ _ | refine kdz_ ?_ | refine kaz_ ?_ _)); exact BK537.out) : P := h
theorem w46_ {P : Prop} (h : P := by (with_reducible repeat (first | refine knz_ ?_ _ | refine kdz_ ?_ | refine kaz_ ?_ _)); refine blk_put (cs := #[.slice none 0 0]) ?_ 0 _ rfl; (with_reducible repeat (first | refine knz_ ?_ _ | refine kdz_ ?_ | refine kaz_ ?_ _)); exact BK508.out) : P := h
theorem w45_ {P : Prop} (h : P := by (with_reducible repeat (first | refine knz_ ?_ _ | refine kdz_ ?_ | refine kaz_ ?_ _)); refine blk_put (cs := #[.slice none 0 0]) ?_ 0 _ rfl; (with_reducible repeat (first | refine knz_ ?_ _ | refine kdz_ ?_ | refine kaz_ ?_ _)); exact BK494.out) : P := h
theorem w44_ {P : Prop} (h : P := by (with_reducible repeat (first | refine knz_ ?_ _ | refine kdz_ ?_ | refine kaz_ ?_ _)); refine blk_put (cs := #[.slice none 0 0]) ?_ 0 _ rfl; (with_reducible repeat (first | refine knz_ ?_ _ | refine kdz_ ?_ | refine kaz_ ?_ _)); exact BK447.out) : P := h
theorem w43_ {P : Prop} (h : P := by (with_reducible repeat (first | refine knz_ ?_ _ | refine kdz_ ?_ | refine kaz_ ?_ _)); refine blk_put (cs := #[.slice none 0 0]) ?_ 0 _ rfl; (with_reducible repeat (first | refine knz_ ?_ _ | refine kdz_ ?_ | refine kaz_ ?_ _)); exact BK395.out) : P := h
theorem w42_ {P : Prop} (h : P := by (with_reducible repeat (first | refine knz_ ?_ _ | refine kdz_ ?_ | refine kaz_ ?_ _)); refine blk_put (cs := #[.slice none 0 0]) ?_ 0 _ rfl; (with_reducible repeat (first | refine knz_ ?_ _ | refine kdz_ ?_ | refine kaz_ ?_ _)); exact BK322.out) : P := h
theorem w41_ {P : Prop} (h : P := by (with_reducible repeat (first | refine knz_ ?_ _ | refine kdz_ ?_ | refine kaz_ ?_ _)); refine blk_put (cs := #[.slice none 0 0]) ?_ 0 _ rfl; (with_reducible repeat (first | refine knz_ ?_ _ | refine kdz_ ?_ | refine kaz_ ?_ _)); exact BK223.out) : P := h
theorem w40_ {P : Prop} (h : P := by (with_reducible repeat (first | refine knz_ ?_ _ | refine kdz_ ?_ | refine kaz_ ?_ _)); refine blk_put (cs := #[.slice none 0 0]) ?_ 0 _ rfl; (with_reducible repeat (first | refine knz_ ?_ _ | refine kdz_ ?_ | refine kaz_ ?_ _)); exact BK173.out) : P := h
theorem w39_ {P : Prop} (h : P := by (with_reducible repeat (first | apply raz_ | apply rnz_ | apply rdz_)); exact (Kd.R_mono (Kd.R_far (p := ⟨gb786, 0, none⟩) (Kd.R_types HO_737000.out BK786.out (by decide)) (fun _ hk => hk.2) (.slice Ao567 t782.length co567)) (fun _ h_ => h_.1))) : P := h
theorem w38_ {P : Prop} (h : P := by repeat (first | (with_reducible first | exact HI552.out | apply IsS67.alloc | apply IsS67.drewN | apply IsS67.drew | apply IsS67.set_1 | apply IsS67.set_2 | refine IsS67.far ?_ NB552_550.out _ | refine IsS67.far ?_ NB552_551.out _) | exact HI552.out)) : P := h
theorem w37_ {P : Prop} (h : P := by repeat (first | (with_reducible first | exact HI347.out | apply IsS67.alloc | apply IsS67.drewN | apply IsS67.drew | apply IsS67.set_1 | apply IsS67.set_2 | refine IsS67.far ?_ NB347_346.out _ | refine IsS67.far ?_ NB347_360.out _) | exact HI347.out)) : P := h
theorem w36_ {P : Prop} (h : P := by repeat (first | (with_reducible first | exact HB.out | apply baz_ | apply bnz_ | apply bdz_ | refine bsz_ ?_ (IsS67.ge HI552.out) | refine bsz_ ?_ GE550.out | refine bsz_ ?_ GE551.out | refine bsz_ ?_ GE557.out | refine bsz_ ?_ GE565.out) | exact HB.out)) : P := h
theorem w35_ {P : Prop} (h : P := by repeat (first | (with_reducible first | exact HI177.out | apply IsS125.alloc | apply IsS125.drewN | apply IsS125.drew | apply IsS125.set_0 | refine IsS125.far ?_ NB177_172.out _ | refine IsS125.far ?_ NB177_173.out _ | refine IsS125.far ?_ NB177_178.out _) | exact HI177.out)) : P := h
theorem w34_ {P : Prop} (h : P := by repeat (first | (with_reducible first | exact HI552.out | apply IsS67.alloc | apply IsS67.drewN | apply IsS67.drew | apply IsS67.set_1 | apply IsS67.set_2 | refine IsS67.far ?_ NB552_550.out _ | refine IsS67.far ?_ NB552_551.out _ | refine IsS67.far ?_ NB552_557.out _) | exact HI552.out)) : P := h
theorem w33_ {P : Prop} (h : P := by repeat (first | (with_reducible first | exact HI347.out | apply IsS67.alloc | apply IsS67.drewN | apply IsS67.drew | apply IsS67.set_1 | apply IsS67.set_2 | refine IsS67.far ?_ NB347_346.out _ | refine IsS67.far ?_ NB347_360.out _ | refine IsS67.far ?_ NB347_371.out _) | exact HI347.out)) : P := h
theorem w32_ {P : Prop} (h : P := by repeat (first | (with_reducible first | exact HI552.out | apply IsS67.alloc | apply IsS67.drewN | apply IsS67.drew | apply IsS67.set_1 | apply IsS67.set_2 | refine IsS67.far ?_ NB552_550.out _ | refine IsS67.far ?_ NB552_551.out _ | refine IsS67.far ?_ NB552_557.out _ | refine IsS67.far ?_ NB552_565.out _) | exact HI552.out)) : P := h
theorem w31_ {P : Prop} (h : P := by first | exact Kd.own_blk (Kd.R_away HO_566000.out (fun _ hk => hk)) | (rw [add_block]; exact Kd.own_blk (Kd.R_away HO_566000.out (fun _ hk => hk))) | (show (Addr.add _ _).block ≠ _; rw [add_block]; exact Kd.own_blk (Kd.R_away HO_566000.out (fun _ hk => hk))) | (dsimp only; exact Kd.own_blk (Kd.R_away HO_566000.out (fun _ hk => hk)))) : P := h
theorem w30_ {P : Prop} (h : P := by (with_reducible repeat (first | refine knz_ ?_ _ | refine kdz_ ?_ | refine kaz_ ?_ _)); refine blk_far ?_ NB761_764.out _; (with_reducible repeat (first | refine knz_ ?_ _ | refine kdz_ ?_ | refine kaz_ ?_ _)); refine blk_far ?_ NB761_764.out _; (with_reducible repeat (first | refine knz_ ?_ _ | refine kdz_ ?_ | refine kaz_ ?_ _)); exact BK761.out) : P := h
theorem w29_ {P : Prop} (h : P := by (with_reducible repeat (first | refine knz_ ?_ _ | refine kdz_ ?_ | refine kaz_ ?_ _)); refine blk_far ?_ NB753_764.out _; (with_reducible repeat (first | refine knz_ ?_ _ | refine kdz_ ?_ | refine kaz_ ?_ _)); refine blk_far ?_ NB753_764.out _; (with_reducible repeat (first | refine knz_ ?_ _ | refine kdz_ ?_ | refine kaz_ ?_ _)); exact BK753.out) : P := h
theorem w28_ {P : Prop} (h : P := by (with_reducible repeat (first | refine knz_ ?_ _ | refine kdz_ ?_ | refine kaz_ ?_ _)); refine blk_far ?_ NB752_764.out _; (with_reducible repeat (first | refine knz_ ?_ _ | refine kdz_ ?_ | refine kaz_ ?_ _)); refine blk_far ?_ NB752_764.out _; (with_reducible repeat (first | refine knz_ ?_ _ | refine kdz_ ?_ | refine kaz_ ?_ _)); exact BK752.out) : P := h
theorem w27_ {P : Prop} (h : P := by (with_reducible repeat (first | refine knz_ ?_ _ | refine kdz_ ?_ | refine kaz_ ?_ _)); refine blk_far ?_ NB746_764.out _; (with_reducible repeat (first | refine knz_ ?_ _ | refine kdz_ ?_ | refine kaz_ ?_ _)); refine blk_far ?_ NB746_764.out _; (with_reducible repeat (first | refine knz_ ?_ _ | refine kdz_ ?_ | refine kaz_ ?_ _)); exact BK746.out) : P := h
theorem w26_ {P : Prop} (h : P := by (with_reducible repeat (first | refine knz_ ?_ _ | refine kdz_ ?_ | refine kaz_ ?_ _)); refine blk_far ?_ NB741_764.out _; (with_reducible repeat (first | refine knz_ ?_ _ | refine kdz_ ?_ | refine kaz_ ?_ _)); refine blk_far ?_ NB741_764.out _; (with_reducible repeat (first | refine knz_ ?_ _ | refine kdz_ ?_ | refine kaz_ ?_ _)); exact BK741.out) : P := h
theorem w25_ {P : Prop} (h : P := by (with_reducible repeat (first | refine knz_ ?_ _ | refine kdz_ ?_ | refine kaz_ ?_ _)); refine blk_far ?_ NB736_764.out _; (with_reducible repeat (first | refine knz_ ?_ _ | refine kdz_ ?_ | refine kaz_ ?_ _)); refine blk_far ?_ NB736_764.out _; (with_reducible repeat (first | refine knz_ ?_ _ | refine kdz_ ?_ | refine kaz_ ?_ _)); exact BK736.out) : P := h
theorem w24_ {P : Prop} (h : P := by (with_reducible repeat (first | refine knz_ ?_ _ | refine kdz_ ?_ | refine kaz_ ?_ _)); refine blk_far ?_ NB731_764.out _; (with_reducible repeat (first | refine knz_ ?_ _ | refine kdz_ ?_ | refine kaz_ ?_ _)); refine blk_far ?_ NB731_764.out _; (with_reducible repeat (first | refine knz_ ?_ _ | refine kdz_ ?_ | refine kaz_ ?_ _)); exact BK731.out) : P := h
theorem w23_ {P : Prop} (h : P := by (with_reducible repeat (first | refine knz_ ?_ _ | refine kdz_ ?_ | refine kaz_ ?_ _)); refine blk_far ?_ NB726_764.out _; (with_reducible repeat (first | refine knz_ ?_ _ | refine kdz_ ?_ | refine kaz_ ?_ _)); refine blk_far ?_ NB726_764.out _; (with_reducible repeat (first | refine knz_ ?_ _ | refine kdz_ ?_ | refine kaz_ ?_ _)); exact BK726.out) : P := h
theorem w22_ {P : Prop} (h : P := by (with_reducible repeat (first | refine knz_ ?_ _ | refine kdz_ ?_ | refine kaz_ ?_ _)); refine blk_far ?_ NB721_764.out _; (with_reducible repeat (first | refine knz_ ?_ _ | refine kdz_ ?_ | refine kaz_ ?_ _)); refine blk_far ?_ NB721_764.out _; (with_reducible repeat (first | refine knz_ ?_ _ | refine kdz_ ?_ | refine kaz_ ?_ _)); exact BK721.out) : P := h
theorem w21_ {P : Prop} (h : P := by (with_reducible repeat (first | refine knz_ ?_ _ | refine kdz_ ?_ | refine kaz_ ?_ _)); refine blk_far ?_ NB720_764.out _; (with_reducible repeat (first | refine knz_ ?_ _ | refine kdz_ ?_ | refine kaz_ ?_ _)); refine blk_far ?_ NB720_764.out _; (with_reducible repeat (first | refine knz_ ?_ _ | refine kdz_ ?_ | refine kaz_ ?_ _)); exact BK720.out) : P := h
theorem w20_ {P : Prop} (h : P := by (with_reducible repeat (first | apply Kd.R_alloc | apply Kd.R_drewN | apply Kd.R_drew)); exact Kd.R_mono (Kd.R_far (p := ⟨gb237, 1, none⟩) (Kd.R_far (p := ⟨gb237, 0, none⟩) (Kd.R_mono HO_3.out (fun k_ hk => (⟨hk, hk.2⟩ : _ ∧ k_ ≠ gb237))) (fun _ hk => hk.2) (.int .i64 x4_1)) (fun _ hk => hk.2) (.int .i64 x5_2)) (fun _ hk => hk.1.2)) : P := h
theorem w19_ {P : Prop} (h : P := by (with_reducible repeat (first | refine knz_ ?_ _ | refine kdz_ ?_ | refine kaz_ ?_ _)); refine blk_put (cs := #[.int .i64 (wrap64 (t266 + (wrap64 (Int.tdiv t269 8)))), .int .i64 0, .int .i64 (wrap64 (t272 - (wrap64 (Int.tdiv t275 8))))]) ?_ 1 _ rfl; (with_reducible repeat (first | refine knz_ ?_ _ | refine kdz_ ?_ | refine kaz_ ?_ _)); exact BK278.out) : P := h
theorem w18_ {P : Prop} (h : P := by (with_reducible repeat (first | refine knz_ ?_ _ | refine kdz_ ?_ | refine kaz_ ?_ _)); refine blk_put (cs := #[.int .i64 t762, .int .i64 0]) ?_ 1 _ rfl; (with_reducible repeat (first | refine knz_ ?_ _ | refine kdz_ ?_ | refine kaz_ ?_ _)); refine blk_put (cs := #[.int .i64 0, .int .i64 0]) ?_ 0 _ rfl; (with_reducible repeat (first | refine knz_ ?_ _ | refine kdz_ ?_ | refine kaz_ ?_ _)); exact BK764.out) : P := h
theorem w17_ {P : Prop} (h : P := by (with_reducible repeat (first | refine blk_drewN ?_ _ | refine blk_drew ?_ | refine blk_alloc ?_ _)); refine blk_put (cs := #[.int .i64 x4_1, .int .i64 0]) ?_ 1 _ rfl; (with_reducible repeat (first | refine blk_drewN ?_ _ | refine blk_drew ?_ | refine blk_alloc ?_ _)); refine blk_put (cs := #[.int .i64 0, .int .i64 0]) ?_ 0 _ rfl; (with_reducible repeat (first | refine blk_drewN ?_ _ | refine blk_drew ?_ | refine blk_alloc ?_ _)); exact BK237.out) : P := h
theorem w16_ {P : Prop} (h : P := by (with_reducible repeat (first | apply raz_ | apply rnz_ | apply rdz_)); exact Kd.R_mono (Kd.R_far (p := ⟨gb764, 1, none⟩) (Kd.R_far (p := ⟨gb764, 0, none⟩) (Kd.R_types HO744.out BK764.out (by decide)) (fun _ hk => hk.2) (.int .i64 t762)) (fun _ hk => hk.2) (.int .i64 t763)) (fun _ hk => ⟨hk.1.1.1.1.1.1.1.1.2, ⟨hk.1.1.1.1.1.1.1.2, ⟨hk.1.1.1.1.1.1.2, ⟨hk.1.1.1.1.1.2, ⟨hk.1.1.1.1.2, ⟨hk.1.1.1.2, ⟨hk.1.1.2, hk.1.2⟩⟩⟩⟩⟩⟩⟩)) : P := h
theorem w15_ {P : Prop} (h : P := by (with_reducible repeat (first | apply raz_ | apply rnz_ | apply rdz_)); exact Kd.R_mono (Kd.R_far (p := ⟨gb764, 1, none⟩) (Kd.R_far (p := ⟨gb764, 0, none⟩) (Kd.R_types HO739.out BK764.out (by decide)) (fun _ hk => hk.2) (.int .i64 t762)) (fun _ hk => hk.2) (.int .i64 t763)) (fun _ hk => ⟨hk.1.1.1.1.1.1.1.1.2, ⟨hk.1.1.1.1.1.1.1.2, ⟨hk.1.1.1.1.1.1.2, ⟨hk.1.1.1.1.1.2, ⟨hk.1.1.1.2, ⟨hk.1.1.1.1.2, ⟨hk.1.1.2, hk.1.2⟩⟩⟩⟩⟩⟩⟩)) : P := h
theorem w14_ {P : Prop} (h : P := by (with_reducible repeat (first | apply raz_ | apply rnz_ | apply rdz_)); exact Kd.R_mono (Kd.R_far (p := ⟨gb764, 1, none⟩) (Kd.R_far (p := ⟨gb764, 0, none⟩) (Kd.R_types HO734.out BK764.out (by decide)) (fun _ hk => hk.2) (.int .i64 t762)) (fun _ hk => hk.2) (.int .i64 t763)) (fun _ hk => ⟨hk.1.1.1.1.1.1.1.1.2, ⟨hk.1.1.1.1.1.1.1.2, ⟨hk.1.1.1.1.1.1.2, ⟨hk.1.1.1.1.2, ⟨hk.1.1.1.2, ⟨hk.1.1.1.1.1.2, ⟨hk.1.1.2, hk.1.2⟩⟩⟩⟩⟩⟩⟩)) : P := h
theorem w13_ {P : Prop} (h : P := by (with_reducible repeat (first | apply raz_ | apply rnz_ | apply rdz_)); exact Kd.R_mono (Kd.R_far (p := ⟨gb764, 1, none⟩) (Kd.R_far (p := ⟨gb764, 0, none⟩) (Kd.R_types HO729.out BK764.out (by decide)) (fun _ hk => hk.2) (.int .i64 t762)) (fun _ hk => hk.2) (.int .i64 t763)) (fun _ hk => ⟨hk.1.1.1.1.1.1.1.1.2, ⟨hk.1.1.1.1.1.1.1.2, ⟨hk.1.1.1.1.1.2, ⟨hk.1.1.1.1.2, ⟨hk.1.1.1.2, ⟨hk.1.1.1.1.1.1.2, ⟨hk.1.1.2, hk.1.2⟩⟩⟩⟩⟩⟩⟩)) : P := h
theorem w12_ {P : Prop} (h : P := by (with_reducible repeat (first | apply raz_ | apply rnz_ | apply rdz_)); exact Kd.R_mono (Kd.R_far (p := ⟨gb764, 1, none⟩) (Kd.R_far (p := ⟨gb764, 0, none⟩) (Kd.R_types HO724.out BK764.out (by decide)) (fun _ hk => hk.2) (.int .i64 t762)) (fun _ hk => hk.2) (.int .i64 t763)) (fun _ hk => ⟨hk.1.1.1.1.1.1.1.1.2, ⟨hk.1.1.1.1.1.1.2, ⟨hk.1.1.1.1.1.2, ⟨hk.1.1.1.1.2, ⟨hk.1.1.1.2, ⟨hk.1.1.1.1.1.1.1.2, ⟨hk.1.1.2, hk.1.2⟩⟩⟩⟩⟩⟩⟩)) : P := h
theorem w11_ {P : Prop} (h : P := by (with_reducible repeat (first | apply raz_ | apply rnz_ | apply rdz_)); exact Kd.R_mono (Kd.R_far (p := ⟨gb764, 1, none⟩) (Kd.R_far (p := ⟨gb764, 0, none⟩) (Kd.R_types HO716.out BK764.out (by decide)) (fun _ hk => hk.2) (.int .i64 t762)) (fun _ hk => hk.2) (.int .i64 t763)) (fun _ hk => ⟨hk.1.1.1.1.1.1.1.2, ⟨hk.1.1.1.1.1.1.2, ⟨hk.1.1.1.1.1.2, ⟨hk.1.1.1.1.2, ⟨hk.1.1.1.2, ⟨hk.1.1.1.1.1.1.1.1.2, ⟨hk.1.1.2, hk.1.2⟩⟩⟩⟩⟩⟩⟩)) : P := h
theorem w10_ {P : Prop} (h : P := by (with_reducible repeat (first | refine knz_ ?_ _ | refine kdz_ ?_ | refine kaz_ ?_ _)); refine blk_far ?_ NB419_421.out _; (with_reducible repeat (first | refine knz_ ?_ _ | refine kdz_ ?_ | refine kaz_ ?_ _)); refine blk_far ?_ NB419_421.out _; (with_reducible repeat (first | refine knz_ ?_ _ | refine kdz_ ?_ | refine kaz_ ?_ _)); refine blk_far ?_ NB419_421.out _; (with_reducible repeat (first | refine knz_ ?_ _ | refine kdz_ ?_ | refine kaz_ ?_ _)); exact BK419.out) : P := h
theorem w9_ {P : Prop} (h : P := by (with_reducible repeat (first | refine knz_ ?_ _ | refine kdz_ ?_ | refine kaz_ ?_ _)); refine blk_far ?_ NB412_414.out _; (with_reducible repeat (first | refine knz_ ?_ _ | refine kdz_ ?_ | refine kaz_ ?_ _)); refine blk_far ?_ NB412_414.out _; (with_reducible repeat (first | refine knz_ ?_ _ | refine kdz_ ?_ | refine kaz_ ?_ _)); refine blk_far ?_ NB412_414.out _; (with_reducible repeat (first | refine knz_ ?_ _ | refine kdz_ ?_ | refine kaz_ ?_ _)); exact BK412.out) : P := h
theorem w8_ {P : Prop} (h : P := by (with_reducible repeat (first | refine knz_ ?_ _ | refine kdz_ ?_ | refine kaz_ ?_ _)); refine blk_far ?_ NB265_278.out _; (with_reducible repeat (first | refine knz_ ?_ _ | refine kdz_ ?_ | refine kaz_ ?_ _)); refine blk_far ?_ NB265_278.out _; (with_reducible repeat (first | refine knz_ ?_ _ | refine kdz_ ?_ | refine kaz_ ?_ _)); refine blk_far ?_ NB265_278.out _; (with_reducible repeat (first | refine knz_ ?_ _ | refine kdz_ ?_ | refine kaz_ ?_ _)); exact BK265.out) : P := h
theorem w7_ {P : Prop} (h : P := by (with_reducible repeat (first | apply raz_ | apply rnz_ | apply rdz_)); exact (Kd.R_mono (Kd.R_mono (Kd.R_far (p := ⟨gb721, 2, none⟩) (Kd.R_far (p := ⟨gb721, 1, none⟩) (Kd.R_far (p := ⟨gb721, 0, none⟩) (Kd.R_far (p := ⟨gb720, 0, none⟩) (Kd.R_mono (Kd.R_types HO716.out BK720.out (by decide)) (fun k_ hk => (⟨hk, hk.1.2⟩ : _ ∧ k_ ≠ gb721))) (fun _ hk => hk.1.2) (.slice Ao296 t714.length co296)) (fun _ hk => hk.2) (.int .i64 t717)) (fun _ hk => hk.2) (.int .i64 t718)) (fun _ hk => hk.2) (.int .i64 t719)) (fun _ h_ => h_.1)) (fun _ h_ => h_.1))) : P := h
theorem w6_ {P : Prop} (h : P := by (with_reducible repeat (first | refine knz_ ?_ _ | refine kdz_ ?_ | refine kaz_ ?_ _)); refine blk_put (cs := #[.int .i64 ((rd_T40 l0_0 x12_1).f0), .int .i64 ((rd_T40 l0_0 x12_1).f1), .int .i64 0]) ?_ 2 _ rfl; (with_reducible repeat (first | refine knz_ ?_ _ | refine kdz_ ?_ | refine kaz_ ?_ _)); refine blk_put (cs := #[.int .i64 ((rd_T40 l0_0 x12_1).f0), .int .i64 0, .int .i64 0]) ?_ 1 _ rfl; (with_reducible repeat (first | refine knz_ ?_ _ | refine kdz_ ?_ | refine kaz_ ?_ _)); refine blk_put (cs := #[.int .i64 0, .int .i64 0, .int .i64 0]) ?_ 0 _ rfl; (with_reducible repeat (first | refine knz_ ?_ _ | refine kdz_ ?_ | refine kaz_ ?_ _)); exact BK414.out) : P := h
theorem w5_ {P : Prop} (h : P := by (with_reducible repeat (first | refine knz_ ?_ _ | refine kdz_ ?_ | refine kaz_ ?_ _)); refine blk_put (cs := #[.int .i64 (wrap64 (t266 + (wrap64 (Int.tdiv t269 8)))), .int .i64 0, .int .i64 0]) ?_ 2 _ rfl; (with_reducible repeat (first | refine knz_ ?_ _ | refine kdz_ ?_ | refine kaz_ ?_ _)); refine blk_put (cs := #[.int .i64 (wrap64 (t266 + (wrap64 (Int.tdiv t269 8)))), .int .i64 0, .int .i64 0]) ?_ 1 _ rfl; (with_reducible repeat (first | refine knz_ ?_ _ | refine kdz_ ?_ | refine kaz_ ?_ _)); refine blk_put (cs := #[.int .i64 0, .int .i64 0, .int .i64 0]) ?_ 0 _ rfl; (with_reducible repeat (first | refine knz_ ?_ _ | refine kdz_ ?_ | refine kaz_ ?_ _)); exact BK278.out) : P := h
theorem w4_ {P : Prop} (h : P := by first | exact (by first | exact Kd.own_blk (Kd.R_ne HO_737000.out BK786.out (by decide)) | exact (HO_737000.out.1 _ rfl).2 | exact (HO_737000.out.1 _ rfl).1.2) | (rw [add_block]; exact (by first | exact Kd.own_blk (Kd.R_ne HO_737000.out BK786.out (by decide)) | exact (HO_737000.out.1 _ rfl).2 | exact (HO_737000.out.1 _ rfl).1.2)) | (show (Addr.add _ _).block ≠ _; rw [add_block]; exact (by first | exact Kd.own_blk (Kd.R_ne HO_737000.out BK786.out (by decide)) | exact (HO_737000.out.1 _ rfl).2 | exact (HO_737000.out.1 _ rfl).1.2)) | (dsimp only; exact (by first | exact Kd.own_blk (Kd.R_ne HO_737000.out BK786.out (by decide)) | exact (HO_737000.out.1 _ rfl).2 | exact (HO_737000.out.1 _ rfl).1.2))) : P := h
theorem w3_ {P : Prop} (h : P := by first | exact (by first | exact Kd.own_blk (Kd.R_ne HO_566000.out BK551.out (by decide)) | exact (HO_566000.out.1 _ rfl).2 | exact (HO_566000.out.1 _ rfl).1.2) | (rw [add_block]; exact (by first | exact Kd.own_blk (Kd.R_ne HO_566000.out BK551.out (by decide)) | exact (HO_566000.out.1 _ rfl).2 | exact (HO_566000.out.1 _ rfl).1.2)) | (show (Addr.add _ _).block ≠ _; rw [add_block]; exact (by first | exact Kd.own_blk (Kd.R_ne HO_566000.out BK551.out (by decide)) | exact (HO_566000.out.1 _ rfl).2 | exact (HO_566000.out.1 _ rfl).1.2)) | (dsimp only; exact (by first | exact Kd.own_blk (Kd.R_ne HO_566000.out BK551.out (by decide)) | exact (HO_566000.out.1 _ rfl).2 | exact (HO_566000.out.1 _ rfl).1.2))) : P := h
theorem w2_ {P : Prop} (h : P := by (with_reducible repeat (first | refine knz_ ?_ _ | refine kdz_ ?_ | refine kaz_ ?_ _)); refine blk_put (cs := #[.int .i64 t717, .int .i64 t718, .int .i64 0]) ?_ 2 _ rfl; (with_reducible repeat (first | refine knz_ ?_ _ | refine kdz_ ?_ | refine kaz_ ?_ _)); refine blk_put (cs := #[.int .i64 t717, .int .i64 0, .int .i64 0]) ?_ 1 _ rfl; (with_reducible repeat (first | refine knz_ ?_ _ | refine kdz_ ?_ | refine kaz_ ?_ _)); refine blk_put (cs := #[.int .i64 0, .int .i64 0, .int .i64 0]) ?_ 0 _ rfl; (with_reducible repeat (first | refine knz_ ?_ _ | refine kdz_ ?_ | refine kaz_ ?_ _)); refine blk_far ?_ NB721_720.out _; (with_reducible repeat (first | refine knz_ ?_ _ | refine kdz_ ?_ | refine kaz_ ?_ _)); exact BK721.out) : P := h
theorem w1_ {P : Prop} (h : P := by (with_reducible repeat (first | refine knz_ ?_ _ | refine kdz_ ?_ | refine kaz_ ?_ _)); refine blk_put (cs := #[.int .i64 t553, .int .i64 0]) ?_ 1 _ rfl; (with_reducible repeat (first | refine knz_ ?_ _ | refine kdz_ ?_ | refine kaz_ ?_ _)); refine blk_put (cs := #[.int .i64 0, .int .i64 0]) ?_ 0 _ rfl; (with_reducible repeat (first | refine knz_ ?_ _ | refine kdz_ ?_ | refine kaz_ ?_ _)); refine blk_far ?_ NB551_550.out _; (with_reducible repeat (first | refine knz_ ?_ _ | refine kdz_ ?_ | refine kaz_ ?_ _)); refine blk_far ?_ NB551_550.out _; (with_reducible repeat (first | refine knz_ ?_ _ | refine kdz_ ?_ | refine kaz_ ?_ _)); refine blk_far ?_ NB551_550.out _; (with_reducible repeat (first | refine knz_ ?_ _ | refine kdz_ ?_ | refine kaz_ ?_ _)); exact BK551.out) : P := h
end Go.Proofs.YtodacdcbeleleaaDoor
section
namespace Go.Proofs.YtodacdcbeleleaaDoor.P
open Go.RowKit Go.Proofs.YtodacdcbeleleaaDoorW.PrintWords Go.Proofs.YtodacdcbeleleaaDoorW.PrintLast Go.Proofs.YtodacdcbeleleaaDoorW.PrintMore
attribute [local go_sem] max2_int min2_int max_two min_two max_three min_three max_four min_four   -- for this text's walks alone
set_option linter.unusedVariables false
set_option linter.unusedSimpArgs false

def errW : Option Int → Value
  | none => .nilIface
  | some c => .iface 0 (.int .i64 c)
theorem errW_none : errW none = .nilIface := rfl
theorem errW_some (c : Int) : errW (some c) = .iface 0 (.int .i64 c) := rfl

theorem info3 : (Tryd.prog.info? 3).map (fun i => (i.zero, i.size, i.bytes)) = some (some (.int .i64 0), 1, 8) := by kernel_rfl
theorem info25 : (Tryd.prog.info? 25).map (fun i => (i.zero, i.size, i.bytes)) = some (some (.agg #[(.int .i64 0), (.int .i64 0)]), 2, 16) := by kernel_rfl
theorem info40 : (Tryd.prog.info? 40).map (fun i => (i.zero, i.size, i.bytes)) = some (some (.agg #[(.int .i64 0), (.int .i64 0), (.int .i64 0)]), 3, 24) := by kernel_rfl
-- the values' own types
structure S40 where
  f0 : Int
  f1 : Int
  f2 : Int
def z40 : S40 := ⟨(0 : Int), (0 : Int), (0 : Int)⟩
def k40 : Kd S40 := Kd.iso (Kd.pair (Kd.int .i64) (Kd.pair (Kd.int .i64) (Kd.int .i64))) (fun x : S40 => (x.f0, x.f1, x.f2))
theorem k40_open {w : World} {x : S40} {cs : List Value} (h : k40.K w x cs) : cs = [.int .i64 x.f0, .int .i64 x.f1, .int .i64 x.f2] := by
  obtain ⟨_, _, rfl, rfl, ⟨_, _, rfl, rfl, rfl⟩⟩ := h
  exact rfl
theorem k40_mkM (w : World) (base : Nat) (ok : Nat → Prop) (x : S40)  : k40.M w base ok x [.int .i64 x.f0, .int .i64 x.f1, .int .i64 x.f2] := ⟨[.int .i64 x.f0], [.int .i64 x.f1, .int .i64 x.f2], rfl, rfl, ⟨[.int .i64 x.f1], [.int .i64 x.f2], rfl, rfl, rfl⟩⟩
def rd_T40 (xs : List S40) (i : Int) : S40 := xs.getD i.toNat z40
theorem at_T40 {w : World} {A : Option Addr} {n : Nat} {xs : List S40} (h : Kd.C k40 w A n xs) (i : Int) (h0 : 0 ≤ i) (h1 : i < n) : ∃ ad , A = some ad ∧ w.cell? (ad.add (i.toNat * 3)) = some (.int .i64 (rd_T40 xs i).f0) ∧ w.cell? ⟨(ad.add (i.toNat * 3)).block, (ad.add (i.toNat * 3)).off + 1, none⟩ = some (.int .i64 (rd_T40 xs i).f1) ∧ w.cell? ⟨(ad.add (i.toNat * 3)).block, (ad.add (i.toNat * 3)).off + 2, none⟩ = some (.int .i64 (rd_T40 xs i).f2) := by
  obtain ⟨ad, c, e, _, hK, hc0⟩ := Kd.C_get h z40 i h0 h1
  have hc : ∀ j u, c[j]? = some u → w.cell? (ad.add (i.toNat * 3 + j)) = some u := hc0
  obtain rfl := k40_open hK
  exact ⟨ad, e, hc 0 _ rfl, by rw [← add_field _ _ 1 (by omega)]; exact hc 1 _ rfl, by rw [← add_field _ _ 2 (by omega)]; exact hc 2 _ rfl⟩

structure S25 where
  f0 : Int
  f1 : Int
def z25 : S25 := ⟨(0 : Int), (0 : Int)⟩
def k25 : Kd S25 := Kd.iso (Kd.pair (Kd.int .i64) (Kd.int .i64)) (fun x : S25 => (x.f0, x.f1))
theorem k25_open {w : World} {x : S25} {cs : List Value} (h : k25.K w x cs) : cs = [.int .i64 x.f0, .int .i64 x.f1] := by
  obtain ⟨_, _, rfl, rfl, rfl⟩ := h
  exact rfl
theorem k25_mkM (w : World) (base : Nat) (ok : Nat → Prop) (x : S25)  : k25.M w base ok x [.int .i64 x.f0, .int .i64 x.f1] := ⟨[.int .i64 x.f0], [.int .i64 x.f1], rfl, rfl, rfl⟩
def rd_T25 (xs : List S25) (i : Int) : S25 := xs.getD i.toNat z25
theorem at_T25 {w : World} {A : Option Addr} {n : Nat} {xs : List S25} (h : Kd.C k25 w A n xs) (i : Int) (h0 : 0 ≤ i) (h1 : i < n) : ∃ ad , A = some ad ∧ w.cell? (ad.add (i.toNat * 2)) = some (.int .i64 (rd_T25 xs i).f0) ∧ w.cell? ⟨(ad.add (i.toNat * 2)).block, (ad.add (i.toNat * 2)).off + 1, none⟩ = some (.int .i64 (rd_T25 xs i).f1) := by
  obtain ⟨ad, c, e, _, hK, hc0⟩ := Kd.C_get h z25 i h0 h1
  have hc : ∀ j u, c[j]? = some u → w.cell? (ad.add (i.toNat * 2 + j)) = some u := hc0
  obtain rfl := k25_open hK
  exact ⟨ad, e, hc 0 _ rfl, by rw [← add_field _ _ 1 (by omega)]; exact hc 1 _ rfl⟩

end Go.Proofs.YtodacdcbeleleaaDoor.P
end

section
namespace Go.Proofs.YtodacdcbeleleaaDoor.P
open Go.RowKit Go.Proofs.YtodacdcbeleleaaDoorW.PrintWords Go.Proofs.YtodacdcbeleleaaDoorW.PrintLast Go.Proofs.YtodacdcbeleleaaDoorW.PrintMore
set_option linter.unusedVariables false
structure Upz_ (w W : World) : Prop where mk :: (out : Below w.heap.size w W)
instance (w : World) : Nonempty (Upz_ w w) := ⟨⟨Below.refl _ _⟩⟩
instance (w W : World) (n : Nat) [h : Nonempty (Upz_ w W)] : Nonempty (Upz_ w (W.drewN n)) := h.elim fun h => ⟨⟨pw_below_drewN h.out n⟩⟩
instance (w W : World) (n : Obj) [h : Nonempty (Upz_ w W)] : Nonempty (Upz_ w (W.alloc n)) := h.elim fun h => ⟨⟨below_alloc h.out n⟩⟩
instance (w W : World) [h : Nonempty (Upz_ w W)] : Nonempty (Upz_ w W.drew) := h.elim fun h => ⟨⟨below_drew1 h.out⟩⟩
theorem ukz_ {w W : World} {g : Nat} {o : Obj} (h : w.heap[g]? = some o) [u : Nonempty (Upz_ w W)] : W.heap[g]? = some o := u.elim fun u => blk_below h u.out
theorem urz_ {α : Type} {d : Kd α} {e : Nat} {w W : World} {b : Nat} {ok : Nat → Prop} {v : Value} {xs : List α} (h : d.R e w b ok v xs) [u : Nonempty (Upz_ w W)] : d.R e W b ok v xs := u.elim fun u => Kd.R_below h u.out
theorem ucz_ {α : Type} {d : Kd α} {w W : World} {A : Option Addr} {n : Nat} {xs : List α} (h : d.C w A n xs) [u : Nonempty (Upz_ w W)] : d.C W A n xs := u.elim fun u => Kd.C_below h u.out
theorem ubz_ {w0 w W : World} (h : Below w0.heap.size w0 w) [u : Nonempty (Upz_ w W)] : Below w0.heap.size w0 W := u.elim fun u => below_step h u.out
theorem ukbz_ {w W W2 : World} {g : Nat} {o : Obj} (h : w.heap[g]? = some o) (hb : Below W.heap.size W W2) [u : Nonempty (Upz_ w W)] : W2.heap[g]? = some o := blk_below (ukz_ h) hb
theorem uklz_ {w W : World} {g : Nat} {o : Obj} (h : w.heap[g]? = some o) [u : Nonempty (Upz_ w W)] : g < W.heap.size := blk_lt (ukz_ h)
theorem ubsz_ {w W : World} {g j : Nat} {v : Value} (h : Below w.heap.size w W) (hg : Aside0 (w.heap.size ≤ g)) : Below w.heap.size w (W.setCell ⟨g, j, none⟩ v) := Go.Proofs.YtodacdcbeleleaaDoorW.PrintWords.below_set h hg.out
theorem usz_ : type_of% @List.setIfInBounds_toArray.{0} := @List.setIfInBounds_toArray.{0}
theorem utz_ : type_of% @List.set_cons_zero.{0} := @List.set_cons_zero.{0}
theorem uvz_ : type_of% @List.set_cons_succ.{0} := @List.set_cons_succ.{0}
theorem Az_ {p : Prop} (h : p) : Aside0 p := ⟨h⟩
theorem baz_ : type_of% @below_alloc := @below_alloc
theorem bnz_ : type_of% @pw_below_drewN := @pw_below_drewN
theorem bdz_ : type_of% @below_drew1 := @below_drew1
theorem bsz_ : type_of% @below_set := @below_set
theorem raz_ : type_of% @Kd.R_alloc := @Kd.R_alloc
theorem rnz_ : type_of% @Kd.R_drewN := @Kd.R_drewN
theorem rdz_ : type_of% @Kd.R_drew := @Kd.R_drew
theorem knz_ : type_of% @blk_drewN := @blk_drewN
theorem kdz_ : type_of% @blk_drew := @blk_drew
theorem kaz_ : type_of% @blk_alloc := @blk_alloc
theorem kbz_ : type_of% @blk_below := @blk_below
theorem rez_ : type_of% @Kd.R_elder' := @Kd.R_elder'
theorem btz_ : type_of% @below_step := @below_step
theorem asz_ {p : Prop} (h : p := by first | (with_reducible assumption) | assumption) : p := h
theorem qaz_ {p : Prop} (h : p := by first | rfl | (simp; done) | (simp [*]; done)) : p := h
theorem maz_ {p : Prop} (h : p := by (try simp only [List.map_toArray, List.map_cons, List.map_nil]); first | done | rfl | (simp only [List.length_drop, List.length_take]; rfl)) : p := h
theorem bqz_ {α β : Type} {x : Option α} {f : α → Option β} {r : β} (h : x.bind f = some r) : ∃ a, Aside0 (x = some a) ∧ f a = some r := by
  obtain ⟨a, h1, h2⟩ := Option.bind_eq_some_iff.mp h
  exact ⟨a, ⟨h1⟩, h2⟩
theorem nfz_ : ¬ (false = true) := by decide
section
variable {P : Program} {ops : Array Oper} {rest : List Oper} {o : Oper} {a : Act} {Q : Exit → Act → World → Prop}
theorem bxe_ {W : World} {N : Tmp} {cs : Array Value} {t : TypeId} (h : ∀ g, g = W.heap.size → ∀ w1, Aside0 (w1.heap[g]? = some (.cells cs t (0, 0))) → Below W.heap.size W w1 → wpList P ops Q rest (a.put o.dst (.pointer (some ⟨g, 0, none⟩))) w1)
    (hgd : o.guard = none := by rfl) (hd : o.dst = some N := by rfl) (hrun : (execOp a.eval o).run P W = .ok (.value (.pointer (some ⟨W.heap.size, 0, none⟩))) (W.alloc (.cells cs t (0, 0))) := by first | (go_simp; done) | (go_simp; rfl)) : wpList P ops Q (o :: rest) a W :=
  box_event hgd hd hrun (fun g hg w1 hb hB => h g hg w1 ⟨hb⟩ hB)
end
theorem nez_ {w W : World} {g gb : Nat} {o : Obj} (h : Aside0 (w.heap[g]? = some o)) (hg : gb = W.heap.size) [u : Nonempty (Upz_ w W)] : Aside0 (g ≠ gb) ∧ Aside0 (gb ≠ g) := ⟨⟨by rw [hg]; exact Nat.ne_of_lt (uklz_ h.out)⟩, ⟨by rw [hg]; exact Nat.ne_of_gt (uklz_ h.out)⟩⟩
theorem gez_ {w W : World} {gb : Nat} (hg : gb = W.heap.size) (h : Below w.heap.size w W) : Aside0 (w.heap.size ≤ gb) := ⟨by rw [hg]; exact below_size h⟩
theorem cz_ {W : World} {g : Nat} {cs : Array Value} {t : TypeId} {x : Value} (h : Aside0 (W.heap[g]? = some (.cells cs t (0, 0)))) (j : Nat) (hx : cs[j]? = some x := by rfl) : W.cell? ⟨g, j, none⟩ = some x := (blk_cell h.out j).trans hx
end Go.Proofs.YtodacdcbeleleaaDoor.P
end

section
namespace Go.Proofs.YtodacdcbeleleaaDoor.P
open Go.RowKit Go.Proofs.YtodacdcbeleleaaDoorW.PrintWords Go.Proofs.YtodacdcbeleleaaDoorW.PrintLast Go.Proofs.YtodacdcbeleleaaDoorW.PrintMore
attribute [local go_sem] max2_int min2_int max_two min_two max_three min_three max_four min_four   -- for this text's walks alone
set_option linter.unusedVariables false
set_option linter.unusedSimpArgs false

theorem eqA40 (d : Nat) (w : World) (x0 y0 : Int) (x1 y1 : Int) (x2 y2 : Int) :
    (Op.equalIn (d + 2) 40 (.agg #[.int .i64 x0, .int .i64 x1, .int .i64 x2]) (.agg #[.int .i64 y0, .int .i64 y1, .int .i64 y2])).run Tryd.prog w = .ok (x0 == y0 && (x1 == y1 && (x2 == y2))) w := by
  refine eqA_of Tryd.underlying40 (w204_) ?_
  refine eqf_cons (by rfl) (by go_simp; rfl) (by go_simp; rfl) (by go_simp) ?_
  refine eqf_cons (by rfl) (by go_simp; rfl) (by go_simp; rfl) (by go_simp) ?_
  exact eqf_last (by rfl) (by go_simp; rfl) (by go_simp; rfl) (by go_simp)

def laws_big.f (l0 : List Int) (l1 : List Int) : Option (Bool) := if (l0.length : Int) > 1048576 then (some true) else (some (decide ((l1.length : Int) > (wrap64 (1048576 - (l0.length : Int))))))
set_option maxHeartbeats 8000000 in
set_option maxRecDepth 100000 in
theorem laws_big.calls (A0 : Option Addr) (c0 : Nat) (l0 : List Int) (A1 : Option Addr) (c1 : Nat) (l1 : List Int) (r : Bool) (w : World) (hr0 : Kd.C (Kd.int .u8) w A0 l0.length l0) (hc0 : l0.length ≤ c0) (hr1 : Kd.C (Kd.int .u8) w A1 l1.length l1) (hc1 : l1.length ≤ c1) (h : laws_big.f l0 l1 = some r) :
  Calls Tryd.prog 4 #[.slice A0 l0.length c0, .slice A1 l1.length c1] w fun e w' => e = .returned (.bool r) ∧ Drawn0 w w' := by
 have HR0 := Az_ hr0
 have HC0 := Az_ hc0
 clear hr0 hc0
 have HR1 := Az_ hr1
 have HC1 := Az_ hc1
 clear hr1 hc1
 have H : (if (l0.length : Int) > 1048576 then (some true) else (some (decide ((l1.length : Int) > (wrap64 (1048576 - (l0.length : Int))))))) = some r := h
 clear h
 by_cases c3 : (l0.length : Int) > 1048576
 ·rw [if_pos c3] at H
  have c3b0 := decide_eq_true c3
  have c3b1 : decide (1048576 < l0.length) = true := decide_eq_true (by omega)
  clear c3
  obtain rfl := Option.some.inj H
  go_enter Tryd.func4, Tryd.ntmps4
  go_wp2
  go_ret
  exact ⟨w171_, w168_⟩
 ·rw [if_neg c3] at H
  have c3b0 := decide_eq_false c3
  have c3b1 : decide (1048576 < l0.length) = false := decide_eq_false (by omega)
  clear c3
  obtain rfl := Option.some.inj H
  go_enter Tryd.func4, Tryd.ntmps4
  go_wp2
  go_ret
  exact ⟨w171_, w168_⟩

def IsS67 (w0 W : World) (g : Nat) (f0 : List Int) (f1 : Int) (f2 : Int) : Prop := ∃ A0 c0, W.heap[g]? = some (.cells #[.slice A0 f0.length c0, .int .i64 f1, .int .u64 f2] 67 (0, 0)) ∧ w0.heap.size ≤ g ∧ Kd.C (Kd.int .u8) w0 A0 f0.length f0
theorem IsS67.grown {w0 W : World} {g : Nat} {f0 : List Int} {f1 : Int} {f2 : Int} {W1 : World} {row : Option Nat} (h : IsS67 w0 W g f0 f1 f2) (hw : W.grownBy W1 row) (hne : some g ≠ row) : IsS67 w0 W1 g f0 f1 f2 := by
 obtain ⟨A0, c0, hb, hg, hr0⟩ := h
 exact ⟨A0, c0, blk_grown hb hw hne, hg, hr0⟩
theorem IsS67.kept {w0 W : World} {g : Nat} {f0 : List Int} {f1 : Int} {f2 : Int} {W1 : World} {S : Nat → Prop} (h : IsS67 w0 W g f0 f1 f2) (hk : Kept W W1 S) (hne : ¬ S g) : IsS67 w0 W1 g f0 f1 f2 := by
 obtain ⟨A0, c0, hb, hg, hr0⟩ := h
 exact ⟨A0, c0, blk_kept hb hk hne, hg, hr0⟩
theorem IsS67.below {w0 W : World} {g : Nat} {f0 : List Int} {f1 : Int} {f2 : Int} {W1 : World} (h : IsS67 w0 W g f0 f1 f2) (hw : Below W.heap.size W W1) : IsS67 w0 W1 g f0 f1 f2 := h.grown (grown_of_below hw none) (by simp)
theorem IsS67.alloc {w0 W : World} {g : Nat} {f0 : List Int} {f1 : Int} {f2 : Int} (h : IsS67 w0 W g f0 f1 f2) (o : Obj) : IsS67 w0 (W.alloc o) g f0 f1 f2 := h.below (baz_ (Below.refl _ _) o)
theorem IsS67.drewN {w0 W : World} {g : Nat} {f0 : List Int} {f1 : Int} {f2 : Int} (h : IsS67 w0 W g f0 f1 f2) (m : Nat) : IsS67 w0 (W.drewN m) g f0 f1 f2 := h
theorem IsS67.drew {w0 W : World} {g : Nat} {f0 : List Int} {f1 : Int} {f2 : Int} (h : IsS67 w0 W g f0 f1 f2) : IsS67 w0 W.drew g f0 f1 f2 := h
theorem IsS67.at_ {w0 W : World} {g : Nat} {f0 : List Int} {f1 : Int} {f2 : Int} {w' : World} {m : Nat} (hq : W.drewN m = w') (h : IsS67 w0 W g f0 f1 f2) : IsS67 w0 w' g f0 f1 f2 := by subst hq; exact IsS67.drewN h m
theorem IsS67.apart {w0 W : World} {g : Nat} {f0 : List Int} {f1 : Int} {f2 : Int} {α : Type} {d : Kd α} {e : Nat} {base : Nat} {ok : Nat → Prop} {v : Value} {xs : List α} (h : IsS67 w0 W g f0 f1 f2) (ho : d.R e W base ok v xs) (ht : ∀ q, q ∈ e :: d.E → q ≠ 67) : d.R e W base (fun k => ok k ∧ k ≠ g) v xs := by
 obtain ⟨A0, c0, hb, hg, hr0⟩ := h
 exact Kd.R_types ho hb ht
theorem IsS67.own_ne {w0 W : World} {g : Nat} {f0 : List Int} {f1 : Int} {f2 : Int} {α : Type} {d : Kd α} {e : Nat} {base : Nat} {ok : Nat → Prop} {v : Value} {xs : List α} (h : IsS67 w0 W g f0 f1 f2) (ho : d.R e W base ok v xs) (ht : e ≠ 67) : some g ≠ v.ownBlock := by
 obtain ⟨A0, c0, hb, hg, hr0⟩ := h
 exact Kd.R_ne ho hb ht
theorem IsS67.lt {w0 W : World} {g : Nat} {f0 : List Int} {f1 : Int} {f2 : Int} (h : IsS67 w0 W g f0 f1 f2) : g < W.heap.size := by
 obtain ⟨A0, c0, hb, hg, hr0⟩ := h
 exact blk_lt hb
theorem IsS67.ge {w0 W : World} {g : Nat} {f0 : List Int} {f1 : Int} {f2 : Int} (h : IsS67 w0 W g f0 f1 f2) : w0.heap.size ≤ g := by
 obtain ⟨A0, c0, hb, hg, hr0⟩ := h
 exact hg
theorem IsS67.far {w0 W : World} {g : Nat} {f0 : List Int} {f1 : Int} {f2 : Int} {p : Addr} (h : IsS67 w0 W g f0 f1 f2) (hne : g ≠ p.block) (u : Value) : IsS67 w0 (W.setCell p u) g f0 f1 f2 := by
 obtain ⟨A0, c0, hb, hg, hr0⟩ := h
 exact ⟨A0, c0, blk_far hb hne u, hg, hr0⟩
theorem cellS67_0 {W : World} {g : Nat} {A0 : Option Addr} {c0 : Nat} {f0 : List Int} {f1 : Int} {f2 : Int} (h : W.heap[g]? = some (.cells #[.slice A0 f0.length c0, .int .i64 f1, .int .u64 f2] 67 (0, 0))) : W.cell? ⟨g, 0, none⟩ = some (.slice A0 f0.length c0) := (blk_cell h 0).trans rfl
theorem cellS67_1 {W : World} {g : Nat} {A0 : Option Addr} {c0 : Nat} {f0 : List Int} {f1 : Int} {f2 : Int} (h : W.heap[g]? = some (.cells #[.slice A0 f0.length c0, .int .i64 f1, .int .u64 f2] 67 (0, 0))) : W.cell? ⟨g, 1, none⟩ = some (.int .i64 f1) := (blk_cell h 1).trans rfl
theorem IsS67.set_1 {w0 W : World} {g : Nat} {f0 : List Int} {f1 : Int} {f2 : Int} (h : IsS67 w0 W g f0 f1 f2) (x : Int) : IsS67 w0 (W.setCell ⟨g, 1, none⟩ (.int .i64 x)) g f0 x f2 := by
 obtain ⟨A0, c0, hb, hg, hr0⟩ := h
 exact ⟨A0, c0, by simpa using blk_set hb 1 (.int .i64 x), hg, hr0⟩
theorem cellS67_2 {W : World} {g : Nat} {A0 : Option Addr} {c0 : Nat} {f0 : List Int} {f1 : Int} {f2 : Int} (h : W.heap[g]? = some (.cells #[.slice A0 f0.length c0, .int .i64 f1, .int .u64 f2] 67 (0, 0))) : W.cell? ⟨g, 2, none⟩ = some (.int .u64 f2) := (blk_cell h 2).trans rfl
theorem IsS67.set_2 {w0 W : World} {g : Nat} {f0 : List Int} {f1 : Int} {f2 : Int} (h : IsS67 w0 W g f0 f1 f2) (x : Int) : IsS67 w0 (W.setCell ⟨g, 2, none⟩ (.int .u64 x)) g f0 f1 x := by
 obtain ⟨A0, c0, hb, hg, hr0⟩ := h
 exact ⟨A0, c0, by simpa using blk_set hb 2 (.int .u64 x), hg, hr0⟩
def spec_l1Cur_next.f (s0_0 : List Int) (s0_1 : Int) (s0_2 : Int) : Option (Int × Int × Int) := if s0_1 < (s0_0.length : Int) then (if 0 ≤ s0_1 then (if (wrap64 (s0_1 + 1)) ≤ (s0_0.length : Int) then (some (wrap64 (rd s0_0 s0_1), wrap64 (s0_1 + 1), IntKind.u64.wrap ((IntKind.u64.wrap ((IntKind.u64.wrap (s0_2 * 6364136223846793005)) + (IntKind.u64.wrap (wrap64 (rd s0_0 s0_1))))) + 1442695040888963407))) else (some (wrap64 (Go.bits .and .u64 ((IntKind.u64.wrap ((IntKind.u64.wrap ((IntKind.u64.wrap (s0_2 * 6364136223846793005)) + (IntKind.u64.wrap (wrap64 (rd s0_0 s0_1))))) + 1442695040888963407)) / 1099511627776) 255), wrap64 (s0_1 + 1), IntKind.u64.wrap ((IntKind.u64.wrap ((IntKind.u64.wrap (s0_2 * 6364136223846793005)) + (IntKind.u64.wrap (wrap64 (rd s0_0 s0_1))))) + 1442695040888963407)))) else (none)) else (if (wrap64 (s0_1 + 1)) ≤ (s0_0.length : Int) then (some (0, wrap64 (s0_1 + 1), IntKind.u64.wrap ((IntKind.u64.wrap ((IntKind.u64.wrap (s0_2 * 6364136223846793005)) + 0)) + 1442695040888963407))) else (some (wrap64 (Go.bits .and .u64 ((IntKind.u64.wrap ((IntKind.u64.wrap ((IntKind.u64.wrap (s0_2 * 6364136223846793005)) + 0)) + 1442695040888963407)) / 1099511627776) 255), wrap64 (s0_1 + 1), IntKind.u64.wrap ((IntKind.u64.wrap ((IntKind.u64.wrap (s0_2 * 6364136223846793005)) + 0)) + 1442695040888963407))))
set_option maxHeartbeats 8000000 in
set_option maxRecDepth 100000 in
theorem spec_l1Cur_next.calls (g : Nat) (s0_0 : List Int) (s0_1 : Int) (s0_2 : Int) (r1 : Int) (r2 : Int) (r3 : Int) (w0 w : World) (hI : IsS67 w0 w g s0_0 s0_1 s0_2) (hB : Below w0.heap.size w0 w) (h : spec_l1Cur_next.f s0_0 s0_1 s0_2 = some (r1, r2, r3)) :
  Calls Tryd.prog 63 #[.pointer (some ⟨g, 0, none⟩)] w fun e w' => e = .returned (.int .i64 r1) ∧ IsS67 w0 w' g s0_0 r2 r3 ∧ Below w0.heap.size w0 w' ∧ KeepBut w w' g none := by
 have HI0 := Az_ hI
 have HK := Az_ (KeepBut.refl w g none)
 have HL := Az_ hB.size
 clear hI
 have HW0 := Az_ hB.size
 have HB := Az_ hB
 clear hB
 have H : (if s0_1 < (s0_0.length : Int) then (if 0 ≤ s0_1 then (if (wrap64 (s0_1 + 1)) ≤ (s0_0.length : Int) then (some (wrap64 (rd s0_0 s0_1), wrap64 (s0_1 + 1), IntKind.u64.wrap ((IntKind.u64.wrap ((IntKind.u64.wrap (s0_2 * 6364136223846793005)) + (IntKind.u64.wrap (wrap64 (rd s0_0 s0_1))))) + 1442695040888963407))) else (some (wrap64 (Go.bits .and .u64 ((IntKind.u64.wrap ((IntKind.u64.wrap ((IntKind.u64.wrap (s0_2 * 6364136223846793005)) + (IntKind.u64.wrap (wrap64 (rd s0_0 s0_1))))) + 1442695040888963407)) / 1099511627776) 255), wrap64 (s0_1 + 1), IntKind.u64.wrap ((IntKind.u64.wrap ((IntKind.u64.wrap (s0_2 * 6364136223846793005)) + (IntKind.u64.wrap (wrap64 (rd s0_0 s0_1))))) + 1442695040888963407)))) else (none)) else (if (wrap64 (s0_1 + 1)) ≤ (s0_0.length : Int) then (some (0, wrap64 (s0_1 + 1), IntKind.u64.wrap ((IntKind.u64.wrap ((IntKind.u64.wrap (s0_2 * 6364136223846793005)) + 0)) + 1442695040888963407))) else (some (wrap64 (Go.bits .and .u64 ((IntKind.u64.wrap ((IntKind.u64.wrap ((IntKind.u64.wrap (s0_2 * 6364136223846793005)) + 0)) + 1442695040888963407)) / 1099511627776) 255), wrap64 (s0_1 + 1), IntKind.u64.wrap ((IntKind.u64.wrap ((IntKind.u64.wrap (s0_2 * 6364136223846793005)) + 0)) + 1442695040888963407))))) = some (r1, r2, r3) := h
 clear h
 by_cases c2 : s0_1 < (s0_0.length : Int)
 ·rw [if_pos c2] at H
  have c2b0 := decide_eq_true c2
  clear c2
  by_cases c3 : 0 ≤ s0_1; rotate_left
  ·rw [if_neg c3] at H
   exact absurd H (by simp)
  rw [if_pos c3] at H
  have c3b0 := decide_eq_true c3
  clear c3
  by_cases c4 : (wrap64 (s0_1 + 1)) ≤ (s0_0.length : Int); rotate_left
  ·rw [if_neg c4] at H
   have c4b0 := decide_eq_false c4
   clear c4
   simp only [Option.some.injEq, Prod.mk.injEq] at H
   obtain ⟨rfl, rfl, rfl⟩ := H
   obtain ⟨ASz6_0, cSz6_0, HGz6, hgz6, HSz6_0⟩ := HI0.out
   have hcz6_0 := cellS67_0 HGz6
   have hcz6_1 := cellS67_1 HGz6
   have hcz6_2 := cellS67_2 HGz6
   have hfz6_1 := blk_frozen HGz6 1
   have hfz6_2 := blk_frozen HGz6 2
   clear HGz6 hgz6
   have p101 : 0 ≤ (s0_1 : Int) := od_
   have q101 : s0_1 < (s0_0.length : Int) := od_
   obtain ⟨ad101, e101, hx101_0⟩ := Kd.at_int HSz6_0 s0_1 p101 q101
   cases e101
   replace hx101_0 := pw_cell_below HB.out hx101_0
   replace p101 := eq_true p101
   replace q101 := eq_true q101
   go_enter Tryd.func63, Tryd.ntmps63
   go_wp2
   repeat (go_quiet (fail); try go_wp2)
   go_ret
   (try simp only [Int.add_zero])
   exact ⟨w166_, w121_, w128_, w126_⟩
  rw [if_pos c4] at H
  have c4b0 := decide_eq_true c4
  clear c4
  simp only [Option.some.injEq, Prod.mk.injEq] at H
  obtain ⟨rfl, rfl, rfl⟩ := H
  obtain ⟨ASz5_0, cSz5_0, HGz5, hgz5, HSz5_0⟩ := HI0.out
  have hcz5_0 := cellS67_0 HGz5
  have hcz5_1 := cellS67_1 HGz5
  have hcz5_2 := cellS67_2 HGz5
  have hfz5_1 := blk_frozen HGz5 1
  have hfz5_2 := blk_frozen HGz5 2
  clear HGz5 hgz5
  have p101 : 0 ≤ (s0_1 : Int) := od_
  have q101 : s0_1 < (s0_0.length : Int) := od_
  obtain ⟨ad101, e101, hx101_0⟩ := Kd.at_int HSz5_0 s0_1 p101 q101
  cases e101
  replace hx101_0 := pw_cell_below HB.out hx101_0
  replace p101 := eq_true p101
  replace q101 := eq_true q101
  go_enter Tryd.func63, Tryd.ntmps63
  go_wp2
  repeat (go_quiet (fail); try go_wp2)
  go_ret
  (try simp only [Int.add_zero])
  exact ⟨w166_, w121_, w128_, w126_⟩
 ·rw [if_neg c2] at H
  have c2b0 := decide_eq_false c2
  clear c2
  by_cases c7 : (wrap64 (s0_1 + 1)) ≤ (s0_0.length : Int)
  ·rw [if_pos c7] at H
   have c7b0 := decide_eq_true c7
   clear c7
   simp only [Option.some.injEq, Prod.mk.injEq] at H
   obtain ⟨rfl, rfl, rfl⟩ := H
   obtain ⟨ASz8_0, cSz8_0, HGz8, hgz8, HSz8_0⟩ := HI0.out
   have hcz8_0 := cellS67_0 HGz8
   have hcz8_1 := cellS67_1 HGz8
   have hcz8_2 := cellS67_2 HGz8
   have hfz8_1 := blk_frozen HGz8 1
   have hfz8_2 := blk_frozen HGz8 2
   clear HGz8 hgz8
   go_enter Tryd.func63, Tryd.ntmps63
   go_wp2
   repeat (go_quiet (fail); try go_wp2)
   go_ret
   (try simp only [Int.add_zero])
   exact ⟨w166_, w121_, w128_, w126_⟩
  ·rw [if_neg c7] at H
   have c7b0 := decide_eq_false c7
   clear c7
   simp only [Option.some.injEq, Prod.mk.injEq] at H
   obtain ⟨rfl, rfl, rfl⟩ := H
   obtain ⟨ASz9_0, cSz9_0, HGz9, hgz9, HSz9_0⟩ := HI0.out
   have hcz9_0 := cellS67_0 HGz9
   have hcz9_1 := cellS67_1 HGz9
   have hcz9_2 := cellS67_2 HGz9
   have hfz9_1 := blk_frozen HGz9 1
   have hfz9_2 := blk_frozen HGz9 2
   clear HGz9 hgz9
   go_enter Tryd.func63, Tryd.ntmps63
   go_wp2
   repeat (go_quiet (fail); try go_wp2)
   go_ret
   (try simp only [Int.add_zero])
   exact ⟨w166_, w121_, w128_, w126_⟩

def spec_l1Cur_pick.f (s0_0 : List Int) (s0_1 : Int) (s0_2 : Int) (a1 : Int) : Option (Int × Int × Int) := if a1 ≤ 1 then (some (0, s0_1, s0_2)) else ((spec_l1Cur_next.f s0_0 s0_1 s0_2).bind fun bt102 => (if a1 > 200 then ((spec_l1Cur_next.f s0_0 bt102.2.1 bt102.2.2).bind fun bt105 => (if a1 = 0 then (none) else (some (Int.tmod (wrap64 ((wrap64 (bt102.1 * 256)) + bt105.1)) a1, bt105.2.1, bt105.2.2)))) else (if a1 = 0 then (none) else (some (Int.tmod bt102.1 a1, bt102.2.1, bt102.2.2)))))
set_option maxHeartbeats 8000000 in
set_option maxRecDepth 100000 in
theorem spec_l1Cur_pick.calls (g : Nat) (s0_0 : List Int) (s0_1 : Int) (s0_2 : Int) (a1 : Int) (r1 : Int) (r2 : Int) (r3 : Int) (w0 w : World) (hI : IsS67 w0 w g s0_0 s0_1 s0_2) (hB : Below w0.heap.size w0 w) (h : spec_l1Cur_pick.f s0_0 s0_1 s0_2 a1 = some (r1, r2, r3)) :
  Calls Tryd.prog 38 #[.pointer (some ⟨g, 0, none⟩), .int .i64 a1] w fun e w' => e = .returned (.int .i64 r1) ∧ IsS67 w0 w' g s0_0 r2 r3 ∧ Below w0.heap.size w0 w' ∧ KeepBut w w' g none := by
 have HI0 := Az_ hI
 have HK := Az_ (KeepBut.refl w g none)
 have HL := Az_ hB.size
 clear hI
 have HW0 := Az_ hB.size
 have HB := Az_ hB
 clear hB
 have H : (if a1 ≤ 1 then (some (0, s0_1, s0_2)) else ((spec_l1Cur_next.f s0_0 s0_1 s0_2).bind fun bt102 => (if a1 > 200 then ((spec_l1Cur_next.f s0_0 bt102.2.1 bt102.2.2).bind fun bt105 => (if a1 = 0 then (none) else (some (Int.tmod (wrap64 ((wrap64 (bt102.1 * 256)) + bt105.1)) a1, bt105.2.1, bt105.2.2)))) else (if a1 = 0 then (none) else (some (Int.tmod bt102.1 a1, bt102.2.1, bt102.2.2)))))) = some (r1, r2, r3) := h
 clear h
 by_cases c3 : a1 ≤ 1
 ·rw [if_pos c3] at H
  have c3b0 := decide_eq_true c3
  clear c3
  simp only [Option.some.injEq, Prod.mk.injEq] at H
  obtain ⟨rfl, rfl, rfl⟩ := H
  go_enter Tryd.func38, Tryd.ntmps38
  go_wp2
  go_ret
  exact ⟨w166_, w121_, w128_, w126_⟩
 ·rw [if_neg c3] at H
  have c3b0 := decide_eq_false c3
  clear c3
  replace H := bqz_ H; obtain ⟨⟨t102, t103, t104⟩, A4, H⟩ := H
  replace H : (if a1 > 200 then ((spec_l1Cur_next.f s0_0 t103 t104).bind fun bt105 => (if a1 = 0 then (none) else (some (Int.tmod (wrap64 ((wrap64 (t102 * 256)) + bt105.1)) a1, bt105.2.1, bt105.2.2)))) else (if a1 = 0 then (none) else (some (Int.tmod t102 a1, t103, t104)))) = some (r1, r2, r3) := H
  by_cases c5 : a1 > 200
  ·rw [if_pos c5] at H
   have c5b0 := decide_eq_true c5
   clear c5
   replace H := bqz_ H; obtain ⟨⟨t105, t106, t107⟩, A6, H⟩ := H
   replace H : (if a1 = 0 then (none) else (some (Int.tmod (wrap64 ((wrap64 (t102 * 256)) + t105)) a1, t106, t107))) = some (r1, r2, r3) := H
   by_cases c7 : a1 = 0
   ·rw [if_pos c7] at H
    exact absurd H (by simp)
   rw [if_neg c7] at H
   have c7b0 : (a1 == 0) = false := beq_eq_false_iff_ne.mpr c7
   have c7b1 : (a1 != 0) = true := bne_iff_ne.mpr c7
   simp only [Option.some.injEq, Prod.mk.injEq] at H
   obtain ⟨rfl, rfl, rfl⟩ := H
   go_enter Tryd.func38, Tryd.ntmps38
   go_wp2_with (first | ((with_reducible refine gate_callee (f := 63) rfl ?_); refine goesL_ (some 9) rfl rfl Tryd.func63 (w204_) rfl #[.pointer (some ⟨g, 0, none⟩)] rfl maz_ ?_; (with_reducible refine (spec_l1Cur_next.calls g s0_0 s0_1 s0_2 t102 t103 t104 w0 _ ?side1 ?side2 A4.out).mono ?_); (case side1 => repeat (first | (with_reducible first | exact HI0.out | apply IsS67.alloc | apply IsS67.drewN | apply IsS67.drew | apply IsS67.set_1 | apply IsS67.set_2) | exact HI0.out)); (case side2 => repeat (first | (with_reducible first | exact HB.out | apply baz_ | apply bnz_ | apply bdz_ | refine bsz_ ?_ (IsS67.ge HI0.out)) | exact HB.out)); rintro e w8 ⟨rfl, hi, hb, hk⟩; refine ⟨_, rfl, ?_⟩; replace HK := Az_ (KeepBut.trans (w126_) hk (.inl rfl)); replace HB := Az_ (hb); replace HI0 := Az_ (hi); (try clear hb); (try clear hk); (try clear hi)) | ((with_reducible refine gate_callee (f := 63) rfl ?_); refine goesL_ (some 15) rfl rfl Tryd.func63 (w204_) rfl #[.pointer (some ⟨g, 0, none⟩)] rfl maz_ ?_; (with_reducible refine (spec_l1Cur_next.calls g s0_0 t103 t104 t105 t106 t107 w0 _ ?side1 ?side2 A6.out).mono ?_); (case side1 => repeat (first | (with_reducible first | exact HI0.out | apply IsS67.alloc | apply IsS67.drewN | apply IsS67.drew | apply IsS67.set_1 | apply IsS67.set_2) | exact HI0.out)); (case side2 => repeat (first | (with_reducible first | exact HB.out | apply baz_ | apply bnz_ | apply bdz_ | refine bsz_ ?_ (IsS67.ge HI0.out)) | exact HB.out)); rintro e w9 ⟨rfl, hi, hb, hk⟩; refine ⟨_, rfl, ?_⟩; replace HK := Az_ (KeepBut.trans (w126_) hk (.inl rfl)); replace HB := Az_ (hb); replace HI0 := Az_ (hi); (try clear hb); (try clear hk); (try clear hi)))
   go_ret
   exact ⟨w166_, w121_, w128_, w126_⟩
  ·rw [if_neg c5] at H
   have c5b0 := decide_eq_false c5
   clear c5
   by_cases c10 : a1 = 0
   ·rw [if_pos c10] at H
    exact absurd H (by simp)
   ·rw [if_neg c10] at H
    have c10b0 : (a1 == 0) = false := beq_eq_false_iff_ne.mpr c10
    have c10b1 : (a1 != 0) = true := bne_iff_ne.mpr c10
    simp only [Option.some.injEq, Prod.mk.injEq] at H
    obtain ⟨rfl, rfl, rfl⟩ := H
    go_enter Tryd.func38, Tryd.ntmps38
    go_wp2_with (((with_reducible refine gate_callee (f := 63) rfl ?_); refine goesL_ (some 9) rfl rfl Tryd.func63 (w204_) rfl #[.pointer (some ⟨g, 0, none⟩)] rfl maz_ ?_; (with_reducible refine (spec_l1Cur_next.calls g s0_0 s0_1 s0_2 t102 t103 t104 w0 _ ?side1 ?side2 A4.out).mono ?_); (case side1 => repeat (first | (with_reducible first | exact HI0.out | apply IsS67.alloc | apply IsS67.drewN | apply IsS67.drew | apply IsS67.set_1 | apply IsS67.set_2) | exact HI0.out)); (case side2 => repeat (first | (with_reducible first | exact HB.out | apply baz_ | apply bnz_ | apply bdz_ | refine bsz_ ?_ (IsS67.ge HI0.out)) | exact HB.out)); rintro e w11 ⟨rfl, hi, hb, hk⟩; refine ⟨_, rfl, ?_⟩; replace HK := Az_ (KeepBut.trans (w126_) hk (.inl rfl)); replace HB := Az_ (hb); replace HI0 := Az_ (hi); (try clear hb); (try clear hk); (try clear hi)))
    go_ret
    exact ⟨w166_, w121_, w128_, w126_⟩

def spec_l1Cur_one.f (s0_0 : List Int) (s0_1 : Int) (s0_2 : Int) (a1 : Int) : Option (Bool × Int × Int) := (spec_l1Cur_pick.f s0_0 s0_1 s0_2 a1).bind fun bt108 => (some ((bt108.1 == 0), bt108.2.1, bt108.2.2))
set_option maxHeartbeats 8000000 in
set_option maxRecDepth 100000 in
theorem spec_l1Cur_one.calls (g : Nat) (s0_0 : List Int) (s0_1 : Int) (s0_2 : Int) (a1 : Int) (r1 : Bool) (r2 : Int) (r3 : Int) (w0 w : World) (hI : IsS67 w0 w g s0_0 s0_1 s0_2) (hB : Below w0.heap.size w0 w) (h : spec_l1Cur_one.f s0_0 s0_1 s0_2 a1 = some (r1, r2, r3)) :
  Calls Tryd.prog 35 #[.pointer (some ⟨g, 0, none⟩), .int .i64 a1] w fun e w' => e = .returned (.bool r1) ∧ IsS67 w0 w' g s0_0 r2 r3 ∧ Below w0.heap.size w0 w' ∧ KeepBut w w' g none := by
 have HI0 := Az_ hI
 have HK := Az_ (KeepBut.refl w g none)
 have HL := Az_ hB.size
 clear hI
 have HW0 := Az_ hB.size
 have HB := Az_ hB
 clear hB
 have H : ((spec_l1Cur_pick.f s0_0 s0_1 s0_2 a1).bind fun bt108 => (some ((bt108.1 == 0), bt108.2.1, bt108.2.2))) = some (r1, r2, r3) := h
 clear h
 replace H := bqz_ H; obtain ⟨⟨t108, t109, t110⟩, A3, H⟩ := H
 replace H : (some ((t108 == 0), t109, t110)) = some (r1, r2, r3) := H
 simp only [Option.some.injEq, Prod.mk.injEq] at H
 obtain ⟨rfl, rfl, rfl⟩ := H
 go_enter Tryd.func35, Tryd.ntmps35
 go_wp2_with (((with_reducible refine gate_callee (f := 38) rfl ?_); refine goesL_ (some 7) rfl rfl Tryd.func38 (w204_) rfl #[.pointer (some ⟨g, 0, none⟩), .int .i64 a1] rfl maz_ ?_; (with_reducible refine (spec_l1Cur_pick.calls g s0_0 s0_1 s0_2 a1 t108 t109 t110 w0 _ ?side1 ?side2 A3.out).mono ?_); (case side1 => repeat (first | (with_reducible first | exact HI0.out | apply IsS67.alloc | apply IsS67.drewN | apply IsS67.drew | apply IsS67.set_1 | apply IsS67.set_2) | exact HI0.out)); (case side2 => repeat (first | (with_reducible first | exact HB.out | apply baz_ | apply bnz_ | apply bdz_ | refine bsz_ ?_ (IsS67.ge HI0.out)) | exact HB.out)); rintro e w4 ⟨rfl, hi, hb, hk⟩; refine ⟨_, rfl, ?_⟩; replace HK := Az_ (KeepBut.trans (w126_) hk (.inl rfl)); replace HB := Az_ (hb); replace HI0 := Az_ (hi); (try clear hb); (try clear hk); (try clear hi)))
 go_ret
 exact ⟨w166_, w121_, w128_, w126_⟩

def spec_l1Cur_among.f (s0_0 : List Int) (s0_1 : Int) (s0_2 : Int) (l1 : List Int) : Option (Int × Int × Int) := (spec_l1Cur_pick.f s0_0 s0_1 s0_2 (l1.length : Int)).bind fun bt111 => (if 0 ≤ bt111.1 then (if bt111.1 < (l1.length : Int) then (some (rd l1 bt111.1, bt111.2.1, bt111.2.2)) else (none)) else (none))
set_option maxHeartbeats 8000000 in
set_option maxRecDepth 100000 in
theorem spec_l1Cur_among.calls (g : Nat) (s0_0 : List Int) (s0_1 : Int) (s0_2 : Int) (A1 : Option Addr) (c1 : Nat) (l1 : List Int) (r1 : Int) (r2 : Int) (r3 : Int) (w0 w : World) (hI : IsS67 w0 w g s0_0 s0_1 s0_2) (hB : Below w0.heap.size w0 w) (hr1 : Kd.C (Kd.int .i64) w A1 l1.length l1) (hc1 : l1.length ≤ c1) (hf1 : ∀ ad, A1 = some ad → 0 < l1.length → ad.block ≠ g) (h : spec_l1Cur_among.f s0_0 s0_1 s0_2 l1 = some (r1, r2, r3)) :
  Calls Tryd.prog 36 #[.pointer (some ⟨g, 0, none⟩), .slice A1 l1.length c1] w fun e w' => e = .returned (.int .i64 r1) ∧ IsS67 w0 w' g s0_0 r2 r3 ∧ Below w0.heap.size w0 w' ∧ KeepBut w w' g none := by
 have HR1 := Az_ hr1
 have HC1 := Az_ hc1
 clear hr1 hc1
 have HI0 := Az_ hI
 have HK := Az_ (KeepBut.refl w g none)
 have HL := Az_ hB.size
 clear hI
 have HW0 := Az_ hB.size
 have HB := Az_ hB
 clear hB
 have H : ((spec_l1Cur_pick.f s0_0 s0_1 s0_2 (l1.length : Int)).bind fun bt111 => (if 0 ≤ bt111.1 then (if bt111.1 < (l1.length : Int) then (some (rd l1 bt111.1, bt111.2.1, bt111.2.2)) else (none)) else (none))) = some (r1, r2, r3) := h
 clear h
 replace H := bqz_ H; obtain ⟨⟨t111, t112, t113⟩, A3, H⟩ := H
 replace H : (if 0 ≤ t111 then (if t111 < (l1.length : Int) then (some (rd l1 t111, t112, t113)) else (none)) else (none)) = some (r1, r2, r3) := H
 by_cases c4 : 0 ≤ t111
 ·rw [if_pos c4] at H
  have c4b0 := decide_eq_true c4
  clear c4
  by_cases c5 : t111 < (l1.length : Int); rotate_left
  ·rw [if_neg c5] at H
   exact absurd H (by simp)
  rw [if_pos c5] at H
  have c5b0 := decide_eq_true c5
  clear c5
  simp only [Option.some.injEq, Prod.mk.injEq] at H
  obtain ⟨rfl, rfl, rfl⟩ := H
  go_enter Tryd.func36, Tryd.ntmps36
  go_wp2_with (((with_reducible refine gate_callee (f := 38) rfl ?_); refine goesL_ (some 9) rfl rfl Tryd.func38 (w204_) rfl #[.pointer (some ⟨g, 0, none⟩), .int .i64 (l1.length : Int)] rfl maz_ ?_; (with_reducible refine (spec_l1Cur_pick.calls g s0_0 s0_1 s0_2 (l1.length : Int) t111 t112 t113 w0 _ ?side1 ?side2 A3.out).mono ?_); (case side1 => repeat (first | (with_reducible first | exact HI0.out | apply IsS67.alloc | apply IsS67.drewN | apply IsS67.drew | apply IsS67.set_1 | apply IsS67.set_2) | exact HI0.out)); (case side2 => repeat (first | (with_reducible first | exact HB.out | apply baz_ | apply bnz_ | apply bdz_ | refine bsz_ ?_ (IsS67.ge HI0.out)) | exact HB.out)); rintro e w6 ⟨rfl, hi, hb, hk⟩; refine ⟨_, rfl, ?_⟩; replace HK := Az_ (KeepBut.trans (w126_) hk (.inl rfl)); replace HB := Az_ (hb); replace HI0 := Az_ (hi); (try clear hb); (try clear hk); (try clear hi); have p114 : 0 ≤ (t111 : Int) := od_; have q114 : t111 < (l1.length : Int) := od_; obtain ⟨ad114, e114, hx114_0⟩ := Kd.at_int HR1.out t111 p114 q114; cases e114; replace hx114_0 := keep_cell HK.out hx114_0 (by first | (rw [add_block]; exact hf1 _ rfl (by omega)) | exact hf1 _ rfl (by omega) | exact hf1 ad114 rfl (by omega)); replace p114 := eq_true p114; replace q114 := eq_true q114))
  go_ret
  exact ⟨w166_, w121_, w128_, w126_⟩
 ·rw [if_neg c4] at H
  exact absurd H (by simp)

def spec_l1Cur_hidden.f (s0_0 : List Int) (s0_1 : Int) (s0_2 : Int) : Option (Int × Int × Int × Int) := (spec_l1Cur_pick.f s0_0 s0_1 s0_2 39).bind fun bt116 => ((spec_l1Cur_pick.f s0_0 bt116.2.1 bt116.2.2 (wrap64 (Int.tdiv (wrap64 (2 + bt116.1)) 2))).bind fun bt119 => (some (wrap64 (2 + bt116.1), wrap64 (1 + bt119.1), bt119.2.1, bt119.2.2)))
set_option maxHeartbeats 8000000 in
set_option maxRecDepth 100000 in
theorem spec_l1Cur_hidden.calls (g : Nat) (s0_0 : List Int) (s0_1 : Int) (s0_2 : Int) (r1 : Int) (r2 : Int) (r3 : Int) (r4 : Int) (w0 w : World) (hI : IsS67 w0 w g s0_0 s0_1 s0_2) (hB : Below w0.heap.size w0 w) (h : spec_l1Cur_hidden.f s0_0 s0_1 s0_2 = some (r1, r2, r3, r4)) :
  Calls Tryd.prog 37 #[.pointer (some ⟨g, 0, none⟩)] w fun e w' => e = .returned (.agg #[.int .i64 r1, .int .i64 r2]) ∧ IsS67 w0 w' g s0_0 r3 r4 ∧ Below w0.heap.size w0 w' ∧ KeepBut w w' g none := by
 have hu25 := Tryd.underlying25
 have HI0 := Az_ hI
 have HK := Az_ (KeepBut.refl w g none)
 have HL := Az_ hB.size
 clear hI
 have HW0 := Az_ hB.size
 have HB := Az_ hB
 clear hB
 have H : ((spec_l1Cur_pick.f s0_0 s0_1 s0_2 39).bind fun bt116 => ((spec_l1Cur_pick.f s0_0 bt116.2.1 bt116.2.2 (wrap64 (Int.tdiv (wrap64 (2 + bt116.1)) 2))).bind fun bt119 => (some (wrap64 (2 + bt116.1), wrap64 (1 + bt119.1), bt119.2.1, bt119.2.2)))) = some (r1, r2, r3, r4) := h
 clear h
 replace H := bqz_ H; obtain ⟨⟨t116, t117, t118⟩, A2, H⟩ := H
 replace H := bqz_ H; obtain ⟨⟨t119, t120, t121⟩, A3, H⟩ := H
 replace H : (some (wrap64 (2 + t116), wrap64 (1 + t119), t120, t121)) = some (r1, r2, r3, r4) := H
 simp only [Option.some.injEq, Prod.mk.injEq] at H
 obtain ⟨rfl, rfl, rfl, rfl⟩ := H
 go_enter Tryd.func37, Tryd.ntmps37
 go_wp2_with (first | ((with_reducible refine gate_dst (N := 2) rfl ?_); refine bxe_ (N := 2) (cs := #[.int .i64 0, .int .i64 0]) (t := 25) ?_; intro gb115 hg w4 BK115 hb; have GW115 := Az_ ((by rw [hg]; exact (keep_size (w := w) (g := g) (row := none) (w126_)) : w.heap.size ≤ gb115)); have GE115 := Az_ ((Nat.le_trans HW0.out (by rw [hg]; exact (keep_size (w := w) (g := g) (row := none) (w126_)) : w.heap.size ≤ gb115) : w0.heap.size ≤ gb115)); have NB0_115 := Az_ ((by rw [hg]; exact Nat.ne_of_lt (IsS67.lt (show IsS67 w0 _ g s0_0 s0_1 s0_2 from w121_)) : g ≠ gb115)); have NB115_0 := Az_ ((by rw [hg]; exact Nat.ne_of_gt (IsS67.lt (show IsS67 w0 _ g s0_0 s0_1 s0_2 from w121_)) : gb115 ≠ g)); replace HB := Az_ (btz_ (w128_) hb); replace HK := Az_ (KeepBut.trans (w126_) (KeepBut.of_below hb g none) (.inl rfl)); replace HI0 := Az_ (IsS67.below (w121_) hb); clear hb hg) | ((with_reducible refine gate_callee (f := 38) rfl ?_); refine goesL_ (some 5) rfl rfl Tryd.func38 (w204_) rfl #[.pointer (some ⟨g, 0, none⟩), .int .i64 39] rfl maz_ ?_; (with_reducible refine (spec_l1Cur_pick.calls g s0_0 s0_1 s0_2 39 t116 t117 t118 w0 _ ?side1 ?side2 A2.out).mono ?_); (case side1 => repeat (first | (with_reducible first | exact HI0.out | apply IsS67.alloc | apply IsS67.drewN | apply IsS67.drew | apply IsS67.set_1 | apply IsS67.set_2 | refine IsS67.far ?_ NB0_115.out _) | exact HI0.out)); (case side2 => repeat (first | (with_reducible first | exact HB.out | apply baz_ | apply bnz_ | apply bdz_ | refine bsz_ ?_ (IsS67.ge HI0.out) | refine bsz_ ?_ GE115.out) | exact HB.out)); rintro e w5 ⟨rfl, hi, hb, hk⟩; refine ⟨_, rfl, ?_⟩; replace BK115 := Az_ (KeepBut.blk hk (g' := gb115) (o := .cells #[.int .i64 0, .int .i64 0] 25 (0, 0)) (by exact ukz_ BK115.out) NB115_0.out (by simp)); replace HK := Az_ (KeepBut.trans (w109_) hk (.inl rfl)); replace HB := Az_ (hb); replace HI0 := Az_ (hi); (try clear hb); (try clear hk); (try clear hi)) | ((with_reducible refine gate_callee (f := 38) rfl ?_); refine goesL_ (some 11) rfl rfl Tryd.func38 (w204_) rfl #[.pointer (some ⟨g, 0, none⟩), .int .i64 (wrap64 (Int.tdiv (wrap64 (2 + t116)) 2))] rfl maz_ ?_; (with_reducible refine (spec_l1Cur_pick.calls g s0_0 t117 t118 (wrap64 (Int.tdiv (wrap64 (2 + t116)) 2)) t119 t120 t121 w0 _ ?side1 ?side2 A3.out).mono ?_); (case side1 => repeat (first | (with_reducible first | exact HI0.out | apply IsS67.alloc | apply IsS67.drewN | apply IsS67.drew | apply IsS67.set_1 | apply IsS67.set_2 | refine IsS67.far ?_ NB0_115.out _) | exact HI0.out)); (case side2 => repeat (first | (with_reducible first | exact HB.out | apply baz_ | apply bnz_ | apply bdz_ | refine bsz_ ?_ (IsS67.ge HI0.out) | refine bsz_ ?_ GE115.out) | exact HB.out)); rintro e w6 ⟨rfl, hi, hb, hk⟩; refine ⟨_, rfl, ?_⟩; replace BK115 := Az_ (KeepBut.blk hk (g' := gb115) (o := .cells #[.int .i64 0, .int .i64 0] 25 (0, 0)) (by exact ukz_ BK115.out) NB115_0.out (by simp)); replace HK := Az_ (KeepBut.trans (w109_) hk (.inl rfl)); replace HB := Az_ (hb); replace HI0 := Az_ (hi); (try clear hb); (try clear hk); (try clear hi); have hnb7 := NB115_0.out; have hnc7 := NB0_115.out; have hcz8_0 := cz_ (x := .int .i64 0) BK115 0; have hcz8_1 := cz_ (x := .int .i64 0) BK115 1; have hfz8_0 := blk_frozen BK115.out 0; have hfz8_1 := blk_frozen BK115.out 1))
 refine bodyPost_ret (results_cell_row rfl _ _ gb115 25 #[.int .i64 (wrap64 (2 + t116)), .int .i64 (wrap64 (1 + t119))] (0, 0) _ rfl (by (with_reducible repeat (first | refine knz_ ?_ _ | refine kdz_ ?_ | refine kaz_ ?_ _)); refine blk_put (cs := #[.int .i64 (wrap64 (2 + t116)), .int .i64 0]) ?_ 1 _ rfl; (with_reducible repeat (first | refine knz_ ?_ _ | refine kdz_ ?_ | refine kaz_ ?_ _)); refine blk_put (cs := #[.int .i64 0, .int .i64 0]) ?_ 0 _ rfl; (with_reducible repeat (first | refine knz_ ?_ _ | refine kdz_ ?_ | refine kaz_ ?_ _)); exact BK115.out) Tryd.underlying25 rfl (w204_)) rfl ?_
 exact ⟨w166_, by repeat (first | (with_reducible first | exact HI0.out | apply IsS67.alloc | apply IsS67.drewN | apply IsS67.drew | apply IsS67.set_1 | apply IsS67.set_2 | refine IsS67.far ?_ NB0_115.out _) | exact HI0.out), by repeat (first | (with_reducible first | exact HB.out | apply baz_ | apply bnz_ | apply bdz_ | refine bsz_ ?_ (IsS67.ge HI0.out) | refine bsz_ ?_ GE115.out) | exact HB.out), w109_⟩

def spec_DrawMakePuzzle.f (l0 : List Int) : Option (Int × Int × Int × Int) := (spec_l1Cur_one.f l0 0 0 12).bind fun bt124 => (if bt124.1 = true then ((spec_l1Cur_among.f l0 bt124.2.1 bt124.2.2 (([1, 2, 40, 41] : List Int))).bind fun bt130 => ((spec_l1Cur_among.f l0 bt130.2.1 bt130.2.2 (([0, 1, 20, 21] : List Int))).bind fun bt136 => ((spec_l1Cur_among.f l0 bt136.2.1 bt136.2.2 (([(-1), 6, 7] : List Int))).bind fun bt142 => ((spec_l1Cur_among.f l0 bt142.2.1 bt142.2.2 (([(-1), 9999, 10000] : List Int))).bind fun bt148 => (some (bt130.1, bt136.1, bt142.1, bt148.1)))))) else ((spec_l1Cur_hidden.f l0 bt124.2.1 bt124.2.2).bind fun bt151 => ((spec_l1Cur_pick.f l0 bt151.2.2.1 bt151.2.2.2 7).bind fun bt155 => ((spec_l1Cur_pick.f l0 bt155.2.1 bt155.2.2 10000).bind fun bt158 => (some (bt151.1, bt151.2.1, bt155.1, bt158.1))))))
set_option maxHeartbeats 8000000 in
set_option maxRecDepth 100000 in
theorem spec_DrawMakePuzzle.calls (A0 : Option Addr) (c0 : Nat) (l0 : List Int) (r1 : Int) (r2 : Int) (r3 : Int) (r4 : Int) (w : World) (hr0 : Kd.C (Kd.int .u8) w A0 l0.length l0) (hc0 : l0.length ≤ c0) (h : spec_DrawMakePuzzle.f l0 = some (r1, r2, r3, r4)) :
  Calls Tryd.prog 5 #[.slice A0 l0.length c0] w fun e w' => e = .returned (.tuple #[.agg #[.int .i64 r1, .int .i64 r2], .int .i64 r3, .int .i64 r4]) ∧ Below w.heap.size w w' := by
 have hu25 := Tryd.underlying25
 have hu67 := Tryd.underlying67
 have HR0 := Az_ hr0
 have HC0 := Az_ hc0
 clear hr0 hc0
 have HB := Az_ (Below.refl w.heap.size w)
 have H : ((spec_l1Cur_one.f l0 0 0 12).bind fun bt124 => (if bt124.1 = true then ((spec_l1Cur_among.f l0 bt124.2.1 bt124.2.2 (([1, 2, 40, 41] : List Int))).bind fun bt130 => ((spec_l1Cur_among.f l0 bt130.2.1 bt130.2.2 (([0, 1, 20, 21] : List Int))).bind fun bt136 => ((spec_l1Cur_among.f l0 bt136.2.1 bt136.2.2 (([(-1), 6, 7] : List Int))).bind fun bt142 => ((spec_l1Cur_among.f l0 bt142.2.1 bt142.2.2 (([(-1), 9999, 10000] : List Int))).bind fun bt148 => (some (bt130.1, bt136.1, bt142.1, bt148.1)))))) else ((spec_l1Cur_hidden.f l0 bt124.2.1 bt124.2.2).bind fun bt151 => ((spec_l1Cur_pick.f l0 bt151.2.2.1 bt151.2.2.2 7).bind fun bt155 => ((spec_l1Cur_pick.f l0 bt155.2.1 bt155.2.2 10000).bind fun bt158 => (some (bt151.1, bt151.2.1, bt155.1, bt158.1))))))) = some (r1, r2, r3, r4) := h
 clear h
 replace H := bqz_ H; obtain ⟨⟨t124, t125, t126⟩, A2, H⟩ := H
 replace H : (if t124 = true then ((spec_l1Cur_among.f l0 t125 t126 (([1, 2, 40, 41] : List Int))).bind fun bt130 => ((spec_l1Cur_among.f l0 bt130.2.1 bt130.2.2 (([0, 1, 20, 21] : List Int))).bind fun bt136 => ((spec_l1Cur_among.f l0 bt136.2.1 bt136.2.2 (([(-1), 6, 7] : List Int))).bind fun bt142 => ((spec_l1Cur_among.f l0 bt142.2.1 bt142.2.2 (([(-1), 9999, 10000] : List Int))).bind fun bt148 => (some (bt130.1, bt136.1, bt142.1, bt148.1)))))) else ((spec_l1Cur_hidden.f l0 t125 t126).bind fun bt151 => ((spec_l1Cur_pick.f l0 bt151.2.2.1 bt151.2.2.2 7).bind fun bt155 => ((spec_l1Cur_pick.f l0 bt155.2.1 bt155.2.2 10000).bind fun bt158 => (some (bt151.1, bt151.2.1, bt155.1, bt158.1)))))) = some (r1, r2, r3, r4) := H
 by_cases c3 : t124 = true
 ·subst c3
  rw [if_pos rfl] at H
  obtain ⟨y127, hy127⟩ : ∃ y_ : List Int, y_ = (([1, 2, 40, 41] : List Int)) := ⟨_, rfl⟩
  replace H : ((spec_l1Cur_among.f l0 t125 t126 y127).bind fun bt130 => ((spec_l1Cur_among.f l0 bt130.2.1 bt130.2.2 (([0, 1, 20, 21] : List Int))).bind fun bt136 => ((spec_l1Cur_among.f l0 bt136.2.1 bt136.2.2 (([(-1), 6, 7] : List Int))).bind fun bt142 => ((spec_l1Cur_among.f l0 bt142.2.1 bt142.2.2 (([(-1), 9999, 10000] : List Int))).bind fun bt148 => (some (bt130.1, bt136.1, bt142.1, bt148.1)))))) = some (r1, r2, r3, r4) := by first | (rw [hy127]; with_reducible exact H) | (have H2_ := (Option.bind_some _ _).symm.trans H; rw [hy127]; with_reducible exact H2_) | (have H2_ := (Option.bind_some _ _).symm.trans H; with_reducible exact H2_) | with_reducible exact H | (rw [hy127]; exact H) | exact H
  have Ny127 := Az_ hy127
  clear hy127
  replace H := bqz_ H; obtain ⟨⟨t130, t131, t132⟩, A4, H⟩ := H
  replace H : ((spec_l1Cur_among.f l0 t131 t132 (([0, 1, 20, 21] : List Int))).bind fun bt136 => ((spec_l1Cur_among.f l0 bt136.2.1 bt136.2.2 (([(-1), 6, 7] : List Int))).bind fun bt142 => ((spec_l1Cur_among.f l0 bt142.2.1 bt142.2.2 (([(-1), 9999, 10000] : List Int))).bind fun bt148 => (some (t130, bt136.1, bt142.1, bt148.1))))) = some (r1, r2, r3, r4) := H
  obtain ⟨y133, hy133⟩ : ∃ y_ : List Int, y_ = (([0, 1, 20, 21] : List Int)) := ⟨_, rfl⟩
  replace H : ((spec_l1Cur_among.f l0 t131 t132 y133).bind fun bt136 => ((spec_l1Cur_among.f l0 bt136.2.1 bt136.2.2 (([(-1), 6, 7] : List Int))).bind fun bt142 => ((spec_l1Cur_among.f l0 bt142.2.1 bt142.2.2 (([(-1), 9999, 10000] : List Int))).bind fun bt148 => (some (t130, bt136.1, bt142.1, bt148.1))))) = some (r1, r2, r3, r4) := by first | (rw [hy133]; with_reducible exact H) | (have H2_ := (Option.bind_some _ _).symm.trans H; rw [hy133]; with_reducible exact H2_) | (have H2_ := (Option.bind_some _ _).symm.trans H; with_reducible exact H2_) | with_reducible exact H | (rw [hy133]; exact H) | exact H
  have Ny133 := Az_ hy133
  clear hy133
  replace H := bqz_ H; obtain ⟨⟨t136, t137, t138⟩, A5, H⟩ := H
  replace H : ((spec_l1Cur_among.f l0 t137 t138 (([(-1), 6, 7] : List Int))).bind fun bt142 => ((spec_l1Cur_among.f l0 bt142.2.1 bt142.2.2 (([(-1), 9999, 10000] : List Int))).bind fun bt148 => (some (t130, t136, bt142.1, bt148.1)))) = some (r1, r2, r3, r4) := H
  obtain ⟨y139, hy139⟩ : ∃ y_ : List Int, y_ = (([(-1), 6, 7] : List Int)) := ⟨_, rfl⟩
  replace H : ((spec_l1Cur_among.f l0 t137 t138 y139).bind fun bt142 => ((spec_l1Cur_among.f l0 bt142.2.1 bt142.2.2 (([(-1), 9999, 10000] : List Int))).bind fun bt148 => (some (t130, t136, bt142.1, bt148.1)))) = some (r1, r2, r3, r4) := by first | (rw [hy139]; with_reducible exact H) | (have H2_ := (Option.bind_some _ _).symm.trans H; rw [hy139]; with_reducible exact H2_) | (have H2_ := (Option.bind_some _ _).symm.trans H; with_reducible exact H2_) | with_reducible exact H | (rw [hy139]; exact H) | exact H
  have Ny139 := Az_ hy139
  clear hy139
  replace H := bqz_ H; obtain ⟨⟨t142, t143, t144⟩, A6, H⟩ := H
  replace H : ((spec_l1Cur_among.f l0 t143 t144 (([(-1), 9999, 10000] : List Int))).bind fun bt148 => (some (t130, t136, t142, bt148.1))) = some (r1, r2, r3, r4) := H
  obtain ⟨y145, hy145⟩ : ∃ y_ : List Int, y_ = (([(-1), 9999, 10000] : List Int)) := ⟨_, rfl⟩
  replace H : ((spec_l1Cur_among.f l0 t143 t144 y145).bind fun bt148 => (some (t130, t136, t142, bt148.1))) = some (r1, r2, r3, r4) := by first | (rw [hy145]; with_reducible exact H) | (have H2_ := (Option.bind_some _ _).symm.trans H; rw [hy145]; with_reducible exact H2_) | (have H2_ := (Option.bind_some _ _).symm.trans H; with_reducible exact H2_) | with_reducible exact H | (rw [hy145]; exact H) | exact H
  have Ny145 := Az_ hy145
  clear hy145
  replace H := bqz_ H; obtain ⟨⟨t148, t149, t150⟩, A7, H⟩ := H
  replace H : (some (t130, t136, t142, t148)) = some (r1, r2, r3, r4) := H
  simp only [Option.some.injEq, Prod.mk.injEq] at H
  obtain ⟨rfl, rfl, rfl, rfl⟩ := H
  go_enter Tryd.func5, Tryd.ntmps5
  go_wp2_with (first | ((with_reducible refine gate_dst (N := 2) rfl ?_); refine bxe_ (N := 2) (cs := #[.int .i64 0, .int .i64 0]) (t := 25) ?_; intro gb122 hg w8 BK122 hb; have GW122 := gez_ hg (ubz_ HB.out); have GE122 := GW122; replace HB := Az_ (btz_ (ubz_ HB.out) hb); clear hb hg) | ((with_reducible refine gate_dst (N := 8) rfl ?_); refine bxe_ (N := 8) (cs := #[.slice A0 l0.length c0, .int .i64 0, .int .u64 0]) (t := 67) ?_; intro gb123 hg w9 BK123 hb; obtain ⟨NB122_123, NB123_122⟩ := nez_ BK122 hg; have GW123 : Aside0 (w.heap.size ≤ gb123) := gez_ hg (w129_); have GE123 := GW123; replace HB := Az_ (btz_ (w129_) hb); replace BK122 := Az_ (ukbz_ BK122.out hb); clear hb hg) | ((with_reducible refine gate_callee (f := 35) rfl ?_); refine goesL_ (some 10) rfl rfl Tryd.func35 (w204_) rfl #[.pointer (some ⟨gb123, 0, none⟩), .int .i64 12] rfl maz_ ?_; have HI123 := Az_ (show IsS67 w w9 gb123 l0 0 0 from ⟨_, _, BK123.out, GE123.out, HR0.out⟩); (with_reducible refine (spec_l1Cur_one.calls gb123 l0 0 0 12 true t125 t126 w _ ?side1 ?side2 A2.out).mono ?_); (case side1 => repeat (first | (with_reducible first | exact HI123.out | apply IsS67.alloc | apply IsS67.drewN | apply IsS67.drew | apply IsS67.set_1 | apply IsS67.set_2 | refine IsS67.far ?_ NB123_122.out _) | exact HI123.out)); (case side2 => repeat (first | (with_reducible first | exact HB.out | apply baz_ | apply bnz_ | apply bdz_ | refine bsz_ ?_ (IsS67.ge HI123.out) | refine bsz_ ?_ GE122.out) | exact HB.out)); rintro e w10 ⟨rfl, hi, hb, hk⟩; refine ⟨_, rfl, ?_⟩; replace BK122 := Az_ (KeepBut.blk hk (g' := gb122) (o := .cells #[.int .i64 0, .int .i64 0] 25 (0, 0)) (w178_) NB122_123.out (by simp)); replace HB := Az_ (hb); replace HI123 := Az_ (hi); (try clear hb); (try clear hk); (try clear hi)) | ((with_reducible refine gate_dst (N := 12) rfl ?_); refine Kd.R_lit (Kd.int .i64) _ 3 ?hg (N := 12) ?hd (xs := ([1, 2, 40, 41] : List Int)) (inner := [.int .i64 1, .int .i64 2, .int .i64 40, .int .i64 41]) (ok := fun _ => True) (okp := fun _ => True) ?hr ?hp (fun _ hk => hk) trivial (Below.refl _ _) (Nat.le_refl _) (by simp) ?_; (case hd => rfl); (case hg => rfl); (case hr => first | (go_simp; done) | (go_simp; rfl)); (case hp => exact (Reps.one (show Kd.M (Kd.int .i64) _ _ _ 1 [.int .i64 1] from rfl) (Reps.one (show Kd.M (Kd.int .i64) _ _ _ 2 [.int .i64 2] from rfl) (Reps.one (show Kd.M (Kd.int .i64) _ _ _ 40 [.int .i64 40] from rfl) (Reps.one (show Kd.M (Kd.int .i64) _ _ _ 41 [.int .i64 41] from rfl) (Reps.none _ _)))))); intro v128 w11 ho12 hb hg_ hnew_; clear hg_ hnew_; (first | rw [← Ny127.out] at ho12 | (simp only [Int.reduceToNat] at ho12; rw [← Ny127.out] at ho12)); have n0_ := Az_ (Kd.R_lower ho12 (below_size (w113_))); have n2_ := Az_ (IsS67.below (w94_) hb); have n3_ := Az_ (btz_ (w113_) hb); clear HI123; clear HB; have HO129 := n0_; replace BK122 := Az_ (ukbz_ BK122.out hb); have HI123 := n2_; have HB := n3_; clear n0_ n2_ n3_; clear hb ho12; obtain ⟨Ao13, co13, eo13⟩ := Kd.R_slice HO129.out; subst eo13) | ((with_reducible refine gate_callee (f := 36) rfl ?_); refine goesL_ (some 13) rfl rfl Tryd.func36 (w204_) rfl #[.pointer (some ⟨gb123, 0, none⟩), .slice Ao13 y127.length co13] rfl maz_ ?_; (with_reducible refine (spec_l1Cur_among.calls gb123 l0 t125 t126 _ _ y127 t130 t131 t132 w _ ?side1 ?side2 ?side3 ?side4 ?side5 A4.out).mono ?_); (case side1 => repeat (first | (with_reducible first | exact HI123.out | apply IsS67.alloc | apply IsS67.drewN | apply IsS67.drew | apply IsS67.set_1 | apply IsS67.set_2 | refine IsS67.far ?_ NB123_122.out _) | exact HI123.out)); (case side2 => repeat (first | (with_reducible first | exact HB.out | apply baz_ | apply bnz_ | apply bdz_ | refine bsz_ ?_ (IsS67.ge HI123.out) | refine bsz_ ?_ GE122.out) | exact HB.out)); (case side3 => exact ucz_ ((Kd.R_reads' HO129.out).2.2)); (case side4 => exact (Kd.R_reads' HO129.out).2.1); (case side5 => exact far_slice (IsS67.own_ne HI123.out HO129.out (by decide))); rintro e w14 ⟨rfl, hi, hb, hk⟩; refine ⟨_, rfl, ?_⟩; replace BK122 := Az_ (KeepBut.blk hk (g' := gb122) (o := .cells #[.int .i64 0, .int .i64 0] 25 (0, 0)) (w178_) NB122_123.out (by simp)); replace HO129 := Az_ (Kd.R_mono (Kd.R_keep (IsS67.apart (show IsS67 w _ gb123 l0 t125 t126 from w94_) (w179_) (by decide)) hk (fun _ h => h.2)) (fun _ h => h.1)); replace HB := Az_ (hb); replace HI123 := Az_ (hi); (try clear hb); (try clear hk); (try clear hi)) | ((with_reducible refine gate_dst (N := 15) rfl ?_); refine Kd.R_lit (Kd.int .i64) _ 3 ?hg (N := 15) ?hd (xs := ([0, 1, 20, 21] : List Int)) (inner := [.int .i64 0, .int .i64 1, .int .i64 20, .int .i64 21]) (ok := fun _ => True) (okp := fun _ => True) ?hr ?hp (fun _ hk => hk) trivial (Below.refl _ _) (Nat.le_refl _) (by simp) ?_; (case hd => rfl); (case hg => rfl); (case hr => first | (go_simp; done) | (go_simp; rfl)); (case hp => exact (Reps.one (show Kd.M (Kd.int .i64) _ _ _ 0 [.int .i64 0] from rfl) (Reps.one (show Kd.M (Kd.int .i64) _ _ _ 1 [.int .i64 1] from rfl) (Reps.one (show Kd.M (Kd.int .i64) _ _ _ 20 [.int .i64 20] from rfl) (Reps.one (show Kd.M (Kd.int .i64) _ _ _ 21 [.int .i64 21] from rfl) (Reps.none _ _)))))); intro v134 w15 ho16 hb hg_ hnew_; clear hg_ hnew_; (first | rw [← Ny133.out] at ho16 | (simp only [Int.reduceToNat] at ho16; rw [← Ny133.out] at ho16)); have n0_ := Az_ (rez_ (w179_) (Kd.R_base ho16) hb); have n1_ := Az_ (Kd.R_lower (Kd.R_new' ho16 (Kd.R_lt (w179_))) (below_size (w113_))); have n3_ := Az_ (IsS67.below (w94_) hb); have n4_ := Az_ (btz_ (w113_) hb); clear HO129; clear HI123; clear HB; have HO129 := n0_; have HO135 := n1_; replace BK122 := Az_ (ukbz_ BK122.out hb); have HI123 := n3_; have HB := n4_; clear n0_ n1_ n3_ n4_; clear hb ho16; obtain ⟨Ao17, co17, eo17⟩ := Kd.R_slice HO135.out; subst eo17) | ((with_reducible refine gate_callee (f := 36) rfl ?_); refine goesL_ (some 16) rfl rfl Tryd.func36 (w204_) rfl #[.pointer (some ⟨gb123, 0, none⟩), .slice Ao17 y133.length co17] rfl maz_ ?_; (with_reducible refine (spec_l1Cur_among.calls gb123 l0 t131 t132 _ _ y133 t136 t137 t138 w _ ?side1 ?side2 ?side3 ?side4 ?side5 A5.out).mono ?_); (case side1 => repeat (first | (with_reducible first | exact HI123.out | apply IsS67.alloc | apply IsS67.drewN | apply IsS67.drew | apply IsS67.set_1 | apply IsS67.set_2 | refine IsS67.far ?_ NB123_122.out _) | exact HI123.out)); (case side2 => repeat (first | (with_reducible first | exact HB.out | apply baz_ | apply bnz_ | apply bdz_ | refine bsz_ ?_ (IsS67.ge HI123.out) | refine bsz_ ?_ GE122.out) | exact HB.out)); (case side3 => exact ucz_ ((Kd.R_reads' HO135.out).2.2)); (case side4 => exact (Kd.R_reads' HO135.out).2.1); (case side5 => exact far_slice (IsS67.own_ne HI123.out HO135.out (by decide))); rintro e w18 ⟨rfl, hi, hb, hk⟩; refine ⟨_, rfl, ?_⟩; replace BK122 := Az_ (KeepBut.blk hk (g' := gb122) (o := .cells #[.int .i64 0, .int .i64 0] 25 (0, 0)) (w178_) NB122_123.out (by simp)); replace HO129 := Az_ (Kd.R_mono (Kd.R_keep (IsS67.apart (show IsS67 w _ gb123 l0 t131 t132 from w94_) (w179_) (by decide)) hk (fun _ h => h.2)) (fun _ h => h.1)); replace HO135 := Az_ (Kd.R_mono (Kd.R_keep (IsS67.apart (show IsS67 w _ gb123 l0 t131 t132 from w94_) (by exact urz_ HO135.out) (by decide)) hk (fun _ h => h.2)) (fun _ h => h.1)); replace HB := Az_ (hb); replace HI123 := Az_ (hi); (try clear hb); (try clear hk); (try clear hi)) | ((with_reducible refine gate_dst (N := 19) rfl ?_); refine Kd.R_lit (Kd.int .i64) _ 3 ?hg (N := 19) ?hd (xs := ([(-1), 6, 7] : List Int)) (inner := [.int .i64 (-1), .int .i64 6, .int .i64 7]) (ok := fun _ => True) (okp := fun _ => True) ?hr ?hp (fun _ hk => hk) trivial (Below.refl _ _) (Nat.le_refl _) (by simp) ?_; (case hd => rfl); (case hg => rfl); (case hr => first | (go_simp; done) | (go_simp; rfl)); (case hp => exact (Reps.one (show Kd.M (Kd.int .i64) _ _ _ (-1) [.int .i64 (-1)] from rfl) (Reps.one (show Kd.M (Kd.int .i64) _ _ _ 6 [.int .i64 6] from rfl) (Reps.one (show Kd.M (Kd.int .i64) _ _ _ 7 [.int .i64 7] from rfl) (Reps.none _ _))))); intro v140 w19 ho20 hb hg_ hnew_; clear hg_ hnew_; (first | rw [← Ny139.out] at ho20 | (simp only [Int.reduceToNat] at ho20; rw [← Ny139.out] at ho20)); have n0_ := Az_ (rez_ (w179_) (Kd.R_base ho20) hb); have n1_ := Az_ (rez_ (by exact urz_ HO135.out) (Kd.R_base ho20) hb); have n2_ := Az_ (Kd.R_lower (Kd.R_new' (Kd.R_new' ho20 (Kd.R_lt (w179_))) (Kd.R_lt (by exact urz_ HO135.out))) (below_size (w113_))); have n4_ := Az_ (IsS67.below (w94_) hb); have n5_ := Az_ (btz_ (w113_) hb); clear HO129; clear HO135; clear HI123; clear HB; have HO129 := n0_; have HO135 := n1_; have HO141 := n2_; replace BK122 := Az_ (ukbz_ BK122.out hb); have HI123 := n4_; have HB := n5_; clear n0_ n1_ n2_ n4_ n5_; clear hb ho20; obtain ⟨Ao21, co21, eo21⟩ := Kd.R_slice HO141.out; subst eo21) | ((with_reducible refine gate_callee (f := 36) rfl ?_); refine goesL_ (some 20) rfl rfl Tryd.func36 (w204_) rfl #[.pointer (some ⟨gb123, 0, none⟩), .slice Ao21 y139.length co21] rfl maz_ ?_; (with_reducible refine (spec_l1Cur_among.calls gb123 l0 t137 t138 _ _ y139 t142 t143 t144 w _ ?side1 ?side2 ?side3 ?side4 ?side5 A6.out).mono ?_); (case side1 => repeat (first | (with_reducible first | exact HI123.out | apply IsS67.alloc | apply IsS67.drewN | apply IsS67.drew | apply IsS67.set_1 | apply IsS67.set_2 | refine IsS67.far ?_ NB123_122.out _) | exact HI123.out)); (case side2 => repeat (first | (with_reducible first | exact HB.out | apply baz_ | apply bnz_ | apply bdz_ | refine bsz_ ?_ (IsS67.ge HI123.out) | refine bsz_ ?_ GE122.out) | exact HB.out)); (case side3 => exact ucz_ ((Kd.R_reads' HO141.out).2.2)); (case side4 => exact (Kd.R_reads' HO141.out).2.1); (case side5 => exact far_slice (IsS67.own_ne HI123.out HO141.out (by decide))); rintro e w22 ⟨rfl, hi, hb, hk⟩; refine ⟨_, rfl, ?_⟩; replace BK122 := Az_ (KeepBut.blk hk (g' := gb122) (o := .cells #[.int .i64 0, .int .i64 0] 25 (0, 0)) (w178_) NB122_123.out (by simp)); replace HO129 := Az_ (Kd.R_mono (Kd.R_keep (IsS67.apart (show IsS67 w _ gb123 l0 t137 t138 from w94_) (w179_) (by decide)) hk (fun _ h => h.2)) (fun _ h => h.1)); replace HO135 := Az_ (Kd.R_mono (Kd.R_keep (IsS67.apart (show IsS67 w _ gb123 l0 t137 t138 from w94_) (by exact urz_ HO135.out) (by decide)) hk (fun _ h => h.2)) (fun _ h => h.1)); replace HO141 := Az_ (Kd.R_mono (Kd.R_keep (IsS67.apart (show IsS67 w _ gb123 l0 t137 t138 from w94_) (by exact urz_ HO141.out) (by decide)) hk (fun _ h => h.2)) (fun _ h => h.1)); replace HB := Az_ (hb); replace HI123 := Az_ (hi); (try clear hb); (try clear hk); (try clear hi)) | ((with_reducible refine gate_dst (N := 22) rfl ?_); refine Kd.R_lit (Kd.int .i64) _ 3 ?hg (N := 22) ?hd (xs := ([(-1), 9999, 10000] : List Int)) (inner := [.int .i64 (-1), .int .i64 9999, .int .i64 10000]) (ok := fun _ => True) (okp := fun _ => True) ?hr ?hp (fun _ hk => hk) trivial (Below.refl _ _) (Nat.le_refl _) (by simp) ?_; (case hd => rfl); (case hg => rfl); (case hr => first | (go_simp; done) | (go_simp; rfl)); (case hp => exact (Reps.one (show Kd.M (Kd.int .i64) _ _ _ (-1) [.int .i64 (-1)] from rfl) (Reps.one (show Kd.M (Kd.int .i64) _ _ _ 9999 [.int .i64 9999] from rfl) (Reps.one (show Kd.M (Kd.int .i64) _ _ _ 10000 [.int .i64 10000] from rfl) (Reps.none _ _))))); intro v146 w23 ho24 hb hg_ hnew_; clear hg_ hnew_; (first | rw [← Ny145.out] at ho24 | (simp only [Int.reduceToNat] at ho24; rw [← Ny145.out] at ho24)); have n0_ := Az_ (rez_ (w179_) (Kd.R_base ho24) hb); have n1_ := Az_ (rez_ (by exact urz_ HO135.out) (Kd.R_base ho24) hb); have n2_ := Az_ (rez_ (by exact urz_ HO141.out) (Kd.R_base ho24) hb); have n3_ := Az_ (Kd.R_lower (Kd.R_new' (Kd.R_new' (Kd.R_new' ho24 (Kd.R_lt (w179_))) (Kd.R_lt (by exact urz_ HO135.out))) (Kd.R_lt (by exact urz_ HO141.out))) (below_size (w113_))); have n5_ := Az_ (IsS67.below (w94_) hb); have n6_ := Az_ (btz_ (w113_) hb); clear HO129; clear HO135; clear HO141; clear HI123; clear HB; have HO129 := n0_; have HO135 := n1_; have HO141 := n2_; have HO147 := n3_; replace BK122 := Az_ (ukbz_ BK122.out hb); have HI123 := n5_; have HB := n6_; clear n0_ n1_ n2_ n3_ n5_ n6_; clear hb ho24; obtain ⟨Ao25, co25, eo25⟩ := Kd.R_slice HO147.out; subst eo25) | ((with_reducible refine gate_callee (f := 36) rfl ?_); refine goesL_ (some 23) rfl rfl Tryd.func36 (w204_) rfl #[.pointer (some ⟨gb123, 0, none⟩), .slice Ao25 y145.length co25] rfl maz_ ?_; (with_reducible refine (spec_l1Cur_among.calls gb123 l0 t143 t144 _ _ y145 t148 t149 t150 w _ ?side1 ?side2 ?side3 ?side4 ?side5 A7.out).mono ?_); (case side1 => repeat (first | (with_reducible first | exact HI123.out | apply IsS67.alloc | apply IsS67.drewN | apply IsS67.drew | apply IsS67.set_1 | apply IsS67.set_2 | refine IsS67.far ?_ NB123_122.out _) | exact HI123.out)); (case side2 => repeat (first | (with_reducible first | exact HB.out | apply baz_ | apply bnz_ | apply bdz_ | refine bsz_ ?_ (IsS67.ge HI123.out) | refine bsz_ ?_ GE122.out) | exact HB.out)); (case side3 => exact ucz_ ((Kd.R_reads' HO147.out).2.2)); (case side4 => exact (Kd.R_reads' HO147.out).2.1); (case side5 => exact far_slice (IsS67.own_ne HI123.out HO147.out (by decide))); rintro e w26 ⟨rfl, hi, hb, hk⟩; refine ⟨_, rfl, ?_⟩; replace BK122 := Az_ (KeepBut.blk hk (g' := gb122) (o := .cells #[.int .i64 0, .int .i64 0] 25 (0, 0)) (w178_) NB122_123.out (by simp)); replace HO129 := Az_ (Kd.R_mono (Kd.R_keep (IsS67.apart (show IsS67 w _ gb123 l0 t143 t144 from w94_) (w179_) (by decide)) hk (fun _ h => h.2)) (fun _ h => h.1)); replace HO135 := Az_ (Kd.R_mono (Kd.R_keep (IsS67.apart (show IsS67 w _ gb123 l0 t143 t144 from w94_) (by exact urz_ HO135.out) (by decide)) hk (fun _ h => h.2)) (fun _ h => h.1)); replace HO141 := Az_ (Kd.R_mono (Kd.R_keep (IsS67.apart (show IsS67 w _ gb123 l0 t143 t144 from w94_) (by exact urz_ HO141.out) (by decide)) hk (fun _ h => h.2)) (fun _ h => h.1)); replace HO147 := Az_ (Kd.R_mono (Kd.R_keep (IsS67.apart (show IsS67 w _ gb123 l0 t143 t144 from w94_) (by exact urz_ HO147.out) (by decide)) hk (fun _ h => h.2)) (fun _ h => h.1)); replace HB := Az_ (hb); replace HI123 := Az_ (hi); (try clear hb); (try clear hk); (try clear hi); have hnb27 := NB122_123.out; have hnc27 := NB123_122.out; have hcz28_0 := cz_ (x := .int .i64 0) BK122 0; have hcz28_1 := cz_ (x := .int .i64 0) BK122 1; have hfz28_0 := blk_frozen BK122.out 0; have hfz28_1 := blk_frozen BK122.out 1))
  refine bodyPost_ret (results_ctt rfl _ _ gb122 25 #[.int .i64 t130, .int .i64 t136] (0, 0) _ rfl (by (with_reducible repeat (first | refine knz_ ?_ _ | refine kdz_ ?_ | refine kaz_ ?_ _)); refine blk_put (cs := #[.int .i64 t130, .int .i64 0]) ?_ 1 _ rfl; (with_reducible repeat (first | refine knz_ ?_ _ | refine kdz_ ?_ | refine kaz_ ?_ _)); refine blk_put (cs := #[.int .i64 0, .int .i64 0]) ?_ 0 _ rfl; (with_reducible repeat (first | refine knz_ ?_ _ | refine kdz_ ?_ | refine kaz_ ?_ _)); exact BK122.out) Tryd.underlying25 rfl (w204_)) rfl ?_
  exact ⟨w166_, w113_⟩
 ·replace c3 := Bool.eq_false_iff.mpr c3
  subst c3
  rw [if_neg nfz_] at H
  replace H := bqz_ H; obtain ⟨⟨t151, t152, t153, t154⟩, A29, H⟩ := H
  replace H := bqz_ H; obtain ⟨⟨t155, t156, t157⟩, A30, H⟩ := H
  replace H := bqz_ H; obtain ⟨⟨t158, t159, t160⟩, A31, H⟩ := H
  replace H : (some (t151, t152, t155, t158)) = some (r1, r2, r3, r4) := H
  simp only [Option.some.injEq, Prod.mk.injEq] at H
  obtain ⟨rfl, rfl, rfl, rfl⟩ := H
  go_enter Tryd.func5, Tryd.ntmps5
  go_wp2_with (first | ((with_reducible refine gate_dst (N := 2) rfl ?_); refine bxe_ (N := 2) (cs := #[.int .i64 0, .int .i64 0]) (t := 25) ?_; intro gb122 hg w32 BK122 hb; have GW122 := gez_ hg (ubz_ HB.out); have GE122 := GW122; replace HB := Az_ (btz_ (ubz_ HB.out) hb); clear hb hg) | ((with_reducible refine gate_dst (N := 8) rfl ?_); refine bxe_ (N := 8) (cs := #[.slice A0 l0.length c0, .int .i64 0, .int .u64 0]) (t := 67) ?_; intro gb123 hg w33 BK123 hb; obtain ⟨NB122_123, NB123_122⟩ := nez_ BK122 hg; have GW123 : Aside0 (w.heap.size ≤ gb123) := gez_ hg (w129_); have GE123 := GW123; replace HB := Az_ (btz_ (w129_) hb); replace BK122 := Az_ (ukbz_ BK122.out hb); clear hb hg) | ((with_reducible refine gate_callee (f := 35) rfl ?_); refine goesL_ (some 10) rfl rfl Tryd.func35 (w204_) rfl #[.pointer (some ⟨gb123, 0, none⟩), .int .i64 12] rfl maz_ ?_; have HI123 := Az_ (show IsS67 w w33 gb123 l0 0 0 from ⟨_, _, BK123.out, GE123.out, HR0.out⟩); (with_reducible refine (spec_l1Cur_one.calls gb123 l0 0 0 12 false t125 t126 w _ ?side1 ?side2 A2.out).mono ?_); (case side1 => repeat (first | (with_reducible first | exact HI123.out | apply IsS67.alloc | apply IsS67.drewN | apply IsS67.drew | apply IsS67.set_1 | apply IsS67.set_2 | refine IsS67.far ?_ NB123_122.out _) | exact HI123.out)); (case side2 => repeat (first | (with_reducible first | exact HB.out | apply baz_ | apply bnz_ | apply bdz_ | refine bsz_ ?_ (IsS67.ge HI123.out) | refine bsz_ ?_ GE122.out) | exact HB.out)); rintro e w34 ⟨rfl, hi, hb, hk⟩; refine ⟨_, rfl, ?_⟩; replace BK122 := Az_ (KeepBut.blk hk (g' := gb122) (o := .cells #[.int .i64 0, .int .i64 0] 25 (0, 0)) (w178_) NB122_123.out (by simp)); replace HB := Az_ (hb); replace HI123 := Az_ (hi); (try clear hb); (try clear hk); (try clear hi)) | ((with_reducible refine gate_callee (f := 37) rfl ?_); refine goesL_ (some 25) rfl rfl Tryd.func37 (w204_) rfl #[.pointer (some ⟨gb123, 0, none⟩)] rfl maz_ ?_; (with_reducible refine (spec_l1Cur_hidden.calls gb123 l0 t125 t126 t151 t152 t153 t154 w _ ?side1 ?side2 A29.out).mono ?_); (case side1 => repeat (first | (with_reducible first | exact HI123.out | apply IsS67.alloc | apply IsS67.drewN | apply IsS67.drew | apply IsS67.set_1 | apply IsS67.set_2 | refine IsS67.far ?_ NB123_122.out _) | exact HI123.out)); (case side2 => repeat (first | (with_reducible first | exact HB.out | apply baz_ | apply bnz_ | apply bdz_ | refine bsz_ ?_ (IsS67.ge HI123.out) | refine bsz_ ?_ GE122.out) | exact HB.out)); rintro e w35 ⟨rfl, hi, hb, hk⟩; refine ⟨_, rfl, ?_⟩; replace BK122 := Az_ (KeepBut.blk hk (g' := gb122) (o := .cells #[.int .i64 0, .int .i64 0] 25 (0, 0)) (w178_) NB122_123.out (by simp)); replace HB := Az_ (hb); replace HI123 := Az_ (hi); (try clear hb); (try clear hk); (try clear hi)) | ((with_reducible refine gate_callee (f := 38) rfl ?_); refine goesL_ (some 27) rfl rfl Tryd.func38 (w204_) rfl #[.pointer (some ⟨gb123, 0, none⟩), .int .i64 7] rfl maz_ ?_; (with_reducible refine (spec_l1Cur_pick.calls gb123 l0 t153 t154 7 t155 t156 t157 w _ ?side1 ?side2 A30.out).mono ?_); (case side1 => repeat (first | (with_reducible first | exact HI123.out | apply IsS67.alloc | apply IsS67.drewN | apply IsS67.drew | apply IsS67.set_1 | apply IsS67.set_2 | refine IsS67.far ?_ NB123_122.out _) | exact HI123.out)); (case side2 => repeat (first | (with_reducible first | exact HB.out | apply baz_ | apply bnz_ | apply bdz_ | refine bsz_ ?_ (IsS67.ge HI123.out) | refine bsz_ ?_ GE122.out) | exact HB.out)); rintro e w36 ⟨rfl, hi, hb, hk⟩; refine ⟨_, rfl, ?_⟩; replace BK122 := Az_ (KeepBut.blk hk (g' := gb122) (o := .cells #[.int .i64 0, .int .i64 0] 25 (0, 0)) (w178_) NB122_123.out (by simp)); replace HB := Az_ (hb); replace HI123 := Az_ (hi); (try clear hb); (try clear hk); (try clear hi)) | ((with_reducible refine gate_callee (f := 38) rfl ?_); refine goesL_ (some 29) rfl rfl Tryd.func38 (w204_) rfl #[.pointer (some ⟨gb123, 0, none⟩), .int .i64 10000] rfl maz_ ?_; (with_reducible refine (spec_l1Cur_pick.calls gb123 l0 t156 t157 10000 t158 t159 t160 w _ ?side1 ?side2 A31.out).mono ?_); (case side1 => repeat (first | (with_reducible first | exact HI123.out | apply IsS67.alloc | apply IsS67.drewN | apply IsS67.drew | apply IsS67.set_1 | apply IsS67.set_2 | refine IsS67.far ?_ NB123_122.out _) | exact HI123.out)); (case side2 => repeat (first | (with_reducible first | exact HB.out | apply baz_ | apply bnz_ | apply bdz_ | refine bsz_ ?_ (IsS67.ge HI123.out) | refine bsz_ ?_ GE122.out) | exact HB.out)); rintro e w37 ⟨rfl, hi, hb, hk⟩; refine ⟨_, rfl, ?_⟩; replace BK122 := Az_ (KeepBut.blk hk (g' := gb122) (o := .cells #[.int .i64 0, .int .i64 0] 25 (0, 0)) (w178_) NB122_123.out (by simp)); replace HB := Az_ (hb); replace HI123 := Az_ (hi); (try clear hb); (try clear hk); (try clear hi); have hnb38 := NB122_123.out; have hnc38 := NB123_122.out; have hcz39_0 := cz_ (x := .int .i64 0) BK122 0; have hcz39_1 := cz_ (x := .int .i64 0) BK122 1; have hfz39_0 := blk_frozen BK122.out 0; have hfz39_1 := blk_frozen BK122.out 1))
  refine bodyPost_ret (results_ctt rfl _ _ gb122 25 #[.int .i64 t151, .int .i64 t152] (0, 0) _ rfl (by (with_reducible repeat (first | refine knz_ ?_ _ | refine kdz_ ?_ | refine kaz_ ?_ _)); refine blk_put (cs := #[.int .i64 t151, .int .i64 0]) ?_ 1 _ rfl; (with_reducible repeat (first | refine knz_ ?_ _ | refine kdz_ ?_ | refine kaz_ ?_ _)); refine blk_put (cs := #[.int .i64 0, .int .i64 0]) ?_ 0 _ rfl; (with_reducible repeat (first | refine knz_ ?_ _ | refine kdz_ ?_ | refine kaz_ ?_ _)); exact BK122.out) Tryd.underlying25 rfl (w204_)) rfl ?_
  exact ⟨w166_, w113_⟩

def impl_within.f (a0 : Int) (a1 : Int) (a2 : Int) : Option (Bool) := if a0 ≥ a1 then (some (decide (a0 ≤ a2))) else (some false)
set_option maxHeartbeats 8000000 in
set_option maxRecDepth 100000 in
theorem impl_within.calls (a0 : Int) (a1 : Int) (a2 : Int) (r : Bool) (w : World) (h : impl_within.f a0 a1 a2 = some r) :
  Calls Tryd.prog 39 #[.int .i64 a0, .int .i64 a1, .int .i64 a2] w fun e w' => e = .returned (.bool r) ∧ Drawn0 w w' := by
 have H : (if a0 ≥ a1 then (some (decide (a0 ≤ a2))) else (some false)) = some r := h
 clear h
 by_cases c4 : a0 ≥ a1
 ·rw [if_pos c4] at H
  have c4b0 := decide_eq_true c4
  clear c4
  obtain rfl := Option.some.inj H
  go_enter Tryd.func39, Tryd.ntmps39
  go_wp2
  go_ret
  exact ⟨w171_, w168_⟩
 ·rw [if_neg c4] at H
  have c4b0 := decide_eq_false c4
  clear c4
  obtain rfl := Option.some.inj H
  go_enter Tryd.func39, Tryd.ntmps39
  go_wp2
  go_ret
  exact ⟨w171_, w168_⟩


def impl_IsHidden.f (a0_0 : Int) (a0_1 : Int) : Option (Bool) := (impl_within.f a0_0 2 40).bind fun t162 => (if t162 = true then ((impl_within.f a0_1 1 (wrap64 (Int.tdiv a0_0 2))).bind fun t163 => (some t163)) else (some false))
set_option maxHeartbeats 8000000 in
set_option maxRecDepth 100000 in
theorem impl_IsHidden.calls (a0_0 : Int) (a0_1 : Int) (r : Bool) (w : World) (h : impl_IsHidden.f a0_0 a0_1 = some r) :
  Calls Tryd.prog 9 #[.agg #[.int .i64 a0_0, .int .i64 a0_1]] w fun e w' => e = .returned (.bool r) ∧ Below w.heap.size w w' := by
 have hu25 := Tryd.underlying25
 have HB := Az_ (Below.refl w.heap.size w)
 have H : ((impl_within.f a0_0 2 40).bind fun t162 => (if t162 = true then ((impl_within.f a0_1 1 (wrap64 (Int.tdiv a0_0 2))).bind fun t163 => (some t163)) else (some false))) = some r := h
 clear h
 replace H := bqz_ H; obtain ⟨t162, A2, H⟩ := H
 replace H : (if t162 = true then ((impl_within.f a0_1 1 (wrap64 (Int.tdiv a0_0 2))).bind fun t163 => (some t163)) else (some false)) = some r := H
 by_cases c3 : t162 = true
 ·subst c3
  rw [if_pos rfl] at H
  replace H := bqz_ H; obtain ⟨t163, A4, H⟩ := H
  replace H : (some t163) = some r := H
  obtain rfl := Option.some.inj H
  go_enter Tryd.func9, Tryd.ntmps9
  go_wp2_with (first | ((with_reducible refine gate_dst (N := 1) rfl ?_); refine bxe_ (N := 1) (cs := #[.int .i64 a0_0, .int .i64 a0_1]) (t := 25) ?_; intro gb161 hg w5 BK161 hb; have GW161 := gez_ hg (ubz_ HB.out); have GE161 := GW161; replace HB := Az_ (btz_ (ubz_ HB.out) hb); clear hb hg; have hcz6_0 := cz_ (x := .int .i64 a0_0) BK161 0; have hcz6_1 := cz_ (x := .int .i64 a0_1) BK161 1; have hfz6_0 := blk_frozen BK161.out 0; have hfz6_1 := blk_frozen BK161.out 1) | ((with_reducible refine gate_callee (f := 39) rfl ?_); refine goesL_ (some 5) rfl rfl Tryd.func39 (w204_) rfl #[.int .i64 a0_0, .int .i64 2, .int .i64 40] rfl maz_ ?_; (with_reducible refine (impl_within.calls a0_0 2 40 true _ A2.out).mono ?_); rintro e w' ⟨rfl, ⟨nd, rfl⟩⟩; refine ⟨_, rfl, ?_⟩) | (go_at_call 39; (with_reducible refine (impl_within.calls a0_1 1 (wrap64 (Int.tdiv a0_0 2)) t163 _ A4.out).mono ?_); rintro e w' ⟨rfl, ⟨nd, rfl⟩⟩))
  go_ret
  exact ⟨w166_, w129_⟩
 ·replace c3 := Bool.eq_false_iff.mpr c3
  subst c3
  rw [if_neg nfz_] at H
  obtain rfl := Option.some.inj H
  go_enter Tryd.func9, Tryd.ntmps9
  go_wp2_with (first | ((with_reducible refine gate_dst (N := 1) rfl ?_); refine bxe_ (N := 1) (cs := #[.int .i64 a0_0, .int .i64 a0_1]) (t := 25) ?_; intro gb161 hg w7 BK161 hb; have GW161 := gez_ hg (ubz_ HB.out); have GE161 := GW161; replace HB := Az_ (btz_ (ubz_ HB.out) hb); clear hb hg; have hcz8_0 := cz_ (x := .int .i64 a0_0) BK161 0; have hcz8_1 := cz_ (x := .int .i64 a0_1) BK161 1; have hfz8_0 := blk_frozen BK161.out 0; have hfz8_1 := blk_frozen BK161.out 1) | ((with_reducible refine gate_callee (f := 39) rfl ?_); refine goesL_ (some 5) rfl rfl Tryd.func39 (w204_) rfl #[.int .i64 a0_0, .int .i64 2, .int .i64 40] rfl maz_ ?_; (with_reducible refine (impl_within.calls a0_0 2 40 false _ A2.out).mono ?_); rintro e w' ⟨rfl, ⟨nd, rfl⟩⟩; refine ⟨_, rfl, ?_⟩))
  go_ret
  exact ⟨w166_, w129_⟩

def IsS125 (w0 W : World) (g : Nat) (f0 : Int) : Prop := W.heap[g]? = some (.cells #[.int .i64 f0] 3 (0, 0)) ∧ w0.heap.size ≤ g
theorem IsS125.grown {w0 W : World} {g : Nat} {f0 : Int} {W1 : World} {row : Option Nat} (h : IsS125 w0 W g f0) (hw : W.grownBy W1 row) (hne : some g ≠ row) : IsS125 w0 W1 g f0 := by
 obtain ⟨hb, hg⟩ := h
 exact ⟨blk_grown hb hw hne, hg⟩
theorem IsS125.kept {w0 W : World} {g : Nat} {f0 : Int} {W1 : World} {S : Nat → Prop} (h : IsS125 w0 W g f0) (hk : Kept W W1 S) (hne : ¬ S g) : IsS125 w0 W1 g f0 := by
 obtain ⟨hb, hg⟩ := h
 exact ⟨blk_kept hb hk hne, hg⟩
theorem IsS125.below {w0 W : World} {g : Nat} {f0 : Int} {W1 : World} (h : IsS125 w0 W g f0) (hw : Below W.heap.size W W1) : IsS125 w0 W1 g f0 := h.grown (grown_of_below hw none) (by simp)
theorem IsS125.alloc {w0 W : World} {g : Nat} {f0 : Int} (h : IsS125 w0 W g f0) (o : Obj) : IsS125 w0 (W.alloc o) g f0 := h.below (baz_ (Below.refl _ _) o)
theorem IsS125.drewN {w0 W : World} {g : Nat} {f0 : Int} (h : IsS125 w0 W g f0) (m : Nat) : IsS125 w0 (W.drewN m) g f0 := h
theorem IsS125.drew {w0 W : World} {g : Nat} {f0 : Int} (h : IsS125 w0 W g f0) : IsS125 w0 W.drew g f0 := h
theorem IsS125.at_ {w0 W : World} {g : Nat} {f0 : Int} {w' : World} {m : Nat} (hq : W.drewN m = w') (h : IsS125 w0 W g f0) : IsS125 w0 w' g f0 := by subst hq; exact IsS125.drewN h m
theorem IsS125.apart {w0 W : World} {g : Nat} {f0 : Int} {α : Type} {d : Kd α} {e : Nat} {base : Nat} {ok : Nat → Prop} {v : Value} {xs : List α} (h : IsS125 w0 W g f0) (ho : d.R e W base ok v xs) (ht : ∀ q, q ∈ e :: d.E → q ≠ 3) : d.R e W base (fun k => ok k ∧ k ≠ g) v xs := by
 obtain ⟨hb, hg⟩ := h
 exact Kd.R_types ho hb ht
theorem IsS125.own_ne {w0 W : World} {g : Nat} {f0 : Int} {α : Type} {d : Kd α} {e : Nat} {base : Nat} {ok : Nat → Prop} {v : Value} {xs : List α} (h : IsS125 w0 W g f0) (ho : d.R e W base ok v xs) (ht : e ≠ 3) : some g ≠ v.ownBlock := by
 obtain ⟨hb, hg⟩ := h
 exact Kd.R_ne ho hb ht
theorem IsS125.lt {w0 W : World} {g : Nat} {f0 : Int} (h : IsS125 w0 W g f0) : g < W.heap.size := by
 obtain ⟨hb, hg⟩ := h
 exact blk_lt hb
theorem IsS125.ge {w0 W : World} {g : Nat} {f0 : Int} (h : IsS125 w0 W g f0) : w0.heap.size ≤ g := by
 obtain ⟨hb, hg⟩ := h
 exact hg
theorem IsS125.far {w0 W : World} {g : Nat} {f0 : Int} {p : Addr} (h : IsS125 w0 W g f0) (hne : g ≠ p.block) (u : Value) : IsS125 w0 (W.setCell p u) g f0 := by
 obtain ⟨hb, hg⟩ := h
 exact ⟨blk_far hb hne u, hg⟩
theorem cellS125_0 {W : World} {g : Nat} {f0 : Int} (h : W.heap[g]? = some (.cells #[.int .i64 f0] 3 (0, 0))) : W.cell? ⟨g, 0, none⟩ = some (.int .i64 f0) := (blk_cell h 0).trans rfl
theorem IsS125.set_0 {w0 W : World} {g : Nat} {f0 : Int} (h : IsS125 w0 W g f0) (x : Int) : IsS125 w0 (W.setCell ⟨g, 0, none⟩ (.int .i64 x)) g x := by
 obtain ⟨hb, hg⟩ := h
 exact ⟨by simpa using blk_set hb 0 (.int .i64 x), hg⟩
def impl_MakePuzzle_1.f (s0_0 : Int) : Option (Int × Int) := some (Int.tmod (wrap64 ((wrap64 (s0_0 * 311)) + 503)) 10007, Int.tmod (wrap64 ((wrap64 (s0_0 * 311)) + 503)) 10007)
set_option maxHeartbeats 8000000 in
set_option maxRecDepth 100000 in
theorem impl_MakePuzzle_1.calls (g : Nat) (s0_0 : Int) (r1 : Int) (r2 : Int) (w0 w : World) (hI : IsS125 w0 w g s0_0) (hB : Below w0.heap.size w0 w) (h : impl_MakePuzzle_1.f s0_0 = some (r1, r2)) :
  Calls Tryd.prog 40 #[.pointer (some ⟨g, 0, none⟩)] w fun e w' => e = .returned (.int .i64 r1) ∧ IsS125 w0 w' g r2 ∧ Below w0.heap.size w0 w' ∧ KeepBut w w' g none := by
 have HI0 := Az_ hI
 have HK := Az_ (KeepBut.refl w g none)
 have HL := Az_ hB.size
 clear hI
 have HW0 := Az_ hB.size
 have HB := Az_ hB
 clear hB
 have H : (some (Int.tmod (wrap64 ((wrap64 (s0_0 * 311)) + 503)) 10007, Int.tmod (wrap64 ((wrap64 (s0_0 * 311)) + 503)) 10007)) = some (r1, r2) := h
 clear h
 simp only [Option.some.injEq, Prod.mk.injEq] at H
 obtain ⟨rfl, rfl⟩ := H
 obtain ⟨HGz2, hgz2⟩ := HI0.out
 have hcz2_0 := cellS125_0 HGz2
 have hfz2_0 := blk_frozen HGz2 0
 clear HGz2 hgz2
 go_enter Tryd.func40, Tryd.ntmps40
 go_wp2
 go_ret
 exact ⟨w166_, by repeat (first | (with_reducible first | exact HI0.out | apply IsS125.alloc | apply IsS125.drewN | apply IsS125.drew | apply IsS125.set_0) | exact HI0.out), by repeat (first | (with_reducible first | exact HB.out | apply baz_ | apply bnz_ | apply bdz_ | refine bsz_ ?_ (IsS125.ge HI0.out)) | exact HB.out), w126_⟩

def impl_flag.f (a0 : Bool) : Option (Int) := if a0 = true then (some 1) else (some 0)
set_option maxHeartbeats 8000000 in
set_option maxRecDepth 100000 in
theorem impl_flag.calls (a0 : Bool) (r : Int) (w : World) (h : impl_flag.f a0 = some r) :
  Calls Tryd.prog 64 #[.bool a0] w fun e w' => e = .returned (.int .i64 r) ∧ Drawn0 w w' := by
 have H : (if a0 = true then (some 1) else (some 0)) = some r := h
 clear h
 by_cases c2 : a0 = true
 ·subst c2
  rw [if_pos rfl] at H
  obtain rfl := Option.some.inj H
  go_enter Tryd.func64, Tryd.ntmps64
  go_wp2
  go_ret
  exact ⟨w171_, w168_⟩
 ·replace c2 := Bool.eq_false_iff.mpr c2
  subst c2
  rw [if_neg nfz_] at H
  obtain rfl := Option.some.inj H
  go_enter Tryd.func64, Tryd.ntmps64
  go_wp2
  go_ret
  exact ⟨w171_, w168_⟩

end Go.Proofs.YtodacdcbeleleaaDoor.P
end

section
namespace Go.Proofs.YtodacdcbeleleaaDoor
open Go.Shelf

def Tryd.lays171_ren : Go.Shelf.Ren := ⟨fun | 171 => 65 | 243 => 73 | 246 => 79 | 283 => 83 | 284 => 84 | 285 => 85 | 286 => 86 | 129 => 89 | 317 => 88 | 318 => 90 | 319 => 91 | 320 => 92 | 337 => 97 | 338 => 98 | n => n, fun | 3 => 3 | 9 => 9 | 2 => 2 | 4 => 4 | 171 => 95 | 0 => 0 | 53 => 65 | 37 => 22 | 5 => 5 | 173 => 98 | 212 => 100 | 51 => 101 | 20 => 20 | 213 => 102 | 46 => 90 | 232 => 107 | 233 => 108 | n => n, fun | 17 => 1 | 18 => 2 | 19 => 3 | n => n⟩

theorem Tryd.lays171 : Go.Proofs.Lays.n171 Tryd.prog Tryd.lays171_ren := {
  mixed := by kernel_rfl
  f129 := Tryd.func89.trans (congrArg some (w204_))
  f171 := Tryd.func65.trans (congrArg some (w204_))
  f243 := Tryd.func73.trans (congrArg some (w204_))
  f246 := Tryd.func79.trans (congrArg some (w204_))
  f283 := Tryd.func83.trans (congrArg some (w204_))
  f284 := Tryd.func84.trans (congrArg some (w204_))
  f285 := Tryd.func85.trans (congrArg some (w204_))
  f286 := Tryd.func86.trans (congrArg some (w204_))
  f317 := Tryd.func88.trans (congrArg some (w204_))
  f318 := Tryd.func90.trans (congrArg some (w204_))
  f319 := Tryd.func91.trans (congrArg some (w204_))
  f320 := Tryd.func92.trans (congrArg some (w204_))
  f337 := Tryd.func97.trans (congrArg some (w204_))
  f338 := Tryd.func98.trans (congrArg some (w204_))
  t0 := Tryd.underlying0
  a0 := Tryd.isAgg0
  z0 := Tryd.sizeOf0
  v0 := Tryd.zeroValue0
  t2 := Tryd.underlying2
  a2 := Tryd.isAgg2
  z2 := Tryd.sizeOf2
  v2 := Tryd.zeroValue2
  t3 := Tryd.underlying3
  a3 := Tryd.isAgg3
  z3 := Tryd.sizeOf3
  v3 := Tryd.zeroValue3
  t4 := Tryd.underlying4
  a4 := Tryd.isAgg4
  z4 := Tryd.sizeOf4
  v4 := Tryd.zeroValue4
  t5 := Tryd.underlying5
  a5 := Tryd.isAgg5
  z5 := Tryd.sizeOf5
  v5 := Tryd.zeroValue5
  t9 := Tryd.underlying9
  a9 := Tryd.isAgg9
  z9 := Tryd.sizeOf9
  v9 := Tryd.zeroValue9
  t20 := Tryd.underlying20
  a20 := Tryd.isAgg20
  z20 := Tryd.sizeOf20
  v20 := Tryd.zeroValue20
  t37 := Tryd.underlying22
  a37 := Tryd.isAgg22
  z37 := Tryd.sizeOf22
  v37 := Tryd.zeroValue22
  t46 := Tryd.underlying90
  a46 := Tryd.isAgg90
  z46 := Tryd.sizeOf90
  v46 := Tryd.zeroValue90
  t51 := Tryd.underlying101
  a51 := Tryd.isAgg101
  z51 := Tryd.sizeOf101
  v51 := Tryd.zeroValue101
  t53 := Tryd.underlying65
  a53 := Tryd.isAgg65
  z53 := Tryd.sizeOf65
  v53 := Tryd.zeroValue65
  t171 := Tryd.underlying95
  a171 := Tryd.isAgg95
  z171 := Tryd.sizeOf95
  v171 := Tryd.zeroValue95
  t173 := Tryd.underlying98
  a173 := Tryd.isAgg98
  z173 := Tryd.sizeOf98
  v173 := Tryd.zeroValue98
  t212 := Tryd.underlying100
  a212 := Tryd.isAgg100
  z212 := Tryd.sizeOf100
  v212 := Tryd.zeroValue100
  t213 := Tryd.underlying102
  a213 := Tryd.isAgg102
  z213 := Tryd.sizeOf102
  t232 := Tryd.underlying107
  a232 := Tryd.isAgg107
  z232 := Tryd.sizeOf107
  v232 := Tryd.zeroValue107
  t233 := Tryd.underlying108
  a233 := Tryd.isAgg108
  z233 := Tryd.sizeOf108
  v233 := Tryd.zeroValue108
  g17 := by kernel_rfl
  g18 := by kernel_rfl
  g19 := w204_ }

open Go.RowKit Go.Sort Go.Lib in
theorem Tryd.strconv_Itoa_small (i : Nat) (hi : i < 100) (w : World) :
    Calls Tryd.prog 65 #[.int .i64 i] w fun e w' => e = .returned (.string ⟨(Lib.decDigits i).toArray⟩) ∧ w' = w := Any.strconv_Itoa_small Tryd.lays171 i hi w

def Tryd.lays138_ren : Go.Shelf.Ren := ⟨fun | 138 => 74 | 195 => 80 | 218 => 81 | 143 => 82 | 219 => 87 | 217 => 93 | 225 => 94 | 224 => 95 | 267 => 96 | 266 => 99 | 314 => 100 | n => n, fun | 9 => 9 | 3 => 3 | 4 => 4 | 5 => 5 | 0 => 0 | 46 => 90 | 146 => 105 | 51 => 101 | n => n, fun | 1 => 0 | n => n⟩

theorem Tryd.lays138 : Go.Proofs.Lays.n138 Tryd.prog Tryd.lays138_ren := {
  mixed := by kernel_rfl
  f138 := Tryd.func74.trans (congrArg some (w204_))
  f143 := Tryd.func82.trans (congrArg some (w204_))
  f195 := Tryd.func80.trans (congrArg some (w204_))
  f217 := Tryd.func93.trans (congrArg some (w204_))
  f218 := Tryd.func81.trans (congrArg some (w204_))
  f219 := Tryd.func87.trans (congrArg some (w204_))
  f224 := Tryd.func95.trans (congrArg some (w204_))
  f225 := Tryd.func94.trans (congrArg some (w204_))
  f266 := Tryd.func99.trans (congrArg some (w204_))
  f267 := Tryd.func96.trans (congrArg some (w204_))
  f314 := Tryd.func100.trans (congrArg some (w204_))
  t0 := Tryd.underlying0
  a0 := Tryd.isAgg0
  z0 := Tryd.sizeOf0
  v0 := Tryd.zeroValue0
  t3 := Tryd.underlying3
  a3 := Tryd.isAgg3
  z3 := Tryd.sizeOf3
  v3 := Tryd.zeroValue3
  t4 := Tryd.underlying4
  a4 := Tryd.isAgg4
  z4 := Tryd.sizeOf4
  v4 := Tryd.zeroValue4
  t5 := Tryd.underlying5
  a5 := Tryd.isAgg5
  z5 := Tryd.sizeOf5
  v5 := Tryd.zeroValue5
  t9 := Tryd.underlying9
  a9 := Tryd.isAgg9
  z9 := Tryd.sizeOf9
  v9 := Tryd.zeroValue9
  t46 := Tryd.underlying90
  a46 := Tryd.isAgg90
  z46 := Tryd.sizeOf90
  v46 := Tryd.zeroValue90
  t51 := Tryd.underlying101
  a51 := Tryd.isAgg101
  z51 := Tryd.sizeOf101
  v51 := Tryd.zeroValue101
  t146 := Tryd.underlying105
  a146 := Tryd.isAgg105
  z146 := Tryd.sizeOf105
  v146 := Tryd.zeroValue105
  g1 := w204_ }

open Go.RowKit Go.Lib in
theorem Tryd.strings_Count_one (s : ByteArray) (c : UInt8) (w : World) :
    Calls Tryd.prog 74 #[.string s, .string ⟨#[c]⟩] w fun e w' => e = .returned (.int .i64 (Lib.countByte s.data.toList c)) ∧ w' = w := Any.strings_Count_one Tryd.lays138 s c w

end Go.Proofs.YtodacdcbeleleaaDoor
end

section
namespace Go.Proofs.YtodacdcbeleleaaDoor.P
open Go.RowKit Go.Proofs.YtodacdcbeleleaaDoorW.PrintWords

def strcount.f (s sub : ByteArray) : Option Int := match sub with
  | ⟨⟨[c]⟩⟩ => some (Lib.countByte s.data.toList c)
  | _ => none
theorem strcount.calls (a0 a1 : ByteArray) (r : Int) (w : World) (h : strcount.f a0 a1 = some r) :
    Calls Tryd.prog 74 #[.string a0, .string a1] w fun e w' => e = .returned (.int .i64 r) ∧ Drawn0 w w' := by
  obtain ⟨⟨l⟩⟩ := a1
  match l, h with
  | [c], h =>
    obtain rfl := Option.some.inj (show some ((Lib.countByte a0.data.toList c : Int)) = some r from h)
    refine (Tryd.strings_Count_one a0 c w).mono fun e w' ⟨he, hw⟩ => ⟨he, ?_⟩
    subst hw; exact Drawn0.refl _

def itoa.f (x : Int) : Option ByteArray := if 0 ≤ x ∧ x < 100 then some ⟨(Lib.decDigits x.toNat).toArray⟩ else none
theorem itoa.calls (a0 : Int) (r : ByteArray) (w : World) (h : itoa.f a0 = some r) :
    Calls Tryd.prog 65 #[.int .i64 a0] w fun e w' => e = .returned (.string r) ∧ Drawn0 w w' := by
  unfold itoa.f at h
  split at h
  · rename_i hc
    obtain rfl := Option.some.inj h
    obtain ⟨k, rfl⟩ := Int.eq_ofNat_of_zero_le hc.1
    refine (Tryd.strconv_Itoa_small k (by omega) w).mono fun e w' ⟨he, hw⟩ => ⟨?_, ?_⟩
    · simpa using he
    · subst hw; exact Drawn0.refl _
  · cases h
end Go.Proofs.YtodacdcbeleleaaDoor.P
end

section
namespace Go.Proofs.YtodacdcbeleleaaDoor.P
open Go.RowKit Go.Proofs.YtodacdcbeleleaaDoorW.PrintWords Go.Proofs.YtodacdcbeleleaaDoorW.PrintLast Go.Proofs.YtodacdcbeleleaaDoorW.PrintMore
attribute [local go_sem] max2_int min2_int max_two min_two max_three min_three max_four min_four   -- for this text's walks alone
set_option linter.unusedVariables false
set_option linter.unusedSimpArgs false

def impl_used.f (a0 : Int) (a1 : Int) : Option (Int) := (itoa.f a0).bind fun t164 => ((itoa.f a1).bind fun t165 => ((strcount.f t164 t165).bind fun t166 => (some t166)))
set_option maxHeartbeats 8000000 in
set_option maxRecDepth 100000 in
theorem impl_used.calls (a0 : Int) (a1 : Int) (r : Int) (w : World) (h : impl_used.f a0 a1 = some r) :
  Calls Tryd.prog 66 #[.int .i64 a0, .int .i64 a1] w fun e w' => e = .returned (.int .i64 r) ∧ Drawn0 w w' := by
 have H : ((itoa.f a0).bind fun t164 => ((itoa.f a1).bind fun t165 => ((strcount.f t164 t165).bind fun t166 => (some t166)))) = some r := h
 clear h
 replace H := bqz_ H; obtain ⟨t164, A3, H⟩ := H
 replace H := bqz_ H; obtain ⟨t165, A4, H⟩ := H
 replace H := bqz_ H; obtain ⟨t166, A5, H⟩ := H
 replace H : (some t166) = some r := H
 obtain rfl := Option.some.inj H
 go_enter Tryd.func66, Tryd.ntmps66
 go_wp2_with (first | ((with_reducible refine gate_callee (f := 65) rfl ?_); refine goesL_ (some 6) rfl rfl Tryd.func65 (w204_) rfl #[.int .i64 a0] rfl maz_ ?_; (with_reducible refine (itoa.calls a0 t164 _ A3.out).mono ?_); rintro e w' ⟨rfl, ⟨nd, rfl⟩⟩; refine ⟨_, rfl, ?_⟩) | ((with_reducible refine gate_callee (f := 65) rfl ?_); refine goesL_ (some 8) rfl rfl Tryd.func65 (w204_) rfl #[.int .i64 a1] rfl maz_ ?_; (with_reducible refine (itoa.calls a1 t165 _ A4.out).mono ?_); rintro e w' ⟨rfl, ⟨nd, rfl⟩⟩; refine ⟨_, rfl, ?_⟩) | ((with_reducible refine gate_callee (f := 74) rfl ?_); refine goesL_ (some 9) rfl rfl Tryd.func74 (w204_) rfl #[.string t164, .string t165] rfl maz_ ?_; (with_reducible refine (strcount.calls t164 t165 t166 _ A5.out).mono ?_); rintro e w' ⟨rfl, ⟨nd, rfl⟩⟩; refine ⟨_, rfl, ?_⟩))
 go_ret
 exact ⟨w171_, w168_⟩

def impl_Hidden_tells.l0 : Nat → Int → Int → Int → Int → Int → Int → Option (Int)
 | 0, _, _, _, _, _, _ => none
 | k + 1, x1, x2, x7, x8, x168000, x168001 => if x8 ≤ x168000 then (if (wrap64 (Int.tdiv (wrap64 (x8 + 1)) 2)) = x168001 then (impl_Hidden_tells.l0 k x1 x2 x7 (wrap64 (x8 + 1)) x168000 x168001) else (if x1 = 0 then (impl_Hidden_tells.l0 k x1 x2 (wrap64 (x7 + x8)) (wrap64 (x8 + 1)) x168000 x168001) else (if x1 = 1 then ((itoa.f x8).bind fun t170 => (impl_Hidden_tells.l0 k x1 x2 (wrap64 (x7 + (t170.size : Int))) (wrap64 (x8 + 1)) x168000 x168001)) else ((impl_used.f x8 x2).bind fun t171 => (impl_Hidden_tells.l0 k x1 x2 (wrap64 (x7 + (mn 1 t171))) (wrap64 (x8 + 1)) x168000 x168001))))) else (some x7)
def impl_Hidden_tells.f (k : Nat) (a0_0 : Int) (a0_1 : Int) (a1 : Int) (a2 : Int) : Option (Int) := if a1 = 3 then ((impl_flag.f (decide (a0_1 ≥ a2))).bind fun t168 => (some t168)) else (if a1 = 4 then (if a2 = 0 then (none) else ((impl_flag.f ((Int.tmod a0_0 a2) == 0)).bind fun t169 => (some t169))) else (if a1 = 5 then (some (wrap64 ((wrap64 (4 * a0_1)) - 1))) else (impl_Hidden_tells.l0 k a1 a2 0 1 a0_0 a0_1)))
theorem impl_Hidden_tells.mono_l : ∀ k, (∀ y0 y1 y2 y3 y4 y5, LeO (impl_Hidden_tells.l0 k y0 y1 y2 y3 y4 y5) (impl_Hidden_tells.l0 (k + 1) y0 y1 y2 y3 y4 y5))
 | 0 => fun _ _ _ _ _ _ r h => by simp [impl_Hidden_tells.l0] at h
 | k + 1 => by
  have ih0 := impl_Hidden_tells.mono_l k
  ·intro y0 y1 y2 y3 y4 y5
   unfold impl_Hidden_tells.l0
   repeat' (with_reducible first | exact ih0 _ _ _ _ _ _ | exact LeO.refl _ | exact LeO.none _ | refine LeO.ite ?_ ?_ | refine LeO.bind ?_ (fun _ => ?_))
theorem impl_Hidden_tells.mono : ∀ a0 a1 a2 a3 k, LeO (impl_Hidden_tells.f k a0 a1 a2 a3) (impl_Hidden_tells.f (k + 1) a0 a1 a2 a3) := by
 intro a0 a1 a2 a3 k
 have ih0 := impl_Hidden_tells.mono_l k
 unfold impl_Hidden_tells.f
 repeat' (with_reducible first | exact ih0 _ _ _ _ _ _ | exact LeO.refl _ | exact LeO.none _ | refine LeO.ite ?_ ?_ | refine LeO.bind ?_ (fun _ => ?_))
set_option maxHeartbeats 8000000 in
set_option maxRecDepth 100000 in
theorem impl_Hidden_tells.calls (k : Nat) (a0_0 : Int) (a0_1 : Int) (a1 : Int) (a2 : Int) (r : Int) (w : World) (h : impl_Hidden_tells.f k a0_0 a0_1 a1 a2 = some r) :
  Calls Tryd.prog 41 #[.agg #[.int .i64 a0_0, .int .i64 a0_1], .int .i64 a1, .int .i64 a2] w fun e w' => e = .returned (.int .i64 r) ∧ Below w.heap.size w w' := by
 have hu25 := Tryd.underlying25
 have HB := Az_ (Below.refl w.heap.size w)
 have H : (if a1 = 3 then ((impl_flag.f (decide (a0_1 ≥ a2))).bind fun t168 => (some t168)) else (if a1 = 4 then (if a2 = 0 then (none) else ((impl_flag.f ((Int.tmod a0_0 a2) == 0)).bind fun t169 => (some t169))) else (if a1 = 5 then (some (wrap64 ((wrap64 (4 * a0_1)) - 1))) else (impl_Hidden_tells.l0 k a1 a2 0 1 a0_0 a0_1)))) = some r := h
 clear h
 by_cases c4 : a1 = 3
 ·rw [if_pos c4] at H
  have c4b0 : (a1 == 3) = true := beq_iff_eq.mpr c4
  have c4b1 : (a1 != 3) = false := bne_eq_false_iff_eq.mpr c4
  clear c4
  replace H := bqz_ H; obtain ⟨t168, A5, H⟩ := H
  replace H : (some t168) = some r := H
  obtain rfl := Option.some.inj H
  go_enter Tryd.func41, Tryd.ntmps41
  go_wp2_with (first | ((with_reducible refine gate_dst (N := 3) rfl ?_); refine bxe_ (N := 3) (cs := #[.int .i64 a0_0, .int .i64 a0_1]) (t := 25) ?_; intro gb167 hg w6 BK167 hb; have GW167 := gez_ hg (ubz_ HB.out); have GE167 := GW167; replace HB := Az_ (btz_ (ubz_ HB.out) hb); clear hb hg; have hcz7_0 := cz_ (x := .int .i64 a0_0) BK167 0; have hcz7_1 := cz_ (x := .int .i64 a0_1) BK167 1; have hfz7_0 := blk_frozen BK167.out 0; have hfz7_1 := blk_frozen BK167.out 1) | ((with_reducible refine gate_callee (f := 64) rfl ?_); refine goesL_ (some 16) rfl rfl Tryd.func64 (w204_) rfl #[.bool (decide (a0_1 ≥ a2))] rfl maz_ ?_; (with_reducible refine (impl_flag.calls (decide (a0_1 ≥ a2)) t168 _ A5.out).mono ?_); rintro e w' ⟨rfl, ⟨nd, rfl⟩⟩; refine ⟨_, rfl, ?_⟩))
  go_ret
  exact ⟨w166_, w129_⟩
 ·rw [if_neg c4] at H
  have c4b0 : (a1 == 3) = false := beq_eq_false_iff_ne.mpr c4
  have c4b1 : (a1 != 3) = true := bne_iff_ne.mpr c4
  by_cases c8 : a1 = 4
  ·rw [if_pos c8] at H
   have c8b0 : (a1 == 4) = true := beq_iff_eq.mpr c8
   have c8b1 : (a1 != 4) = false := bne_eq_false_iff_eq.mpr c8
   clear c8
   by_cases c9 : a2 = 0
   ·rw [if_pos c9] at H
    exact absurd H (by simp)
   rw [if_neg c9] at H
   have c9b0 : (a2 == 0) = false := beq_eq_false_iff_ne.mpr c9
   have c9b1 : (a2 != 0) = true := bne_iff_ne.mpr c9
   replace H := bqz_ H; obtain ⟨t169, A10, H⟩ := H
   replace H : (some t169) = some r := H
   obtain rfl := Option.some.inj H
   go_enter Tryd.func41, Tryd.ntmps41
   go_wp2_with (first | ((with_reducible refine gate_dst (N := 3) rfl ?_); refine bxe_ (N := 3) (cs := #[.int .i64 a0_0, .int .i64 a0_1]) (t := 25) ?_; intro gb167 hg w11 BK167 hb; have GW167 := gez_ hg (ubz_ HB.out); have GE167 := GW167; replace HB := Az_ (btz_ (ubz_ HB.out) hb); clear hb hg; have hcz12_0 := cz_ (x := .int .i64 a0_0) BK167 0; have hcz12_1 := cz_ (x := .int .i64 a0_1) BK167 1; have hfz12_0 := blk_frozen BK167.out 0; have hfz12_1 := blk_frozen BK167.out 1) | ((with_reducible refine gate_callee (f := 64) rfl ?_); refine goesL_ (some 24) rfl rfl Tryd.func64 (w204_) rfl #[.bool ((Int.tmod a0_0 a2) == 0)] rfl maz_ ?_; (with_reducible refine (impl_flag.calls ((Int.tmod a0_0 a2) == 0) t169 _ A10.out).mono ?_); rintro e w' ⟨rfl, ⟨nd, rfl⟩⟩; refine ⟨_, rfl, ?_⟩))
   go_ret
   exact ⟨w166_, w129_⟩
  ·rw [if_neg c8] at H
   have c8b0 : (a1 == 4) = false := beq_eq_false_iff_ne.mpr c8
   have c8b1 : (a1 != 4) = true := bne_iff_ne.mpr c8
   by_cases c13 : a1 = 5
   ·rw [if_pos c13] at H
    have c13b0 : (a1 == 5) = true := beq_iff_eq.mpr c13
    have c13b1 : (a1 != 5) = false := bne_eq_false_iff_eq.mpr c13
    clear c13
    obtain rfl := Option.some.inj H
    go_enter Tryd.func41, Tryd.ntmps41
    go_wp2_with (((with_reducible refine gate_dst (N := 3) rfl ?_); refine bxe_ (N := 3) (cs := #[.int .i64 a0_0, .int .i64 a0_1]) (t := 25) ?_; intro gb167 hg w14 BK167 hb; have GW167 := gez_ hg (ubz_ HB.out); have GE167 := GW167; replace HB := Az_ (btz_ (ubz_ HB.out) hb); clear hb hg; have hcz15_0 := cz_ (x := .int .i64 a0_0) BK167 0; have hcz15_1 := cz_ (x := .int .i64 a0_1) BK167 1; have hfz15_0 := blk_frozen BK167.out 0; have hfz15_1 := blk_frozen BK167.out 1))
    go_ret
    exact ⟨w166_, w129_⟩
   ·rw [if_neg c13] at H
    have c13b0 : (a1 == 5) = false := beq_eq_false_iff_ne.mpr c13
    have c13b1 : (a1 != 5) = true := bne_iff_ne.mpr c13
    have H' := Az_ H
    clear H
    go_enter Tryd.func41, Tryd.ntmps41
    go_wp2_with (((with_reducible refine gate_dst (N := 3) rfl ?_); refine bxe_ (N := 3) (cs := #[.int .i64 a0_0, .int .i64 a0_1]) (t := 25) ?_; intro gb167 hg w16 BK167 hb; have GW167 := gez_ hg (ubz_ HB.out); have GE167 := GW167; replace HB := Az_ (btz_ (ubz_ HB.out) hb); clear hb hg))
    go_loopg [7, 8] k (fun kq v7 v8 w' => ∃ (x7_1 : Int) (x8_1 : Int), v7 = .int .i64 x7_1 ∧ v8 = .int .i64 x8_1 ∧ Aside0 (impl_Hidden_tells.l0 kq a1 a2 x7_1 x8_1 a0_0 a0_1 = some r) ∧ Aside0 (kq ≤ k) ∧ Aside0 (w'.heap[gb167]? = some (.cells #[.int .i64 a0_0, .int .i64 a0_1] 25 (0, 0))) ∧ Aside0 (Below w.heap.size w w'))
    case atStart => exact ⟨(0), (1), qaz_, qaz_, H', ⟨Nat.le_refl _⟩, ⟨w145_⟩, ⟨w129_⟩⟩
    case round =>
     clear H'
     clear c4 c4b0 c4b1 c8 c8b0 c8b1 c13 c13b0 c13b1
     obtain ⟨x7_1, x8_1, rfl, rfl, HA, HK1, BK167, HB⟩ := hrel
     cases gk with
     | zero => exact absurd HA.out (by simp [impl_Hidden_tells.l0])
     | succ k1 =>
      have H := HA.out
      clear HA
      simp only [impl_Hidden_tells.l0] at H
      by_cases c17 : x8_1 ≤ a0_0
      ·rw [if_pos c17] at H
       have c17b0 := decide_eq_true c17
       clear c17
       by_cases c18 : (wrap64 (Int.tdiv (wrap64 (x8_1 + 1)) 2)) = a0_1
       ·rw [if_pos c18] at H
        have c18b0 : ((wrap64 (Int.tdiv (wrap64 (x8_1 + 1)) 2)) == a0_1) = true := beq_iff_eq.mpr c18
        have c18b1 : ((wrap64 (Int.tdiv (wrap64 (x8_1 + 1)) 2)) != a0_1) = false := bne_eq_false_iff_eq.mpr c18
        clear c18
        have H' := Az_ H
        clear H
        have hcz19_0 := cz_ (x := .int .i64 a0_0) BK167 0
        have hcz19_1 := cz_ (x := .int .i64 a0_1) BK167 1
        have hfz19_0 := blk_frozen BK167.out 0
        have hfz19_1 := blk_frozen BK167.out 1
        go_wp2
        go_roundg k1
        case measure => have := HK1.out; omega
        case rel => exact ⟨(x7_1), (wrap64 (x8_1 + 1)), qaz_, qaz_, H', ⟨w177_⟩, ⟨w145_⟩, ⟨w129_⟩⟩
       rw [if_neg c18] at H
       have c18b0 : ((wrap64 (Int.tdiv (wrap64 (x8_1 + 1)) 2)) == a0_1) = false := beq_eq_false_iff_ne.mpr c18
       have c18b1 : ((wrap64 (Int.tdiv (wrap64 (x8_1 + 1)) 2)) != a0_1) = true := bne_iff_ne.mpr c18
       by_cases c20 : a1 = 0
       ·rw [if_pos c20] at H
        have c20b0 : (a1 == 0) = true := beq_iff_eq.mpr c20
        have c20b1 : (a1 != 0) = false := bne_eq_false_iff_eq.mpr c20
        clear c20
        have H' := Az_ H
        clear H
        have hcz21_0 := cz_ (x := .int .i64 a0_0) BK167 0
        have hcz21_1 := cz_ (x := .int .i64 a0_1) BK167 1
        have hfz21_0 := blk_frozen BK167.out 0
        have hfz21_1 := blk_frozen BK167.out 1
        go_wp2
        go_roundg k1
        case measure => have := HK1.out; omega
        case rel => exact ⟨(wrap64 (x7_1 + x8_1)), (wrap64 (x8_1 + 1)), qaz_, qaz_, H', ⟨w177_⟩, ⟨w145_⟩, ⟨w129_⟩⟩
       rw [if_neg c20] at H
       have c20b0 : (a1 == 0) = false := beq_eq_false_iff_ne.mpr c20
       have c20b1 : (a1 != 0) = true := bne_iff_ne.mpr c20
       by_cases c22 : a1 = 1
       ·rw [if_pos c22] at H
        have c22b0 : (a1 == 1) = true := beq_iff_eq.mpr c22
        have c22b1 : (a1 != 1) = false := bne_eq_false_iff_eq.mpr c22
        clear c22
        replace H := bqz_ H; obtain ⟨t170, A23, H⟩ := H
        replace H : (impl_Hidden_tells.l0 k1 a1 a2 (wrap64 (x7_1 + (t170.size : Int))) (wrap64 (x8_1 + 1)) a0_0 a0_1) = some r := H
        have H' := Az_ H
        clear H
        have hcz24_0 := cz_ (x := .int .i64 a0_0) BK167 0
        have hcz24_1 := cz_ (x := .int .i64 a0_1) BK167 1
        have hfz24_0 := blk_frozen BK167.out 0
        have hfz24_1 := blk_frozen BK167.out 1
        go_wp2_with (((with_reducible refine gate_callee (f := 65) rfl ?_); refine goesL_ (some 61) rfl rfl Tryd.func65 (w204_) rfl #[.int .i64 x8_1] rfl maz_ ?_; (with_reducible refine (itoa.calls x8_1 t170 _ A23.out).mono ?_); rintro e w' ⟨rfl, ⟨nd, rfl⟩⟩; refine ⟨_, rfl, ?_⟩))
        go_roundg k1
        case measure => have := HK1.out; omega
        case rel => exact ⟨(wrap64 (x7_1 + (t170.size : Int))), (wrap64 (x8_1 + 1)), qaz_, qaz_, H', ⟨w177_⟩, ⟨w145_⟩, ⟨w129_⟩⟩
       rw [if_neg c22] at H
       have c22b0 : (a1 == 1) = false := beq_eq_false_iff_ne.mpr c22
       have c22b1 : (a1 != 1) = true := bne_iff_ne.mpr c22
       replace H := bqz_ H; obtain ⟨t171, A25, H⟩ := H
       replace H : (impl_Hidden_tells.l0 k1 a1 a2 (wrap64 (x7_1 + (mn 1 t171))) (wrap64 (x8_1 + 1)) a0_0 a0_1) = some r := H
       obtain ⟨ji26, hji26⟩ : ∃ j_ : Int, (mn 1 t171) = j_ := ⟨_, rfl⟩
       replace H : (impl_Hidden_tells.l0 k1 a1 a2 (wrap64 (x7_1 + (ji26))) (wrap64 (x8_1 + 1)) a0_0 a0_1) = some r := by first | (rw [hji26] at H; exact H) | (simp only [hji26] at H ⊢; exact H)
       (try rw [hji26] at A25)
       (try (have hji26h : ji26 ≤ 1 := by (rw [← hji26]; unfold mn; (repeat' split) <;> omega)))
       (try (have hji26g : ji26 ≤ 64 := by omega))
       have hji26_ : (if t171 < 1 then t171 else 1) = ji26 := hji26
       have H' := Az_ H
       clear H
       have hcz27_0 := cz_ (x := .int .i64 a0_0) BK167 0
       have hcz27_1 := cz_ (x := .int .i64 a0_1) BK167 1
       have hfz27_0 := blk_frozen BK167.out 0
       have hfz27_1 := blk_frozen BK167.out 1
       go_wp2_with (((with_reducible refine gate_callee (f := 66) rfl ?_); refine goesL_ (some 40) rfl rfl Tryd.func66 (w204_) rfl #[.int .i64 x8_1, .int .i64 a2] rfl maz_ ?_; (with_reducible refine (impl_used.calls x8_1 a2 t171 _ A25.out).mono ?_); rintro e w' ⟨rfl, ⟨nd, rfl⟩⟩; refine ⟨_, rfl, ?_⟩))
       go_roundg k1
       case measure => have := HK1.out; omega
       case rel => exact ⟨(wrap64 (x7_1 + (ji26))), (wrap64 (x8_1 + 1)), (by first | rfl | (simp; done) | (simp only [← hji26] <;> (first | rfl | simp)) | (simp [*]; done)), qaz_, H', ⟨w177_⟩, ⟨w145_⟩, ⟨w129_⟩⟩
      ·rw [if_neg c17] at H
       have c17b0 := decide_eq_false c17
       clear c17
       obtain rfl := Option.some.inj H
       have hcz28_0 := cz_ (x := .int .i64 a0_0) BK167 0
       have hcz28_1 := cz_ (x := .int .i64 a0_1) BK167 1
       have hfz28_0 := blk_frozen BK167.out 0
       have hfz28_1 := blk_frozen BK167.out 1
       go_wp2
       go_ret
       exact ⟨w166_, w129_⟩


mutual
def impl_MakePuzzle.j0 : Nat → Int → Int → Bool → Int → Int → Option ((List (S40)) × Bool)
 | 0, _, _, _, _, _ => none
 | k + 1, x1, x2, x26, x173000, x173001 => if x26 = true then (some (([] : List (S40)), false)) else (impl_MakePuzzle.l0 k x1 0 x173000 x173001 x2 ([] : List (S40)))
def impl_MakePuzzle.l0 : Nat → Int → Int → Int → Int → Int → List (S40) → Option ((List (S40)) × Bool)
 | 0, _, _, _, _, _, _ => none
 | k + 1, x31, x32, x173000, x173001, x178000, x179000 => if x32 < x31 then ((impl_MakePuzzle_1.f x178000).bind fun bt179 => ((impl_MakePuzzle_1.f bt179.2).bind fun bt181 => (if (Int.tmod bt179.1 6) = 2 then ((impl_Hidden_tells.f k x173000 x173001 (Int.tmod bt179.1 6) (Int.tmod bt181.1 10)).bind fun t183 => (if x179000.length < 5864062014805 then (impl_MakePuzzle.l0 k x31 (wrap64 (x32 + 1)) x173000 x173001 bt181.2 (x179000 ++ [(⟨Int.tmod bt179.1 6, Int.tmod bt181.1 10, t183⟩ : S40)])) else (none))) else (if (Int.tmod bt179.1 6) = 3 then ((impl_Hidden_tells.f k x173000 x173001 (Int.tmod bt179.1 6) (wrap64 ((Int.tmod bt181.1 20) + 1))).bind fun t187 => (if x179000.length < 5864062014805 then (impl_MakePuzzle.l0 k x31 (wrap64 (x32 + 1)) x173000 x173001 bt181.2 (x179000 ++ [(⟨Int.tmod bt179.1 6, wrap64 ((Int.tmod bt181.1 20) + 1), t187⟩ : S40)])) else (none))) else (if (Int.tmod bt179.1 6) = 4 then ((impl_Hidden_tells.f k x173000 x173001 (Int.tmod bt179.1 6) (wrap64 ((Int.tmod bt181.1 8) + 2))).bind fun t191 => (if x179000.length < 5864062014805 then (impl_MakePuzzle.l0 k x31 (wrap64 (x32 + 1)) x173000 x173001 bt181.2 (x179000 ++ [(⟨Int.tmod bt179.1 6, wrap64 ((Int.tmod bt181.1 8) + 2), t191⟩ : S40)])) else (none))) else ((impl_Hidden_tells.f k x173000 x173001 (Int.tmod bt179.1 6) 0).bind fun t195 => (if x179000.length < 5864062014805 then (impl_MakePuzzle.l0 k x31 (wrap64 (x32 + 1)) x173000 x173001 bt181.2 (x179000 ++ [(⟨Int.tmod bt179.1 6, 0, t195⟩ : S40)])) else (none)))))))) else (some (x179000, true))
end
def impl_MakePuzzle.f (k : Nat) (a0_0 : Int) (a0_1 : Int) (a1 : Int) (a2 : Int) : Option ((List (S40)) × Bool) := (impl_IsHidden.f a0_0 a0_1).bind fun t174 => (if t174 = true then ((impl_within.f a1 0 6).bind fun t175 => (if t175 = true then ((impl_within.f a2 0 9999).bind fun t176 => (impl_MakePuzzle.j0 k a1 a2 (!t176) a0_0 a0_1)) else (impl_MakePuzzle.j0 k a1 a2 true a0_0 a0_1))) else (impl_MakePuzzle.j0 k a1 a2 true a0_0 a0_1))
def impl_MakePuzzle.T16 : Bool × List (List Nat × List Nat) := (true, [([], []), ([0], [0]), ([], []), ([], []), ([], []), ([], []), ([], []), ([4, 5, 6], [4, 5, 6]), ([2, 3, 7], [2, 3, 7]), ([8], [8]), ([1, 9, 7], [1, 9]), ([0, 1, 2, 3, 4, 5, 6, 7, 8, 9, 10], []), ([11, 10, 10, 0, 1, 2, 3, 4, 5, 6, 7, 8, 9, 10], [10, 11])])
def impl_MakePuzzle.B16 : List Nat := [0, 1, 0, 0, 0, 0, 0, 112, 252, 508, 1023, 2047, 4095]
theorem impl_MakePuzzle.tab16 : rtab .any (opsOf Tryd.f6 16) = impl_MakePuzzle.T16 := by kernel_rfl
theorem impl_MakePuzzle.bits16 : waitsOk impl_MakePuzzle.T16.2 impl_MakePuzzle.B16 = true := by kernel_rfl
set_option maxHeartbeats 8000000 in
set_option maxRecDepth 100000 in
theorem impl_MakePuzzle.calls (k : Nat) (a0_0 : Int) (a0_1 : Int) (a1 : Int) (a2 : Int) (r1 : List (S40)) (r2 : Bool) (w : World) (h : impl_MakePuzzle.f k a0_0 a0_1 a1 a2 = some (r1, r2)) :
  Calls Tryd.prog 6 #[.agg #[.int .i64 a0_0, .int .i64 a0_1], .int .i64 a1, .int .i64 a2] w fun e w' => ∃ v0_ : Value, e = .returned (.tuple #[.agg #[v0_], .bool r2]) ∧ Kd.R k40 40 w' w.heap.size (fun _ => True) v0_ r1 ∧ Below w.heap.size w w' := by
 have hu25 := Tryd.underlying25
 have hu30 := Tryd.underlying30
 have hu125 := Tryd.underlying3
 have hu40 := Tryd.underlying40
 have HB := Az_ (Below.refl w.heap.size w)
 have H : ((impl_IsHidden.f a0_0 a0_1).bind fun t174 => (if t174 = true then ((impl_within.f a1 0 6).bind fun t175 => (if t175 = true then ((impl_within.f a2 0 9999).bind fun t176 => (j0 k a1 a2 (!t176) a0_0 a0_1)) else (j0 k a1 a2 true a0_0 a0_1))) else (j0 k a1 a2 true a0_0 a0_1))) = some (r1, r2) := h
 clear h
 have HC4 := Az_ H
 clear H
 go_enter Tryd.func6, Tryd.ntmps6
 go_upto_region 1 with (first | ((with_reducible refine gate_dst (N := 3) rfl ?_); refine bxe_ (N := 3) (cs := #[.int .i64 a0_0, .int .i64 a0_1]) (t := 25) ?_; intro gb172 hg w5 BK172 hb; have GW172 := gez_ hg (ubz_ HB.out); have GE172 := GW172; replace HB := Az_ (btz_ (ubz_ HB.out) hb); clear hb hg) | ((with_reducible refine gate_dst (N := 6) rfl ?_); refine bxe_ (N := 6) (cs := #[.slice none 0 0]) (t := 30) ?_; intro gb173 hg w6 BK173 hb; obtain ⟨NB172_173, NB173_172⟩ := nez_ BK172 hg; have GW173 : Aside0 (w.heap.size ≤ gb173) := gez_ hg (w129_); have GE173 := GW173; replace HB := Az_ (btz_ (w129_) hb); replace BK172 := Az_ (ukbz_ BK172.out hb); clear hb hg))
 (try simp only [Act.put, List.setIfInBounds_toArray, List.set_cons_zero, List.set_cons_succ])
 go_cut [26] (fun v26 wc => ∃ (kq : Nat) (x26_3 : Bool), v26 = .bool x26_3 ∧ Aside0 (j0 kq a1 a2 x26_3 a0_0 a0_1 = some (r1, r2)) ∧ Aside0 (kq ≤ k) ∧ Aside0 (wc.heap[gb172]? = some (.cells #[.int .i64 a0_0, .int .i64 a0_1] 25 (0, 0))) ∧ Aside0 (wc.heap[gb173]? = some (.cells #[(.slice none 0 0)] 30 (0, 0))) ∧ Aside0 (Below w.heap.size w wc))
 case first =>
  have H := HC4.out
  clear HC4
  replace H := bqz_ H; obtain ⟨t174, A7, H⟩ := H
  replace H : (if t174 = true then ((impl_within.f a1 0 6).bind fun t175 => (if t175 = true then ((impl_within.f a2 0 9999).bind fun t176 => (j0 k a1 a2 (!t176) a0_0 a0_1)) else (j0 k a1 a2 true a0_0 a0_1))) else (j0 k a1 a2 true a0_0 a0_1)) = some (r1, r2) := H
  by_cases c8 : t174 = true; rotate_left
  ·replace c8 := Bool.eq_false_iff.mpr c8
   subst c8
   rw [if_neg nfz_] at H
   have H' := Az_ H
   clear H
   have hnb18 := NB172_173.out
   have hnc18 := NB173_172.out
   have hcz19_0 := cz_ (x := .int .i64 a0_0) BK172 0
   have hcz19_1 := cz_ (x := .int .i64 a0_1) BK172 1
   have hfz19_0 := blk_frozen BK172.out 0
   have hfz19_1 := blk_frozen BK172.out 1
   go_wp2_with (((with_reducible refine gate_callee (f := 9) rfl ?_); refine goesL_ (some 15) rfl rfl Tryd.func9 (w204_) rfl #[.agg #[.int .i64 a0_0, .int .i64 a0_1]] rfl maz_ ?_; (with_reducible refine (impl_IsHidden.calls a0_0 a0_1 false _ A7.out).mono ?_); rintro e w20 ⟨rfl, hb⟩; refine ⟨_, rfl, ?_⟩; have n2_ := Az_ (btz_ (w129_) hb); clear HB; replace BK172 := Az_ (ukbz_ BK172.out hb); replace BK173 := Az_ (ukbz_ BK173.out hb); have HB := n2_; clear n2_; (try clear hb)))
   go_meet
   case rel => exact ⟨_, (true), qaz_, H', ⟨w173_⟩, ⟨w146_⟩, ⟨w147_⟩, ⟨w129_⟩⟩
  subst c8
  rw [if_pos rfl] at H
  replace H := bqz_ H; obtain ⟨t175, A9, H⟩ := H
  replace H : (if t175 = true then ((impl_within.f a2 0 9999).bind fun t176 => (j0 k a1 a2 (!t176) a0_0 a0_1)) else (j0 k a1 a2 true a0_0 a0_1)) = some (r1, r2) := H
  by_cases c10 : t175 = true; rotate_left
  ·replace c10 := Bool.eq_false_iff.mpr c10
   subst c10
   rw [if_neg nfz_] at H
   have H' := Az_ H
   clear H
   have hnb15 := NB172_173.out
   have hnc15 := NB173_172.out
   have hcz16_0 := cz_ (x := .int .i64 a0_0) BK172 0
   have hcz16_1 := cz_ (x := .int .i64 a0_1) BK172 1
   have hfz16_0 := blk_frozen BK172.out 0
   have hfz16_1 := blk_frozen BK172.out 1
   go_wp2_with (first | ((with_reducible refine gate_callee (f := 9) rfl ?_); refine goesL_ (some 15) rfl rfl Tryd.func9 (w204_) rfl #[.agg #[.int .i64 a0_0, .int .i64 a0_1]] rfl maz_ ?_; (with_reducible refine (impl_IsHidden.calls a0_0 a0_1 true _ A7.out).mono ?_); rintro e w17 ⟨rfl, hb⟩; refine ⟨_, rfl, ?_⟩; have n2_ := Az_ (btz_ (w129_) hb); clear HB; replace BK172 := Az_ (ukbz_ BK172.out hb); replace BK173 := Az_ (ukbz_ BK173.out hb); have HB := n2_; clear n2_; (try clear hb)) | (go_at_call 39; (with_reducible refine (impl_within.calls a1 0 6 false _ A9.out).mono ?_); rintro e w' ⟨rfl, ⟨nd, rfl⟩⟩))
   go_meet
   case rel => exact ⟨_, (true), qaz_, H', ⟨w173_⟩, ⟨w146_⟩, ⟨w147_⟩, ⟨w129_⟩⟩
  subst c10
  rw [if_pos rfl] at H
  replace H := bqz_ H; obtain ⟨t176, A11, H⟩ := H
  replace H : (j0 k a1 a2 (!t176) a0_0 a0_1) = some (r1, r2) := H
  have H' := Az_ H
  clear H
  have hnb12 := NB172_173.out
  have hnc12 := NB173_172.out
  have hcz13_0 := cz_ (x := .int .i64 a0_0) BK172 0
  have hcz13_1 := cz_ (x := .int .i64 a0_1) BK172 1
  have hfz13_0 := blk_frozen BK172.out 0
  have hfz13_1 := blk_frozen BK172.out 1
  go_wp2_with (first | ((with_reducible refine gate_callee (f := 9) rfl ?_); refine goesL_ (some 15) rfl rfl Tryd.func9 (w204_) rfl #[.agg #[.int .i64 a0_0, .int .i64 a0_1]] rfl maz_ ?_; (with_reducible refine (impl_IsHidden.calls a0_0 a0_1 true _ A7.out).mono ?_); rintro e w14 ⟨rfl, hb⟩; refine ⟨_, rfl, ?_⟩; have n2_ := Az_ (btz_ (w129_) hb); clear HB; replace BK172 := Az_ (ukbz_ BK172.out hb); replace BK173 := Az_ (ukbz_ BK173.out hb); have HB := n2_; clear n2_; (try clear hb)) | (go_at_call 39; (with_reducible refine (impl_within.calls a1 0 6 true _ A9.out).mono ?_); rintro e w' ⟨rfl, ⟨nd, rfl⟩⟩) | (go_at_call 39; (with_reducible refine (impl_within.calls a2 0 9999 t176 _ A11.out).mono ?_); rintro e w' ⟨rfl, ⟨nd, rfl⟩⟩))
  go_meet
  case rel => exact ⟨_, (!t176), qaz_, H', ⟨w173_⟩, ⟨w146_⟩, ⟨w147_⟩, ⟨w129_⟩⟩
 case rest =>
  clear HC4
  obtain ⟨kq, x26_3, rfl, HA, HJ3, BK172, BK173, HB⟩ := hcut
  cases kq with
  | zero => exact absurd HA.out (by simp [j0])
  | succ kj3 =>
   have H := HA.out
   clear HA
   simp only [j0] at H
   by_cases c21 : x26_3 = true
   ·subst c21
    rw [if_pos rfl] at H
    simp only [Option.some.injEq, Prod.mk.injEq] at H
    obtain ⟨rfl, rfl⟩ := H
    have hnb22 := NB173_172.out
    have hnc22 := NB172_173.out
    have hcz23_0 := cz_ (x := .slice none 0 0) BK173 0
    have hfz23_0 := blk_frozen BK173.out 0
    go_wp2
    refine bodyPost_ret (results_ct rfl _ _ gb173 30 #[.slice none 0 0] (0, 0) _ rfl (w40_) Tryd.underlying30 rfl (w204_)) rfl ?_
    exact ⟨_, w166_, w130_, w129_⟩
   ·replace c21 := Bool.eq_false_iff.mpr c21
    subst c21
    rw [if_neg nfz_] at H
    have H' := Az_ H
    clear H
    go_wp2_with (first | ((with_reducible refine gate_dst (N := 8) rfl ?_); refine bxe_ (N := 8) (cs := #[.int .i64 0]) (t := 3) ?_; intro gb177 hg w24 BK177 hb; obtain ⟨NB172_177, NB177_172⟩ := nez_ BK172 hg; obtain ⟨NB173_177, NB177_173⟩ := nez_ BK173 hg; have GW177 : Aside0 (w.heap.size ≤ gb177) := gez_ hg (w129_); have GE177 := GW177; replace HB := Az_ (btz_ (w129_) hb); replace BK172 := Az_ (ukbz_ BK172.out hb); replace BK173 := Az_ (ukbz_ BK173.out hb); clear hb hg) | ((with_reducible refine gate_dst (N := 9) rfl ?_); refine bxe_ (N := 9) (cs := #[.slice none 0 0]) (t := 30) ?_; intro gb178 hg w25 BK178 hb; obtain ⟨NB172_178, NB178_172⟩ := nez_ BK172 hg; obtain ⟨NB173_178, NB178_173⟩ := nez_ BK173 hg; obtain ⟨NB177_178, NB178_177⟩ := nez_ BK177 hg; have GW178 : Aside0 (w.heap.size ≤ gb178) := gez_ hg (w129_); have GE178 := GW178; replace HB := Az_ (btz_ (w129_) hb); replace BK172 := Az_ (ukbz_ BK172.out hb); replace BK173 := Az_ (ukbz_ BK173.out hb); replace BK177 := Az_ (ukbz_ BK177.out hb); clear hb hg; have hnb26 := NB177_172.out; have hnc26 := NB172_177.out; have hnb27 := NB177_173.out; have hnc27 := NB173_177.out; have hnb28 := NB177_178.out; have hnc28 := NB178_177.out; have hcz29_0 := cz_ (x := .int .i64 0) BK177 0; have hfz29_0 := blk_frozen BK177.out 0; have hnb30 := NB178_172.out; have hnc30 := NB172_178.out; have hnb31 := NB178_173.out; have hnc31 := NB173_178.out; have hcz32_0 := cz_ (x := .slice none 0 0) BK178 0; have hfz32_0 := blk_frozen BK178.out 0))
    go_loopg [32] kj3 (fun kq v32 w' => ∃ (x32_2 : Int) (x178000_2 : Int) (x179000_2 : List (S40)) (u179000 : Value), v32 = .int .i64 x32_2 ∧ Aside0 (impl_MakePuzzle.l0 kq a1 x32_2 a0_0 a0_1 x178000_2 x179000_2 = some (r1, r2)) ∧ Aside0 (kq ≤ kj3) ∧ Aside0 (Kd.R k40 40 w' w.heap.size (fun _ => True) u179000 x179000_2) ∧ Aside0 (w'.heap[gb172]? = some (.cells #[.int .i64 a0_0, .int .i64 a0_1] 25 (0, 0))) ∧ Aside0 (w'.heap[gb173]? = some (.cells #[(.slice none 0 0)] 30 (0, 0))) ∧ Aside0 (w'.heap[gb177]? = some (.cells #[.int .i64 x178000_2] 3 (0, 0))) ∧ Aside0 (w'.heap[gb178]? = some (.cells #[u179000] 30 (0, 0))) ∧ Aside0 (Below w.heap.size w w'))
    case atStart => exact ⟨(0), (a2), (([] : List (S40))), (.slice none 0 0), qaz_, H', ⟨Nat.le_refl _⟩, ⟨w130_⟩, ⟨by (with_reducible repeat (first | refine knz_ ?_ _ | refine kdz_ ?_ | refine kaz_ ?_ _)); refine blk_far ?_ NB172_178.out _; (with_reducible repeat (first | refine knz_ ?_ _ | refine kdz_ ?_ | refine kaz_ ?_ _)); refine blk_far ?_ NB172_177.out _; (with_reducible repeat (first | refine knz_ ?_ _ | refine kdz_ ?_ | refine kaz_ ?_ _)); exact BK172.out⟩, ⟨by (with_reducible repeat (first | refine knz_ ?_ _ | refine kdz_ ?_ | refine kaz_ ?_ _)); refine blk_far ?_ NB173_178.out _; (with_reducible repeat (first | refine knz_ ?_ _ | refine kdz_ ?_ | refine kaz_ ?_ _)); refine blk_far ?_ NB173_177.out _; (with_reducible repeat (first | refine knz_ ?_ _ | refine kdz_ ?_ | refine kaz_ ?_ _)); exact BK173.out⟩, ⟨by (with_reducible repeat (first | refine knz_ ?_ _ | refine kdz_ ?_ | refine kaz_ ?_ _)); refine blk_far ?_ NB177_178.out _; (with_reducible repeat (first | refine knz_ ?_ _ | refine kdz_ ?_ | refine kaz_ ?_ _)); refine blk_put (cs := #[.int .i64 0]) ?_ 0 _ rfl; (with_reducible repeat (first | refine knz_ ?_ _ | refine kdz_ ?_ | refine kaz_ ?_ _)); exact BK177.out⟩, ⟨by (with_reducible repeat (first | refine knz_ ?_ _ | refine kdz_ ?_ | refine kaz_ ?_ _)); refine blk_put (cs := #[.slice none 0 0]) ?_ 0 _ rfl; (with_reducible repeat (first | refine knz_ ?_ _ | refine kdz_ ?_ | refine kaz_ ?_ _)); refine blk_far ?_ NB178_177.out _; (with_reducible repeat (first | refine knz_ ?_ _ | refine kdz_ ?_ | refine kaz_ ?_ _)); exact BK178.out⟩, ⟨w129_⟩⟩
    case round =>
     clear H'
     clear hcz29_0 hcz32_0 hfz29_0 hfz32_0
     obtain ⟨x32_2, x178000_2, x179000_2, u179000, rfl, HA, HK2, HO_179000, BK172, BK173, BK177, BK178, HB⟩ := hrel
     cases gk with
     | zero => exact absurd HA.out (by simp [impl_MakePuzzle.l0])
     | succ k2 =>
      have H := HA.out
      clear HA
      simp only [impl_MakePuzzle.l0] at H
      by_cases c33 : x32_2 < a1
      ·rw [if_pos c33] at H
       have c33b0 := decide_eq_true c33
       clear c33
       replace H := bqz_ H; obtain ⟨⟨t179, t180⟩, A34, H⟩ := H
       replace H := bqz_ H; obtain ⟨⟨t181, t182⟩, A35, H⟩ := H
       replace H : (if (Int.tmod t179 6) = 2 then ((impl_Hidden_tells.f k2 a0_0 a0_1 (Int.tmod t179 6) (Int.tmod t181 10)).bind fun t183 => (if x179000_2.length < 5864062014805 then (impl_MakePuzzle.l0 k2 a1 (wrap64 (x32_2 + 1)) a0_0 a0_1 t182 (x179000_2 ++ [(⟨Int.tmod t179 6, Int.tmod t181 10, t183⟩ : S40)])) else (none))) else (if (Int.tmod t179 6) = 3 then ((impl_Hidden_tells.f k2 a0_0 a0_1 (Int.tmod t179 6) (wrap64 ((Int.tmod t181 20) + 1))).bind fun t187 => (if x179000_2.length < 5864062014805 then (impl_MakePuzzle.l0 k2 a1 (wrap64 (x32_2 + 1)) a0_0 a0_1 t182 (x179000_2 ++ [(⟨Int.tmod t179 6, wrap64 ((Int.tmod t181 20) + 1), t187⟩ : S40)])) else (none))) else (if (Int.tmod t179 6) = 4 then ((impl_Hidden_tells.f k2 a0_0 a0_1 (Int.tmod t179 6) (wrap64 ((Int.tmod t181 8) + 2))).bind fun t191 => (if x179000_2.length < 5864062014805 then (impl_MakePuzzle.l0 k2 a1 (wrap64 (x32_2 + 1)) a0_0 a0_1 t182 (x179000_2 ++ [(⟨Int.tmod t179 6, wrap64 ((Int.tmod t181 8) + 2), t191⟩ : S40)])) else (none))) else ((impl_Hidden_tells.f k2 a0_0 a0_1 (Int.tmod t179 6) 0).bind fun t195 => (if x179000_2.length < 5864062014805 then (impl_MakePuzzle.l0 k2 a1 (wrap64 (x32_2 + 1)) a0_0 a0_1 t182 (x179000_2 ++ [(⟨Int.tmod t179 6, 0, t195⟩ : S40)])) else (none)))))) = some (r1, r2) := H
       by_cases c36 : (Int.tmod t179 6) = 2
       ·rw [if_pos c36] at H
        have c36b0 : ((Int.tmod t179 6) == 2) = true := beq_iff_eq.mpr c36
        have c36b1 : ((Int.tmod t179 6) != 2) = false := bne_eq_false_iff_eq.mpr c36
        clear c36
        replace H := bqz_ H; obtain ⟨t183, A37, H⟩ := H
        replace H : (if x179000_2.length < 5864062014805 then (impl_MakePuzzle.l0 k2 a1 (wrap64 (x32_2 + 1)) a0_0 a0_1 t182 (x179000_2 ++ [(⟨Int.tmod t179 6, Int.tmod t181 10, t183⟩ : S40)])) else (none)) = some (r1, r2) := H
        by_cases c38 : x179000_2.length < 5864062014805; rotate_left
        ·rw [if_neg c38] at H
         exact absurd H (by simp)
        rw [if_pos c38] at H
        have LMc38 := Az_ c38
        clear c38
        obtain ⟨y184, hy184⟩ : ∃ y_ : List (S40), y_ = (x179000_2 ++ [(⟨Int.tmod t179 6, Int.tmod t181 10, t183⟩ : S40)]) := ⟨_, rfl⟩
        replace H : (impl_MakePuzzle.l0 k2 a1 (wrap64 (x32_2 + 1)) a0_0 a0_1 t182 y184) = some (r1, r2) := by first | (rw [hy184]; with_reducible exact H) | (have H2_ := (Option.bind_some _ _).symm.trans H; rw [hy184]; with_reducible exact H2_) | (have H2_ := (Option.bind_some _ _).symm.trans H; with_reducible exact H2_) | with_reducible exact H | (rw [hy184]; exact H) | exact H
        have Ny184 := Az_ hy184
        clear hy184
        have H' := Az_ H
        clear H
        try go_wp2_with (first | (go_at_call 40; have HI177 := Az_ (show IsS125 w wr gb177 x178000_2 from ⟨BK177.out, GE177.out⟩); (with_reducible refine (impl_MakePuzzle_1.calls gb177 x178000_2 t179 t180 w _ ?side1 ?side2 A34.out).mono ?_); (case side1 => repeat (first | (with_reducible first | exact HI177.out | apply IsS125.alloc | apply IsS125.drewN | apply IsS125.drew | apply IsS125.set_0 | refine IsS125.far ?_ NB177_172.out _ | refine IsS125.far ?_ NB177_173.out _ | refine IsS125.far ?_ NB177_178.out _) | exact HI177.out)); (case side2 => repeat (first | (with_reducible first | exact HB.out | apply baz_ | apply bnz_ | apply bdz_ | refine bsz_ ?_ (IsS125.ge HI177.out) | refine bsz_ ?_ GE172.out | refine bsz_ ?_ GE173.out | refine bsz_ ?_ GE178.out) | exact HB.out)); rintro e w39 ⟨rfl, hi, hb, hk⟩; replace HO_179000 := Az_ (Kd.R_mono (Kd.R_keep (IsS125.apart (show IsS125 w _ gb177 x178000_2 from w35_) (w174_) (by decide)) hk (fun _ h => h.2)) (fun _ h => h.1)); replace BK172 := Az_ (KeepBut.blk hk (g' := gb172) (o := .cells #[.int .i64 a0_0, .int .i64 a0_1] 25 (0, 0)) (w180_) NB172_177.out (by simp)); replace BK173 := Az_ (KeepBut.blk hk (g' := gb173) (o := .cells #[.slice none 0 0] 30 (0, 0)) (w181_) NB173_177.out (by simp)); replace BK178 := Az_ (KeepBut.blk hk (g' := gb178) (o := .cells #[u179000] 30 (0, 0)) (w182_) NB178_177.out (by simp)); replace HB := Az_ (hb); replace HI177 := Az_ (hi); (try clear hb); (try clear hk); (try clear hi)) | (go_at_call 40; (with_reducible refine (impl_MakePuzzle_1.calls gb177 t180 t181 t182 w _ ?side1 ?side2 A35.out).mono ?_); (case side1 => repeat (first | (with_reducible first | exact HI177.out | apply IsS125.alloc | apply IsS125.drewN | apply IsS125.drew | apply IsS125.set_0 | refine IsS125.far ?_ NB177_172.out _ | refine IsS125.far ?_ NB177_173.out _ | refine IsS125.far ?_ NB177_178.out _) | exact HI177.out)); (case side2 => repeat (first | (with_reducible first | exact HB.out | apply baz_ | apply bnz_ | apply bdz_ | refine bsz_ ?_ (IsS125.ge HI177.out) | refine bsz_ ?_ GE172.out | refine bsz_ ?_ GE173.out | refine bsz_ ?_ GE178.out) | exact HB.out)); rintro e w40 ⟨rfl, hi, hb, hk⟩; replace HO_179000 := Az_ (Kd.R_mono (Kd.R_keep (IsS125.apart (show IsS125 w _ gb177 t180 from w35_) (w174_) (by decide)) hk (fun _ h => h.2)) (fun _ h => h.1)); replace BK172 := Az_ (KeepBut.blk hk (g' := gb172) (o := .cells #[.int .i64 a0_0, .int .i64 a0_1] 25 (0, 0)) (w180_) NB172_177.out (by simp)); replace BK173 := Az_ (KeepBut.blk hk (g' := gb173) (o := .cells #[.slice none 0 0] 30 (0, 0)) (w181_) NB173_177.out (by simp)); replace BK178 := Az_ (KeepBut.blk hk (g' := gb178) (o := .cells #[u179000] 30 (0, 0)) (w182_) NB178_177.out (by simp)); replace HB := Az_ (hb); replace HI177 := Az_ (hi); (try clear hb); (try clear hk); (try clear hi)))
        replace HO_179000 := Az_ (rdz_ HO_179000.out)
        replace BK172 := Az_ (kdz_ BK172.out)
        replace BK173 := Az_ (kdz_ BK173.out)
        replace BK178 := Az_ (kdz_ BK178.out)
        replace HI177 := Az_ (IsS125.drew HI177.out)
        replace HB := Az_ (bdz_ HB.out)
        refine start_ (n := 13) (S := fun w' => w'.cell? ⟨gb178, 0, none⟩ = some (u179000) ∧ w'.cell? ⟨gb172, 0, none⟩ = some (.int .i64 a0_0) ∧ w'.cell? ⟨gb172, 1, none⟩ = some (.int .i64 a0_1)) (ds := [12]) #[false, false, false, false, false, false, false, false, false, false, false, false, false] (w204_) rfl rfl ⟨(blk_cell BK178.out 0).trans rfl, (blk_cell BK172.out 0).trans rfl, (blk_cell BK172.out 1).trans rfl⟩ (fun hHeld => ?_); refine with_tabW impl_MakePuzzle.tab16 impl_MakePuzzle.bits16 (fun HT_ HW_ => ?_)
        generalize w40.drew = w41 at HO_179000 BK172 BK173 BK178 HI177 HB hHeld ⊢
        refine pz_ 0 54 [1,12] ?_
        refine pz_ 2 56 [1,1,1,10] ?_
        refine pz_ 3 57 [1,1,2,9] ?_
        refine pz_ 5 59 [1,1,2,1,1,7] ?_
        refine pz_ 6 60 [1,1,2,1,2,6] ?_
        refine take_ (i := 1) (N := some 55) (v := ?_) (a' := ?_) (mz_ [4,1,2,6]) rfl rfl (take_ofW HT_.out HW_.out (w204_)) (fun _ _ _ h => h) (Or.inl ⟨by rfl, ?_⟩) hHeld ?_ ?_
        rotate_left
        ·rintro w' ⟨s0, s1, s2⟩
         go_simp
         with_reducible rfl
        rotate_left
        ·simp only [Act.put, usz_, utz_, uvz_, i64_w, i32_w]
         rfl
        refine take_ (i := 4) (N := some 58) (v := ?_) (a' := ?_) (mz_ [7,6]) rfl rfl (take_ofW HT_.out HW_.out (w204_)) (fun _ _ _ h => h) (Or.inl ⟨by rfl, ?_⟩) hHeld ?_ ?_
        rotate_left
        ·rintro w' ⟨s0, s1, s2⟩
         go_simp
         with_reducible rfl
        rotate_left
        ·simp only [Act.put, usz_, utz_, uvz_, i64_w, i32_w]
         rfl
        refine one_ (i := 7) (N := some 61) (mz_ [8,5]) rfl rfl (one_of HT_.out (w204_)) (by decide) (fun K hK => ?_)
        refine goes_ Tryd.func41 (w204_) rfl #[.agg #[.int .i64 a0_0, .int .i64 a0_1], .int .i64 (Int.tmod t179 6), .int .i64 (Int.tmod t181 10)] (by rfl) rfl rfl maz_ ?_
        with_reducible refine (impl_Hidden_tells.calls k2 a0_0 a0_1 (Int.tmod t179 6) (Int.tmod t181 10) t183 _ A37.out).mono ?_
        rintro e w42 ⟨rfl, hb⟩
        refine ⟨_, rfl, ?_⟩
        have n0_ := Az_ (Kd.R_below (w174_) hb)
        have n3_ := Az_ (IsS125.below (w35_) hb)
        have n5_ := Az_ (btz_ (w76_) hb)
        clear HO_179000 HI177 HB
        have HO_179000 := n0_
        replace BK172 := Az_ (ukbz_ BK172.out hb)
        replace BK173 := Az_ (ukbz_ BK173.out hb)
        have HI177 := n3_
        replace BK178 := Az_ (ukbz_ BK178.out hb)
        have HB := n5_
        clear n0_ n3_ n5_
        clear hb
        refine hK.out _ _ ⟨(blk_cell BK178.out 0).trans rfl, (blk_cell BK172.out 0).trans rfl, (blk_cell BK172.out 1).trans rfl⟩ (fun hHeld => ?_)
        clear hK K
        refine nz_ 61 ?_
        refine pz_ 8 62 [9,4] ?_
        refine one_ (i := 9) (N := some 63) (mz_ [10,3]) rfl rfl (one_of HT_.out (w204_)) (by decide) (fun K hK => ?_)
        refine value_ (w1 := ?_) (v := ?_) (by rfl) rfl ?_ ?_
        rotate_left 2
        ·go_simp
         constructor
         ·rfl
         ·rfl
        refine hK.out _ _ ⟨(blk_cell (kaz_ BK178.out _) 0).trans rfl, (blk_cell (kaz_ BK172.out _) 0).trans rfl, (blk_cell (kaz_ BK172.out _) 1).trans rfl⟩ (fun hHeld => ?_)
        clear hK K
        refine nz_ 63 ?_
        refine one_ (i := 10) (N := some 64) (mz_ [11,2]) rfl rfl (one_of HT_.out (w204_)) (by decide) (fun K hK => ?_)
        refine Kd.R_append_step k40 (w0 := w) w.heap.size (by rfl) (.tmp 55) (.tmp 63) 28 40 (.agg #[(.int .i64 0), (.int .i64 0), (.int .i64 0)]) 24 rfl Tryd.underlying28 info40 rfl (by decide) (by omega) u179000 x179000_2 (⟨Int.tmod t179 6, Int.tmod t181 10, t183⟩ : S40) [.int .i64 (Int.tmod t179 6), .int .i64 (Int.tmod t181 10), .int .i64 t183] (fun _ => True) (fun _ => False) rfl rfl ?aP (fun _ hk => hk.elim) ?aF ?aO ?aB ?aS ?aL ?_
        (case aP => exact k40_mkM _ _ _ (⟨Int.tmod t179 6, Int.tmod t181 10, t183⟩ : S40))
        (case aB => exact (w76_))
        (case aF => exact (fun _ _ => trivial))
        (case aO => exact (w174_))
        (case aS => exact (below_size (w76_)))
        (case aL => have := LMc38.out; omega)
        intro v185 w43 ho hb hg hat
        rw [← Ny184.out] at ho
        replace BK172 := Az_ (blk_grown (g := gb172) (o := .cells #[.int .i64 a0_0, .int .i64 a0_1] 25 (0, 0)) (w180_) hg (Kd.R_ne HO_179000.out BK172.out (by decide)))
        replace BK173 := Az_ (blk_grown (g := gb173) (o := .cells #[.slice none 0 0] 30 (0, 0)) (w181_) hg (Kd.R_ne HO_179000.out BK173.out (by decide)))
        replace HI177 := Az_ (IsS125.grown (show IsS125 w _ gb177 t182 from w35_) hg (IsS125.own_ne HI177.out HO_179000.out (by decide)))
        replace BK178 := Az_ (blk_grown (g := gb178) (o := .cells #[u179000] 30 (0, 0)) (w182_) hg (Kd.R_ne HO_179000.out BK178.out (by decide)))
        replace HB := Az_ (hb)
        have HO186 := Az_ (ho)
        clear HO_179000
        obtain ⟨Ao44, co44, eo44⟩ := Kd.R_slice HO186.out
        (first | subst eo44 | (injection eo44 with f1_ f2_ f3_; have f4_ := f1_.symm; have f5_ := f3_.symm; clear f1_ f2_ f3_; subst f4_; subst f5_))
        refine hK.out _ _ ⟨(blk_cell BK178.out 0).trans rfl, (blk_cell BK172.out 0).trans rfl, (blk_cell BK172.out 1).trans rfl⟩ (fun hHeld => ?_)
        clear hK K
        refine nz_ 64 ?_
        refine pz_ 11 65 [12,1] ?_
        refine last_ (i := 12) (N := none) (mz_ [13]) rfl rfl (one_of HT_.out (w204_)) (by decide) (fun K hK => ?_)
        have hs45 : w43.cell? ⟨gb178, 0, none⟩ = some (u179000) := (blk_cell BK178.out 0).trans rfl
        have hfs45 := blk_frozen BK178.out 0
        have hns45_0 := NB172_178.out
        have hns45_1 := NB173_178.out
        have hms45_0 := NB178_172.out
        have hms45_1 := NB178_173.out
        refine skip_ (w1 := ?_) (by rfl) rfl ?_ ?_
        rotate_left
        ·go_simp
         rfl
        refine hK.out _ _ ?_
        clear hK K
        refine done_ (done_of HT_.out (w204_)) ?_
        try go_wp2
        go_roundg k2
        case measure => have := HJ3.out; have := HK2.out; omega
        case rel => exact ⟨(wrap64 (x32_2 + 1)), (t182), (y184), (.slice Ao44 y184.length co44), qaz_, H', ⟨w172_⟩, ⟨by (with_reducible repeat (first | apply raz_ | apply rnz_ | apply rdz_)); exact Kd.R_mono (Kd.R_far (p := ⟨gb178, 0, none⟩) (Kd.R_types HO186.out BK178.out (by decide)) (fun _ hk => hk.2) (.slice Ao44 y184.length co44)) (fun _ hk => trivial)⟩, ⟨w79_⟩, ⟨w80_⟩, ⟨And.left (show IsS125 w _ gb177 _ from w35_)⟩, ⟨w75_⟩, ⟨w76_⟩⟩
       rw [if_neg c36] at H
       have c36b0 : ((Int.tmod t179 6) == 2) = false := beq_eq_false_iff_ne.mpr c36
       have c36b1 : ((Int.tmod t179 6) != 2) = true := bne_iff_ne.mpr c36
       by_cases c46 : (Int.tmod t179 6) = 3
       ·rw [if_pos c46] at H
        have c46b0 : ((Int.tmod t179 6) == 3) = true := beq_iff_eq.mpr c46
        have c46b1 : ((Int.tmod t179 6) != 3) = false := bne_eq_false_iff_eq.mpr c46
        clear c46
        replace H := bqz_ H; obtain ⟨t187, A47, H⟩ := H
        replace H : (if x179000_2.length < 5864062014805 then (impl_MakePuzzle.l0 k2 a1 (wrap64 (x32_2 + 1)) a0_0 a0_1 t182 (x179000_2 ++ [(⟨Int.tmod t179 6, wrap64 ((Int.tmod t181 20) + 1), t187⟩ : S40)])) else (none)) = some (r1, r2) := H
        by_cases c48 : x179000_2.length < 5864062014805; rotate_left
        ·rw [if_neg c48] at H
         exact absurd H (by simp)
        rw [if_pos c48] at H
        have LMc48 := Az_ c48
        clear c48
        obtain ⟨y188, hy188⟩ : ∃ y_ : List (S40), y_ = (x179000_2 ++ [(⟨Int.tmod t179 6, wrap64 ((Int.tmod t181 20) + 1), t187⟩ : S40)]) := ⟨_, rfl⟩
        replace H : (impl_MakePuzzle.l0 k2 a1 (wrap64 (x32_2 + 1)) a0_0 a0_1 t182 y188) = some (r1, r2) := by first | (rw [hy188]; with_reducible exact H) | (have H2_ := (Option.bind_some _ _).symm.trans H; rw [hy188]; with_reducible exact H2_) | (have H2_ := (Option.bind_some _ _).symm.trans H; with_reducible exact H2_) | with_reducible exact H | (rw [hy188]; exact H) | exact H
        have Ny188 := Az_ hy188
        clear hy188
        have H' := Az_ H
        clear H
        try go_wp2_with (first | (go_at_call 40; have HI177 := Az_ (show IsS125 w wr gb177 x178000_2 from ⟨BK177.out, GE177.out⟩); (with_reducible refine (impl_MakePuzzle_1.calls gb177 x178000_2 t179 t180 w _ ?side1 ?side2 A34.out).mono ?_); (case side1 => repeat (first | (with_reducible first | exact HI177.out | apply IsS125.alloc | apply IsS125.drewN | apply IsS125.drew | apply IsS125.set_0 | refine IsS125.far ?_ NB177_172.out _ | refine IsS125.far ?_ NB177_173.out _ | refine IsS125.far ?_ NB177_178.out _) | exact HI177.out)); (case side2 => repeat (first | (with_reducible first | exact HB.out | apply baz_ | apply bnz_ | apply bdz_ | refine bsz_ ?_ (IsS125.ge HI177.out) | refine bsz_ ?_ GE172.out | refine bsz_ ?_ GE173.out | refine bsz_ ?_ GE178.out) | exact HB.out)); rintro e w49 ⟨rfl, hi, hb, hk⟩; replace HO_179000 := Az_ (Kd.R_mono (Kd.R_keep (IsS125.apart (show IsS125 w _ gb177 x178000_2 from w35_) (w174_) (by decide)) hk (fun _ h => h.2)) (fun _ h => h.1)); replace BK172 := Az_ (KeepBut.blk hk (g' := gb172) (o := .cells #[.int .i64 a0_0, .int .i64 a0_1] 25 (0, 0)) (w180_) NB172_177.out (by simp)); replace BK173 := Az_ (KeepBut.blk hk (g' := gb173) (o := .cells #[.slice none 0 0] 30 (0, 0)) (w181_) NB173_177.out (by simp)); replace BK178 := Az_ (KeepBut.blk hk (g' := gb178) (o := .cells #[u179000] 30 (0, 0)) (w182_) NB178_177.out (by simp)); replace HB := Az_ (hb); replace HI177 := Az_ (hi); (try clear hb); (try clear hk); (try clear hi)) | (go_at_call 40; (with_reducible refine (impl_MakePuzzle_1.calls gb177 t180 t181 t182 w _ ?side1 ?side2 A35.out).mono ?_); (case side1 => repeat (first | (with_reducible first | exact HI177.out | apply IsS125.alloc | apply IsS125.drewN | apply IsS125.drew | apply IsS125.set_0 | refine IsS125.far ?_ NB177_172.out _ | refine IsS125.far ?_ NB177_173.out _ | refine IsS125.far ?_ NB177_178.out _) | exact HI177.out)); (case side2 => repeat (first | (with_reducible first | exact HB.out | apply baz_ | apply bnz_ | apply bdz_ | refine bsz_ ?_ (IsS125.ge HI177.out) | refine bsz_ ?_ GE172.out | refine bsz_ ?_ GE173.out | refine bsz_ ?_ GE178.out) | exact HB.out)); rintro e w50 ⟨rfl, hi, hb, hk⟩; replace HO_179000 := Az_ (Kd.R_mono (Kd.R_keep (IsS125.apart (show IsS125 w _ gb177 t180 from w35_) (w174_) (by decide)) hk (fun _ h => h.2)) (fun _ h => h.1)); replace BK172 := Az_ (KeepBut.blk hk (g' := gb172) (o := .cells #[.int .i64 a0_0, .int .i64 a0_1] 25 (0, 0)) (w180_) NB172_177.out (by simp)); replace BK173 := Az_ (KeepBut.blk hk (g' := gb173) (o := .cells #[.slice none 0 0] 30 (0, 0)) (w181_) NB173_177.out (by simp)); replace BK178 := Az_ (KeepBut.blk hk (g' := gb178) (o := .cells #[u179000] 30 (0, 0)) (w182_) NB178_177.out (by simp)); replace HB := Az_ (hb); replace HI177 := Az_ (hi); (try clear hb); (try clear hk); (try clear hi)))
        replace HO_179000 := Az_ (rdz_ HO_179000.out)
        replace BK172 := Az_ (kdz_ BK172.out)
        replace BK173 := Az_ (kdz_ BK173.out)
        replace BK178 := Az_ (kdz_ BK178.out)
        replace HI177 := Az_ (IsS125.drew HI177.out)
        replace HB := Az_ (bdz_ HB.out)
        refine start_ (n := 13) (S := fun w' => w'.cell? ⟨gb178, 0, none⟩ = some (u179000) ∧ w'.cell? ⟨gb172, 0, none⟩ = some (.int .i64 a0_0) ∧ w'.cell? ⟨gb172, 1, none⟩ = some (.int .i64 a0_1)) (ds := [12]) #[false, false, false, false, false, false, false, false, false, false, false, false, false] (w204_) rfl rfl ⟨(blk_cell BK178.out 0).trans rfl, (blk_cell BK172.out 0).trans rfl, (blk_cell BK172.out 1).trans rfl⟩ (fun hHeld => ?_); refine with_tabW impl_MakePuzzle.tab16 impl_MakePuzzle.bits16 (fun HT_ HW_ => ?_)
        generalize w50.drew = w51 at HO_179000 BK172 BK173 BK178 HI177 HB hHeld ⊢
        refine pz_ 0 54 [1,12] ?_
        refine pz_ 2 56 [1,1,1,10] ?_
        refine pz_ 3 57 [1,1,2,9] ?_
        refine pz_ 5 59 [1,1,2,1,1,7] ?_
        refine pz_ 6 60 [1,1,2,1,2,6] ?_
        refine take_ (i := 1) (N := some 55) (v := ?_) (a' := ?_) (mz_ [4,1,2,6]) rfl rfl (take_ofW HT_.out HW_.out (w204_)) (fun _ _ _ h => h) (Or.inl ⟨by rfl, ?_⟩) hHeld ?_ ?_
        rotate_left
        ·rintro w' ⟨s0, s1, s2⟩
         go_simp
         with_reducible rfl
        rotate_left
        ·simp only [Act.put, usz_, utz_, uvz_, i64_w, i32_w]
         rfl
        refine take_ (i := 4) (N := some 58) (v := ?_) (a' := ?_) (mz_ [7,6]) rfl rfl (take_ofW HT_.out HW_.out (w204_)) (fun _ _ _ h => h) (Or.inl ⟨by rfl, ?_⟩) hHeld ?_ ?_
        rotate_left
        ·rintro w' ⟨s0, s1, s2⟩
         go_simp
         with_reducible rfl
        rotate_left
        ·simp only [Act.put, usz_, utz_, uvz_, i64_w, i32_w]
         rfl
        refine one_ (i := 7) (N := some 61) (mz_ [8,5]) rfl rfl (one_of HT_.out (w204_)) (by decide) (fun K hK => ?_)
        refine goes_ Tryd.func41 (w204_) rfl #[.agg #[.int .i64 a0_0, .int .i64 a0_1], .int .i64 (Int.tmod t179 6), .int .i64 (wrap64 ((Int.tmod t181 20) + 1))] (by rfl) rfl rfl maz_ ?_
        with_reducible refine (impl_Hidden_tells.calls k2 a0_0 a0_1 (Int.tmod t179 6) (wrap64 ((Int.tmod t181 20) + 1)) t187 _ A47.out).mono ?_
        rintro e w52 ⟨rfl, hb⟩
        refine ⟨_, rfl, ?_⟩
        have n0_ := Az_ (Kd.R_below (w174_) hb)
        have n3_ := Az_ (IsS125.below (w35_) hb)
        have n5_ := Az_ (btz_ (w76_) hb)
        clear HO_179000 HI177 HB
        have HO_179000 := n0_
        replace BK172 := Az_ (ukbz_ BK172.out hb)
        replace BK173 := Az_ (ukbz_ BK173.out hb)
        have HI177 := n3_
        replace BK178 := Az_ (ukbz_ BK178.out hb)
        have HB := n5_
        clear n0_ n3_ n5_
        clear hb
        refine hK.out _ _ ⟨(blk_cell BK178.out 0).trans rfl, (blk_cell BK172.out 0).trans rfl, (blk_cell BK172.out 1).trans rfl⟩ (fun hHeld => ?_)
        clear hK K
        refine nz_ 61 ?_
        refine pz_ 8 62 [9,4] ?_
        refine one_ (i := 9) (N := some 63) (mz_ [10,3]) rfl rfl (one_of HT_.out (w204_)) (by decide) (fun K hK => ?_)
        refine value_ (w1 := ?_) (v := ?_) (by rfl) rfl ?_ ?_
        rotate_left 2
        ·go_simp
         constructor
         ·rfl
         ·rfl
        refine hK.out _ _ ⟨(blk_cell (kaz_ BK178.out _) 0).trans rfl, (blk_cell (kaz_ BK172.out _) 0).trans rfl, (blk_cell (kaz_ BK172.out _) 1).trans rfl⟩ (fun hHeld => ?_)
        clear hK K
        refine nz_ 63 ?_
        refine one_ (i := 10) (N := some 64) (mz_ [11,2]) rfl rfl (one_of HT_.out (w204_)) (by decide) (fun K hK => ?_)
        refine Kd.R_append_step k40 (w0 := w) w.heap.size (by rfl) (.tmp 55) (.tmp 63) 28 40 (.agg #[(.int .i64 0), (.int .i64 0), (.int .i64 0)]) 24 rfl Tryd.underlying28 info40 rfl (by decide) (by omega) u179000 x179000_2 (⟨Int.tmod t179 6, wrap64 ((Int.tmod t181 20) + 1), t187⟩ : S40) [.int .i64 (Int.tmod t179 6), .int .i64 (wrap64 ((Int.tmod t181 20) + 1)), .int .i64 t187] (fun _ => True) (fun _ => False) rfl rfl ?aP (fun _ hk => hk.elim) ?aF ?aO ?aB ?aS ?aL ?_
        (case aP => exact k40_mkM _ _ _ (⟨Int.tmod t179 6, wrap64 ((Int.tmod t181 20) + 1), t187⟩ : S40))
        (case aB => exact (w76_))
        (case aF => exact (fun _ _ => trivial))
        (case aO => exact (w174_))
        (case aS => exact (below_size (w76_)))
        (case aL => have := LMc48.out; omega)
        intro v189 w53 ho hb hg hat
        rw [← Ny188.out] at ho
        replace BK172 := Az_ (blk_grown (g := gb172) (o := .cells #[.int .i64 a0_0, .int .i64 a0_1] 25 (0, 0)) (w180_) hg (Kd.R_ne HO_179000.out BK172.out (by decide)))
        replace BK173 := Az_ (blk_grown (g := gb173) (o := .cells #[.slice none 0 0] 30 (0, 0)) (w181_) hg (Kd.R_ne HO_179000.out BK173.out (by decide)))
        replace HI177 := Az_ (IsS125.grown (show IsS125 w _ gb177 t182 from w35_) hg (IsS125.own_ne HI177.out HO_179000.out (by decide)))
        replace BK178 := Az_ (blk_grown (g := gb178) (o := .cells #[u179000] 30 (0, 0)) (w182_) hg (Kd.R_ne HO_179000.out BK178.out (by decide)))
        replace HB := Az_ (hb)
        have HO190 := Az_ (ho)
        clear HO_179000
        obtain ⟨Ao54, co54, eo54⟩ := Kd.R_slice HO190.out
        (first | subst eo54 | (injection eo54 with f1_ f2_ f3_; have f4_ := f1_.symm; have f5_ := f3_.symm; clear f1_ f2_ f3_; subst f4_; subst f5_))
        refine hK.out _ _ ⟨(blk_cell BK178.out 0).trans rfl, (blk_cell BK172.out 0).trans rfl, (blk_cell BK172.out 1).trans rfl⟩ (fun hHeld => ?_)
        clear hK K
        refine nz_ 64 ?_
        refine pz_ 11 65 [12,1] ?_
        refine last_ (i := 12) (N := none) (mz_ [13]) rfl rfl (one_of HT_.out (w204_)) (by decide) (fun K hK => ?_)
        have hs55 : w53.cell? ⟨gb178, 0, none⟩ = some (u179000) := (blk_cell BK178.out 0).trans rfl
        have hfs55 := blk_frozen BK178.out 0
        have hns55_0 := NB172_178.out
        have hns55_1 := NB173_178.out
        have hms55_0 := NB178_172.out
        have hms55_1 := NB178_173.out
        refine skip_ (w1 := ?_) (by rfl) rfl ?_ ?_
        rotate_left
        ·go_simp
         rfl
        refine hK.out _ _ ?_
        clear hK K
        refine done_ (done_of HT_.out (w204_)) ?_
        try go_wp2
        go_roundg k2
        case measure => have := HJ3.out; have := HK2.out; omega
        case rel => exact ⟨(wrap64 (x32_2 + 1)), (t182), (y188), (.slice Ao54 y188.length co54), qaz_, H', ⟨w172_⟩, ⟨by (with_reducible repeat (first | apply raz_ | apply rnz_ | apply rdz_)); exact Kd.R_mono (Kd.R_far (p := ⟨gb178, 0, none⟩) (Kd.R_types HO190.out BK178.out (by decide)) (fun _ hk => hk.2) (.slice Ao54 y188.length co54)) (fun _ hk => trivial)⟩, ⟨w79_⟩, ⟨w80_⟩, ⟨And.left (show IsS125 w _ gb177 _ from w35_)⟩, ⟨w75_⟩, ⟨w76_⟩⟩
       rw [if_neg c46] at H
       have c46b0 : ((Int.tmod t179 6) == 3) = false := beq_eq_false_iff_ne.mpr c46
       have c46b1 : ((Int.tmod t179 6) != 3) = true := bne_iff_ne.mpr c46
       by_cases c56 : (Int.tmod t179 6) = 4; rotate_left
       ·rw [if_neg c56] at H
        have c56b0 : ((Int.tmod t179 6) == 4) = false := beq_eq_false_iff_ne.mpr c56
        have c56b1 : ((Int.tmod t179 6) != 4) = true := bne_iff_ne.mpr c56
        replace H := bqz_ H; obtain ⟨t195, A66, H⟩ := H
        replace H : (if x179000_2.length < 5864062014805 then (impl_MakePuzzle.l0 k2 a1 (wrap64 (x32_2 + 1)) a0_0 a0_1 t182 (x179000_2 ++ [(⟨Int.tmod t179 6, 0, t195⟩ : S40)])) else (none)) = some (r1, r2) := H
        by_cases c67 : x179000_2.length < 5864062014805; rotate_left
        ·rw [if_neg c67] at H
         exact absurd H (by simp)
        rw [if_pos c67] at H
        have LMc67 := Az_ c67
        clear c67
        obtain ⟨y196, hy196⟩ : ∃ y_ : List (S40), y_ = (x179000_2 ++ [(⟨Int.tmod t179 6, 0, t195⟩ : S40)]) := ⟨_, rfl⟩
        replace H : (impl_MakePuzzle.l0 k2 a1 (wrap64 (x32_2 + 1)) a0_0 a0_1 t182 y196) = some (r1, r2) := by first | (rw [hy196]; with_reducible exact H) | (have H2_ := (Option.bind_some _ _).symm.trans H; rw [hy196]; with_reducible exact H2_) | (have H2_ := (Option.bind_some _ _).symm.trans H; with_reducible exact H2_) | with_reducible exact H | (rw [hy196]; exact H) | exact H
        have Ny196 := Az_ hy196
        clear hy196
        have H' := Az_ H
        clear H
        try go_wp2_with (first | (go_at_call 40; have HI177 := Az_ (show IsS125 w wr gb177 x178000_2 from ⟨BK177.out, GE177.out⟩); (with_reducible refine (impl_MakePuzzle_1.calls gb177 x178000_2 t179 t180 w _ ?side1 ?side2 A34.out).mono ?_); (case side1 => repeat (first | (with_reducible first | exact HI177.out | apply IsS125.alloc | apply IsS125.drewN | apply IsS125.drew | apply IsS125.set_0 | refine IsS125.far ?_ NB177_172.out _ | refine IsS125.far ?_ NB177_173.out _ | refine IsS125.far ?_ NB177_178.out _) | exact HI177.out)); (case side2 => repeat (first | (with_reducible first | exact HB.out | apply baz_ | apply bnz_ | apply bdz_ | refine bsz_ ?_ (IsS125.ge HI177.out) | refine bsz_ ?_ GE172.out | refine bsz_ ?_ GE173.out | refine bsz_ ?_ GE178.out) | exact HB.out)); rintro e w68 ⟨rfl, hi, hb, hk⟩; replace HO_179000 := Az_ (Kd.R_mono (Kd.R_keep (IsS125.apart (show IsS125 w _ gb177 x178000_2 from w35_) (w174_) (by decide)) hk (fun _ h => h.2)) (fun _ h => h.1)); replace BK172 := Az_ (KeepBut.blk hk (g' := gb172) (o := .cells #[.int .i64 a0_0, .int .i64 a0_1] 25 (0, 0)) (w180_) NB172_177.out (by simp)); replace BK173 := Az_ (KeepBut.blk hk (g' := gb173) (o := .cells #[.slice none 0 0] 30 (0, 0)) (w181_) NB173_177.out (by simp)); replace BK178 := Az_ (KeepBut.blk hk (g' := gb178) (o := .cells #[u179000] 30 (0, 0)) (w182_) NB178_177.out (by simp)); replace HB := Az_ (hb); replace HI177 := Az_ (hi); (try clear hb); (try clear hk); (try clear hi)) | (go_at_call 40; (with_reducible refine (impl_MakePuzzle_1.calls gb177 t180 t181 t182 w _ ?side1 ?side2 A35.out).mono ?_); (case side1 => repeat (first | (with_reducible first | exact HI177.out | apply IsS125.alloc | apply IsS125.drewN | apply IsS125.drew | apply IsS125.set_0 | refine IsS125.far ?_ NB177_172.out _ | refine IsS125.far ?_ NB177_173.out _ | refine IsS125.far ?_ NB177_178.out _) | exact HI177.out)); (case side2 => repeat (first | (with_reducible first | exact HB.out | apply baz_ | apply bnz_ | apply bdz_ | refine bsz_ ?_ (IsS125.ge HI177.out) | refine bsz_ ?_ GE172.out | refine bsz_ ?_ GE173.out | refine bsz_ ?_ GE178.out) | exact HB.out)); rintro e w69 ⟨rfl, hi, hb, hk⟩; replace HO_179000 := Az_ (Kd.R_mono (Kd.R_keep (IsS125.apart (show IsS125 w _ gb177 t180 from w35_) (w174_) (by decide)) hk (fun _ h => h.2)) (fun _ h => h.1)); replace BK172 := Az_ (KeepBut.blk hk (g' := gb172) (o := .cells #[.int .i64 a0_0, .int .i64 a0_1] 25 (0, 0)) (w180_) NB172_177.out (by simp)); replace BK173 := Az_ (KeepBut.blk hk (g' := gb173) (o := .cells #[.slice none 0 0] 30 (0, 0)) (w181_) NB173_177.out (by simp)); replace BK178 := Az_ (KeepBut.blk hk (g' := gb178) (o := .cells #[u179000] 30 (0, 0)) (w182_) NB178_177.out (by simp)); replace HB := Az_ (hb); replace HI177 := Az_ (hi); (try clear hb); (try clear hk); (try clear hi)))
        replace HO_179000 := Az_ (rdz_ HO_179000.out)
        replace BK172 := Az_ (kdz_ BK172.out)
        replace BK173 := Az_ (kdz_ BK173.out)
        replace BK178 := Az_ (kdz_ BK178.out)
        replace HI177 := Az_ (IsS125.drew HI177.out)
        replace HB := Az_ (bdz_ HB.out)
        refine start_ (n := 13) (S := fun w' => w'.cell? ⟨gb178, 0, none⟩ = some (u179000) ∧ w'.cell? ⟨gb172, 0, none⟩ = some (.int .i64 a0_0) ∧ w'.cell? ⟨gb172, 1, none⟩ = some (.int .i64 a0_1)) (ds := [12]) #[false, false, false, false, false, false, false, false, false, false, false, false, false] (w204_) rfl rfl ⟨(blk_cell BK178.out 0).trans rfl, (blk_cell BK172.out 0).trans rfl, (blk_cell BK172.out 1).trans rfl⟩ (fun hHeld => ?_); refine with_tabW impl_MakePuzzle.tab16 impl_MakePuzzle.bits16 (fun HT_ HW_ => ?_)
        generalize w69.drew = w70 at HO_179000 BK172 BK173 BK178 HI177 HB hHeld ⊢
        refine pz_ 0 54 [1,12] ?_
        refine pz_ 2 56 [1,1,1,10] ?_
        refine pz_ 3 57 [1,1,2,9] ?_
        refine pz_ 5 59 [1,1,2,1,1,7] ?_
        refine pz_ 6 60 [1,1,2,1,2,6] ?_
        refine take_ (i := 1) (N := some 55) (v := ?_) (a' := ?_) (mz_ [4,1,2,6]) rfl rfl (take_ofW HT_.out HW_.out (w204_)) (fun _ _ _ h => h) (Or.inl ⟨by rfl, ?_⟩) hHeld ?_ ?_
        rotate_left
        ·rintro w' ⟨s0, s1, s2⟩
         go_simp
         with_reducible rfl
        rotate_left
        ·simp only [Act.put, usz_, utz_, uvz_, i64_w, i32_w]
         rfl
        refine take_ (i := 4) (N := some 58) (v := ?_) (a' := ?_) (mz_ [7,6]) rfl rfl (take_ofW HT_.out HW_.out (w204_)) (fun _ _ _ h => h) (Or.inl ⟨by rfl, ?_⟩) hHeld ?_ ?_
        rotate_left
        ·rintro w' ⟨s0, s1, s2⟩
         go_simp
         with_reducible rfl
        rotate_left
        ·simp only [Act.put, usz_, utz_, uvz_, i64_w, i32_w]
         rfl
        refine one_ (i := 7) (N := some 61) (mz_ [8,5]) rfl rfl (one_of HT_.out (w204_)) (by decide) (fun K hK => ?_)
        refine goes_ Tryd.func41 (w204_) rfl #[.agg #[.int .i64 a0_0, .int .i64 a0_1], .int .i64 (Int.tmod t179 6), .int .i64 0] (by rfl) rfl rfl maz_ ?_
        with_reducible refine (impl_Hidden_tells.calls k2 a0_0 a0_1 (Int.tmod t179 6) 0 t195 _ A66.out).mono ?_
        rintro e w71 ⟨rfl, hb⟩
        refine ⟨_, rfl, ?_⟩
        have n0_ := Az_ (Kd.R_below (w174_) hb)
        have n3_ := Az_ (IsS125.below (w35_) hb)
        have n5_ := Az_ (btz_ (w76_) hb)
        clear HO_179000 HI177 HB
        have HO_179000 := n0_
        replace BK172 := Az_ (ukbz_ BK172.out hb)
        replace BK173 := Az_ (ukbz_ BK173.out hb)
        have HI177 := n3_
        replace BK178 := Az_ (ukbz_ BK178.out hb)
        have HB := n5_
        clear n0_ n3_ n5_
        clear hb
        refine hK.out _ _ ⟨(blk_cell BK178.out 0).trans rfl, (blk_cell BK172.out 0).trans rfl, (blk_cell BK172.out 1).trans rfl⟩ (fun hHeld => ?_)
        clear hK K
        refine nz_ 61 ?_
        refine pz_ 8 62 [9,4] ?_
        refine one_ (i := 9) (N := some 63) (mz_ [10,3]) rfl rfl (one_of HT_.out (w204_)) (by decide) (fun K hK => ?_)
        refine value_ (w1 := ?_) (v := ?_) (by rfl) rfl ?_ ?_
        rotate_left 2
        ·go_simp
         constructor
         ·rfl
         ·rfl
        refine hK.out _ _ ⟨(blk_cell (kaz_ BK178.out _) 0).trans rfl, (blk_cell (kaz_ BK172.out _) 0).trans rfl, (blk_cell (kaz_ BK172.out _) 1).trans rfl⟩ (fun hHeld => ?_)
        clear hK K
        refine nz_ 63 ?_
        refine one_ (i := 10) (N := some 64) (mz_ [11,2]) rfl rfl (one_of HT_.out (w204_)) (by decide) (fun K hK => ?_)
        refine Kd.R_append_step k40 (w0 := w) w.heap.size (by rfl) (.tmp 55) (.tmp 63) 28 40 (.agg #[(.int .i64 0), (.int .i64 0), (.int .i64 0)]) 24 rfl Tryd.underlying28 info40 rfl (by decide) (by omega) u179000 x179000_2 (⟨Int.tmod t179 6, 0, t195⟩ : S40) [.int .i64 (Int.tmod t179 6), .int .i64 0, .int .i64 t195] (fun _ => True) (fun _ => False) rfl rfl ?aP (fun _ hk => hk.elim) ?aF ?aO ?aB ?aS ?aL ?_
        (case aP => exact k40_mkM _ _ _ (⟨Int.tmod t179 6, 0, t195⟩ : S40))
        (case aB => exact (w76_))
        (case aF => exact (fun _ _ => trivial))
        (case aO => exact (w174_))
        (case aS => exact (below_size (w76_)))
        (case aL => have := LMc67.out; omega)
        intro v197 w72 ho hb hg hat
        rw [← Ny196.out] at ho
        replace BK172 := Az_ (blk_grown (g := gb172) (o := .cells #[.int .i64 a0_0, .int .i64 a0_1] 25 (0, 0)) (w180_) hg (Kd.R_ne HO_179000.out BK172.out (by decide)))
        replace BK173 := Az_ (blk_grown (g := gb173) (o := .cells #[.slice none 0 0] 30 (0, 0)) (w181_) hg (Kd.R_ne HO_179000.out BK173.out (by decide)))
        replace HI177 := Az_ (IsS125.grown (show IsS125 w _ gb177 t182 from w35_) hg (IsS125.own_ne HI177.out HO_179000.out (by decide)))
        replace BK178 := Az_ (blk_grown (g := gb178) (o := .cells #[u179000] 30 (0, 0)) (w182_) hg (Kd.R_ne HO_179000.out BK178.out (by decide)))
        replace HB := Az_ (hb)
        have HO198 := Az_ (ho)
        clear HO_179000
        obtain ⟨Ao73, co73, eo73⟩ := Kd.R_slice HO198.out
        (first | subst eo73 | (injection eo73 with f1_ f2_ f3_; have f4_ := f1_.symm; have f5_ := f3_.symm; clear f1_ f2_ f3_; subst f4_; subst f5_))
        refine hK.out _ _ ⟨(blk_cell BK178.out 0).trans rfl, (blk_cell BK172.out 0).trans rfl, (blk_cell BK172.out 1).trans rfl⟩ (fun hHeld => ?_)
        clear hK K
        refine nz_ 64 ?_
        refine pz_ 11 65 [12,1] ?_
        refine last_ (i := 12) (N := none) (mz_ [13]) rfl rfl (one_of HT_.out (w204_)) (by decide) (fun K hK => ?_)
        have hs74 : w72.cell? ⟨gb178, 0, none⟩ = some (u179000) := (blk_cell BK178.out 0).trans rfl
        have hfs74 := blk_frozen BK178.out 0
        have hns74_0 := NB172_178.out
        have hns74_1 := NB173_178.out
        have hms74_0 := NB178_172.out
        have hms74_1 := NB178_173.out
        refine skip_ (w1 := ?_) (by rfl) rfl ?_ ?_
        rotate_left
        ·go_simp
         rfl
        refine hK.out _ _ ?_
        clear hK K
        refine done_ (done_of HT_.out (w204_)) ?_
        try go_wp2
        go_roundg k2
        case measure => have := HJ3.out; have := HK2.out; omega
        case rel => exact ⟨(wrap64 (x32_2 + 1)), (t182), (y196), (.slice Ao73 y196.length co73), qaz_, H', ⟨w172_⟩, ⟨by (with_reducible repeat (first | apply raz_ | apply rnz_ | apply rdz_)); exact Kd.R_mono (Kd.R_far (p := ⟨gb178, 0, none⟩) (Kd.R_types HO198.out BK178.out (by decide)) (fun _ hk => hk.2) (.slice Ao73 y196.length co73)) (fun _ hk => trivial)⟩, ⟨w79_⟩, ⟨w80_⟩, ⟨And.left (show IsS125 w _ gb177 _ from w35_)⟩, ⟨w75_⟩, ⟨w76_⟩⟩
       rw [if_pos c56] at H
       have c56b0 : ((Int.tmod t179 6) == 4) = true := beq_iff_eq.mpr c56
       have c56b1 : ((Int.tmod t179 6) != 4) = false := bne_eq_false_iff_eq.mpr c56
       clear c56
       replace H := bqz_ H; obtain ⟨t191, A57, H⟩ := H
       replace H : (if x179000_2.length < 5864062014805 then (impl_MakePuzzle.l0 k2 a1 (wrap64 (x32_2 + 1)) a0_0 a0_1 t182 (x179000_2 ++ [(⟨Int.tmod t179 6, wrap64 ((Int.tmod t181 8) + 2), t191⟩ : S40)])) else (none)) = some (r1, r2) := H
       by_cases c58 : x179000_2.length < 5864062014805; rotate_left
       ·rw [if_neg c58] at H
        exact absurd H (by simp)
       rw [if_pos c58] at H
       have LMc58 := Az_ c58
       clear c58
       obtain ⟨y192, hy192⟩ : ∃ y_ : List (S40), y_ = (x179000_2 ++ [(⟨Int.tmod t179 6, wrap64 ((Int.tmod t181 8) + 2), t191⟩ : S40)]) := ⟨_, rfl⟩
       replace H : (impl_MakePuzzle.l0 k2 a1 (wrap64 (x32_2 + 1)) a0_0 a0_1 t182 y192) = some (r1, r2) := by first | (rw [hy192]; with_reducible exact H) | (have H2_ := (Option.bind_some _ _).symm.trans H; rw [hy192]; with_reducible exact H2_) | (have H2_ := (Option.bind_some _ _).symm.trans H; with_reducible exact H2_) | with_reducible exact H | (rw [hy192]; exact H) | exact H
       have Ny192 := Az_ hy192
       clear hy192
       have H' := Az_ H
       clear H
       try go_wp2_with (first | (go_at_call 40; have HI177 := Az_ (show IsS125 w wr gb177 x178000_2 from ⟨BK177.out, GE177.out⟩); (with_reducible refine (impl_MakePuzzle_1.calls gb177 x178000_2 t179 t180 w _ ?side1 ?side2 A34.out).mono ?_); (case side1 => repeat (first | (with_reducible first | exact HI177.out | apply IsS125.alloc | apply IsS125.drewN | apply IsS125.drew | apply IsS125.set_0 | refine IsS125.far ?_ NB177_172.out _ | refine IsS125.far ?_ NB177_173.out _ | refine IsS125.far ?_ NB177_178.out _) | exact HI177.out)); (case side2 => repeat (first | (with_reducible first | exact HB.out | apply baz_ | apply bnz_ | apply bdz_ | refine bsz_ ?_ (IsS125.ge HI177.out) | refine bsz_ ?_ GE172.out | refine bsz_ ?_ GE173.out | refine bsz_ ?_ GE178.out) | exact HB.out)); rintro e w59 ⟨rfl, hi, hb, hk⟩; replace HO_179000 := Az_ (Kd.R_mono (Kd.R_keep (IsS125.apart (show IsS125 w _ gb177 x178000_2 from w35_) (w174_) (by decide)) hk (fun _ h => h.2)) (fun _ h => h.1)); replace BK172 := Az_ (KeepBut.blk hk (g' := gb172) (o := .cells #[.int .i64 a0_0, .int .i64 a0_1] 25 (0, 0)) (w180_) NB172_177.out (by simp)); replace BK173 := Az_ (KeepBut.blk hk (g' := gb173) (o := .cells #[.slice none 0 0] 30 (0, 0)) (w181_) NB173_177.out (by simp)); replace BK178 := Az_ (KeepBut.blk hk (g' := gb178) (o := .cells #[u179000] 30 (0, 0)) (w182_) NB178_177.out (by simp)); replace HB := Az_ (hb); replace HI177 := Az_ (hi); (try clear hb); (try clear hk); (try clear hi)) | (go_at_call 40; (with_reducible refine (impl_MakePuzzle_1.calls gb177 t180 t181 t182 w _ ?side1 ?side2 A35.out).mono ?_); (case side1 => repeat (first | (with_reducible first | exact HI177.out | apply IsS125.alloc | apply IsS125.drewN | apply IsS125.drew | apply IsS125.set_0 | refine IsS125.far ?_ NB177_172.out _ | refine IsS125.far ?_ NB177_173.out _ | refine IsS125.far ?_ NB177_178.out _) | exact HI177.out)); (case side2 => repeat (first | (with_reducible first | exact HB.out | apply baz_ | apply bnz_ | apply bdz_ | refine bsz_ ?_ (IsS125.ge HI177.out) | refine bsz_ ?_ GE172.out | refine bsz_ ?_ GE173.out | refine bsz_ ?_ GE178.out) | exact HB.out)); rintro e w60 ⟨rfl, hi, hb, hk⟩; replace HO_179000 := Az_ (Kd.R_mono (Kd.R_keep (IsS125.apart (show IsS125 w _ gb177 t180 from w35_) (w174_) (by decide)) hk (fun _ h => h.2)) (fun _ h => h.1)); replace BK172 := Az_ (KeepBut.blk hk (g' := gb172) (o := .cells #[.int .i64 a0_0, .int .i64 a0_1] 25 (0, 0)) (w180_) NB172_177.out (by simp)); replace BK173 := Az_ (KeepBut.blk hk (g' := gb173) (o := .cells #[.slice none 0 0] 30 (0, 0)) (w181_) NB173_177.out (by simp)); replace BK178 := Az_ (KeepBut.blk hk (g' := gb178) (o := .cells #[u179000] 30 (0, 0)) (w182_) NB178_177.out (by simp)); replace HB := Az_ (hb); replace HI177 := Az_ (hi); (try clear hb); (try clear hk); (try clear hi)))
       replace HO_179000 := Az_ (rdz_ HO_179000.out)
       replace BK172 := Az_ (kdz_ BK172.out)
       replace BK173 := Az_ (kdz_ BK173.out)
       replace BK178 := Az_ (kdz_ BK178.out)
       replace HI177 := Az_ (IsS125.drew HI177.out)
       replace HB := Az_ (bdz_ HB.out)
       refine start_ (n := 13) (S := fun w' => w'.cell? ⟨gb178, 0, none⟩ = some (u179000) ∧ w'.cell? ⟨gb172, 0, none⟩ = some (.int .i64 a0_0) ∧ w'.cell? ⟨gb172, 1, none⟩ = some (.int .i64 a0_1)) (ds := [12]) #[false, false, false, false, false, false, false, false, false, false, false, false, false] (w204_) rfl rfl ⟨(blk_cell BK178.out 0).trans rfl, (blk_cell BK172.out 0).trans rfl, (blk_cell BK172.out 1).trans rfl⟩ (fun hHeld => ?_); refine with_tabW impl_MakePuzzle.tab16 impl_MakePuzzle.bits16 (fun HT_ HW_ => ?_)
       generalize w60.drew = w61 at HO_179000 BK172 BK173 BK178 HI177 HB hHeld ⊢
       refine pz_ 0 54 [1,12] ?_
       refine pz_ 2 56 [1,1,1,10] ?_
       refine pz_ 3 57 [1,1,2,9] ?_
       refine pz_ 5 59 [1,1,2,1,1,7] ?_
       refine pz_ 6 60 [1,1,2,1,2,6] ?_
       refine take_ (i := 1) (N := some 55) (v := ?_) (a' := ?_) (mz_ [4,1,2,6]) rfl rfl (take_ofW HT_.out HW_.out (w204_)) (fun _ _ _ h => h) (Or.inl ⟨by rfl, ?_⟩) hHeld ?_ ?_
       rotate_left
       ·rintro w' ⟨s0, s1, s2⟩
        go_simp
        with_reducible rfl
       rotate_left
       ·simp only [Act.put, usz_, utz_, uvz_, i64_w, i32_w]
        rfl
       refine take_ (i := 4) (N := some 58) (v := ?_) (a' := ?_) (mz_ [7,6]) rfl rfl (take_ofW HT_.out HW_.out (w204_)) (fun _ _ _ h => h) (Or.inl ⟨by rfl, ?_⟩) hHeld ?_ ?_
       rotate_left
       ·rintro w' ⟨s0, s1, s2⟩
        go_simp
        with_reducible rfl
       rotate_left
       ·simp only [Act.put, usz_, utz_, uvz_, i64_w, i32_w]
        rfl
       refine one_ (i := 7) (N := some 61) (mz_ [8,5]) rfl rfl (one_of HT_.out (w204_)) (by decide) (fun K hK => ?_)
       refine goes_ Tryd.func41 (w204_) rfl #[.agg #[.int .i64 a0_0, .int .i64 a0_1], .int .i64 (Int.tmod t179 6), .int .i64 (wrap64 ((Int.tmod t181 8) + 2))] (by rfl) rfl rfl maz_ ?_
       with_reducible refine (impl_Hidden_tells.calls k2 a0_0 a0_1 (Int.tmod t179 6) (wrap64 ((Int.tmod t181 8) + 2)) t191 _ A57.out).mono ?_
       rintro e w62 ⟨rfl, hb⟩
       refine ⟨_, rfl, ?_⟩
       have n0_ := Az_ (Kd.R_below (w174_) hb)
       have n3_ := Az_ (IsS125.below (w35_) hb)
       have n5_ := Az_ (btz_ (w76_) hb)
       clear HO_179000 HI177 HB
       have HO_179000 := n0_
       replace BK172 := Az_ (ukbz_ BK172.out hb)
       replace BK173 := Az_ (ukbz_ BK173.out hb)
       have HI177 := n3_
       replace BK178 := Az_ (ukbz_ BK178.out hb)
       have HB := n5_
       clear n0_ n3_ n5_
       clear hb
       refine hK.out _ _ ⟨(blk_cell BK178.out 0).trans rfl, (blk_cell BK172.out 0).trans rfl, (blk_cell BK172.out 1).trans rfl⟩ (fun hHeld => ?_)
       clear hK K
       refine nz_ 61 ?_
       refine pz_ 8 62 [9,4] ?_
       refine one_ (i := 9) (N := some 63) (mz_ [10,3]) rfl rfl (one_of HT_.out (w204_)) (by decide) (fun K hK => ?_)
       refine value_ (w1 := ?_) (v := ?_) (by rfl) rfl ?_ ?_
       rotate_left 2
       ·go_simp
        constructor
        ·rfl
        ·rfl
       refine hK.out _ _ ⟨(blk_cell (kaz_ BK178.out _) 0).trans rfl, (blk_cell (kaz_ BK172.out _) 0).trans rfl, (blk_cell (kaz_ BK172.out _) 1).trans rfl⟩ (fun hHeld => ?_)
       clear hK K
       refine nz_ 63 ?_
       refine one_ (i := 10) (N := some 64) (mz_ [11,2]) rfl rfl (one_of HT_.out (w204_)) (by decide) (fun K hK => ?_)
       refine Kd.R_append_step k40 (w0 := w) w.heap.size (by rfl) (.tmp 55) (.tmp 63) 28 40 (.agg #[(.int .i64 0), (.int .i64 0), (.int .i64 0)]) 24 rfl Tryd.underlying28 info40 rfl (by decide) (by omega) u179000 x179000_2 (⟨Int.tmod t179 6, wrap64 ((Int.tmod t181 8) + 2), t191⟩ : S40) [.int .i64 (Int.tmod t179 6), .int .i64 (wrap64 ((Int.tmod t181 8) + 2)), .int .i64 t191] (fun _ => True) (fun _ => False) rfl rfl ?aP (fun _ hk => hk.elim) ?aF ?aO ?aB ?aS ?aL ?_
       (case aP => exact k40_mkM _ _ _ (⟨Int.tmod t179 6, wrap64 ((Int.tmod t181 8) + 2), t191⟩ : S40))
       (case aB => exact (w76_))
       (case aF => exact (fun _ _ => trivial))
       (case aO => exact (w174_))
       (case aS => exact (below_size (w76_)))
       (case aL => have := LMc58.out; omega)
       intro v193 w63 ho hb hg hat
       rw [← Ny192.out] at ho
       replace BK172 := Az_ (blk_grown (g := gb172) (o := .cells #[.int .i64 a0_0, .int .i64 a0_1] 25 (0, 0)) (w180_) hg (Kd.R_ne HO_179000.out BK172.out (by decide)))
       replace BK173 := Az_ (blk_grown (g := gb173) (o := .cells #[.slice none 0 0] 30 (0, 0)) (w181_) hg (Kd.R_ne HO_179000.out BK173.out (by decide)))
       replace HI177 := Az_ (IsS125.grown (show IsS125 w _ gb177 t182 from w35_) hg (IsS125.own_ne HI177.out HO_179000.out (by decide)))
       replace BK178 := Az_ (blk_grown (g := gb178) (o := .cells #[u179000] 30 (0, 0)) (w182_) hg (Kd.R_ne HO_179000.out BK178.out (by decide)))
       replace HB := Az_ (hb)
       have HO194 := Az_ (ho)
       clear HO_179000
       obtain ⟨Ao64, co64, eo64⟩ := Kd.R_slice HO194.out
       (first | subst eo64 | (injection eo64 with f1_ f2_ f3_; have f4_ := f1_.symm; have f5_ := f3_.symm; clear f1_ f2_ f3_; subst f4_; subst f5_))
       refine hK.out _ _ ⟨(blk_cell BK178.out 0).trans rfl, (blk_cell BK172.out 0).trans rfl, (blk_cell BK172.out 1).trans rfl⟩ (fun hHeld => ?_)
       clear hK K
       refine nz_ 64 ?_
       refine pz_ 11 65 [12,1] ?_
       refine last_ (i := 12) (N := none) (mz_ [13]) rfl rfl (one_of HT_.out (w204_)) (by decide) (fun K hK => ?_)
       have hs65 : w63.cell? ⟨gb178, 0, none⟩ = some (u179000) := (blk_cell BK178.out 0).trans rfl
       have hfs65 := blk_frozen BK178.out 0
       have hns65_0 := NB172_178.out
       have hns65_1 := NB173_178.out
       have hms65_0 := NB178_172.out
       have hms65_1 := NB178_173.out
       refine skip_ (w1 := ?_) (by rfl) rfl ?_ ?_
       rotate_left
       ·go_simp
        rfl
       refine hK.out _ _ ?_
       clear hK K
       refine done_ (done_of HT_.out (w204_)) ?_
       try go_wp2
       go_roundg k2
       case measure => have := HJ3.out; have := HK2.out; omega
       case rel => exact ⟨(wrap64 (x32_2 + 1)), (t182), (y192), (.slice Ao64 y192.length co64), qaz_, H', ⟨w172_⟩, ⟨by (with_reducible repeat (first | apply raz_ | apply rnz_ | apply rdz_)); exact Kd.R_mono (Kd.R_far (p := ⟨gb178, 0, none⟩) (Kd.R_types HO194.out BK178.out (by decide)) (fun _ hk => hk.2) (.slice Ao64 y192.length co64)) (fun _ hk => trivial)⟩, ⟨w79_⟩, ⟨w80_⟩, ⟨And.left (show IsS125 w _ gb177 _ from w35_)⟩, ⟨w75_⟩, ⟨w76_⟩⟩
      ·rw [if_neg c33] at H
       have c33b0 := decide_eq_false c33
       clear c33
       simp only [Option.some.injEq, Prod.mk.injEq] at H
       obtain ⟨rfl, rfl⟩ := H
       have hnb75 := NB178_172.out
       have hnc75 := NB172_178.out
       have hnb76 := NB178_173.out
       have hnc76 := NB173_178.out
       have hnb77 := NB178_177.out
       have hnc77 := NB177_178.out
       have hcz78_0 := cz_ (x := u179000) BK178 0
       have hfz78_0 := blk_frozen BK178.out 0
       obtain ⟨Ao79, co79, eo79⟩ := Kd.R_slice HO_179000.out
       subst eo79
       have hnb80 := NB173_172.out
       have hnc80 := NB172_173.out
       have hnb81 := NB173_177.out
       have hnc81 := NB177_173.out
       have hcz82_0 := cz_ (x := .slice none 0 0) BK173 0
       have hfz82_0 := blk_frozen BK173.out 0
       go_wp2
       refine bodyPost_ret (results_ct rfl _ _ gb173 30 #[.slice Ao79 x179000_2.length co79] (0, 0) _ rfl (w40_) Tryd.underlying30 rfl (w204_)) rfl ?_
       exact ⟨_, w166_, by (with_reducible repeat (first | apply raz_ | apply rnz_ | apply rdz_)); exact Kd.R_mono (Kd.R_far (p := ⟨gb173, 0, none⟩) (Kd.R_types HO_179000.out BK173.out (by decide)) (fun _ hk => hk.2) (.slice Ao79 x179000_2.length co79)) (fun _ hk => trivial), w129_⟩


def spec_l1In.f (a0 : Int) (a1 : Int) (a2 : Int) : Option (Bool) := if a0 ≥ a1 then (some (decide (a0 ≤ a2))) else (some false)
set_option maxHeartbeats 8000000 in
set_option maxRecDepth 100000 in
theorem spec_l1In.calls (a0 : Int) (a1 : Int) (a2 : Int) (r : Bool) (w : World) (h : spec_l1In.f a0 a1 a2 = some r) :
  Calls Tryd.prog 43 #[.int .i64 a0, .int .i64 a1, .int .i64 a2] w fun e w' => e = .returned (.bool r) ∧ Drawn0 w w' := by
 have H : (if a0 ≥ a1 then (some (decide (a0 ≤ a2))) else (some false)) = some r := h
 clear h
 by_cases c4 : a0 ≥ a1
 ·rw [if_pos c4] at H
  have c4b0 := decide_eq_true c4
  clear c4
  obtain rfl := Option.some.inj H
  go_enter Tryd.func43, Tryd.ntmps43
  go_wp2
  go_ret
  exact ⟨w171_, w168_⟩
 ·rw [if_neg c4] at H
  have c4b0 := decide_eq_false c4
  clear c4
  obtain rfl := Option.some.inj H
  go_enter Tryd.func43, Tryd.ntmps43
  go_wp2
  go_ret
  exact ⟨w171_, w168_⟩

def spec_pzBook.f (a0_0 : Int) (a0_1 : Int) : Option (Bool) := (spec_l1In.f a0_0 2 40).bind fun t200 => (if t200 = true then ((spec_l1In.f a0_1 1 (wrap64 (Int.tdiv a0_0 2))).bind fun t201 => (some t201)) else (some false))
set_option maxHeartbeats 8000000 in
set_option maxRecDepth 100000 in
theorem spec_pzBook.calls (a0_0 : Int) (a0_1 : Int) (r : Bool) (w : World) (h : spec_pzBook.f a0_0 a0_1 = some r) :
  Calls Tryd.prog 42 #[.agg #[.int .i64 a0_0, .int .i64 a0_1]] w fun e w' => e = .returned (.bool r) ∧ Below w.heap.size w w' := by
 have hu25 := Tryd.underlying25
 have HB := Az_ (Below.refl w.heap.size w)
 have H : ((spec_l1In.f a0_0 2 40).bind fun t200 => (if t200 = true then ((spec_l1In.f a0_1 1 (wrap64 (Int.tdiv a0_0 2))).bind fun t201 => (some t201)) else (some false))) = some r := h
 clear h
 replace H := bqz_ H; obtain ⟨t200, A2, H⟩ := H
 replace H : (if t200 = true then ((spec_l1In.f a0_1 1 (wrap64 (Int.tdiv a0_0 2))).bind fun t201 => (some t201)) else (some false)) = some r := H
 by_cases c3 : t200 = true
 ·subst c3
  rw [if_pos rfl] at H
  replace H := bqz_ H; obtain ⟨t201, A4, H⟩ := H
  replace H : (some t201) = some r := H
  obtain rfl := Option.some.inj H
  go_enter Tryd.func42, Tryd.ntmps42
  go_wp2_with (first | ((with_reducible refine gate_dst (N := 1) rfl ?_); refine bxe_ (N := 1) (cs := #[.int .i64 a0_0, .int .i64 a0_1]) (t := 25) ?_; intro gb199 hg w5 BK199 hb; have GW199 := gez_ hg (ubz_ HB.out); have GE199 := GW199; replace HB := Az_ (btz_ (ubz_ HB.out) hb); clear hb hg; have hcz6_0 := cz_ (x := .int .i64 a0_0) BK199 0; have hcz6_1 := cz_ (x := .int .i64 a0_1) BK199 1; have hfz6_0 := blk_frozen BK199.out 0; have hfz6_1 := blk_frozen BK199.out 1) | ((with_reducible refine gate_callee (f := 43) rfl ?_); refine goesL_ (some 5) rfl rfl Tryd.func43 (w204_) rfl #[.int .i64 a0_0, .int .i64 2, .int .i64 40] rfl maz_ ?_; (with_reducible refine (spec_l1In.calls a0_0 2 40 true _ A2.out).mono ?_); rintro e w' ⟨rfl, ⟨nd, rfl⟩⟩; refine ⟨_, rfl, ?_⟩) | (go_at_call 43; (with_reducible refine (spec_l1In.calls a0_1 1 (wrap64 (Int.tdiv a0_0 2)) t201 _ A4.out).mono ?_); rintro e w' ⟨rfl, ⟨nd, rfl⟩⟩))
  go_ret
  exact ⟨w166_, w129_⟩
 ·replace c3 := Bool.eq_false_iff.mpr c3
  subst c3
  rw [if_neg nfz_] at H
  obtain rfl := Option.some.inj H
  go_enter Tryd.func42, Tryd.ntmps42
  go_wp2_with (first | ((with_reducible refine gate_dst (N := 1) rfl ?_); refine bxe_ (N := 1) (cs := #[.int .i64 a0_0, .int .i64 a0_1]) (t := 25) ?_; intro gb199 hg w7 BK199 hb; have GW199 := gez_ hg (ubz_ HB.out); have GE199 := GW199; replace HB := Az_ (btz_ (ubz_ HB.out) hb); clear hb hg; have hcz8_0 := cz_ (x := .int .i64 a0_0) BK199 0; have hcz8_1 := cz_ (x := .int .i64 a0_1) BK199 1; have hfz8_0 := blk_frozen BK199.out 0; have hfz8_1 := blk_frozen BK199.out 1) | ((with_reducible refine gate_callee (f := 43) rfl ?_); refine goesL_ (some 5) rfl rfl Tryd.func43 (w204_) rfl #[.int .i64 a0_0, .int .i64 2, .int .i64 40] rfl maz_ ?_; (with_reducible refine (spec_l1In.calls a0_0 2 40 false _ A2.out).mono ?_); rintro e w' ⟨rfl, ⟨nd, rfl⟩⟩; refine ⟨_, rfl, ?_⟩))
  go_ret
  exact ⟨w166_, w129_⟩

def spec_pzNext.f (a0 : Int) : Option (Int) := some (Int.tmod (wrap64 ((wrap64 (311 * a0)) + 503)) 10007)
set_option maxHeartbeats 8000000 in
set_option maxRecDepth 100000 in
theorem spec_pzNext.calls (a0 : Int) (r : Int) (w : World) (h : spec_pzNext.f a0 = some r) :
  Calls Tryd.prog 44 #[.int .i64 a0] w fun e w' => e = .returned (.int .i64 r) ∧ Drawn0 w w' := by
 have H : (some (Int.tmod (wrap64 ((wrap64 (311 * a0)) + 503)) 10007)) = some r := h
 clear h
 obtain rfl := Option.some.inj H
 go_enter Tryd.func44, Tryd.ntmps44
 go_wp2
 go_ret
 exact ⟨w171_, w168_⟩

def spec_bpSum.f (a0 : Int) : Option (Int) := some (wrap64 (Int.tdiv (wrap64 (a0 * (wrap64 (a0 + 1)))) 2))
set_option maxHeartbeats 8000000 in
set_option maxRecDepth 100000 in
theorem spec_bpSum.calls (a0 : Int) (r : Int) (w : World) (h : spec_bpSum.f a0 = some r) :
  Calls Tryd.prog 75 #[.int .i64 a0] w fun e w' => e = .returned (.int .i64 r) ∧ Drawn0 w w' := by
 have H : (some (wrap64 (Int.tdiv (wrap64 (a0 * (wrap64 (a0 + 1)))) 2))) = some r := h
 clear h
 obtain rfl := Option.some.inj H
 go_enter Tryd.func75, Tryd.ntmps75
 go_wp2
 go_ret
 exact ⟨w171_, w168_⟩

def spec_l1Num.f : Nat → Int → Option (ByteArray)
 | 0, _ => none
 | k + 1, a0 => if a0 < 10 then (some (strOfNums (([(wrap64 (48 + a0)) % 256] : List Int)))) else ((spec_l1Num.f k (wrap64 (Int.tdiv a0 10))).bind fun t205 => ((some (([(wrap64 (48 + (Int.tmod a0 10))) % 256] : List Int) : List Int)).bind fun y206 => (if t205.size + (strOfNums y206).size ≤ 9223372036854775807 then (some (t205 ++ (strOfNums y206))) else (none))))
theorem spec_l1Num.mono_l : ∀ k, (∀ y0, LeO (spec_l1Num.f k y0) (spec_l1Num.f (k + 1) y0))
 | 0 => fun _ r h => by simp [spec_l1Num.f] at h
 | k + 1 => by
  have ih0 := spec_l1Num.mono_l k
  ·intro y0
   unfold spec_l1Num.f
   repeat' (with_reducible first | exact ih0 _ | exact LeO.refl _ | exact LeO.none _ | refine LeO.ite ?_ ?_ | refine LeO.bind ?_ (fun _ => ?_))
theorem spec_l1Num.mono : ∀ a0 k, LeO (spec_l1Num.f k a0) (spec_l1Num.f (k + 1) a0) := by
 intro a0 k
 have ih0 := spec_l1Num.mono_l k
 exact ih0 a0
def spec_l1Num.T3 : Bool × List (List Nat × List Nat) := (true, [([], []), ([0], [0]), ([1], [1]), ([], []), ([3], [3]), ([4], [4]), ([5], [5]), ([6], [6]), ([7], [7]), ([2, 8], [2, 8]), ([9, 2, 0, 1, 2, 3, 4, 5, 6, 7, 8, 9], [9])])
def spec_l1Num.B3 : List Nat := [0, 1, 3, 0, 8, 24, 56, 120, 248, 511, 1023]
theorem spec_l1Num.tab3 : rtab .any (opsOf Tryd.f77 3) = spec_l1Num.T3 := by kernel_rfl
theorem spec_l1Num.bits3 : waitsOk spec_l1Num.T3.2 spec_l1Num.B3 = true := by kernel_rfl
set_option maxHeartbeats 8000000 in
set_option maxRecDepth 100000 in
theorem spec_l1Num.calls (k : Nat) : ∀ (a0 : Int) (r : ByteArray) (w : World) (h : spec_l1Num.f k a0 = some r),
  Calls Tryd.prog 77 #[.int .i64 a0] w fun e w' => e = .returned (.string r) ∧ Below w.heap.size w w' := by
 induction k using Nat.strongRecOn with
 | _ k ih =>
 intro a0 r w h
 cases k with
 | zero => exact absurd h (by simp [spec_l1Num.f])
 | succ k =>
 simp only [spec_l1Num.f] at h
 have HB := Az_ (Below.refl w.heap.size w)
 have H : (if a0 < 10 then (some (strOfNums (([(wrap64 (48 + a0)) % 256] : List Int)))) else ((spec_l1Num.f k (wrap64 (Int.tdiv a0 10))).bind fun t205 => ((some (([(wrap64 (48 + (Int.tmod a0 10))) % 256] : List Int) : List Int)).bind fun y206 => (if t205.size + (strOfNums y206).size ≤ 9223372036854775807 then (some (t205 ++ (strOfNums y206))) else (none))))) = some r := h
 clear h
 by_cases c2 : a0 < 10
 ·rw [if_pos c2] at H
  have c2b0 := decide_eq_true c2
  clear c2
  obtain ⟨y202, hy202⟩ : ∃ y_ : List Int, y_ = (([(wrap64 (48 + a0)) % 256] : List Int)) := ⟨_, rfl⟩
  replace H : (some (strOfNums y202)) = some r := by first | (rw [hy202]; with_reducible exact H) | (have H2_ := (Option.bind_some _ _).symm.trans H; rw [hy202]; with_reducible exact H2_) | (have H2_ := (Option.bind_some _ _).symm.trans H; with_reducible exact H2_) | with_reducible exact H | (rw [hy202]; exact H) | exact H
  have Ny202 := Az_ hy202
  clear hy202
  obtain rfl := Option.some.inj H
  go_enter Tryd.func77, Tryd.ntmps77
  go_wp2_with (((with_reducible refine gate_dst (N := 8) rfl ?_); refine Kd.R_lit (Kd.int .u8) _ 5 ?hg (N := 8) ?hd (xs := ([(wrap64 (48 + a0)) % 256] : List Int)) (inner := [.int .u8 ((wrap64 (48 + a0)) % 256)]) (ok := fun _ => True) (okp := fun _ => True) ?hr ?hp (fun _ hk => hk) trivial (Below.refl _ _) (Nat.le_refl _) (by simp) ?_; (case hd => rfl); (case hg => rfl); (case hr => first | (go_simp; done) | (go_simp; rfl)); (case hp => exact (Reps.one (show Kd.M (Kd.int .u8) _ _ _ ((wrap64 (48 + a0)) % 256) [.int .u8 ((wrap64 (48 + a0)) % 256)] from rfl) (Reps.none _ _))); intro v203 w3 ho4 hb hg_ hnew_; clear hg_ hnew_; (first | rw [← Ny202.out] at ho4 | (simp only [Int.reduceToNat] at ho4; rw [← Ny202.out] at ho4)); have HO204 := Az_ (Kd.R_lower ho4 (below_size (ubz_ HB.out))); replace HB := Az_ (btz_ (ubz_ HB.out) hb); clear hb ho4; have hcv5 := own_string (P := Tryd.prog) Tryd.underlying22 Tryd.underlying5 Tryd.underlying9 (Kd.own_of_R HO204.out)))
  go_ret
  exact ⟨w166_, w203_⟩
 ·rw [if_neg c2] at H
  have c2b0 := decide_eq_false c2
  clear c2
  replace H := bqz_ H; obtain ⟨t205, A6, H⟩ := H
  replace H : ((some (([(wrap64 (48 + (Int.tmod a0 10))) % 256] : List Int) : List Int)).bind fun y206 => (if t205.size + (strOfNums y206).size ≤ 9223372036854775807 then (some (t205 ++ (strOfNums y206))) else (none))) = some r := H
  obtain ⟨y206, hy206⟩ : ∃ y_ : List Int, y_ = (([(wrap64 (48 + (Int.tmod a0 10))) % 256] : List Int)) := ⟨_, rfl⟩
  replace H : (if t205.size + (strOfNums y206).size ≤ 9223372036854775807 then (some (t205 ++ (strOfNums y206))) else (none)) = some r := by first | (rw [hy206]; with_reducible exact H) | (have H2_ := (Option.bind_some _ _).symm.trans H; rw [hy206]; with_reducible exact H2_) | (have H2_ := (Option.bind_some _ _).symm.trans H; with_reducible exact H2_) | with_reducible exact H | (rw [hy206]; exact H) | exact H
  have Ny206 := Az_ hy206
  clear hy206
  by_cases c7 : t205.size + (strOfNums y206).size ≤ 9223372036854775807
  ·rw [if_pos c7] at H
   have c7b0 := eq_true c7
   have c7b1 := decide_eq_true c7
   try have c7b2 : (9223372036854775807 < t205.size + (strOfNums y206).size) = False := eq_false (Nat.not_lt.2 c7)
   obtain rfl := Option.some.inj H
   go_enter Tryd.func77, Tryd.ntmps77
   try go_wp2
   replace HB := Az_ (bdz_ HB.out)
   refine start_ (n := 11) (S := fun w' => True) (ds := []) #[false, false, false, false, false, false, false, false, false, false, false] (w204_) rfl rfl trivial (fun hHeld => ?_); refine with_tabW spec_l1Num.tab3 spec_l1Num.bits3 (fun HT_ HW_ => ?_)
   generalize w.drew = w8 at HB hHeld ⊢
   refine pz_ 0 10 [1,10] ?_
   refine pz_ 1 11 [2,9] ?_
   refine pz_ 3 13 [2,1,1,7] ?_
   refine pz_ 4 14 [2,1,2,6] ?_
   refine pz_ 5 15 [2,1,3,5] ?_
   refine pz_ 6 16 [2,1,4,4] ?_
   refine join_ (σ := Value) 2 #[true, true, true, true, true, true, true, true, true, false, false] (fun s_ => [(12, .string t205), (17, s_), (18, .string (strOfNums y206))]) (fun s_ w' => (Kd.R (Kd.int .u8) 5 w' w.heap.size (fun _ => True) s_ y206) ∧ (Below w.heap.size w w')) ?_ ?_
   rotate_left
   ·intro hCont
    refine two_ (i := 2) (j := 7) (Ni := some 12) (Nj := some 17) (mz_ [7,4]) #[true, true, false, true, true, true, true, true, false, false, false] rfl rfl rfl rfl (two_of HT_.out (w204_)) (by decide) (by decide) (fun K hK => ?_) (fun K hK => ?_)
    ·skip
     refine goes_ Tryd.func77 (w204_) rfl #[.int .i64 (wrap64 (Int.tdiv a0 10))] (by rfl) rfl rfl maz_ ?_
     with_reducible refine (ih k (by omega) (wrap64 (Int.tdiv a0 10)) t205 _ A6.out).mono ?_
     rintro e w9 ⟨rfl, hb⟩
     refine ⟨_, rfl, ?_⟩
     replace HB := Az_ (btz_ (ubz_ HB.out) hb)
     clear hb
     refine hK.out _ _ trivial (fun hHeld => ?_)
     clear hK K
     refine nz_ 12 ?_
     refine one_ (i := 7) (N := some 17) (mz_ [8,3]) rfl rfl (one_of HT_.out (w204_)) (by decide) (fun K hK => ?_)
     refine Kd.R_lit_step (Kd.int .u8) _ 5 ?hg (N := 17) ?hd (xs := ([(wrap64 (48 + (Int.tmod a0 10))) % 256] : List Int)) (inner := [.int .u8 ((wrap64 (48 + (Int.tmod a0 10))) % 256)]) (ok := fun _ => True) (okp := fun _ => True) ?hr ?hp (fun _ hk => hk) trivial (Below.refl _ _) (Nat.le_refl _) (by simp) ?_; (case hd => rfl); (case hg => rfl); (case hr => first | (go_simp; done) | (go_simp; rfl)); (case hp => exact (Reps.one (show Kd.M (Kd.int .u8) _ _ _ ((wrap64 (48 + (Int.tmod a0 10))) % 256) [.int .u8 ((wrap64 (48 + (Int.tmod a0 10))) % 256)] from rfl) (Reps.none _ _)))
     intro v207 w10 ho11 hb hg_ hnew_
     clear hg_ hnew_
     (first | rw [← Ny206.out] at ho11 | (simp only [Int.reduceToNat] at ho11; rw [← Ny206.out] at ho11))
     have HO208 := Az_ (Kd.R_lower ho11 (below_size (ubz_ HB.out)))
     replace HB := Az_ (btz_ (ubz_ HB.out) hb)
     refine hK.out _ _ trivial (fun hHeld => ?_)
     clear hK K
     refine nz_ 17 ?_
     refine one_ (i := 8) (N := some 18) (mz_ [9,2]) rfl rfl (one_of HT_.out (w204_)) (by decide) (fun K hK => ?_)
     have hcv12 := own_string (P := Tryd.prog) Tryd.underlying22 Tryd.underlying5 Tryd.underlying9 (Kd.own_of_R HO208.out)
     refine value_ (w1 := ?_) (v := ?_) (by rfl) rfl ?_ ?_
     rotate_left 2
     ·go_simp
      constructor
      ·rfl
      ·rfl
     clear hcv12
     refine hK.out _ _ trivial (fun hHeld => ?_)
     clear hK K
     refine nz_ 18 ?_
     exact norm_ (w165_) (hCont (v207) _ ⟨(by exact urz_ HO208.out), (ubz_ HB.out)⟩)
    ·skip
     refine Kd.R_lit_step (Kd.int .u8) _ 5 ?hg (N := 17) ?hd (xs := ([(wrap64 (48 + (Int.tmod a0 10))) % 256] : List Int)) (inner := [.int .u8 ((wrap64 (48 + (Int.tmod a0 10))) % 256)]) (ok := fun _ => True) (okp := fun _ => True) ?hr ?hp (fun _ hk => hk) trivial (Below.refl _ _) (Nat.le_refl _) (by simp) ?_; (case hd => rfl); (case hg => rfl); (case hr => first | (go_simp; done) | (go_simp; rfl)); (case hp => exact (Reps.one (show Kd.M (Kd.int .u8) _ _ _ ((wrap64 (48 + (Int.tmod a0 10))) % 256) [.int .u8 ((wrap64 (48 + (Int.tmod a0 10))) % 256)] from rfl) (Reps.none _ _)))
     intro v207 w9 ho10 hb hg_ hnew_
     clear hg_ hnew_
     (first | rw [← Ny206.out] at ho10 | (simp only [Int.reduceToNat] at ho10; rw [← Ny206.out] at ho10))
     have HO208 := Az_ (Kd.R_lower ho10 (below_size (ubz_ HB.out)))
     replace HB := Az_ (btz_ (ubz_ HB.out) hb)
     refine hK.out _ _ trivial (fun hHeld => ?_)
     clear hK K
     refine nz_ 17 ?_
     refine two_ (i := 2) (j := 8) (Ni := some 12) (Nj := some 18) (mz_ [8,3]) #[true, true, false, true, true, true, true, true, true, false, false] rfl rfl rfl rfl (two_of HT_.out (w204_)) (by decide) (by decide) (fun K hK => ?_) (fun K hK => ?_)
     ·skip
      refine goes_ Tryd.func77 (w204_) rfl #[.int .i64 (wrap64 (Int.tdiv a0 10))] (by rfl) rfl rfl maz_ ?_
      with_reducible refine (ih k (by omega) (wrap64 (Int.tdiv a0 10)) t205 _ A6.out).mono ?_
      rintro e w11 ⟨rfl, hb⟩
      refine ⟨_, rfl, ?_⟩
      replace HO208 := Az_ (Kd.R_below (by exact urz_ HO208.out) hb)
      replace HB := Az_ (btz_ (ubz_ HB.out) hb)
      clear hb
      refine hK.out _ _ trivial (fun hHeld => ?_)
      clear hK K
      refine nz_ 12 ?_
      refine one_ (i := 8) (N := some 18) (mz_ [9,2]) rfl rfl (one_of HT_.out (w204_)) (by decide) (fun K hK => ?_)
      have hcv12 := own_string (P := Tryd.prog) Tryd.underlying22 Tryd.underlying5 Tryd.underlying9 (Kd.own_of_R HO208.out)
      refine value_ (w1 := ?_) (v := ?_) (by rfl) rfl ?_ ?_
      rotate_left 2
      ·go_simp
       constructor
       ·rfl
       ·rfl
      clear hcv12
      refine hK.out _ _ trivial (fun hHeld => ?_)
      clear hK K
      refine nz_ 18 ?_
      exact norm_ (w165_) (hCont (v207) _ ⟨(by exact urz_ HO208.out), (ubz_ HB.out)⟩)
     ·skip
      have hcv11 := own_string (P := Tryd.prog) Tryd.underlying22 Tryd.underlying5 Tryd.underlying9 (Kd.own_of_R HO208.out)
      refine value_ (w1 := ?_) (v := ?_) (by rfl) rfl ?_ ?_
      rotate_left 2
      ·go_simp
       constructor
       ·rfl
       ·rfl
      clear hcv11
      refine hK.out _ _ trivial (fun hHeld => ?_)
      clear hK K
      refine nz_ 18 ?_
      refine one_ (i := 2) (N := some 12) (mz_ [9,2]) rfl rfl (one_of HT_.out (w204_)) (by decide) (fun K hK => ?_)
      refine goes_ Tryd.func77 (w204_) rfl #[.int .i64 (wrap64 (Int.tdiv a0 10))] (by rfl) rfl rfl maz_ ?_
      with_reducible refine (ih k (by omega) (wrap64 (Int.tdiv a0 10)) t205 _ A6.out).mono ?_
      rintro e w12 ⟨rfl, hb⟩
      refine ⟨_, rfl, ?_⟩
      replace HO208 := Az_ (Kd.R_below (by exact urz_ HO208.out) hb)
      replace HB := Az_ (btz_ (ubz_ HB.out) hb)
      clear hb
      refine hK.out _ _ trivial (fun hHeld => ?_)
      clear hK K
      refine nz_ 12 ?_
      exact norm_ (w165_) (hCont (v207) _ ⟨(by exact urz_ HO208.out), (ubz_ HB.out)⟩)
   rintro v207 w13 ⟨h0_, h1_⟩
   have n0_ : Aside0 (Kd.R (Kd.int .u8) 5 w13 w.heap.size (fun _ => True) v207 y206) := ⟨h0_⟩
   have n1_ : Aside0 (Below w.heap.size w w13) := ⟨h1_⟩
   clear HB h0_ h1_
   have HO208 := n0_
   have HB := n1_
   clear n0_ n1_
   have hHeld := trivial
   refine norm_ (a' := ?_) ?_ ?_
   rotate_left
   ·simp only [putAll, Act.put, List.setIfInBounds_toArray, List.set_cons_zero, List.set_cons_succ]
    rfl
   refine pz_ 9 19 [10,1] ?_
   refine pz_ 10 2 [11] ?_
   refine done_ (done_of HT_.out (w204_)) ?_
   try go_wp2
   go_ret
   exact ⟨w166_, w203_⟩
  ·rw [if_neg c7] at H
   exact absurd H (by simp)

def spec_bpDigits.l0 : Nat → Int → Int → Int → Option (Int)
 | 0, _, _, _ => none
 | k + 1, x0, x3, x4 => if x4 ≤ x0 then ((spec_l1Num.f k x4).bind fun t209 => (spec_bpDigits.l0 k x0 (wrap64 (x3 + (t209.size : Int))) (wrap64 (x4 + 1)))) else (some x3)
def spec_bpDigits.f (k : Nat) (a0 : Int) : Option (Int) := spec_bpDigits.l0 k a0 0 1
theorem spec_bpDigits.mono_l : ∀ k, (∀ y0 y1 y2, LeO (spec_bpDigits.l0 k y0 y1 y2) (spec_bpDigits.l0 (k + 1) y0 y1 y2))
 | 0 => fun _ _ _ r h => by simp [spec_bpDigits.l0] at h
 | k + 1 => by
  have ih0 := spec_bpDigits.mono_l k
  ·intro y0 y1 y2
   unfold spec_bpDigits.l0
   repeat' (with_reducible first | exact ih0 _ _ _ | exact spec_l1Num.mono _ _ | exact LeO.refl _ | exact LeO.none _ | refine LeO.ite ?_ ?_ | refine LeO.bind ?_ (fun _ => ?_))
theorem spec_bpDigits.mono : ∀ a0 k, LeO (spec_bpDigits.f k a0) (spec_bpDigits.f (k + 1) a0) := by
 intro a0 k
 have ih0 := spec_bpDigits.mono_l k
 unfold spec_bpDigits.f
 repeat' (with_reducible first | exact ih0 _ _ _ | exact spec_l1Num.mono _ _ | exact LeO.refl _ | exact LeO.none _ | refine LeO.ite ?_ ?_ | refine LeO.bind ?_ (fun _ => ?_))
set_option maxHeartbeats 8000000 in
set_option maxRecDepth 100000 in
theorem spec_bpDigits.calls (k : Nat) (a0 : Int) (r : Int) (w : World) (h : spec_bpDigits.f k a0 = some r) :
  Calls Tryd.prog 76 #[.int .i64 a0] w fun e w' => e = .returned (.int .i64 r) ∧ Below w.heap.size w w' := by
 have HB := Az_ (Below.refl w.heap.size w)
 have H : (spec_bpDigits.l0 k a0 0 1) = some r := h
 clear h
 have H' := Az_ H
 clear H
 go_enter Tryd.func76, Tryd.ntmps76
 go_wp2
 go_loopg [3, 4] k (fun kq v3 v4 w' => ∃ (x3_1 : Int) (x4_1 : Int), v3 = .int .i64 x3_1 ∧ v4 = .int .i64 x4_1 ∧ Aside0 (spec_bpDigits.l0 kq a0 x3_1 x4_1 = some r) ∧ Aside0 (kq ≤ k) ∧ Aside0 (Below w.heap.size w w'))
 case atStart => exact ⟨(0), (1), qaz_, qaz_, H', ⟨Nat.le_refl _⟩, ⟨w203_⟩⟩
 case round =>
  clear H'
  obtain ⟨x3_1, x4_1, rfl, rfl, HA, HK1, HB⟩ := hrel
  cases gk with
  | zero => exact absurd HA.out (by simp [spec_bpDigits.l0])
  | succ k1 =>
   have H := HA.out
   clear HA
   simp only [spec_bpDigits.l0] at H
   by_cases c2 : x4_1 ≤ a0
   ·rw [if_pos c2] at H
    have c2b0 := decide_eq_true c2
    clear c2
    replace H := bqz_ H; obtain ⟨t209, A3, H⟩ := H
    replace H : (spec_bpDigits.l0 k1 a0 (wrap64 (x3_1 + (t209.size : Int))) (wrap64 (x4_1 + 1))) = some r := H
    have H' := Az_ H
    clear H
    go_wp2_with (((with_reducible refine gate_callee (f := 77) rfl ?_); refine goesL_ (some 12) rfl rfl Tryd.func77 (w204_) rfl #[.int .i64 x4_1] rfl maz_ ?_; (with_reducible refine (spec_l1Num.calls k1 x4_1 t209 _ A3.out).mono ?_); rintro e w4 ⟨rfl, hb⟩; refine ⟨_, rfl, ?_⟩; replace HB := Az_ (btz_ (ubz_ HB.out) hb); (try clear hb)))
    go_roundg k1
    case measure => have := HK1.out; omega
    case rel => exact ⟨(wrap64 (x3_1 + (t209.size : Int))), (wrap64 (x4_1 + 1)), qaz_, qaz_, H', ⟨w177_⟩, ⟨w203_⟩⟩
   ·rw [if_neg c2] at H
    have c2b0 := decide_eq_false c2
    clear c2
    obtain rfl := Option.some.inj H
    go_wp2
    go_ret
    exact ⟨w166_, w203_⟩

end Go.Proofs.YtodacdcbeleleaaDoor.P
end
