/- slices.Clone makes a row of its own with the same elements; asked that these take at most 2^47 bytes. -/
import Derived.Test.YtmdpiagpkocheaaZfir1
import Derived.Lib.SliceRun
import Derived.Laws.CopyOwn
import Derived.Test.YtmdpiagpkocheaaZfir0
import Derived.Maps.OwnSet
import Derived.Maps.RangeWalk
import Derived.DeepKeys4
import Derived.Test.YtmdpiagpkocheaaWKept
import Derived.Test.YtmdpiagpkocheaaWMore
/-! slices.Clone makes a row of its own with the same elements; asked that these take at most 2^47 bytes. -/
section
namespace Go.Proofs.Ytmdpiagpkocheaa.P
open Go.RowKit Go.Proofs.YtmdpiagpkocheaaW.PrintWords Go.Proofs.YtmdpiagpkocheaaW.PrintLast Go.Proofs.YtmdpiagpkocheaaW.PrintMore
set_option linter.unusedVariables false
set_option linter.unusedSimpArgs false

def clone_Int.f (l0 : List Int) : Option (List Int) := if l0.length < 17592186044416 then some l0 else none
theorem info_cloneInt : (Try.prog.info? 3).map (fun i => (i.zero, i.size, i.bytes)) = some (some (.int .i64 0), 1, 8) := by kernel_rfl
set_option maxHeartbeats 8000000 in
set_option maxRecDepth 100000 in
theorem clone_Int.calls (A0 : Option Addr) (c0 : Nat) (l0 : List Int) (r : List Int) (w : World) (hr0 : Kd.C (Kd.int .i64) w A0 l0.length l0) (hc0 : l0.length ≤ c0) (h : clone_Int.f l0 = some r) :
    Calls Try.prog 36 #[.slice A0 l0.length c0] w fun e w' => ∃ v0_ : Value, e = .returned (v0_) ∧ Kd.R (Kd.int .i64) 3 w' w.heap.size (fun _ => True) v0_ r ∧ Below w.heap.size w w' := by
  unfold clone_Int.f at h
  by_cases c2 : l0.length < 17592186044416
  · rw [if_pos c2] at h
    obtain rfl := Option.some.inj h
    have hnil := fun W => Lib.run_eql_slice_nil (P := Try.prog) W 22 3 A0 l0.length c0 0 0 Try.underlying22
    have HR0 := Aside0.mk hr0
    have LMc2 := Aside0.mk c2
    have HB := Aside0.mk (Below.refl w.heap.size w)
    clear hr0 c2 h hc0
    cases A0 with
    | none =>
      have e : l0 = [] := by
        cases l0 with
        | nil => rfl
        | cons x l =>
          obtain ⟨ad, he, _⟩ := HR0.out.2.2 (by simp)
          cases he
      subst e
      simp only [Option.isNone_none, List.length_nil] at hnil
      simp only [List.length_nil]
      go_enter Try.func36, Try.ntmps36
      go_wp2
      go_ret
      exact ⟨_, rfl, Kd.R_nil _ _ _ _ _, HB.out⟩
    | some ad =>
      simp only [Option.isNone_some] at hnil
      go_enter Try.func36, Try.ntmps36
      go_wp2_with (first | ((with_reducible refine gate_dst (N := 5) rfl ?_); refine Kd.R_lit (Kd.int .i64) _ 3 ?hg (N := 5) ?hd (xs := ([] : List Int)) (inner := []) (ok := fun _ => True) (okp := fun _ => True) ?hr ?hp (fun _ hk => hk) trivial (Below.refl _ _) (Nat.le_refl _) (by simp) ?_; (case hd => rfl); (case hg => rfl); (case hr => first | (go_simp; done) | (go_simp; rfl)); (case hp => exact (Reps.none _ _)); intro v195 w3 ho4 hb hg_ hnew_; clear hg_ hnew_; have n0_ := Aside0.mk (Kd.R_lower ho4 (below_size (by repeat (first | (with_reducible first | exact HB.out | apply below_alloc | apply pw_below_drewN | apply below_drew1) | exact HB.out)))); have n1_ := Aside0.mk (below_step (by repeat (first | (with_reducible first | exact HB.out | apply below_alloc | apply pw_below_drewN | apply below_drew1) | exact HB.out)) hb); clear HB; have HO196 := n0_; have HB := n1_; clear n0_ n1_; clear hb ho4) | ((with_reducible refine gate_builtin (b := .append) (xs := #[.tmp 5, .tmp 6]) rfl ?_); at_builtin; refine Kd.R_append_rows (Kd.int .i64) (w0 := w) w.heap.size rfl (.tmp 5) (.tmp 6) 22 3 (.int .i64 0) 8 rfl Try.underlying22 info_cloneInt rfl (by decide) (by omega) v195 [] l0 _ _ _ (fun _ => True) (fun _ => False) rfl rfl ?aO ?aR (fun _ _ h => h) (fun _ h => h.elim) ?aF ?aB ?aS ?aL ?_; (case aR => repeat (first | exact (Kd.C_below HR0.out HB.out) | (with_reducible refine Kd.C_alloc ?_ _) | (with_reducible refine Kd.C_drewN ?_ _) | (with_reducible refine Kd.C_drew ?_))); (case aB => exact (by repeat (first | (with_reducible first | exact HB.out | apply below_alloc | apply pw_below_drewN | apply below_drew1) | exact HB.out))); (case aF => exact (fun _ _ => trivial)); (case aO => exact (by (with_reducible repeat (first | apply Kd.R_alloc | apply Kd.R_drewN | apply Kd.R_drew)); exact HO196.out)); (case aS => exact (below_size (by repeat (first | (with_reducible first | exact HB.out | apply below_alloc | apply pw_below_drewN | apply below_drew1) | exact HB.out)))); (case aL => have := LMc2.out; simp; omega); intro v198 w5 ho hb hg hat; rw [List.nil_append] at ho; have n0_ := Aside0.mk (hb); have n1_ := Aside0.mk (ho); clear HB; clear HO196; have HB := n0_; have HO199 := n1_; clear n0_ n1_; clear ho hb hg hat))
      go_ret
      exact ⟨_, rfl, by (with_reducible repeat (first | apply Kd.R_alloc | apply Kd.R_drewN | apply Kd.R_drew)); exact HO199.out, by repeat (first | (with_reducible first | exact HB.out | apply below_alloc | apply pw_below_drewN | apply below_drew1) | exact HB.out)⟩
  · rw [if_neg c2] at h
    cases h
end Go.Proofs.Ytmdpiagpkocheaa.P
end

/-! A binding as a key (an array of eight): its cells are the binding's, filled up by 0; for lists of at most eight. -/
section
namespace Go.Proofs.Ytmdpiagpkocheaa.P
open Go.RowKit Go.Proofs.YtmdpiagpkocheaaW.PrintWords Go.Proofs.YtmdpiagpkocheaaW.PrintLast Go.Proofs.YtmdpiagpkocheaaW.PrintMore
set_option linter.unusedVariables false
set_option linter.unusedSimpArgs false

/-- A binding's key. -/
def keyV (l : List Int) : Value := .agg #[.int .i64 (l.getD 0 0), .int .i64 (l.getD 1 0), .int .i64 (l.getD 2 0), .int .i64 (l.getD 3 0), .int .i64 (l.getD 4 0), .int .i64 (l.getD 5 0), .int .i64 (l.getD 6 0), .int .i64 (l.getD 7 0)]
theorem key_cell {l : List Int} (hl : l.length ≤ 8) {i : Nat} (hi : i < 8) : (splice (List.replicate 8 (Value.int .i64 0)) 0 (l.map (Value.int .i64)))[i]? = some (.int .i64 (l.getD i 0)) := by
  unfold splice
  rw [List.take_zero, List.nil_append, List.length_map, Nat.zero_add, List.getD_eq_getElem?_getD]
  by_cases h : i < l.length
  · rw [List.getElem?_append_left (by rw [List.length_map]; exact h), List.getElem?_map, List.getElem?_eq_getElem h]
    rfl
  · rw [List.getElem?_append_right (by rw [List.length_map]; omega), List.getElem?_eq_none (by omega : l.length ≤ i), List.length_map, List.drop_replicate, List.getElem?_replicate, if_pos (by omega)]
    rfl

/-- Eight numbers 0. -/
def zero8 : Obj := .cells #[.int .i64 0, .int .i64 0, .int .i64 0, .int .i64 0, .int .i64 0, .int .i64 0, .int .i64 0, .int .i64 0] 53
theorem zero8_size (w : World) : (w.alloc zero8).heap.size = w.heap.size + 1 := by simp
theorem zero8_at (w : World) : ((w.alloc zero8).alloc zero8).heap[w.heap.size + 1]? = some (.cells (List.replicate 8 (Value.int .i64 0)).toArray 53 (0, 0)) := by
  have h := heap_alloc_new (w.alloc zero8) zero8
  rw [zero8_size] at h
  exact h
theorem zero8_below (w : World) : Below (w.heap.size + 1) (w.alloc zero8) ((w.alloc zero8).alloc zero8) := by
  have h := below_alloc (Below.refl (w.alloc zero8).heap.size _) zero8
  rw [zero8_size] at h
  exact h
theorem key_src {w : World} {A : Option Addr} {l : List Int} (hr : Kd.C (Kd.int .i64) w A l.length l) (h0 : 0 < (l.map (Value.int .i64)).length) : ∃ ad, A = some ad ∧ ∀ j v, (l.map (Value.int .i64))[j]? = some v → w.cell? (ad.add j) = some v := by
  rw [List.length_map] at h0
  obtain ⟨ad, e, _⟩ := Kd.at_int hr 0 (Int.le_refl _) (by omega)
  refine ⟨ad, e, fun j v hv => ?_⟩
  rw [List.getElem?_map] at hv
  obtain ⟨x, hx, rfl⟩ := Option.map_eq_some_iff.1 hv
  obtain ⟨hj, rfl⟩ := List.getElem?_eq_some_iff.1 hx
  obtain ⟨ad', e', hc⟩ := Kd.at_int hr (j : Int) (by omega) (by omega)
  cases e.symm.trans e'
  rw [Int.toNat_natCast] at hc
  rw [hc]
  unfold rd
  rw [Int.toNat_natCast, List.getD_eq_getElem?_getD, List.getElem?_eq_getElem hj]
  rfl

set_option maxHeartbeats 2000000 in
set_option maxRecDepth 100000 in
theorem keyOf_calls (A : Option Addr) (c : Nat) (l : List Int) (w : World) (hr : Kd.C (Kd.int .i64) w A l.length l) (hl : l.length ≤ 8) :
    Calls Try.prog 48 #[.slice A l.length c] w fun e w' => e = .returned (keyV l) ∧ Below w.heap.size w w' := by
  have hu53 := Try.underlying53
  have HR := Aside0.mk hr
  have HL := Aside0.mk hl
  have HB := Aside0.mk (Below.refl w.heap.size w)
  clear hr hl
  obtain ⟨y0, e0_⟩ : ∃ y, y = l.getD 0 0 := ⟨_, rfl⟩
  obtain ⟨y1, e1_⟩ : ∃ y, y = l.getD 1 0 := ⟨_, rfl⟩
  obtain ⟨y2, e2_⟩ : ∃ y, y = l.getD 2 0 := ⟨_, rfl⟩
  obtain ⟨y3, e3_⟩ : ∃ y, y = l.getD 3 0 := ⟨_, rfl⟩
  obtain ⟨y4, e4_⟩ : ∃ y, y = l.getD 4 0 := ⟨_, rfl⟩
  obtain ⟨y5, e5_⟩ : ∃ y, y = l.getD 5 0 := ⟨_, rfl⟩
  obtain ⟨y6, e6_⟩ : ∃ y, y = l.getD 6 0 := ⟨_, rfl⟩
  obtain ⟨y7, e7_⟩ : ∃ y, y = l.getD 7 0 := ⟨_, rfl⟩
  have E := Aside0.mk (show keyV l = .agg #[.int .i64 y0, .int .i64 y1, .int .i64 y2, .int .i64 y3, .int .i64 y4, .int .i64 y5, .int .i64 y6, .int .i64 y7] from by unfold keyV; rw [← e0_, ← e1_, ← e2_, ← e3_, ← e4_, ← e5_, ← e6_, ← e7_])
  rw [E.out]
  have EY := Aside0.mk (And.intro e0_ (And.intro e1_ (And.intro e2_ (And.intro e3_ (And.intro e4_ (And.intro e5_ (And.intro e6_ e7_)))))))
  clear e0_ e1_ e2_ e3_ e4_ e5_ e6_ e7_ E
  go_enter Try.func48, Try.ntmps48
  go_wp2_with ((with_reducible refine gate_builtin (b := .copy) (xs := #[.tmp 5, .tmp 6]) rfl ?_); (refine wpList_copy_splice rfl (.tmp 5) (.tmp 6) 22 22 rfl 3 Try.underlying22 (by kernel_rfl) (some ⟨w.heap.size + 1, 0, none⟩) A 8 8 l.length c (by first | rfl | simp) (by first | rfl | simp) (w.heap.size + 1) 0 (List.replicate 8 (Value.int .i64 0)) 53 (zero8_at w) (l.map (Value.int .i64)) ?hn ?hpos ?hfit ?h1 (w.heap.size + 1) (w.alloc zero8) (zero8_below w) (Nat.le_refl _) ?_; (case hn => have := HL.out; rw [List.length_map]; exact (Nat.min_eq_left this).symm); (case hpos => exact fun h0 => ⟨rfl, key_src (Kd.C_alloc (Kd.C_alloc HR.out _) _) h0⟩); (case hfit => have := HL.out; simp; omega); (case h1 => intro v hv; obtain ⟨x, _, rfl⟩ := List.mem_map.1 hv; rfl); intro w3 hw3 hb3; have B2 := Aside0.mk hb3; have K3 := Aside0.mk hw3.out; clear hb3 hw3; have c0 : w3.cell? ⟨w.heap.size + 1, 0, none⟩ = some (.int .i64 y0) := (blk_cell K3.out 0).trans (by rw [List.getElem?_toArray, EY.out.1]; exact key_cell HL.out (by decide)); have c1 : w3.cell? ⟨w.heap.size + 1, 1, none⟩ = some (.int .i64 y1) := (blk_cell K3.out 1).trans (by rw [List.getElem?_toArray, EY.out.2.1]; exact key_cell HL.out (by decide)); have c2 : w3.cell? ⟨w.heap.size + 1, 2, none⟩ = some (.int .i64 y2) := (blk_cell K3.out 2).trans (by rw [List.getElem?_toArray, EY.out.2.2.1]; exact key_cell HL.out (by decide)); have c3 : w3.cell? ⟨w.heap.size + 1, 3, none⟩ = some (.int .i64 y3) := (blk_cell K3.out 3).trans (by rw [List.getElem?_toArray, EY.out.2.2.2.1]; exact key_cell HL.out (by decide)); have c4 : w3.cell? ⟨w.heap.size + 1, 4, none⟩ = some (.int .i64 y4) := (blk_cell K3.out 4).trans (by rw [List.getElem?_toArray, EY.out.2.2.2.2.1]; exact key_cell HL.out (by decide)); have c5 : w3.cell? ⟨w.heap.size + 1, 5, none⟩ = some (.int .i64 y5) := (blk_cell K3.out 5).trans (by rw [List.getElem?_toArray, EY.out.2.2.2.2.2.1]; exact key_cell HL.out (by decide)); have c6 : w3.cell? ⟨w.heap.size + 1, 6, none⟩ = some (.int .i64 y6) := (blk_cell K3.out 6).trans (by rw [List.getElem?_toArray, EY.out.2.2.2.2.2.2.1]; exact key_cell HL.out (by decide)); have c7 : w3.cell? ⟨w.heap.size + 1, 7, none⟩ = some (.int .i64 y7) := (blk_cell K3.out 7).trans (by rw [List.getElem?_toArray, EY.out.2.2.2.2.2.2.2]; exact key_cell HL.out (by decide)); have BK := Aside0.mk ((B2.out.block w.heap.size (Nat.lt_succ_self _)).trans (heap_alloc_new w zero8)); have d0 : w3.cell? ⟨w.heap.size, 0, none⟩ = some (.int .i64 0) := (blk_cell BK.out 0).trans rfl; have d1 : w3.cell? ⟨w.heap.size, 1, none⟩ = some (.int .i64 0) := (blk_cell BK.out 1).trans rfl; have d2 : w3.cell? ⟨w.heap.size, 2, none⟩ = some (.int .i64 0) := (blk_cell BK.out 2).trans rfl; have d3 : w3.cell? ⟨w.heap.size, 3, none⟩ = some (.int .i64 0) := (blk_cell BK.out 3).trans rfl; have d4 : w3.cell? ⟨w.heap.size, 4, none⟩ = some (.int .i64 0) := (blk_cell BK.out 4).trans rfl; have d5 : w3.cell? ⟨w.heap.size, 5, none⟩ = some (.int .i64 0) := (blk_cell BK.out 5).trans rfl; have d6 : w3.cell? ⟨w.heap.size, 6, none⟩ = some (.int .i64 0) := (blk_cell BK.out 6).trans rfl; have d7 : w3.cell? ⟨w.heap.size, 7, none⟩ = some (.int .i64 0) := (blk_cell BK.out 7).trans rfl; have e0 := blk_frozen BK.out 0; have e1 := blk_frozen BK.out 1; have e2 := blk_frozen BK.out 2; have e3 := blk_frozen BK.out 3; have e4 := blk_frozen BK.out 4; have e5 := blk_frozen BK.out 5; have e6 := blk_frozen BK.out 6; have e7 := blk_frozen BK.out 7))
  exact bodyPost_ret (v := .agg #[.int .i64 y0, .int .i64 y1, .int .i64 y2, .int .i64 y3, .int .i64 y4, .int .i64 y5, .int .i64 y6, .int .i64 y7]) (by simp [results, Try.results48, go_sem, d0, d1, d2, d3, d4, d5, d6, d7]) rfl ⟨rfl, by
    refine below_set (below_set (below_set (below_set (below_set (below_set (below_set (below_set ?_ (Nat.le_refl _)) (Nat.le_refl _)) (Nat.le_refl _)) (Nat.le_refl _)) (Nat.le_refl _)) (Nat.le_refl _)) (Nat.le_refl _)) (Nat.le_refl _)
    exact (below_alloc (Below.refl _ _) zero8).trans (B2.out.mono (Nat.le_succ _))⟩
end Go.Proofs.Ytmdpiagpkocheaa.P
end

/-! A map from bindings to whole numbers, told as a list of bindings with their numbers; for bindings of at most eight leaves. -/
section
namespace Go.Proofs.Ytmdpiagpkocheaa.P
open Go.Maps Go.RowKit Go.Proofs.YtmdpiagpkocheaaW.PrintWords Go.Proofs.Ytmdpiagpkocheaa.Far
set_option linter.unusedVariables false
set_option linter.unusedSimpArgs false

theorem farLaid : laidOutB Try.prog = true := by kernel_rfl
theorem farKey : WideMaps.KeyLaw Try.prog 53 := deep_law_laid farLaid (m := 2) (by omega) (of_decide_eq_true (by kernel_rfl)) (by kernel_rfl) (by kernel_rfl)
theorem farKeyed : Keyed Try.prog 53 := Keyed.of_law farKey
theorem farZero (w : World) : (zeroValue 3).run Try.prog w = .ok (.int .i64 0) w := by kernel_rfl
theorem farTypes : Try.prog.keyType 53 = true := by kernel_rfl
theorem farFormed (y0 y1 y2 y3 y4 y5 y6 y7 : Value) : (Value.agg #[y0, y1, y2, y3, y4, y5, y6, y7]).formed Try.prog 53 = true := by kernel_rfl
theorem farSize : ∃ m, Try.prog.types.size + 1 = m + 2 := ⟨Try.prog.types.size - 1, by have : 1 ≤ Try.prog.types.size := of_decide_eq_true (by kernel_rfl); omega⟩
theorem farCells8 : Try.prog.cellsOf 53 = 8 := by kernel_rfl
theorem farCells1 : Try.prog.cellsOf 3 = 1 := by kernel_rfl
/-- What a key reads as. -/
theorem key_lit (y0 y1 y2 y3 y4 y5 y6 y7 : Int) (h0 : (Lit.int .i64 y0).wf = true) (h1 : (Lit.int .i64 y1).wf = true) (h2 : (Lit.int .i64 y2).wf = true) (h3 : (Lit.int .i64 y3).wf = true) (h4 : (Lit.int .i64 y4).wf = true) (h5 : (Lit.int .i64 y5).wf = true) (h6 : (Lit.int .i64 y6).wf = true) (h7 : (Lit.int .i64 y7).wf = true) :
    keyOf Try.prog 53 (.agg #[.int .i64 y0, .int .i64 y1, .int .i64 y2, .int .i64 y3, .int .i64 y4, .int .i64 y5, .int .i64 y6, .int .i64 y7]) = some (.string (keyBytes [.int .i64 y0, .int .i64 y1, .int .i64 y2, .int .i64 y3, .int .i64 y4, .int .i64 y5, .int .i64 y6, .int .i64 y7])) := by
  obtain ⟨m, hm⟩ := farSize
  have hu := Try.underlying53
  have hi := Try.underlying3
  unfold keyOf
  rw [hu]
  simp only [farTypes, farFormed, Bool.and_self, if_true, hm]
  simp only [Program.keyLits, hu, hi, farCells8, farCells1, Value.cells]
  simp [List.range_succ, List.mapM_cons, h0, h1, h2, h3, h4, h5, h6, h7]
/-- The key of a binding, as it reads. -/
def klit (l : List Int) : Lit := .string (keyBytes [.int .i64 (l.getD 0 0), .int .i64 (l.getD 1 0), .int .i64 (l.getD 2 0), .int .i64 (l.getD 3 0), .int .i64 (l.getD 4 0), .int .i64 (l.getD 5 0), .int .i64 (l.getD 6 0), .int .i64 (l.getD 7 0)])
theorem bd_small {n : Nat} {l : List Int} (h : Bd n l) (hn : n ≤ 8) (i : Nat) : (Lit.int .i64 (l.getD i 0)).wf = true := by
  refine WalkArith.wf_i64 ?_
  rcases Nat.lt_or_ge i l.length with hi | hi
  · have := h.2.1 (l.getD i 0) (by rw [Base.getD_at l 0 hi]; exact List.getElem_mem hi)
    omega
  · rw [List.getD_eq_getElem?_getD, List.getElem?_eq_none hi]
    decide
theorem klit_key {n : Nat} {l : List Int} (h : Bd n l) (hn : n ≤ 8) : keyOf Try.prog 53 (keyV l) = some (klit l) := by
  exact key_lit _ _ _ _ _ _ _ _ (bd_small h hn 0) (bd_small h hn 1) (bd_small h hn 2) (bd_small h hn 3) (bd_small h hn 4) (bd_small h hn 5) (bd_small h hn 6) (bd_small h hn 7)
theorem keyV_inj {n : Nat} {l m : List Int} (hl : Bd n l) (hm : Bd n m) (hn : n ≤ 8) (h : keyV l = keyV m) : l = m := by
  unfold keyV at h
  simp only [Value.agg.injEq, Array.mk.injEq, List.cons.injEq, Value.int.injEq, true_and, and_true] at h
  obtain ⟨h0, h1, h2, h3, h4, h5, h6, h7⟩ := h
  refine ext_at (by rw [hl.1, hm.1]) (fun i hi => ?_)
  have : i < 8 := by have := hm.1; omega
  rcases (by omega : i = 0 ∨ i = 1 ∨ i = 2 ∨ i = 3 ∨ i = 4 ∨ i = 5 ∨ i = 6 ∨ i = 7) with rfl | rfl | rfl | rfl | rfl | rfl | rfl | rfl <;> assumption
theorem klit_inj {n : Nat} {l m : List Int} (hl : Bd n l) (hm : Bd n m) (hn : n ≤ 8) (h : klit l = klit m) : l = m := by
  have a := klit_key hl hn
  have b := klit_key hm hn
  rw [← h] at b
  exact keyV_inj hl hm hn (farKeyed.inj a b)
theorem klit_is {n : Nat} {l : List Int} (hl : Bd n l) (hn : n ≤ 8) : WideAt.IsKeyLit (klit l) := farKeyed.key (klit_key hl hn)
/-- The map's datum. -/
def Dm (o : Out) : DataW Unit := o.foldl (fun m e => m.put (klit e.1) (.lit (.int .i64 e.2))) (.map [])
theorem Dm_snoc (o : Out) (e : List Int × Int) : Dm (o ++ [e]) = (Dm o).put (klit e.1) (.lit (.int .i64 e.2)) := by
  unfold Dm
  rw [List.foldl_append]
  rfl
theorem Dm_map : ∀ o : Out, IsMap (Dm o) := by
  refine snoc_ind isMap_empty (fun o e ih => ?_)
  rw [Dm_snoc]
  exact ih.put _ _
theorem Dm_at {n : Nat} {b : List Int} (hb : Bd n b) (hn : n ≤ 8) : ∀ o : Out, (∀ e ∈ o, Bd n e.1) → (o.map (·.1)).Nodup → (Dm o).atKey (klit b) (.lit (.int .i64 0)) = .lit (.int .i64 ((o.lookup b).getD 0)) ∧ Maps.has (Dm o) (klit b) = (o.lookup b).isSome := by
  refine snoc_ind ?_ ?_
  · intro _ _
    exact ⟨rfl, rfl⟩
  · intro o e ih hbd nd
    rw [List.map_append, List.nodup_append] at nd
    obtain ⟨h1, h2⟩ := ih (fun x hx => hbd x (by simp [hx])) nd.1
    have he := hbd e (by simp)
    rw [Dm_snoc, show e = (e.1, e.2) from rfl, lookup_snoc]
    by_cases h : b = e.1
    · have hnl : o.lookup b = none := by
        cases hl : o.lookup b with
        | none => rfl
        | some v => exact absurd rfl (nd.2.2 b (by have := List.mem_map_of_mem (f := fun x : List Int × Int => x.1) (lookup_mem hl); exact this) b (by simp [h]))
      rw [hnl, h, beq_self_eq_true]
      exact ⟨atKey_put_same (Dm_map o) (klit_is he hn) _ _, has_put_same (Dm_map o) (klit_is he hn) _⟩
    · have hne : klit b ≠ klit e.1 := fun e' => h (klit_inj hb he hn e')
      have : (b == e.1) = false := beq_eq_false_iff_ne.2 h
      rw [this, atKey_put_other hne, has_put_other hne, h1, h2]
      cases o.lookup b <;> exact ⟨rfl, rfl⟩
/-- Block B is the map. -/
def FarAt (w : World) (B : Nat) (o : Out) : Prop := w.ownsMap Try.prog 53 (plainElem (H := Unit) Try.prog 3) B o.length (Dm o)
theorem FarAt.kept {w w' : World} {B : Nat} {o : Out} {row : Option Nat} (h : FarAt w B o) (hg : w.grownBy w' row) (hne : some B ≠ row) : FarAt w' B o := World.ownsMap.kept h hg hne
theorem FarAt.below {w w' : World} {B : Nat} {o : Out} (h : FarAt w B o) (hb : Below w.heap.size w w') : FarAt w' B o := h.kept (grown_of_below hb none) (by simp)
theorem FarAt.lt {w : World} {B : Nat} {o : Out} (h : FarAt w B o) : B < w.heap.size := World.ownsMap.lt h
section
variable {w : World} {ops : Array Oper} {rest : List Oper} {o : Oper} {a : Act} {Q : Exit → Act → World → Prop} {n B : Nat} {xs : Out} {l : List Int}
theorem far_run (hF : FarAt w B xs) (hn : n ≤ 8) (hbd : ∀ e ∈ xs, Bd n e.1) (nd : (xs.map (·.1)).Nodup) (hl : Bd n l) : (Instr.lookup 50 (.map (some B)) (keyV l) false).run Try.prog w = .ok (.int .i64 ((xs.lookup l).getD 0)) w := by
  obtain ⟨c, hrun, hat, _⟩ := World.ownsMap.lookup_int hF farKeyed Try.underlying50 Try.underlying3 (farZero w) (klit_key hl hn)
  rw [(Dm_at hl hn xs hbd nd).1] at hat
  injection hat with hat
  injection hat with _ hat
  rw [hrun, hat]
theorem far_look_ok (hg : o.guard = none) (m x : Operand) (hop : o.op = Op.lookup 50 m x true) (hm : a.eval m = .map (some B)) (hx : a.eval x = keyV l) (hF : FarAt w B xs) (hn : n ≤ 8) (hbd : ∀ e ∈ xs, Bd n e.1) (nd : (xs.map (·.1)).Nodup) (hl : Bd n l)
    (hK : wpList Try.prog ops Q rest (a.put o.dst (.tuple #[.int .i64 ((xs.lookup l).getD 0), .bool (xs.lookup l).isSome])) w) : wpList Try.prog ops Q (o :: rest) a w := by
  refine wpList_lookup_own_ok_int w hg m x 50 hop 53 3 .i64 farKeyed Try.underlying50 Try.underlying3 (farZero w) B xs.length (Dm xs) hm hF _ _ hx (klit_key hl hn) (fun c hat _ => ?_)
  obtain ⟨h1, h2⟩ := Dm_at hl hn xs hbd nd
  rw [h1] at hat
  injection hat with hat
  injection hat with _ hat
  rw [← hat, h2]
  exact hK
theorem far_look (hg : o.guard = none) (m x : Operand) (hop : o.op = Op.lookup 50 m x false) (hm : a.eval m = .map (some B)) (hx : a.eval x = keyV l) (hF : FarAt w B xs) (hn : n ≤ 8) (hbd : ∀ e ∈ xs, Bd n e.1) (nd : (xs.map (·.1)).Nodup) (hl : Bd n l)
    (hK : wpList Try.prog ops Q rest (a.put o.dst (.int .i64 ((xs.lookup l).getD 0))) w) : wpList Try.prog ops Q (o :: rest) a w := by
  refine wpList_plain hg fun K' hK' => ?_
  unfold Oper.wp
  simp [execOp, hop, hm, hx, far_run hF hn hbd nd hl, Result.andThen]
  exact hK' _ _ hK
/-- A new binding is put in. -/
theorem far_update (hF : FarAt w B xs) (hn : n ≤ 8) (hl : Bd n l) (hlen : xs.length ≤ 100000) {v : Int} (hv : (Lit.int .i64 v).wf = true) : ∃ w', (Instr.mapUpdate 50 (.map (some B)) (keyV l) (.int .i64 v)).run Try.prog w = .ok () w' ∧ FarAt w' B (xs ++ [(l, v)]) ∧ w.grownBy w' (some B) := by
  obtain ⟨w', h1, h2, h3⟩ := World.ownsMap.update hF farKeyed Try.underlying50 (by unfold maxLen; omega) (klit_key hl hn) (plainElem_int Try.underlying3 hv)
  refine ⟨w', h1, ?_, h3⟩
  unfold FarAt
  rw [Dm_snoc, List.length_append]
  exact h2
theorem far_insert (hg : o.guard = none) (m x y : Operand) (hop : o.op = Op.insert 50 m x y) {v : Int} (hm : a.eval m = .map (some B)) (hx : a.eval x = keyV l) (hy : a.eval y = .int .i64 v) (hF : FarAt w B xs) (hn : n ≤ 8) (hl : Bd n l) (hlen : xs.length ≤ 100000) (hv : (Lit.int .i64 v).wf = true)
    (hK : ∀ w', FarAt w' B (xs ++ [(l, v)]) → w.grownBy w' (some B) → wpList Try.prog ops Q rest (a.put o.dst undef) w') : wpList Try.prog ops Q (o :: rest) a w := by
  refine wpList_plain hg fun K' hK' => ?_
  obtain ⟨w', hrun, r1, r2⟩ := far_update hF hn hl hlen hv
  unfold Oper.wp
  simp [execOp, hop, hm, hx, hy, hrun, Result.andThen]
  exact hK' _ _ (hK w' r1 r2)
/-- .. as a step of a region that draws its order. -/
theorem far_step {K : Act → World → Prop} (m x y : Operand) (hop : o.op = Op.mapUpdate 50 m x y) {v : Int} (hm : a.eval m = .map (some B)) (hx : a.eval x = keyV l) (hy : a.eval y = .int .i64 v) (hF : FarAt w B xs) (hn : n ≤ 8) (hl : Bd n l) (hlen : xs.length ≤ 100000) (hv : (Lit.int .i64 v).wf = true)
    (hK : ∀ w', FarAt w' B (xs ++ [(l, v)]) → w.grownBy w' (some B) → K (a.put o.dst undef) w') : Oper.wp Try.prog o a w K Q := by
  obtain ⟨w', hrun, r1, r2⟩ := far_update hF hn hl hlen hv
  unfold Oper.wp
  simp [execOp, hop, hm, hx, hy, hrun, Result.andThen]
  exact hK w' r1 r2
/-- A new map. -/
theorem far_event (hg : o.guard = none) (hop : o.op = Op.makeMap 50 none) (hK : ∀ B w1, B = w.heap.size → FarAt w1 B [] → Below w.heap.size w w1 → wpList Try.prog ops Q rest (a.put o.dst (.map (some B))) w1) : wpList Try.prog ops Q (o :: rest) a w := by
  refine wpList_plain hg fun K' hK' => ?_
  unfold Oper.wp
  simp [execOp, hop, run_makeMap, Result.andThen]
  exact hK' _ _ (hK _ _ rfl (World.ownsMap_made _ _ _ _) (below_alloc (Below.refl _ _) _))
theorem far_made (w : World) : FarAt (w.alloc (.map #[] 0)) w.heap.size [] := World.ownsMap_made _ _ _ _
end
end Go.Proofs.Ytmdpiagpkocheaa.P
end

/-! Ranging over a map from bindings to whole numbers: each entry comes once, in whatever order; for bindings of at most eight leaves. -/
section
namespace Go.Proofs.Ytmdpiagpkocheaa.P
open Go.Maps Go.RowKit Go.Proofs.YtmdpiagpkocheaaW.PrintWords Go.Proofs.Ytmdpiagpkocheaa.Far
set_option linter.unusedVariables false
set_option linter.unusedSimpArgs false

theorem Dm_has {k : Lit} : ∀ o : Out, Maps.has (Dm o) k = true → ∃ e ∈ o, k = klit e.1 := by
  refine snoc_ind ?_ ?_
  · intro h
    cases h
  · intro o e ih h
    rw [Dm_snoc] at h
    by_cases hk : k = klit e.1
    · exact ⟨e, by simp, hk⟩
    · rw [has_put_other hk] at h
      obtain ⟨x, hx, e'⟩ := ih h
      exact ⟨x, by simp [hx], e'⟩
theorem same_self {k : Lit} (h : WideAt.IsKeyLit k) : k.sameKey k = true := by
  cases hs : k.sameKey k with
  | true => rfl
  | false =>
    have h1 := has_put_same (H := Unit) (isMap_empty) h (.lit (.bool true))
    rw [show ((DataW.map [] : DataW Unit).put k (.lit (.bool true))) = .map [(k, .lit (.bool true))] from rfl] at h1
    simp [Maps.has, hs] at h1
/-- A range over the map under way: what is still to come. -/
def FarIter (w : World) (B r : Nat) (o rem : Out) : Prop := ∃ left cnt, w.ranges Try.prog 53 (plainElem (H := Unit) Try.prog 3) B r o.length (Dm o) left cnt ∧ rem = o.filter (fun e => left (klit e.1))
theorem FarIter.owns {w : World} {B r : Nat} {o rem : Out} (h : FarIter w B r o rem) : FarAt w B o := by
  obtain ⟨left, cnt, h, _⟩ := h
  exact h.owns
theorem FarIter.kept {w w' : World} {B r : Nat} {o rem : Out} {row : Option Nat} (h : FarIter w B r o rem) (hg : w.grownBy w' row) (hb : some B ≠ row) (hr : some r ≠ row) : FarIter w' B r o rem := by
  obtain ⟨left, cnt, h, e⟩ := h
  exact ⟨left, cnt, h.kept hg hb hr, e⟩
theorem FarIter.below {w w' : World} {B r : Nat} {o rem : Out} (h : FarIter w B r o rem) (hb : Below w.heap.size w w') : FarIter w' B r o rem := h.kept (grown_of_below hb none) (by simp) (by simp)
theorem FarIter.lt {w : World} {B r : Nat} {o rem : Out} (h : FarIter w B r o rem) : r < w.heap.size := by
  obtain ⟨left, cnt, h, _⟩ := h
  exact h.lt
theorem filter_one {n : Nat} (hn : n ≤ 8) {e : List Int × Int} : ∀ (o : Out), (∀ x ∈ o, Bd n x.1) → (o.map (·.1)).Nodup → (left : Lit → Bool) → e ∈ o → left (klit e.1) = true →
    (o.filter (fun x => left (klit x.1))).Perm (e :: o.filter (fun x => left (klit x.1) && !(klit x.1).sameKey (klit e.1))) := by
  intro o
  induction o with
  | nil => intro _ _ _ h; cases h
  | cons a o ih =>
    intro hbd nd left he hl
    rw [List.map_cons, List.nodup_cons] at nd
    have ha := hbd a (by simp)
    rcases List.mem_cons.1 he with rfl | he
    · have h2 : o.filter (fun x => left (klit x.1) && !(klit x.1).sameKey (klit e.1)) = o.filter (fun x => left (klit x.1)) := by
        refine List.filter_congr (fun x hx => ?_)
        have hne : klit x.1 ≠ klit e.1 := fun h => nd.1 (by rw [← klit_inj (hbd x (by simp [hx])) ha hn h]; exact List.mem_map_of_mem hx)
        rw [sameKey_ne hne, Bool.not_false, Bool.and_true]
      rw [List.filter_cons, if_pos hl, List.filter_cons, if_neg (by rw [same_self (klit_is ha hn)]; simp), h2]
    · have hb := hbd e (by simp [he])
      have hne : klit a.1 ≠ klit e.1 := fun h => nd.1 (by rw [klit_inj ha hb hn h]; exact List.mem_map_of_mem he)
      have h3 := ih (fun x hx => hbd x (by simp [hx])) nd.2 left he hl
      rw [List.filter_cons, List.filter_cons, sameKey_ne hne, Bool.not_false, Bool.and_true]
      cases left (klit a.1) with
      | true =>
        simp only [if_true]
        exact (h3.cons a).trans (List.Perm.swap e a _)
      | false =>
        simp only [Bool.false_eq_true, if_false]
        exact h3
section
variable {w : World} {ops : Array Oper} {rest : List Oper} {o : Oper} {a : Act} {Q : Exit → Act → World → Prop} {n B r : Nat} {xs rem : Out}
theorem far_range (hg : o.guard = none) (m : Operand) (hop : o.op = Op.range 50 m) (hm : a.eval m = .map (some B)) (hF : FarAt w B xs) (hn : n ≤ 8) (hbd : ∀ e ∈ xs, Bd n e.1) (nd : (xs.map (·.1)).Nodup)
    (hK : ∀ r w', r = w.heap.size → FarIter w' B r xs xs → Below w.heap.size w w' → wpList Try.prog ops Q rest (a.put o.dst (.pointer (some ⟨r, 0, none⟩))) w') : wpList Try.prog ops Q (o :: rest) a w := by
  refine wpList_range_own w hg m 50 hop 53 3 farKeyed Try.underlying50 (plainElem (H := Unit) Try.prog 3) B xs.length (Dm xs) hm hF (fun w' h1 h2 h3 => hK _ w' rfl ⟨_, _, h1, ?_⟩ ⟨h2.os, h2.tape, h2.output, by omega, fun i hi => h2.block i hi (by simp)⟩)
  refine (List.filter_eq_self.2 (fun e he => ?_)).symm
  rw [(Dm_at (hbd e he) hn xs hbd nd).2, lookup_in nd he]
  rfl
theorem far_next (hg : o.guard = none) (it : Operand) (hop : o.op = Op.next it false) (hit : a.eval it = .pointer (some ⟨r, 0, none⟩)) (h : FarIter w B r xs rem) (hn : n ≤ 8) (hbd : ∀ e ∈ xs, Bd n e.1) (nd : (xs.map (·.1)).Nodup)
    (hDone : rem = [] → wpList Try.prog ops Q rest (a.put o.dst (.tuple #[.bool false])) w)
    (hMore : ∀ (q : List Int) (d : Int) (rem' : Out) (w' : World), rem.Perm ((q, d) :: rem') → (q, d) ∈ xs → FarIter w' B r xs rem' → w.grownBy w' (some r) → w'.heap.size = w.heap.size →
      (Instr.entry (.pointer (some ⟨r, 0, none⟩))).run Try.prog w' = .ok (.tuple #[keyV q, .int .i64 d]) w' → wpList Try.prog ops Q rest (a.put o.dst (.tuple #[.bool true, keyV q, .int .i64 d])) w') : wpList Try.prog ops Q (o :: rest) a w := by
  obtain ⟨left, cnt, h, rfl⟩ := h
  refine wpList_plain hg fun K' hK' => ?_
  unfold Oper.wp
  rcases h.next farKeyed o.type with ⟨h0, hl, hrun⟩ | ⟨key, v, kl, y, w', cnt', hkey, hlk, hv, hat, hrun, hrg, hlt, hgr, hsz, hen⟩
  · simp [execOp, hop, hit, hrun, Result.andThen]
    refine hK' _ _ (hDone ?_)
    rw [List.filter_eq_nil_iff]
    intro e _
    rw [hl]
    simp
  · obtain ⟨e, he, rfl⟩ := Dm_has xs (has_true_of_atKey hat)
    have hb := hbd e he
    have hk := farKeyed.inj hkey (klit_key hb hn)
    subst hk
    obtain ⟨c, rfl, hc, _⟩ := plainElem_int_inv Try.underlying3 hv
    have h1 := hat (.lit (.int .i64 0))
    rw [(Dm_at hb hn xs hbd nd).1, lookup_in nd he, hc] at h1
    injection h1 with h1
    injection h1 with _ h1
    have h2 : e.2 = c := h1
    subst h2
    simp [execOp, hop, hit, hrun, Result.andThen]
    exact hK' _ _ (hMore e.1 e.2 _ w' (filter_one hn xs hbd nd left he hlk) he ⟨_, _, hrg, rfl⟩ hgr hsz hen)
end
end Go.Proofs.Ytmdpiagpkocheaa.P
end

/-! Rows of rows: marks that are laid row by row; the rows are apart. -/
section
namespace Go.Proofs.Ytmdpiagpkocheaa.P
open Go.RowKit Go.Proofs.YtmdpiagpkocheaaW.PrintWords Go.Proofs.YtmdpiagpkocheaaW.PrintLast Go.Proofs.YtmdpiagpkocheaaW.PrintMore Go.Proofs.Ytmdpiagpkocheaa.Base
set_option linter.unusedVariables false
set_option linter.unusedSimpArgs false

/-- n marks from a on. -/
def mkF (a n : Nat) : List Int := (List.range n).map fun (j : Nat) => ((a + j : Nat) : Int)
theorem mkF_len (a n : Nat) : (mkF a n).length = n := by simp [mkF]
theorem mkF_succ (a n : Nat) : mkF a (n + 1) = mkF a n ++ [((a + n : Nat) : Int)] := by simp [mkF, List.range_succ]
theorem markF_l0 (l : List Int) (a : Nat) (hn : a + l.length ≤ 4000000) : ∀ n i : Nat, i + n = l.length → Ev (fun k => laws_markIntS.l0 k (mkF a i ++ l.drop i) ((a + i : Nat) : Int) (i : Int)) (((a + l.length : Nat) : Int), mkF a l.length) := by
  intro n
  induction n with
  | zero =>
    intro i hi
    obtain rfl : i = l.length := by omega
    refine Ev_step (fun k => ?_) (Ev.now _)
    have hl : (mkF a l.length ++ l.drop l.length).length = l.length := by simp [mkF_len]
    rw [laws_markIntS.l0, hl, if_neg (by omega), List.drop_length, List.append_nil]
  | succ n ih =>
    intro i hi
    have h : i < l.length := by omega
    refine Ev_step (fun k => ?_) (ih (i + 1) (by omega))
    have hl : (mkF a i ++ l.drop i).length = l.length := by simp [mkF_len]; omega
    have w1 : wrap64 (((a + i : Nat) : Int) + 1) = ((a + (i + 1) : Nat) : Int) := by rw [w64 (by omega) (by omega)]; omega
    rw [laws_markIntS.l0, hl, if_pos (by omega), if_pos (by omega), Int.toNat_natCast, w1, nextI i (by omega), set_drop _ _ _ (mkF_len a i) h, ← mkF_succ]
theorem markF_ev (l : List Int) (a : Nat) (hn : a + l.length ≤ 4000000) : Ev (fun k => laws_markIntS.f k l (a : Int)) (((a + l.length : Nat) : Int), mkF a l.length) := by
  have := markF_l0 l a hn l.length 0 (by omega)
  refine Ev.congr (fun k => ?_) this
  rw [laws_markIntS.f]
  have e : mkF a 0 ++ l.drop 0 = l := by simp [mkF]
  rw [e]
  rfl
/-- The numbers of rows. -/
def tot : List (List Int) → Nat
  | [] => 0
  | r :: rs => r.length + tot rs
/-- Marks, row by row. -/
def mkFF : Nat → List (List Int) → List (List Int)
  | _, [] => []
  | a, r :: rs => mkF a r.length :: mkFF (a + r.length) rs
theorem tot_append : ∀ (p q : List (List Int)), tot (p ++ q) = tot p + tot q
  | [], q => by simp [tot]
  | r :: p, q => by rw [List.cons_append, tot, tot, tot_append p q]; omega
theorem mkFF_append : ∀ (p q : List (List Int)) (a : Nat), mkFF a (p ++ q) = mkFF a p ++ mkFF (a + tot p) q
  | [], q, a => by simp [mkFF, tot]
  | r :: p, q, a => by rw [List.cons_append, mkFF, mkFF, mkFF_append p q, tot, List.cons_append, Nat.add_assoc]
theorem mkFF_len : ∀ (p : List (List Int)) (a : Nat), (mkFF a p).length = p.length
  | [], a => rfl
  | r :: p, a => by rw [mkFF, List.length_cons, mkFF_len p, List.length_cons]

set_option maxHeartbeats 8000000 in
set_option maxRecDepth 100000 in
theorem markIntSS_calls (P0 : Nat → Prop) (u : Value) (l0 : List (List Int)) (a : Nat) (a1 : Int) (ea : a1 = ((a : Nat) : Int)) (ha : a + tot l0 ≤ 4000000) (hl : l0.length ≤ 4000000) (w0 w : World) (hB : Below w0.heap.size w0 w) (hS : Kd.S (Kd.slice 3 (Kd.int .i64)) 22 w w0.heap.size P0 u l0) :
    Calls Try.prog 17 #[u, .int .i64 a1] w fun e w' => ∃ m : Int, e = .returned (.int .i64 m) ∧ m = ((a + tot l0 : Nat) : Int) ∧ Kd.S (Kd.slice 3 (Kd.int .i64)) 22 w' w0.heap.size P0 u (mkFF a l0) ∧ Below w0.heap.size w0 w' ∧ Kept w w' P0 := by
  obtain ⟨A, c, rfl⟩ := Kd.S_slice hS
  have HO := Aside0.mk hS
  have HK := Aside0.mk (Kept.refl w P0)
  have HB := Aside0.mk hB
  have HA := Aside0.mk ha
  have HL := Aside0.mk hl
  have EA := Aside0.mk ea
  clear hS hB ha hl ea
  go_enter Try.func17, Try.ntmps17
  go_wp2
  go_loopg [1, 5] l0.length (fun kq v1 v5 w' => ∃ (pre rest : List (List Int)) (m i : Int), v1 = .int .i64 m ∧ v5 = .int .i64 i ∧ Aside0 (l0 = pre ++ rest ∧ rest.length ≤ kq ∧ m = ((a + tot pre : Nat) : Int) ∧ i = (pre.length : Int)) ∧ Aside0 (Kd.S (Kd.slice 3 (Kd.int .i64)) 22 w' w0.heap.size P0 (.slice A l0.length c) (mkFF a pre ++ rest)) ∧ Aside0 (Kept w w' P0) ∧ Aside0 (Below w0.heap.size w0 w'))
  case atStart => exact ⟨[], l0, a1, 0, rfl, rfl, ⟨rfl, Nat.le_refl _, EA.out, rfl⟩, HO, HK, HB⟩
  case round =>
    clear HO HK HB
    obtain ⟨pre, rest, m, i, rfl, rfl, HC, HO, HK, HB⟩ := hrel
    have hlen : (mkFF a pre ++ rest).length = l0.length := by rw [List.length_append, mkFF_len, HC.out.1, List.length_append]
    cases rest with
    | nil =>
      have hc : decide (i < (l0.length : Int)) = false := decide_eq_false (by rw [HC.out.1, List.append_nil, HC.out.2.2.2]; omega)
      clear hlen
      go_wp2
      go_ret
      have e : l0 = pre := by rw [HC.out.1, List.append_nil]
      have h := HO.out
      rw [List.append_nil, ← e] at h
      exact ⟨_, rfl, by rw [HC.out.2.2.1, e], h, HB.out, HK.out⟩
    | cons r rs =>
      have hpl : pre.length < l0.length := by rw [HC.out.1, List.length_append, List.length_cons]; omega
      have hi : i.toNat = pre.length := by rw [HC.out.2.2.2]; rfl
      have h0 : 0 ≤ i := by rw [HC.out.2.2.2]; omega
      have h1 : i < (l0.length : Int) := by rw [HC.out.2.2.2]; omega
      obtain ⟨g, cap, eg, gb, gl, _⟩ := Kd.S_form HO.out (by rw [hlen]; omega)
      rw [hlen] at eg
      injection eg with ea en ec
      subst ea ec
      have hget : (mkFF a pre ++ r :: rs).getD i.toNat [] = r := by
        rw [hi, List.getD_eq_getElem?_getD, List.getElem?_append_right (by rw [mkFF_len]; exact Nat.le_refl _), mkFF_len, Nat.sub_self]
        rfl
      obtain ⟨oki, cs, hcl, hM, hcc, hoki, hH⟩ := Kd.S_lend HO.out [] i h0 h1
      rw [hget] at hM
      obtain ⟨v, rfl, hR⟩ := hM
      have hx : wr.cell? ⟨g, i.toNat, none⟩ = some v := by simpa [Kd.slice] using hcc 0 v rfl
      have HR := Aside0.mk hR
      have HH := Aside0.mk hH
      have HOK := Aside0.mk hoki
      have HI := Aside0.mk hi
      obtain ⟨fl, hfl0⟩ := markF_ev r (a + tot pre) (by have := HA.out; rw [HC.out.1, tot_append, tot] at this; omega)
      have HF := Aside0.mk (hfl0 fl (Nat.le_refl _))
      rw [← HC.out.2.2.1] at HF
      clear hfl0 hcc hR hH hoki hget hlen gb gl hcl hi
      have hc : decide (i < (l0.length : Int)) = true := decide_eq_true h1
      have p := eq_true h0
      have q := eq_true h1
      clear hpl h0 h1
      go_wp2_with (go_at_call 16; (refine (laws_markIntS.calls fl oki v r _ _ _ w0 _ HB.out HR.out HF.out).mono ?_); rintro e w1 ⟨rfl, hR1, hB1, hK1⟩; have HR1 := Aside0.mk hR1; have HB1 := Aside0.mk hB1; have HK1 := Aside0.mk hK1; clear hR1 hB1 hK1)
      have hw : wrap64 (i + 1) = i + 1 := w64 (by have := HC.out.2.2.2; omega) (by have := HL.out; have := HC.out.2.2.2; have := congrArg List.length HC.out.1; rw [List.length_append, List.length_cons] at this; omega)
      rw [hw]
      have HR2 := Aside0.mk (show Kd.R (Kd.int .i64) 3 w1 w0.heap.size oki v (mkF (a + tot pre) r.length) from Kd.R_mono (Kd.R_tight rfl HR1.out) (fun k hk => HR.out.1 k hk.symm))
      have HO1 := Aside0.mk (Kd.H_back (Kd.H_kept HH.out HK1.out (fun k _ h => h)) (x' := mkF (a + tot pre) r.length) ⟨v, rfl, HR2.out⟩ (fun _ h => h))
      go_roundg (gk - 1)
      case measure => have h := HC.out.2.1; rw [List.length_cons] at h; omega
      case rel =>
        refine ⟨pre ++ [r], rs, _, _, rfl, rfl, ⟨by rw [HC.out.1, List.append_assoc]; rfl, by have h := HC.out.2.1; rw [List.length_cons] at h; omega, by rw [tot_append, tot, tot]; omega, by rw [HC.out.2.2.2, List.length_append, List.length_singleton]; omega⟩, ⟨?_⟩, ⟨HK.out.then_ HK1.out (fun k hk => .inl (HOK.out k hk).1)⟩, HB1⟩
        have h := HO1.out
        rw [HI.out] at h
        have e : (mkFF a pre ++ r :: rs).set pre.length (mkF (a + tot pre) r.length) = mkFF a (pre ++ [r]) ++ rs := by
          rw [mkFF_append, mkFF, mkFF, List.append_assoc, List.set_append_right _ _ (by rw [mkFF_len]; exact Nat.le_refl _), mkFF_len, Nat.sub_self]
          rfl
        rw [e] at h
        exact h
/-- What a caller is told that looks at the rows no more; asked that the marks are few. -/
def laws_markIntSS.f (k : Nat) (l0 : List (List Int)) (a1 : Int) : Option Int := if 0 ≤ a1 ∧ a1 + (tot l0 : Int) ≤ 4000000 ∧ l0.length ≤ 4000000 then some (a1 + (tot l0 : Int)) else none
theorem laws_markIntSS.mono : ∀ a0 a1 k, LeO (laws_markIntSS.f k a0 a1) (laws_markIntSS.f (k + 1) a0 a1) := fun _ _ _ => LeO.refl _
theorem laws_markIntSS.calls (k : Nat) (l0 : List (List Int)) (a1 r : Int) (P0 : Nat → Prop) (u : Value) (w0 w : World) (hB : Below w0.heap.size w0 w) (hS : Kd.S (Kd.slice 3 (Kd.int .i64)) 22 w w0.heap.size P0 u l0) (h : laws_markIntSS.f k l0 a1 = some r) :
    Calls Try.prog 17 #[u, .int .i64 a1] w fun e w' => e = .returned (.int .i64 r) ∧ Below w0.heap.size w0 w' ∧ Kept w w' P0 := by
  unfold laws_markIntSS.f at h
  by_cases hc : 0 ≤ a1 ∧ a1 + (tot l0 : Int) ≤ 4000000 ∧ l0.length ≤ 4000000
  · rw [if_pos hc] at h
    obtain rfl := Option.some.inj h
    obtain ⟨a, rfl⟩ := Int.eq_ofNat_of_zero_le hc.1
    refine (markIntSS_calls P0 u l0 a _ rfl (by omega) hc.2.2 w0 w hB hS).mono ?_
    rintro e w' ⟨m, rfl, hm, _, h1, h2⟩
    exact ⟨by rw [hm, Int.natCast_add], h1, h2⟩
  · rw [if_neg hc] at h
    cases h
end Go.Proofs.Ytmdpiagpkocheaa.P
end

/-! Tests of bounds; no condition. -/
section
namespace Go.Proofs.Ytmdpiagpkocheaa.P
open Go.RowKit Go.Proofs.YtmdpiagpkocheaaW.PrintWords Go.Proofs.YtmdpiagpkocheaaW.PrintLast Go.Proofs.YtmdpiagpkocheaaW.PrintMore Go.Proofs.Ytmdpiagpkocheaa.Base

theorem l1In_eq (n lo hi : Int) : spec_l1In.f n lo hi = some (inB n lo hi) := by
  unfold spec_l1In.f inB
  by_cases h : lo ≤ n <;> simp [h]
theorem within_eq (n lo hi : Int) : impl_within.f n lo hi = some (inB n lo hi) := by
  unfold impl_within.f inB
  by_cases h : lo ≤ n <;> simp [h]
end Go.Proofs.Ytmdpiagpkocheaa.P
end

/-! All numbers are within bounds, by the reference; the lists are at most 1048576 long. -/
section
namespace Go.Proofs.Ytmdpiagpkocheaa.P
open Go.RowKit Go.Proofs.YtmdpiagpkocheaaW.PrintWords Go.Proofs.YtmdpiagpkocheaaW.PrintLast Go.Proofs.YtmdpiagpkocheaaW.PrintMore Go.Proofs.Ytmdpiagpkocheaa.Base
set_option linter.unusedVariables false

theorem l1All_l0 (l : List Int) (lo hi : Int) (hn : l.length ≤ 1048576) : ∀ n i : Nat, i + n = l.length → Ev (fun k => spec_l1All.l0 k lo hi l (l.length : Int) (i : Int)) ((l.drop i).all fun x => decide (lo ≤ x ∧ x ≤ hi)) := by
  intro n
  induction n with
  | zero =>
    intro i hi
    refine Ev_step (fun k => ?_) (Ev.now _)
    rw [spec_l1All.l0, if_neg (by omega), List.drop_of_length_le (by omega)]
    rfl
  | succ n ih =>
    intro i hi
    have h : i < l.length := by omega
    refine Ev_step (fun k => by rw [spec_l1All.l0, if_pos (by omega), if_pos (by omega), if_pos (by omega), rd_nat, nextI i (by omega)]) ?_
    refine Ev_some (l1In_eq _ _ _) ?_
    rw [all_drop _ l 0 h]
    unfold inB
    cases decide (lo ≤ l.getD i 0 ∧ l.getD i 0 ≤ _) with
    | true => exact Ev_pos rfl (by rw [Bool.true_and]; exact ih (i + 1) (by omega))
    | false => exact Ev_neg (by decide) (Ev.now _)
theorem l1All_ev (l : List Int) (lo hi : Int) (hn : l.length ≤ 1048576) : Ev (fun k => spec_l1All.f k l lo hi) (l.all fun x => decide (lo ≤ x ∧ x ≤ hi)) :=
  Ev.congr (fun k => by rw [spec_l1All.f]; rfl) (l1All_l0 l lo hi hn l.length 0 (by omega))
end Go.Proofs.Ytmdpiagpkocheaa.P
end

/-! Rows of whole numbers are equal to themselves; the lists are at most 1048576 long. -/
section
namespace Go.Proofs.Ytmdpiagpkocheaa.P
open Go.RowKit Go.Proofs.YtmdpiagpkocheaaW.PrintWords Go.Proofs.YtmdpiagpkocheaaW.PrintLast Go.Proofs.YtmdpiagpkocheaaW.PrintMore Go.Proofs.Ytmdpiagpkocheaa.Base
set_option linter.unusedVariables false

theorem eqIntS_l0 (l : List Int) (hn : l.length ≤ 1048576) : ∀ n i : Nat, i + n = l.length → Ev (fun k => laws_eqIntS.l0 k l l (i : Int)) true := by
  intro n
  induction n with
  | zero =>
    intro i hi
    refine Ev_step (fun k => ?_) (Ev.now _)
    rw [laws_eqIntS.l0, if_neg (by omega)]
  | succ n ih =>
    intro i hi
    refine Ev_step (fun k => ?_) (ih (i + 1) (by omega))
    rw [laws_eqIntS.l0, if_pos (by omega), if_pos (by omega), if_pos (by omega), if_pos rfl, nextI i (by omega)]
theorem eqIntS_ev (l : List Int) (hn : l.length ≤ 1048576) : Ev (fun k => laws_eqIntS.f k l l) true :=
  Ev.congr (fun k => by rw [laws_eqIntS.f, if_pos rfl]; rfl) (eqIntS_l0 l hn l.length 0 (by omega))
end Go.Proofs.Ytmdpiagpkocheaa.P
end

/-! Rows of whole numbers: marks that are laid; the lists are at most 1048576 long. -/
section
namespace Go.Proofs.Ytmdpiagpkocheaa.P
open Go.RowKit Go.Proofs.YtmdpiagpkocheaaW.PrintWords Go.Proofs.YtmdpiagpkocheaaW.PrintLast Go.Proofs.YtmdpiagpkocheaaW.PrintMore Go.Proofs.Ytmdpiagpkocheaa.Base
set_option linter.unusedVariables false

/-- The first n marks. -/
def mkI (n : Nat) : List Int := (List.range n).map fun (j : Nat) => 1 + (j : Int)
theorem mkI_len (n : Nat) : (mkI n).length = n := by simp [mkI]
theorem mkI_succ (n : Nat) : mkI (n + 1) = mkI n ++ [1 + (n : Int)] := by simp [mkI, List.range_succ]
theorem mkI_at (n i : Nat) (h : i < n) : (mkI n).getD i 0 = 1 + (i : Int) := by
  rw [List.getD_eq_getElem?_getD]
  simp [mkI, h]
theorem markIntS_l0 (l : List Int) (hn : l.length ≤ 1048576) : ∀ n i : Nat, i + n = l.length → Ev (fun k => laws_markIntS.l0 k (mkI i ++ l.drop i) (1 + (i : Int)) (i : Int)) (1 + (l.length : Int), mkI l.length) := by
  intro n
  induction n with
  | zero =>
    intro i hi
    obtain rfl : i = l.length := by omega
    refine Ev_step (fun k => ?_) (Ev.now _)
    have hl : (mkI l.length ++ l.drop l.length).length = l.length := by simp [mkI_len]
    rw [laws_markIntS.l0, hl, if_neg (by omega), List.drop_length, List.append_nil]
  | succ n ih =>
    intro i hi
    have h : i < l.length := by omega
    refine Ev_step (fun k => ?_) (ih (i + 1) (by omega))
    have hl : (mkI i ++ l.drop i).length = l.length := by simp [mkI_len]; omega
    have w1 : wrap64 (1 + (i : Int) + 1) = 1 + ((i + 1 : Nat) : Int) := by rw [w64 (by omega) (by omega)]; omega
    rw [laws_markIntS.l0, hl, if_pos (by omega), if_pos (by omega), Int.toNat_natCast, w1, nextI i (by omega), set_drop _ _ _ (mkI_len i) h, ← mkI_succ]
theorem markIntS_ev (l : List Int) (hn : l.length ≤ 1048576) : Ev (fun k => laws_markIntS.f k l 1) (1 + (l.length : Int), mkI l.length) := by
  have := markIntS_l0 l hn l.length 0 (by omega)
  refine Ev.congr (fun k => ?_) this
  rw [laws_markIntS.f]
  have e : mkI 0 ++ l.drop 0 = l := by simp [mkI]
  rw [e]
  rfl
end Go.Proofs.Ytmdpiagpkocheaa.P
end

/-! Rows of whole numbers: marks that are held; the lists are at most 1048576 long. -/
section
namespace Go.Proofs.Ytmdpiagpkocheaa.P
open Go.RowKit Go.Proofs.YtmdpiagpkocheaaW.PrintWords Go.Proofs.YtmdpiagpkocheaaW.PrintLast Go.Proofs.YtmdpiagpkocheaaW.PrintMore Go.Proofs.Ytmdpiagpkocheaa.Base
set_option linter.unusedVariables false

theorem heldIntS_l0 (m : Nat) (hn : m ≤ 1048576) : ∀ n i : Nat, i + n = m → Ev (fun k => laws_heldIntS.l0 k (mkI m) (1 + (i : Int)) (i : Int)) (1 + (m : Int)) := by
  intro n
  induction n with
  | zero =>
    intro i hi
    obtain rfl : i = m := by omega
    refine Ev_step (fun k => ?_) (Ev.now _)
    rw [laws_heldIntS.l0, mkI_len, if_neg (by omega)]
  | succ n ih =>
    intro i hi
    refine Ev_step (fun k => ?_) (ih (i + 1) (by omega))
    have w1 : wrap64 (1 + (i : Int) + 1) = 1 + ((i + 1 : Nat) : Int) := by rw [w64 (by omega) (by omega)]; omega
    rw [laws_heldIntS.l0, mkI_len, if_pos (by omega), if_pos (by omega), rd_nat, mkI_at m i (by omega), if_pos rfl, w1, nextI i (by omega)]
theorem heldIntS_ev (m : Nat) (hn : m ≤ 1048576) : Ev (fun k => laws_heldIntS.f k (mkI m) 1) (1 + (m : Int)) :=
  Ev.congr (fun k => by rw [laws_heldIntS.f]; rfl) (heldIntS_l0 m hn m 0 (by omega))
end Go.Proofs.Ytmdpiagpkocheaa.P
end

/-! Rows of whole numbers are copied; the lists are at most 1048576 long. -/
section
namespace Go.Proofs.Ytmdpiagpkocheaa.P
open Go.RowKit Go.Proofs.YtmdpiagpkocheaaW.PrintWords Go.Proofs.YtmdpiagpkocheaaW.PrintLast Go.Proofs.YtmdpiagpkocheaaW.PrintMore Go.Proofs.Ytmdpiagpkocheaa.Base
set_option linter.unusedVariables false

theorem toIntS_l0 (xs : List Int) (hn : xs.length ≤ 1048576) : ∀ n i : Nat, i + n = xs.length → Ev (fun k => laws_toIntS.l0 k xs ((xs.take i).map id ++ List.replicate (xs.length - i) 0) (i : Int)) xs := by
  intro n
  induction n with
  | zero =>
    intro i hi
    refine Ev_step (fun k => ?_) (Ev.now _)
    rw [laws_toIntS.l0, if_neg (by omega), List.map_id, List.take_of_length_le (by omega), show xs.length - i = 0 by omega, List.replicate_zero, List.append_nil]
  | succ n ih =>
    intro i hi
    have h : i < xs.length := by omega
    refine Ev_step (fun k => ?_) (ih (i + 1) (by omega))
    have hl : (List.map id (xs.take i) ++ List.replicate (xs.length - i) (0 : Int)).length = xs.length := by simp; omega
    rw [laws_toIntS.l0, if_pos (by omega), if_pos (by omega), if_pos (by rw [hl]; omega), nextI i (by omega), rd_nat, getD_at xs _ h, Int.toNat_natCast]
    have e := set_copied id xs (0 : Int) h
    rw [id] at e
    rw [e]
theorem toIntS_ev (xs : List Int) (hn : xs.length ≤ 1048576) : Ev (fun k => laws_toIntS.f k xs) xs := by
  have := toIntS_l0 xs hn xs.length 0 (by omega)
  simp only [List.take_zero, List.map_nil, List.nil_append, Nat.sub_zero] at this
  refine Ev.congr (fun k => ?_) this
  rw [laws_toIntS.f, if_pos (by omega), if_pos (by omega), Int.toNat_natCast]
  rfl
end Go.Proofs.Ytmdpiagpkocheaa.P
end

/-! Rows of whole numbers are copied, and searched by the reference; the lists are at most 1048576 long. -/
section
namespace Go.Proofs.Ytmdpiagpkocheaa.P
open Go.RowKit Go.Proofs.YtmdpiagpkocheaaW.PrintWords Go.Proofs.YtmdpiagpkocheaaW.PrintLast Go.Proofs.YtmdpiagpkocheaaW.PrintMore Go.Proofs.Ytmdpiagpkocheaa.Base
set_option linter.unusedVariables false

theorem has_drop (l : List Int) (x : Int) {i : Nat} (h : i < l.length) : (l.drop i).contains x = (x == l.getD i 0 || (l.drop (i + 1)).contains x) := by
  rw [List.drop_eq_getElem_cons h, List.contains_cons, getD_at l 0 h]
theorem l1Has_l0 (l : List Int) (x : Int) (hn : l.length ≤ 1048576) : ∀ n i : Nat, i + n = l.length → Ev (fun k => spec_l1Has.l0 k x l (l.length : Int) (i : Int)) ((l.drop i).contains x) := by
  intro n
  induction n with
  | zero =>
    intro i hi
    refine Ev_step (fun k => ?_) (Ev.now _)
    rw [spec_l1Has.l0, if_neg (by omega), List.drop_of_length_le (by omega)]
    rfl
  | succ n ih =>
    intro i hi
    have h : i < l.length := by omega
    refine Ev_step (fun k => by rw [spec_l1Has.l0, if_pos (by omega), if_pos (by omega), if_pos (by omega), rd_nat, nextI i (by omega)]) ?_
    rw [has_drop l x h]
    by_cases e : l.getD i 0 = x
    · rw [e, beq_self_eq_true, Bool.true_or]
      exact Ev_pos rfl (Ev.now _)
    · rw [beq_false_of_ne (fun h => e h.symm), Bool.false_or]
      exact Ev_neg e (ih (i + 1) (by omega))
theorem l1Has_ev (l : List Int) (x : Int) (hn : l.length ≤ 1048576) : Ev (fun k => spec_l1Has.f k l x) (l.contains x) :=
  Ev.congr (fun k => by rw [spec_l1Has.f]; rfl) (l1Has_l0 l x hn l.length 0 (by omega))
end Go.Proofs.Ytmdpiagpkocheaa.P
end

/-! What is a binding: the program and the reference answer the same; the lists are at most 1048576 long. -/
section
namespace Go.Proofs.Ytmdpiagpkocheaa.P
open Go.RowKit Go.Proofs.YtmdpiagpkocheaaW.PrintWords Go.Proofs.YtmdpiagpkocheaaW.PrintLast Go.Proofs.YtmdpiagpkocheaaW.PrintMore Go.Proofs.Ytmdpiagpkocheaa.Base Go.Proofs.Ytmdpiagpkocheaa.Order
set_option linter.unusedVariables false

theorem index_l0 (l : List Int) (x : Int) (hn : l.length ≤ 1048576) : ∀ n i : Nat, i + n = l.length → ∃ r : Int, Ev (fun k => slices_Index_int_int.l0 k l x (l.length : Int) (i : Int)) r ∧ decide (r ≥ 0) = (l.drop i).contains x := by
  intro n
  induction n with
  | zero =>
    intro i hi
    refine ⟨-1, Ev_step (fun k => ?_) (Ev.now _), ?_⟩
    · rw [slices_Index_int_int.l0, if_neg (by omega)]
    · rw [List.drop_of_length_le (by omega)]
      rfl
  | succ n ih =>
    intro i hi
    have h : i < l.length := by omega
    have hs : ∀ k, slices_Index_int_int.l0 (k + 1) l x (l.length : Int) (i : Int) = if x = l.getD i 0 then some (i : Int) else slices_Index_int_int.l0 k l x (l.length : Int) ((i + 1 : Nat) : Int) := fun k => by
      rw [slices_Index_int_int.l0, if_pos (by omega), if_pos (by omega), if_pos (by omega), rd_nat, nextI i (by omega)]
    rw [has_drop l x h]
    by_cases e : x = l.getD i 0
    · refine ⟨i, Ev_step hs (Ev_pos e (Ev.now _)), ?_⟩
      rw [← e, beq_self_eq_true, Bool.true_or]
      exact decide_eq_true (by omega)
    · obtain ⟨r, h1, h2⟩ := ih (i + 1) (by omega)
      refine ⟨r, Ev_step hs (Ev_neg e h1), ?_⟩
      rw [beq_false_of_ne e, Bool.false_or]
      exact h2
theorem contains_ev (l : List Int) (x : Int) (hn : l.length ≤ 1048576) : Ev (fun k => slices_Contains_int_int.f k l x) (l.contains x) := by
  obtain ⟨r, h1, h2⟩ := index_l0 l x hn l.length 0 (by omega)
  rw [List.drop_zero] at h2
  simp only [slices_Contains_int_int.f]
  refine Ev_bind (Ev.congr (fun k => by rw [slices_Index_int_int.f]; rfl) h1) ?_
  rw [← h2]
  exact Ev.now _
theorem isOrder_l0 (ls : List Int) (hn : ls.length ≤ 1048576) : ∀ n i : Nat, i + n = ls.length → Ev (fun k => impl_isOrder.l0 k ls (ls.length : Int) (ls.length : Int) (i : Int)) (hasAll ls n i) := by
  intro n
  induction n with
  | zero =>
    intro i hi
    refine Ev_step (fun k => ?_) (Ev.now _)
    rw [impl_isOrder.l0, if_neg (by omega), beq_self_eq_true]
    rfl
  | succ n ih =>
    intro i hi
    refine Ev_step (fun k => by rw [impl_isOrder.l0, if_pos (by omega), nextI i (by omega)]) ?_
    refine Ev_bind (contains_ev ls (i : Int) hn) ?_
    rw [hasAll]
    cases ls.contains (i : Int) with
    | true => exact Ev_pos rfl (by rw [Bool.true_and]; exact ih (i + 1) (by omega))
    | false => exact Ev_neg (by decide) (Ev.now _)
theorem isOrder_ev (ls : List Int) (hn : ls.length ≤ 1048576) : Ev (fun k => impl_isOrder.f k ls (ls.length : Int)) (hasAll ls ls.length 0) :=
  Ev.congr (fun k => by rw [impl_isOrder.f]; rfl) (isOrder_l0 ls hn ls.length 0 (by omega))
theorem leafOf_eq (x : Int) (h : -8 ≤ x ∧ x ≤ 8) : impl_leafOf.f x = some (leaf x + 1) := by
  rw [impl_leafOf.f, w64 (x := -x) (by omega) (by omega)]
  unfold mx leaf
  congr 1
  split <;> split <;> omega
theorem take_succ_map (f : Int → Int) (l : List Int) {i : Nat} (h : i < l.length) : (l.take (i + 1)).map f = (l.take i).map f ++ [f (l.getD i 0)] := by
  rw [List.take_add_one, List.getElem?_eq_getElem h, List.map_append, getD_at l 0 h]
  rfl
theorem isBinding_l0 (b : List Int) (hn : b.length ≤ 1048576) : ∀ n i : Nat, i + n = b.length → Ev (fun k => impl_IsBinding.l0 k b ((b.take i).map leaf) b (b.length : Int) (i : Int))
    ((b.drop i).all (fun x => decide (-8 ≤ x ∧ x ≤ 8)) && (decide (1 ≤ b.length ∧ b.length ≤ 8) && hasAll (b.map leaf) b.length 0)) := by
  intro n
  induction n with
  | zero =>
    intro i hi
    refine Ev_step (fun k => by rw [impl_IsBinding.l0, if_neg (by omega)]) ?_
    rw [List.drop_of_length_le (by omega), List.take_of_length_le (by omega), List.all_nil, Bool.true_and]
    refine Ev_some (within_eq _ _ _) ?_
    have e : inB (b.length : Int) 1 8 = decide (1 ≤ b.length ∧ b.length ≤ 8) := by
      unfold inB
      exact decide_eq_decide.2 (by omega)
    rw [e]
    by_cases h : 1 ≤ b.length ∧ b.length ≤ 8
    · rw [decide_eq_true h, Bool.true_and]
      refine Ev_pos rfl ?_
      have := isOrder_ev (b.map leaf) (by rw [List.length_map]; exact hn)
      simp only [List.length_map] at this ⊢
      exact Ev_bind this (Ev.now _)
    · rw [decide_eq_false h, Bool.false_and]
      exact Ev_neg (by decide) (Ev.now _)
  | succ n ih =>
    intro i hi
    have h : i < b.length := by omega
    refine Ev_step (fun k => by rw [impl_IsBinding.l0, if_pos (by omega), if_pos (by omega), if_pos (by omega), rd_nat, nextI i (by omega)]) ?_
    refine Ev_some (within_eq _ _ _) ?_
    rw [all_drop (fun x => decide (-8 ≤ x ∧ x ≤ 8)) b 0 h]
    by_cases e : -8 ≤ b.getD i 0 ∧ b.getD i 0 ≤ 8
    · rw [show inB (b.getD i 0) (-8) 8 = true from decide_eq_true e, decide_eq_true e, Bool.true_and]
      refine Ev_pos rfl (Ev_some (leafOf_eq _ e) (Ev_pos (by rw [List.length_map, List.length_take]; omega) ?_))
      have hl : -1 ≤ leaf (b.getD i 0) ∧ leaf (b.getD i 0) ≤ 7 := by unfold leaf; split <;> omega
      rw [show leaf (b.getD i 0) + 1 - 1 = leaf (b.getD i 0) by omega, w64 (by omega) (by omega), ← take_succ_map leaf b h]
      exact ih (i + 1) (by omega)
    · rw [show inB (b.getD i 0) (-8) 8 = false from decide_eq_false e, decide_eq_false e, Bool.false_and, Bool.false_and]
      exact Ev_neg (by decide) (Ev.now _)
theorem isBinding_ev (b : List Int) (hn : b.length ≤ 1048576) : Ev (fun k => impl_IsBinding.f k b) (bindS b) := by
  rw [← bind_eq]
  exact Ev.congr (fun k => by rw [impl_IsBinding.f]; rfl) (isBinding_l0 b hn b.length 0 (by omega))
theorem take_one (l : List Int) {i : Nat} (h : i < l.length) : l.take (i + 1) = l.take i ++ [l.getD i 0] := by
  rw [List.take_add_one, List.getElem?_eq_getElem h, getD_at l 0 h]
  rfl
theorem biGood_l0 (b : List Int) (hn : b.length ≤ 8) (hb : ∀ x ∈ b, -8 ≤ x ∧ x ≤ 8) : ∀ n i : Nat, i + n = b.length → Ev (fun k => spec_biGood.l0 k b b (b.length : Int) (i : Int)) (fresh (b.take i) (b.drop i)) := by
  intro n
  induction n with
  | zero =>
    intro i hi
    refine Ev_step (fun k => ?_) (Ev.now _)
    rw [spec_biGood.l0, if_neg (by omega), List.drop_of_length_le (by omega)]
    rfl
  | succ n ih =>
    intro i hi
    have h : i < b.length := by omega
    have hx : -8 ≤ b.getD i 0 ∧ b.getD i 0 ≤ 8 := by rw [getD_at b 0 h]; exact hb _ (List.getElem_mem h)
    have ht : (b.take i).length ≤ 1048576 := by rw [List.length_take]; omega
    refine Ev_step (fun k => by rw [spec_biGood.l0, if_pos (by omega), if_pos (by omega), if_pos (by omega), rd_nat, nextI i (by omega), w64 (x := -(b.getD i 0)) (by omega) (by omega), Int.toNat_natCast]) ?_
    have e := ih (i + 1) (by omega)
    rw [take_one b h] at e
    rw [List.drop_eq_getElem_cons h, ← getD_at b 0 h, fresh]
    by_cases h0 : b.getD i 0 = 0
    · rw [show (b.getD i 0 != 0) = false by rw [h0]; rfl, Bool.false_and]
      exact Ev_pos h0 (Ev.now _)
    · rw [show (b.getD i 0 != 0) = true from bne_iff_ne.2 h0, Bool.true_and]
      refine Ev_neg h0 (Ev_pos (by omega) (Ev_bind (l1Has_ev _ _ ht) ?_))
      cases (b.take i).contains (b.getD i 0) with
      | true => exact Ev_pos rfl (Ev.now _)
      | false =>
        refine Ev_neg (by decide) (Ev_bind (l1Has_ev _ _ ht) ?_)
        cases (b.take i).contains (-(b.getD i 0)) with
        | true => exact Ev_pos rfl (Ev.now _)
        | false => exact Ev_neg (by decide) e
theorem biGood_ev (b : List Int) (hn : b.length ≤ 1048576) : Ev (fun k => spec_biGood.f k b) (bindS b) := by
  simp only [spec_biGood.f]
  refine Ev_some (l1In_eq _ _ _) ?_
  have e : inB (b.length : Int) 1 8 = decide (1 ≤ b.length ∧ b.length ≤ 8) := by
    unfold inB
    exact decide_eq_decide.2 (by omega)
  rw [e]
  unfold bindS
  by_cases h : 1 ≤ b.length ∧ b.length ≤ 8
  · rw [decide_eq_true h, Bool.true_and]
    refine Ev_pos rfl ?_
    rw [w64 (x := -(b.length : Int)) (by omega) (by omega)]
    refine Ev_bind (l1All_ev b _ _ hn) (Ev_step (fun k => by rw [spec_biGood.j0]) ?_)
    cases ha : b.all (fun x => decide (-(b.length : Int) ≤ x ∧ x ≤ b.length)) with
    | false => exact Ev_pos rfl (Ev.now _)
    | true =>
      refine Ev_neg (by decide) ?_
      rw [Bool.true_and]
      exact biGood_l0 b h.2 (fun x hx => by have := of_decide_eq_true (List.all_eq_true.1 ha x hx); omega) b.length 0 (by omega)
  · rw [decide_eq_false h, Bool.false_and]
    exact Ev_neg (by decide) (Ev_step (fun k => by rw [spec_biGood.j0]) (Ev_pos rfl (Ev.now _)))
end Go.Proofs.Ytmdpiagpkocheaa.P
end

/-! A part of a binding: the program and the reference tell the same. -/
section
namespace Go.Proofs.Ytmdpiagpkocheaa.P
open Go.RowKit Go.Proofs.YtmdpiagpkocheaaW.PrintWords Go.Proofs.YtmdpiagpkocheaaW.PrintLast Go.Proofs.YtmdpiagpkocheaaW.PrintMore Go.Proofs.Ytmdpiagpkocheaa.Base Go.Proofs.Ytmdpiagpkocheaa.Order
set_option linter.unusedVariables false

theorem bind_len {b : List Int} (h : bindS b = true) : 1 ≤ b.length ∧ b.length ≤ 8 := by
  unfold bindS at h
  rw [Bool.and_eq_true, decide_eq_true_eq] at h
  exact h.1
/-- Is there a part? -/
def partB (b : List Int) (f t : Int) : Bool := decide (0 ≤ f ∧ f ≤ t ∧ t ≤ (b.length : Int) - 1)
theorem biPart_ev (b : List Int) (f t : Int) (hn : b.length ≤ 1048576) : Ev (fun k => spec_biPart.f k b f t) (bindS b && partB b f t) := by
  simp only [spec_biPart.f]
  refine Ev_bind (biGood_ev b hn) ?_
  cases hb : bindS b with
  | false => exact Ev_neg (by decide) (Ev.now _)
  | true =>
    have hl := bind_len hb
    rw [Bool.true_and, w64 (x := (b.length : Int) - 1) (by omega) (by omega)]
    refine Ev_pos rfl (Ev_some (l1In_eq _ _ _) ?_)
    unfold inB partB
    by_cases h : 0 ≤ f ∧ f ≤ (b.length : Int) - 1
    · rw [decide_eq_true h]
      refine Ev_pos rfl (Ev_some (l1In_eq _ _ _) ?_)
      unfold inB
      rw [show decide (0 ≤ f ∧ f ≤ t ∧ t ≤ (b.length : Int) - 1) = decide (f ≤ t ∧ t ≤ (b.length : Int) - 1) from decide_eq_decide.2 (by omega)]
      exact Ev.now _
    · rw [decide_eq_false h, show decide (0 ≤ f ∧ f ≤ t ∧ t ≤ (b.length : Int) - 1) = false from decide_eq_false (by omega)]
      exact Ev_neg (by decide) (Ev.now _)
theorem isPart_eq (b : List Int) (f t : Int) (hb : bindS b = true) : impl_isPartOf.f b f t = some (partB b f t) := by
  have hl := bind_len hb
  rw [impl_isPartOf.f, w64 (x := (b.length : Int) - 1) (by omega) (by omega), within_eq]
  simp only [Option.bind_some]
  unfold inB partB
  by_cases h : 0 ≤ t ∧ t ≤ (b.length : Int) - 1
  · rw [decide_eq_true h, if_pos rfl, within_eq]
    simp only [Option.bind_some]
    unfold inB
    rw [show decide (0 ≤ f ∧ f ≤ t ∧ t ≤ (b.length : Int) - 1) = decide (0 ≤ f ∧ f ≤ t) from decide_eq_decide.2 (by omega)]
  · rw [decide_eq_false h, show decide (0 ≤ f ∧ f ≤ t ∧ t ≤ (b.length : Int) - 1) = false from decide_eq_false (by omega)]
    rfl
end Go.Proofs.Ytmdpiagpkocheaa.P
end

/-! Rows of rows of whole numbers: copied, equal to themselves, told by size; at most 1048576 long. -/
section
namespace Go.Proofs.Ytmdpiagpkocheaa.P
open Go.RowKit Go.Proofs.YtmdpiagpkocheaaW.PrintWords Go.Proofs.YtmdpiagpkocheaaW.PrintLast Go.Proofs.YtmdpiagpkocheaaW.PrintMore Go.Proofs.Ytmdpiagpkocheaa.Base
set_option linter.unusedVariables false

/-- Rows that are not too great. -/
def Fine (l : List (List Int)) : Prop := l.length ≤ 1048576 ∧ ∀ r, r ∈ l → r.length ≤ 1048576
theorem rdL (l : List (List Int)) (i : Nat) (h : i < l.length) : rd_L1 l (i : Int) = l[i] := by
  unfold rd_L1
  rw [Int.toNat_natCast, List.getD_eq_getElem?_getD, List.getElem?_eq_getElem h]
  rfl
theorem Fine.at {l : List (List Int)} (hl : Fine l) (i : Nat) (h : i < l.length) : (rd_L1 l (i : Int)).length ≤ 1048576 := by
  rw [rdL l i h]
  exact hl.2 _ (List.getElem_mem h)
theorem toIntSS_l0 (xs : List (List Int)) (hn : Fine xs) : ∀ n i : Nat, i + n = xs.length → Ev (fun k => laws_toIntSS.l0 k xs ((xs.take i).map id ++ List.replicate (xs.length - i) []) (i : Int)) xs := by
  have hn1 := hn.1
  intro n
  induction n with
  | zero =>
    intro i hi
    refine Ev_step (fun k => ?_) (Ev.now _)
    rw [laws_toIntSS.l0, if_neg (by omega), List.map_id, List.take_of_length_le (by omega), show xs.length - i = 0 by omega, List.replicate_zero, List.append_nil]
  | succ n ih =>
    intro i hi
    have h : i < xs.length := by omega
    have hl : (List.map id (xs.take i) ++ List.replicate (xs.length - i) ([] : List Int)).length = xs.length := by simp; omega
    refine Ev_step (fun k => by rw [laws_toIntSS.l0, if_pos (by omega), if_pos (by omega), hl, nextI i (by omega), Int.toNat_natCast]) ?_
    refine Ev_bind (toIntS_ev _ (hn.at i h)) (Ev_pos (by omega) ?_)
    have e := set_copied id xs ([] : List Int) h
    rw [id] at e
    rw [rdL xs i h, e]
    exact ih (i + 1) (by omega)
theorem toIntSS_ev (xs : List (List Int)) (hn : Fine xs) : Ev (fun k => laws_toIntSS.f k xs) xs := by
  have hn1 := hn.1
  have := toIntSS_l0 xs hn xs.length 0 (by omega)
  simp only [List.take_zero, List.map_nil, List.nil_append, Nat.sub_zero] at this
  refine Ev.congr (fun k => ?_) this
  rw [laws_toIntSS.f, if_pos (by omega), if_pos (by omega), Int.toNat_natCast]
  rfl
theorem eqIntSS_l0 (l : List (List Int)) (hn : Fine l) : ∀ n i : Nat, i + n = l.length → Ev (fun k => laws_eqIntSS.l0 k l l (i : Int)) true := by
  have hn1 := hn.1
  intro n
  induction n with
  | zero =>
    intro i hi
    refine Ev_step (fun k => ?_) (Ev.now _)
    rw [laws_eqIntSS.l0, if_neg (by omega)]
  | succ n ih =>
    intro i hi
    refine Ev_step (fun k => by rw [laws_eqIntSS.l0, if_pos (by omega), if_pos (by omega), if_pos (by omega), nextI i (by omega)]) ?_
    exact Ev_bind (eqIntS_ev _ (hn.at i (by omega))) (Ev_pos rfl (ih (i + 1) (by omega)))
theorem eqIntSS_ev (l : List (List Int)) (hn : Fine l) : Ev (fun k => laws_eqIntSS.f k l l) true :=
  Ev.congr (fun k => by rw [laws_eqIntSS.f, if_pos rfl]; rfl) (eqIntSS_l0 l hn l.length 0 (by omega))
theorem szIntS_eq (l : List Int) (a : Int) (hm : l.length ≤ maxLen) (h0 : 0 ≤ a) (h1 : a ≤ 1048576) : laws_szIntS.f l a = some (if a < (l.length : Int) then -1 else a - (l.length : Int)) := by
  have e : wrap64 (a - (l.length : Int)) = a - (l.length : Int) := by unfold maxLen at hm; unfold wrap64; omega
  rw [laws_szIntS.f, e]
  by_cases h : a < (l.length : Int)
  · rw [if_pos (by omega), if_pos h]
  · rw [if_neg (by omega), if_neg h]
theorem szIntSS_l0 (l : List (List Int)) (hl : l.length ≤ 1048576) (hr : ∀ r, r ∈ l → r.length ≤ maxLen) : ∀ (n i : Nat) (a : Int), i + n = l.length → 0 ≤ a → a ≤ 1048576 → ∃ s, Ev (fun k => laws_szIntSS.l0 k l a (i : Int)) s ∧ (0 ≤ s → (tot (l.drop i) : Int) ≤ a) := by
  intro n
  induction n with
  | zero =>
    intro i a hi h0 h1
    refine ⟨a, Ev_step (fun k => ?_) (Ev.now _), fun _ => ?_⟩
    · rw [laws_szIntSS.l0, if_neg (by omega)]
    · rw [List.drop_of_length_le (by omega), tot]
      exact h0
  | succ n ih =>
    intro i a hi h0 h1
    have h : i < l.length := by omega
    have hx := szIntS_eq l[i] a (hr _ (List.getElem_mem h)) h0 h1
    by_cases hc : a < (l[i].length : Int)
    · refine ⟨-1, Ev_step (fun k => by rw [laws_szIntSS.l0, if_pos (by omega), if_pos (by omega), rdL l i h]) ?_, fun h => absurd h (by decide)⟩
      rw [if_pos hc] at hx
      exact Ev_some hx (Ev_pos (by decide) (Ev.now _))
    · rw [if_neg hc] at hx
      obtain ⟨s, hs, h2⟩ := ih (i + 1) (a - (l[i].length : Int)) (by omega) (by omega) (by omega)
      refine ⟨s, Ev_step (fun k => by rw [laws_szIntSS.l0, if_pos (by omega), if_pos (by omega), rdL l i h, nextI i (by omega)]) (Ev_some hx (Ev_neg (show ¬ (a - (l[i].length : Int) < 0) by omega) hs)), fun h3 => ?_⟩
      have := h2 h3
      rw [List.drop_eq_getElem_cons h, tot, Int.natCast_add]
      omega
theorem szIntSS_ev (l : List (List Int)) (hl : l.length ≤ maxLen) (hr : ∀ r, r ∈ l → r.length ≤ maxLen) : ∃ s, Ev (fun k => laws_szIntSS.f k l 1048576) s ∧ (0 ≤ s → l.length + tot l ≤ 1048576) := by
  have e : wrap64 (1048576 - (l.length : Int)) = 1048576 - (l.length : Int) := by unfold maxLen at hl; unfold wrap64; omega
  by_cases h : (1048576 : Int) < (l.length : Int)
  · refine ⟨-1, ⟨0, fun k _ => ?_⟩, fun h => absurd h (by decide)⟩
    show laws_szIntSS.f k l 1048576 = _
    rw [laws_szIntSS.f, e, if_pos (by omega)]
  · obtain ⟨s, hs, h2⟩ := szIntSS_l0 l (by omega) hr l.length 0 (1048576 - (l.length : Int)) (by omega) (by omega) (by omega)
    refine ⟨s, Ev.congr (fun k => ?_) hs, fun h3 => ?_⟩
    · rw [laws_szIntSS.f, e, if_neg (by omega)]
      rfl
    · have := h2 h3
      rw [List.drop_zero] at this
      omega
theorem tot_mem : ∀ {l : List (List Int)} {r : List Int}, r ∈ l → r.length ≤ tot l
  | a :: l, r, h => by
    rw [tot]
    rcases List.mem_cons.1 h with rfl | h
    · exact Nat.le_add_right _ _
    · exact Nat.le_trans (tot_mem h) (Nat.le_add_left _ _)
theorem Fine.of {l : List (List Int)} (h : l.length + tot l ≤ 1048576) : Fine l := ⟨by omega, fun r hr => by have := tot_mem hr; omega⟩
end Go.Proofs.Ytmdpiagpkocheaa.P
end
