/- slices.Delete in a row of the call's own, known as a block: what stands there behind the call; asked 'i < j ≤ n ≤ c'. -/
import Derived.Test.YtmdpiagpkocheaaPx0
import Derived.Deep.RegionLaw
import Derived.Lib.SliceRun
namespace Go.Proofs.Ytmdpiagpkocheaa.P
open Go.RowKit Go.Proofs.YtmdpiagpkocheaaW.PrintWords Go.Proofs.YtmdpiagpkocheaaW.PrintLast Go.Proofs.YtmdpiagpkocheaaW.PrintMore
set_option linter.unusedVariables false
set_option linter.unusedSimpArgs false

theorem info_delInt : (Try.prog.info? 3).map (fun i => (i.zero, i.size, i.bytes)) = some (some (.int .i64 0), 1, 8) := by kernel_rfl
/-- What is known of the block behind the call. -/
def DelPostInt (g n c i j : Nat) (cur : Array Value) (w w' : World) : Prop :=
  ∃ cur' : Array Value, w'.heap[g]? = some (.cells cur' 3 (0, 0)) ∧ cur'.size = cur.size ∧ cur'.toList.take ((n - (j - i)) * 1) = cur.toList.take (i * 1) ++ (cur.toList.take (n * 1)).drop (j * 1) ∧ w.grownBy w' (some g)
theorem zero_delInt (W : World) : (zeroValue 3).run Try.prog W = .ok (.int .i64 0) W := by kernel_rfl
theorem grownBy_setInt (w : World) (g o : Nat) (vs : List Value) : w.grownBy (w.setCells g o vs) (some g) := by
  obtain ⟨s1, s2, s3, s4⟩ := setCells_same g vs o w
  exact ⟨s1, s2, s3, by rw [s4]; exact Nat.le_refl _, fun k _ hk => setCells_far vs _ k (fun he => hk (by rw [he]))⟩
/-- What clear lays. -/
def zeros_Int (n : Nat) : List Value := (Builtin.zeroCells (Value.cells (.int .i64 0)) n).toList
theorem zeros_lenInt (n : Nat) : (zeros_Int n).length = n * 1 := by simp [zeros_Int, Builtin.zeroCells, Value.cells]
theorem zeros_oneInt (n : Nat) : ∀ v ∈ zeros_Int n, v.oneCell' = true := by
  intro v hv
  simp only [zeros_Int, Builtin.zeroCells, Array.toList_map, List.mem_map] at hv
  obtain ⟨q, _, rfl⟩ := hv
  have hq : q % (Value.cells (.int .i64 0)).size < 1 := Nat.mod_lt _ (by decide)
  generalize q % (Value.cells (.int .i64 0)).size = r at hq ⊢
  match r, hq with
  | 0, _ => rfl
/-- clear of a slice of a known block. -/
theorem clear_runInt (W : World) (ty : TypeId) (g o n c : Nat) (cur : Array Value) (hh : W.heap[g]? = some (.cells cur 3 (0, 0))) (hn : 0 < n) (ho : o + n * 1 ≤ cur.size) :
    (Builtin.clear_ #[22] ty #[.slice (some ⟨g, o, none⟩) n c]).run Try.prog W = .ok (.tuple #[]) (W.setCells g o (zeros_Int n)) := by
  have hz := zeros_lenInt n
  have hst := run_storeCells_cells (P := Try.prog) g o (zeros_Int n) 0 W (fun j hj => by rw [cell_of_row W g _ cur _ (0, 0) hh]; rw [hz] at hj; simp; omega) (fun j _ => blk_frozen hh _) (zeros_oneInt n)
  simp only [Nat.add_zero] at hst
  unfold zeros_Int at hst ⊢
  obtain ⟨m, rfl⟩ : ∃ m, n = m + 1 := ⟨n - 1, by omega⟩
  have hzr := zero_delInt
  have hu := Try.underlying22
  simp [Builtin.clear_, run_underlying hu, hzr, hst]

set_option maxHeartbeats 4000000 in
set_option maxRecDepth 1000000 in
theorem delete_Int (g n c i j : Nat) (cur : Array Value) (w : World) (hh : w.heap[g]? = some (.cells cur 3 (0, 0))) (hcs : cur.size = c * 1) (hn : n ≤ c) (hc : c ≤ 9223372036854775807) (hij : i < j) (hj : j ≤ n) (hone : ∀ u ∈ cur.toList.take (n * 1), u.oneCell' = true) :
    Calls Try.prog 41 #[.slice (some ⟨g, 0, none⟩) n c, .int .i64 i, .int .i64 j] w fun e w' => e = .returned (.slice (some ⟨g, 0, none⟩) (n - (j - i)) c) ∧ DelPostInt g n c i j cur w w' := by
  obtain ⟨i0, hi0, hz0, hz1, hz2⟩ := info_parts info_delInt
  obtain ⟨news, hnews⟩ : ∃ news, news = (cur.toList.take (n * 1)).drop (j * 1) := ⟨_, rfl⟩
  have hlc : cur.toList.length = c * 1 := by simpa using hcs
  have hlen : news.length = (n - j) * 1 := by
    rw [hnews, List.length_drop, List.length_take, hlc]
    omega
  have hmem : ∀ u ∈ news, u ∈ cur.toList.take (n * 1) := fun u hu => List.mem_of_mem_drop (by rw [hnews] at hu; exact hu)
  have hget : ∀ t u, news[t]? = some u → cur[j * 1 + t]? = some u := by
    intro t u hu
    have ht := (List.getElem?_eq_some_iff.1 hu).1
    rw [hlen] at ht
    rw [hnews, List.getElem?_drop, List.getElem?_take, if_pos (by omega)] at hu
    simpa using hu
  obtain ⟨A, hA, hsrc⟩ : ∃ A : Addr, (if c = j then some (⟨g, 0, none⟩ : Addr) else (some (⟨g, 0, none⟩ : Addr)).map (·.add (j * 1))) = some A ∧ Hid (∀ t u, news[t]? = some u → w.drew.cell? (A.add t) = some u) := by
    by_cases h : c = j
    · refine ⟨⟨g, 0, none⟩, by simp [h], fun t u hu => ?_⟩
      have h0 : news.length = 0 := by rw [hlen]; omega
      rw [List.length_eq_zero_iff.1 h0] at hu
      simp at hu
    · refine ⟨⟨g, 0 + j * 1, none⟩, by simp [h, add_at], fun t u hu => ?_⟩
      rw [add_at, cell_of_row w.drew g _ cur _ (0, 0) hh, Nat.zero_add]
      exact hget t u hu
  have hcutF := cut_from (P := Try.prog) 22 3 .i64 Try.underlying22 hi0 1 hz1 (some ⟨g, 0, none⟩) n c (j : Int) (by omega) (by omega)
  have hcutT := cut_to (P := Try.prog) 22 3 .i64 Try.underlying22 hi0 (some ⟨g, 0, none⟩) n c (i : Int) (by omega) (by omega) hn
  simp only [Int.toNat_natCast] at hcutF hcutT
  rw [hA] at hcutF
  have s1 : Hid (news.length = (n - j) * 1) := hlen
  have s2 : Hid (∀ u ∈ news, u.oneCell' = true) := fun u hu => hone u (hmem u hu)
  have s3 : Hid (∀ t, t < news.length → (w.drew.cell? ⟨g, 0 + i * 1 + t, none⟩).isSome = true ∧ w.drew.frozen? ⟨g, 0 + i * 1 + t, none⟩ = false) := by
    intro t ht
    rw [hlen] at ht
    refine ⟨?_, blk_frozen (w := w.drew) hh _⟩
    rw [cell_of_row w.drew g _ cur _ (0, 0) hh]
    simp
    omega
  obtain ⟨W1, hW1⟩ : ∃ W1, W1 = w.drew.setCells g (0 + i * 1) news := ⟨_, rfl⟩
  obtain ⟨cur1, h3, h4, h5⟩ := setCells_row news (0 + i * 1) w.drew cur hh (by omega)
  rw [← hW1] at h3
  obtain ⟨m, hm0⟩ : ∃ m, m = i + (n - j) := ⟨_, rfl⟩
  have hcl := fun ty => clear_runInt W1 ty g (m * 1) (n - m) (c - m) cur1 h3 (by omega) (by omega)
  (try simp only [Nat.mul_one] at hcl)
  have hmid : ∀ W : World, (Instr.slice 22 (.slice (some ⟨g, 0, none⟩) m c) (some (.int .i64 (m : Int))) (some (.int .i64 (n : Int))) none).run Try.prog W = .ok (.slice (some ⟨g, 0 + m * 1, none⟩) (n - m) (c - m)) W := by
    intro W
    have hu := Try.underlying22
    have hel : Try.prog.elem 22 = 3 := by simp [Program.elem, hu]
    have hu' : Try.prog.underlying 22 = some (.slice (Try.prog.elem 22)) := by rw [hel]; exact hu
    have hne : ¬ c = m := by omega
    rw [run_slice_lh W 22 (some ⟨g, 0, none⟩) m c hu' .i64 .i64 (m : Int) (n : Int) (by omega) (by omega) (by omega), hel]
    simp [sizeOf, typeInfo, hi0, hz1, sliced, Result.andThen, hne, add_at]
  have hm : Hid (m = i + (n - j)) := hm0
  have hW : Hid (W1 = w.drew.setCells g (0 + i * 1) news) := hW1
  have h5' : Hid (cur1.toList = cur.toList.take (0 + i * 1) ++ news ++ cur.toList.drop (0 + i * 1 + news.length)) := h5
  have h3' : Hid (W1.heap[g]? = some (.cells cur1 3 (0, 0))) := h3
  have h4' : Hid (cur1.size = cur.size) := h4
  have hl' : Hid (news.length = (n - j) * 1) := hlen
  have hn' : Hid (news = (cur.toList.take (n * 1)).drop (j * 1)) := hnews
  have hlc' : Hid (cur.toList.length = c * 1) := hlc
  have hne : ¬ (i : Int) = (j : Int) := by omega
  have hic : i ≤ c := by omega
  have hjc : j ≤ c := by omega
  clear hm0 hW1 h5 h3 h4 hlen hnews hlc hcs hget hmem hone hh hA
  go_enter Try.func41, Try.ntmps41
  go_wp2_with fail
  go_region_law (refine step_append_room rfl (.tmp 22) (.tmp 25) 22 rfl 3 i0 1 Try.underlying22 hi0 hz1 g 0 i c (by simp [Act.eval, Act.put]) A (n - j) (c - j) news (by simp [Act.eval, Act.put]) s1.out hsrc.out s2.out (by omega) s3.out ?_; rw [← hW.out, ← hm.out])
  go_wp2
  go_ret
  have hlz := zeros_lenInt (n - m)
  have hmv := hm.out
  have e1 := hl'.out
  have e2 := hlc'.out
  have e3 := h4'.out
  have e4 : cur1.toList.length = c * 1 := by
    rw [Array.length_toList, e3, ← Array.length_toList, e2]
  obtain ⟨cur2, f3, f4, f5⟩ := setCells_row (zeros_Int (n - m)) (m * 1) W1 cur1 h3'.out (by rw [hlz, ← Array.length_toList, e4]; omega)
  have g1 : w.grownBy W1 (some g) := by
    rw [hW.out]
    have b := grownBy_setInt w.drew g (0 + i * 1) news
    exact ⟨b.os, b.tape, b.output, b.size, b.block⟩
  (try simp only [Nat.mul_one] at f3)
  refine ⟨by rw [show n - (j - i) = m by omega]; rfl, cur2, f3, by rw [f4, e3], ?_, ?_⟩
  · rw [f5, show (n - (j - i)) * 1 = m * 1 by rw [show n - (j - i) = m by omega], List.append_assoc, List.take_append_of_le_length (by rw [List.length_take, e4]; omega), List.take_take, Nat.min_self, h5'.out, List.take_append_of_le_length (by rw [List.length_append, List.length_take, e1, e2]; omega), List.take_of_length_le (by rw [List.length_append, List.length_take, e1, e2]; omega), Nat.zero_add, hn'.out]
  · obtain ⟨a1, a2, a3, a4, a5⟩ := g1
    obtain ⟨b1, b2, b3, b4, b5⟩ := grownBy_setInt W1 g m (zeros_Int (n - m))
    exact ⟨b1.trans a1, b2.trans a2, b3.trans a3, Nat.le_trans a4 b4, fun k hk hne => (b5 k (by omega) hne).trans (a5 k hk hne)⟩
/-- slices.Delete in a row of the call's own. -/
theorem deleteR_Int (i j : Nat) (v : Value) (xs : List Int) (base : Nat) (w : World) (HO : Kd.R (Kd.int .i64) 3 w base (fun _ => True) v xs) (hij : i < j) (hj : j ≤ xs.length) :
    Calls Try.prog 41 #[v, .int .i64 i, .int .i64 j] w fun e w' => ∃ v1 : Value, e = .returned v1 ∧ Kd.R (Kd.int .i64) 3 w' base (fun _ => True) v1 (xs.take i ++ xs.drop j) ∧ w.grownBy w' v.ownBlock := by
  obtain ⟨_, inner, hown, hr⟩ := HO
  rcases hown.2 with ⟨_, h0⟩ | ⟨g, c, cur, rfl, hb, hh, hnc, hcm, hcs, htake⟩
  · omega
  have hsz : ((Kd.int .i64)).sz = 1 := rfl
  rw [hsz] at hr htake hcs
  have hone : ∀ u ∈ cur.toList.take (xs.length * 1), u.oneCell' = true := by
    intro u hu
    rw [htake] at hu
    obtain ⟨q, hq, rfl⟩ := List.mem_iff_getElem.1 hu
    have hql : q / 1 < xs.length := by
      rw [Nat.div_lt_iff_lt_mul (by decide), ← hr.1]
      exact hq
    refine ((Kd.int .i64)).K_one (((Kd.int .i64)).K_of_M (hr.2 (q / 1) _ (List.getElem?_eq_getElem hql))) _ ?_
    rw [List.mem_iff_getElem?]
    refine ⟨q % 1, ?_⟩
    rw [List.getElem?_take, if_pos (Nat.mod_lt _ (by decide)), List.getElem?_drop, Nat.mul_comm, Nat.div_add_mod, List.getElem?_eq_getElem hq]
  refine (delete_Int g xs.length c i j cur w hh hcs hnc (by unfold maxLen at hcm; omega) hij hj hone).mono fun e w' ⟨he, cur', h1, h2, h3, h4⟩ => ?_
  have hlen : (xs.take i ++ xs.drop j).length = xs.length - (j - i) := by rw [List.length_append, List.length_take, List.length_drop]; omega
  refine ⟨_, he, ⟨fun _ _ => trivial, inner.take (i * 1) ++ inner.drop (j * 1), ⟨?_, .inr ⟨g, c, cur', by rw [hlen], hb, h1, by rw [hlen]; omega, hcm, by rw [h2, hcs]; rfl, ?_⟩⟩, ?_⟩, by simpa [Value.ownBlock] using h4⟩
  · have hi := hr.1
    rw [hsz, hlen, List.length_append, List.length_take, List.length_drop, hi]
    omega
  · rw [hsz, hlen, h3, htake, ← htake, List.take_take, Nat.min_eq_left (by omega)]
  · have hmv : ∀ p q, ((Kd.int .i64)).M w base (fun k' => True ∧ some k' ≠ (Value.slice (some ⟨g, 0, none⟩) xs.length c).ownBlock) p q → ((Kd.int .i64)).M w' base (fun k' => True ∧ some k' ≠ (Value.slice (some ⟨g, 0, none⟩) (xs.length - (j - i)) c).ownBlock) p q := fun p q hp => hp
    exact Kd.reps_append ((Kd.reps_take hr (by omega)).imp_ hmv) ((Kd.reps_drop hr).imp_ hmv)
end Go.Proofs.Ytmdpiagpkocheaa.P
