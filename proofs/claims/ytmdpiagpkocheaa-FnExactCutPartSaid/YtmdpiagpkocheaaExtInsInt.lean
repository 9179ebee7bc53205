/- slices.Delete and slices.Insert at rows of whole numbers that are known as blocks, one behind the other: what stands in the block then; asked that there is room. -/
import Derived.Test.YtmdpiagpkocheaaExtDelInt
import Derived.Shelf.Lays2
import Derived.Shelf.Spec.SlicesInsert
namespace Go.Proofs.Ytmdpiagpkocheaa.P
open Go.Shelf Go.RowKit Go.Proofs.YtmdpiagpkocheaaW.PrintWords Go.Proofs.YtmdpiagpkocheaaW.PrintLast Go.Proofs.YtmdpiagpkocheaaW.PrintMore
set_option linter.unusedVariables false
set_option linter.unusedSimpArgs false

def insRen : Go.Shelf.Ren := ⟨fun | 21 => 42 | 27 => 55 | 28 => 56 | 35 => 61 | 39 => 64 | n => n, fun | 0 => 0 | 3 => 3 | 4 => 4 | 22 => 22 | n => n, fun n => n⟩
theorem insLays : Go.Proofs.Lays2.n21 Try.prog insRen := {
  mixed := by kernel_rfl
  f21 := Try.func42.trans (congrArg some (by kernel_rfl))
  f27 := Try.func55.trans (congrArg some (by kernel_rfl))
  f28 := Try.func56.trans (congrArg some (by kernel_rfl))
  f35 := Try.func61.trans (congrArg some (by kernel_rfl))
  f39 := Try.func64.trans (congrArg some (by kernel_rfl))
  t0 := Try.underlying0
  a0 := Try.isAgg0
  z0 := Try.sizeOf0
  v0 := Try.zeroValue0
  t3 := Try.underlying3
  a3 := Try.isAgg3
  z3 := Try.sizeOf3
  v3 := Try.zeroValue3
  t4 := Try.underlying4
  a4 := Try.isAgg4
  z4 := Try.sizeOf4
  v4 := Try.zeroValue4
  t22 := Try.underlying22
  a22 := Try.isAgg22
  z22 := Try.sizeOf22
  v22 := Try.zeroValue22
  i3 := by kernel_rfl }

/-- A row of the call's own as a block. -/
theorem row_block {v : Value} {xs : List Int} {w : World} {base : Nat} {ok : Nat → Prop} (HO : Kd.R (Kd.int .i64) 3 w base ok v xs) (h : 0 < xs.length) :
    ∃ (g c : Nat) (cur : Array Value), v = .slice (some ⟨g, 0, none⟩) xs.length c ∧ base ≤ g ∧ w.heap[g]? = some (.cells cur 3 (0, 0)) ∧ xs.length ≤ c ∧ c ≤ 9223372036854775807 ∧ cur.size = c ∧ cur.toList.take xs.length = encs (Value.int .i64) xs := by
  have ho := Kd.own_of_R HO
  rcases ho.2 with ⟨_, h0⟩ | ⟨g, c, cur, e, hb, hh, hnc, hcm, hcs, htake⟩
  · omega
  · exact ⟨g, c, cur, e, hb, hh, hnc, hcm, by simpa using hcs, by simpa using htake⟩
theorem block_row {xs : List Int} {w : World} {base g c n : Nat} {cur : Array Value} (hb : base ≤ g) (hh : w.heap[g]? = some (.cells cur 3 (0, 0))) (hn : n = xs.length) (hnc : xs.length ≤ c) (hcm : c ≤ 9223372036854775807) (hcs : cur.size = c) (ht : cur.toList.take xs.length = encs (Value.int .i64) xs) :
    Kd.R (Kd.int .i64) 3 w base (fun _ => True) (.slice (some ⟨g, 0, none⟩) n c) xs := by
  subst hn
  exact Kd.R_of_own ⟨by simp [encs], .inr ⟨g, c, cur, rfl, hb, hh, hnc, hcm, by simpa using hcs, by simpa using ht⟩⟩ (fun _ _ => trivial)
theorem encs_one (xs : List Int) : ∀ v ∈ encs (Value.int .i64) xs, v.oneCell' = true := by
  intro v hv
  obtain ⟨x, _, rfl⟩ := List.mem_map.1 hv
  rfl
/-- What is known behind Insert. -/
def InsPost (g c : Nat) (cur : Array Value) (out : List Value) (w w' : World) : Prop :=
  ∃ cur' : Array Value, w'.heap[g]? = some (.cells cur' 3 (0, 0)) ∧ cur'.size = cur.size ∧ cur'.toList.take out.length = out ∧ w.grownBy w' (some g)
theorem insert_Int (g n c i vb voff m vc : Nat) (cur cvb : Array Value) (cs vs : List Value) (w : World) (hh : w.heap[g]? = some (.cells cur 3 (0, 0))) (hv : w.heap[vb]? = some (.cells cvb 3 (0, 0))) (hne : vb ≠ g)
    (hi : i ≤ n) (hm : 0 < m) (hroom : n + m ≤ c) (hc : c ≤ 9223372036854775807) (hcs : cur.size = c) (hcl : cs.length = n) (hvl : vs.length = m) (htake : cur.toList.take n = cs) (hvs : ∀ j u, vs[j]? = some u → cvb[voff + j]? = some u)
    (h1c : ∀ v ∈ cs, v.oneCell' = true) (h1v : ∀ v ∈ vs, v.oneCell' = true) :
    Calls Try.prog 42 #[.slice (some ⟨g, 0, none⟩) n c, .int .i64 i, .slice (some ⟨vb, voff, none⟩) m vc] w fun e w' => e = .returned (.slice (some ⟨g, 0, none⟩) (n + m) c) ∧ InsPost g c cur (cs.take i ++ vs ++ cs.drop i) w w' := by
  have hlc : cur.toList.length = c := by rw [Array.length_toList]; exact hcs
  have hcell : ∀ j, w.cell? ⟨g, 0 + j, none⟩ = cur[j]? := fun j => by rw [cell_of_row w g _ cur _ (0, 0) hh, Nat.zero_add]
  have hcv : ∀ j u, vs[j]? = some u → w.cell? ⟨vb, voff + j, none⟩ = some u := fun j u hj => by rw [cell_of_row w vb _ cvb _ (0, 0) hv]; exact hvs j u hj
  rcases Nat.lt_or_ge i n with h | h
  · have hsa : w.shape? vb = some (3, cvb.size) := by unfold World.shape?; rw [hv]
    have hsb : w.shape? g = some (3, cur.size) := by unfold World.shape?; rw [hh]
    refine (Any2.slices_Insert_int_shift insLays g 0 n c i vb voff m vc cs vs w h hm hroom hc hne hcl hvl ?_ ?_ ?_ hcv h1c h1v _ _ _ _ hsa hsb (by omega) (blk_frozen hv _) (blk_frozen hv _)).mono ?_
    · intro j u hj
      rw [hcell, ← Array.getElem?_toList]
      have hjl := (List.getElem?_eq_some_iff.1 hj).1
      rw [← htake, List.getElem?_take, if_pos (by omega)] at hj
      exact hj
    · intro j hj
      rw [hcell, Array.getElem?_eq_getElem (by omega)]
      rfl
    · intro j _
      exact blk_frozen hh _
    · rintro e w' ⟨rfl, rfl⟩
      refine ⟨rfl, ?_⟩
      have hd : (cs.drop i).length = n - i := by rw [List.length_drop, hcl]
      obtain ⟨c1, a1, a2, a3⟩ := setCells_row (cs.drop i) (0 + (i + m)) w.drew cur hh (by omega)
      obtain ⟨c2, b1, b2, b3⟩ := setCells_row vs (0 + i) (w.drew.setCells g (0 + (i + m)) (cs.drop i)) c1 a1 (by omega)
      refine ⟨c2, b1, by omega, ?_, ?_⟩
      · have e1 : (cur.toList.take (i + m)).length = i + m := by rw [List.length_take]; omega
        have e0 : cur.toList.take i = cs.take i := by rw [← htake, List.take_take, Nat.min_eq_left (by omega)]
        rw [Nat.zero_add] at a3 b3
        have e2 : c1.toList.take i = cs.take i := by
          rw [a3, List.append_assoc, List.take_append_of_le_length (by omega), List.take_take, Nat.min_eq_left (by omega), e0]
        have e3 : c1.toList.drop (i + vs.length) = cs.drop i ++ cur.toList.drop (i + m + (cs.drop i).length) := by
          rw [a3, hvl, List.append_assoc, List.drop_left' e1]
        rw [b3, e2, e3, ← List.append_assoc, List.take_left' rfl]
      · have q1 := grownBy_setInt w.drew g (0 + (i + m)) (cs.drop i)
        have q2 := grownBy_setInt (w.drew.setCells g (0 + (i + m)) (cs.drop i)) g (0 + i) vs
        exact ⟨q2.os.trans q1.os, q2.tape.trans q1.tape, q2.output.trans q1.output, Nat.le_trans q1.size q2.size, fun k hk hk2 => (q2.block k (Nat.lt_of_lt_of_le hk q1.size) hk2).trans (q1.block k hk hk2)⟩
  · obtain rfl : i = n := by omega
    refine (Any2.slices_Insert_int_end_room insLays g 0 i c vb voff m vc vs w hm hroom hc hvl ?_ ?_ hcv h1v).mono ?_
    · intro j hj
      rw [Nat.add_assoc, hcell, Array.getElem?_eq_getElem (by omega)]
      rfl
    · intro j _
      exact blk_frozen hh _
    · rintro e w' ⟨rfl, rfl⟩
      refine ⟨rfl, ?_⟩
      obtain ⟨c1, a1, a2, a3⟩ := setCells_row vs (0 + i) w cur hh (by omega)
      refine ⟨c1, a1, a2, ?_, grownBy_setInt w g (0 + i) vs⟩
      have e1 : cs.take i = cs := List.take_of_length_le (by omega)
      have e2 : cs.drop i = [] := List.drop_of_length_le (by omega)
      rw [a3, Nat.zero_add, htake, e1, e2, List.append_nil, List.take_left' rfl]
end Go.Proofs.Ytmdpiagpkocheaa.P
