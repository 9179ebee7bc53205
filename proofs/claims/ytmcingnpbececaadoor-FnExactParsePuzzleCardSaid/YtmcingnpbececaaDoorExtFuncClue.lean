/- slices.IndexFunc and slices.ContainsFunc at clues: they answer by the predicate, where that answers at each element; no other condition. -/
import Derived.Test.YtmcingnpbececaaDoorPx0
import Derived.Shelf.Abstract
namespace Go.Proofs.YtmcingnpbececaaDoor.P
open Go.Shelf Go.RowKit Go.Proofs.YtmcingnpbececaaDoorW.PrintWords Go.Proofs.YtmcingnpbececaaDoorW.PrintLast Go.Proofs.YtmcingnpbececaaDoorW.PrintMore
set_option linter.unusedVariables false
set_option linter.unusedSimpArgs false

/-- What is asked of a predicate on clues: in every later world it answers p. -/
def PredClue (g : Nat) (lb : Array Value) (p : S51 → Bool) (l : List S51) (w : World) : Prop :=
  ∀ (W : World) (x : S51), x ∈ l → Below w.heap.size w W → Calls Tryd.prog g (#[.agg #[.int .i64 x.f0, .int .i64 x.f1, .int .i64 x.f2]] ++ lb) W fun e w' => e = .returned (.bool (p x)) ∧ Below W.heap.size W w'
/-- An index that tells whether one was found. -/
def IdxPost (b : Bool) (e : Ending) : Prop := ∃ i : Int, e = .returned (.int .i64 i) ∧ decide (0 ≤ i) = b

theorem any_hit {α : Type} (l : List α) (z : α) (p : α → Bool) (i : Nat) (hi : i < l.length) (h : p (l.getD i z) = true) : l.any p = true := by
  rw [List.any_eq_true]
  refine ⟨l[i], List.getElem_mem hi, ?_⟩
  rw [List.getD_eq_getElem?_getD, List.getElem?_eq_getElem hi] at h
  exact h
theorem any_miss {α : Type} (l : List α) (z : α) (p : α → Bool) (h : ∀ j, j < l.length → p (l.getD j z) = false) : l.any p = false := by
  rw [List.any_eq_false]
  intro x hx
  obtain ⟨i, hi, rfl⟩ := List.mem_iff_getElem.1 hx
  have := h i hi
  rw [List.getD_eq_getElem?_getD, List.getElem?_eq_getElem hi] at this
  simpa using this

set_option maxHeartbeats 2000000 in
set_option maxRecDepth 100000 in
theorem indexFunc_clue (g : Nat) (lb : Array Value) (p : S51 → Bool) (eg : ∀ args w, (callFunc g args).run Tryd.prog w = .ok (.enter g args) w) (A : Option Addr) (c : Nat) (l : List S51) (w : World)
    (hr : Kd.C k51 w A l.length l) (hp : PredClue g lb p l w) :
    Calls Tryd.prog 70 #[.slice A l.length c, .func (.func g) #[] lb] w fun e w' => IdxPost (l.any p) e ∧ Below w.heap.size w w' := by
  have hu31 := Tryd.underlying51
  have hbig : l.length ≤ 9223372036854775807 := hr.2.1
  have HR := Aside0.mk hr
  have HP := Aside0.mk hp
  clear hr hp
  go_enter Tryd.func70, Tryd.ntmps70
  go_wp2
  go_loopg [5, 8] l.length (fun gg _ s8 wr => ∃ x : Int, s8 = .int .i64 x ∧ Aside0 (0 ≤ x ∧ x ≤ l.length ∧ l.length - x.toNat ≤ gg) ∧ Aside0 (Below w.heap.size w wr) ∧ Aside0 (∀ j, j < x.toNat → p (l.getD j z51) = false))
  case atStart => exact ⟨0, rfl, ⟨by omega, by omega, by simp⟩, ⟨Below.refl _ w⟩, ⟨fun j hj => absurd hj (by simp)⟩⟩
  case round =>
    obtain ⟨x, rfl, HX, HB, HM⟩ := hrel
    by_cases hlt : x < (l.length : Int)
    · have h0 : 0 ≤ x := HX.out.1
      obtain ⟨ad, e, hx0, hx1, hx2⟩ := at_T51 HR.out x h0 hlt
      cases e
      replace hx0 := (HB.out.cell (World.block_lt_of_cell? w _ hx0)).trans hx0
      replace hx1 := (HB.out.cell (World.block_lt_of_cell? w _ hx1)).trans hx1
      replace hx2 := (HB.out.cell (World.block_lt_of_cell? w _ hx2)).trans hx2
      have hmem : rd_T51 l x ∈ l := by
        unfold rd_T51
        rw [List.getD_eq_getElem?_getD, List.getElem?_eq_getElem (by omega)]
        exact List.getElem_mem _
      have hcall := HP.out wr (rd_T51 l x) hmem HB.out
      have HQ := Aside0.mk (show rd_T51 l x = l.getD x.toNat z51 from rfl)
      generalize rd_T51 l x = y at hx0 hx1 hx2 hcall HQ
      clear hmem
      cases hq : p y with
      | true =>
        rw [hq] at hcall
        go_wp2_with (go_at_fn g; refine hcall.mono ?_; rintro e w' ⟨rfl, hb'⟩)
        go_ret
        refine ⟨⟨x, rfl, ?_⟩, below_step HB.out hb'⟩
        rw [any_hit l z51 p x.toNat (by omega) (by rw [← HQ.out]; exact hq)]
        exact decide_eq_true h0
      | false =>
        rw [hq] at hcall
        go_wp2_with (go_at_fn g; refine hcall.mono ?_; rintro e w' ⟨rfl, hb'⟩)
        go_roundg (l.length - (x + 1).toNat)
        case measure => have := HX.out; omega
        case rel =>
          refine ⟨x + 1, by go_num, ⟨by omega, by omega, Nat.le_refl _⟩, ⟨below_step HB.out hb'⟩, ⟨fun j hj => ?_⟩⟩
          by_cases e : j = x.toNat
          · subst e
            rw [← HQ.out]; exact hq
          · exact HM.out j (by omega)
    · have hx : x = (l.length : Int) := by have := HX.out; omega
      go_wp2
      go_ret
      refine ⟨⟨-1, rfl, ?_⟩, HB.out⟩
      rw [any_miss l z51 p (fun j hj => HM.out j (by omega))]
      rfl

set_option maxHeartbeats 2000000 in
set_option maxRecDepth 100000 in
theorem containsFunc_clue (g : Nat) (lb : Array Value) (p : S51 → Bool) (eg : ∀ args w, (callFunc g args).run Tryd.prog w = .ok (.enter g args) w) (A : Option Addr) (c : Nat) (l : List S51) (w : World)
    (hr : Kd.C k51 w A l.length l) (hp : PredClue g lb p l w) :
    Calls Tryd.prog 54 #[.slice A l.length c, .func (.func g) #[] lb] w fun e w' => e = .returned (.bool (l.any p)) ∧ Below w.heap.size w w' := by
  have hc := indexFunc_clue g lb p eg A c l w hr hp
  clear hr hp
  go_enter Tryd.func54, Tryd.ntmps54
  go_wp2_with (go_at_call 70; refine hc.mono ?_; rintro e w' ⟨⟨i, rfl, hi⟩, hb'⟩; have HI := Aside0.mk hi; clear hi)
  go_ret
  exact ⟨by first | rfl | (rw [HI.out]; rfl), hb'⟩
end Go.Proofs.YtmcingnpbececaaDoor.P
