/- Sets of pages (an array of 2001 bools): made of ranges, told as ranges: what the program answers; no condition. -/
import Derived.Test.YtppbpefehpbejaaDoorZim21
import Derived.Shelf.Abstract
import Derived.Test.YtppbpefehpbejaaDoorZim22
import Derived.Test.YtppbpefehpbejaaDoorZim23
import Derived.Test.YtppbpefehpbejaaDoorZim24
section
namespace Go.Proofs.YtppbpefehpbejaaDoor.P
open Go.RowKit Go.Proofs.YtppbpefehpbejaaDoorW.PrintWords Go.Proofs.YtppbpefehpbejaaDoorW.PrintLast Go.Proofs.YtppbpefehpbejaaDoorW.PrintMore
attribute [local go_sem] max2_int min2_int max_two min_two max_three min_three max_four min_four   -- for this text's walks alone
set_option linter.unusedVariables false
set_option linter.unusedSimpArgs false

theorem PS_zero : Tryd.zeroCells152 = Array.replicate 2001 (.bool false) := by kernel_rfl
theorem PS_new {w : World} {g base : Nat} (h : w.heap[g]? = some (.cells Tryd.zeroCells152 152 (0, 0))) (hb : base ≤ g) : Kd.R Kd.bool 152 w base (fun _ => True) (.slice (some ⟨g, 0, none⟩) 2001 2001) (List.replicate 2001 false) := by
  rw [PS_zero] at h
  have hs : (List.replicate 2001 false).length = 2001 := List.length_replicate
  have ho : w.ownsRow base 152 1 (.slice (some ⟨g, 0, none⟩) 2001 2001) 2001 (encs Value.bool (List.replicate 2001 false)) := by
    refine ⟨?_, .inr ⟨g, 2001, _, rfl, hb, h, ?_, by unfold maxLen; omega, ?_, ?_⟩⟩
    · rw [encs, List.length_map, Nat.mul_one, hs]
    · exact Nat.le_refl _
    · rw [Array.size_replicate]
    · rw [Array.toList_replicate, encs, List.map_replicate, List.take_of_length_le (by rw [List.length_replicate]; omega)]
  exact Kd.R_of_own (by rw [hs]; exact ho) (fun _ _ => trivial)
theorem PS_form {w : World} {g base : Nat} {ok : Nat → Prop} {xs : List Bool} (h : Kd.R Kd.bool 152 w base ok (.slice (some ⟨g, 0, none⟩) 2001 2001) xs) : base ≤ g ∧ g < w.heap.size ∧ ∃ cells, w.heap[g]? = some (.cells cells 152 (0, 0)) := by
  have hl := (Kd.R_reads' h).1
  obtain ⟨g', c', e, hb, hl, hc⟩ := Kd.R_form h (by omega)
  injection e with e1 e2 e3
  injection e1 with e1
  injection e1 with e1
  subst e1
  exact ⟨hb, hl, hc⟩
mutual
def impl_setOf.l0 : Nat → List Bool → List (S100) → Int → Int → Option (List Bool)
  | 0, _, _, _, _ => none
  | k + 1, x3, x9, x10, x11 => if x11 < x10 then (if 0 ≤ x11 then (if x11 < (x9.length : Int) then (impl_setOf.l1 k x3 ((rd_T100 x9 x11).f0) x9 x10 x11 ((rd_T100 x9 x11).f0) ((rd_T100 x9 x11).f1)) else (none)) else (none)) else (some x3)
def impl_setOf.l1 : Nat → List Bool → Int → List (S100) → Int → Int → Int → Int → Option (List Bool)
  | 0, _, _, _, _, _, _, _ => none
  | k + 1, x3, x6, x9, x10, x11, x258000, x258001 => if x6 ≤ x258001 then (if 0 ≤ x6 then (if x6 < (x3.length : Int) then (impl_setOf.l1 k (x3.set (x6 : Int).toNat true) (wrap64 (x6 + 1)) x9 x10 x11 x258000 x258001) else (none)) else (none)) else (impl_setOf.l0 k x3 x9 x10 (wrap64 (x11 + 1)))
end
def impl_setOf.f (k : Nat) (l0 : List (S100)) : Option (List Bool) := if 2001 ≤ 281474976710656 then (impl_setOf.l0 k (List.replicate 2001 false) l0 (l0.length : Int) 0) else (none)
set_option maxHeartbeats 8000000 in
set_option maxRecDepth 100000 in
theorem impl_setOf.calls (k : Nat) (A0 : Option Addr) (c0 : Nat) (l0 : List (S100)) (r : List Bool) (w : World) (hr0 : Kd.C k100 w A0 l0.length l0) (hc0 : l0.length ≤ c0) (h : impl_setOf.f k l0 = some r) :
    Calls Tryd.prog 155 #[.slice A0 l0.length c0] w fun e w' => ∃ v0_ : Nat, e = .returned (.pointer (some ⟨v0_, 0, none⟩)) ∧ Kd.R Kd.bool 152 w' w.heap.size (fun _ => True) (.slice (some ⟨v0_, 0, none⟩) 2001 2001) r ∧ Below w.heap.size w w' := by
  have hu63 := Tryd.underlying100
  have HR0 := Aside0.mk hr0
  have HC0 := Aside0.mk hc0
  clear hr0 hc0
  have HB := Aside0.mk (Below.refl w.heap.size w)
  have H : (if 2001 ≤ 281474976710656 then (impl_setOf.l0 k (List.replicate 2001 false) l0 (l0.length : Int) 0) else (none)) = some r := h
  clear h
  by_cases c2 : 2001 ≤ 281474976710656
  · rw [if_pos c2] at H
    have c2b0 := eq_true c2
    have c2b1 : decide (2001 ≤ 281474976710656) = true := decide_eq_true c2
    clear c2
    obtain ⟨y253, hy253⟩ : ∃ y_ : List Bool, y_ = (List.replicate 2001 false) := ⟨_, rfl⟩
    replace H : (impl_setOf.l0 k y253 l0 (l0.length : Int) 0) = some r := by first | (rw [hy253]; with_reducible exact H) | (have H2_ := (Option.bind_some _ _).symm.trans H; rw [hy253]; with_reducible exact H2_) | (have H2_ := (Option.bind_some _ _).symm.trans H; with_reducible exact H2_) | with_reducible exact H | (rw [hy253]; exact H) | exact H
    have Ny253 := Aside0.mk hy253
    clear hy253
    have H' := Aside0.mk H
    clear H
    have hu58 := Tryd.underlying152
    go_enter Tryd.func155, Tryd.ntmps155
    go_wp2_with (((with_reducible refine gate_dst (N := 8) rfl ?_); refine box_event ?hg (N := 8) ?hd (cs := Tryd.zeroCells152) (t := 152) ?hr ?_; (case hd => rfl); (case hg => rfl); (case hr => first | (go_simp; done) | (go_simp; rfl)); intro v254 hg_ w3 hbox hb; have ho4 := PS_new hbox (Nat.le_of_eq hg_.symm); rw [← Ny253.out] at ho4; clear hg_ hbox; have HO255 := Aside0.mk (Kd.R_lower ho4 (below_size (w87_))); replace HB := Aside0.mk (below_step (w87_) hb); clear hb ho4))
    go_loopg [11] k (fun kq v11 w' => ∃ (x3_1 : List Bool) (x11_1 : Int), v11 = .int .i64 x11_1 ∧ Aside0 (impl_setOf.l0 kq x3_1 l0 (l0.length : Int) x11_1 = some r) ∧ Aside0 (kq ≤ k) ∧ Aside0 (Kd.R Kd.bool 152 w' w.heap.size (fun _ => True) (.slice (some ⟨v254, 0, none⟩) 2001 2001) x3_1) ∧ Aside0 (Below w.heap.size w w'))
    case atStart => exact ⟨(y253), (0), (w134_), H', ⟨Nat.le_refl _⟩, ⟨by (with_reducible repeat (first | apply Kd.R_alloc | apply Kd.R_drewN | apply Kd.R_drew)); exact HO255.out⟩, ⟨w87_⟩⟩
    case round =>
      clear H'
      try clear c2
      try clear c2b0
      try clear c2b1
      try clear p2
      try clear c4
      obtain ⟨x3_1, x11_1, rfl, HA, HK1, HO_3, HB⟩ := hrel
      cases gk with
      | zero => exact absurd HA.out (by simp [impl_setOf.l0])
      | succ k1 =>
        have H := HA.out
        clear HA
        simp only [impl_setOf.l0] at H
        by_cases c5 : x11_1 < (l0.length : Int); rotate_left
        · rw [if_neg c5] at H
          have c5b0 : decide (x11_1 < (l0.length : Int)) = false := decide_eq_false c5
          clear c5
          obtain rfl := Option.some.inj H
          go_wp2
          go_ret
          exact ⟨_, w116_, w107_, w87_⟩
        rw [if_pos c5] at H
        have c5b0 : decide (x11_1 < (l0.length : Int)) = true := decide_eq_true c5
        clear c5
        by_cases c6 : 0 ≤ x11_1; rotate_left
        · rw [if_neg c6] at H
          exact absurd H (by simp)
        rw [if_pos c6] at H
        have c6b0 : decide (0 ≤ x11_1) = true := decide_eq_true c6
        clear c6
        by_cases c7 : x11_1 < (l0.length : Int); rotate_left
        · rw [if_neg c7] at H
          exact absurd H (by simp)
        rw [if_pos c7] at H
        have c7b0 : decide (x11_1 < (l0.length : Int)) = true := decide_eq_true c7
        clear c7
        have H' := Aside0.mk H
        clear H
        have p256 : 0 ≤ (x11_1 : Int) := of_decide_eq_true (w133_)
        have q256 : x11_1 < (l0.length : Int) := of_decide_eq_true (w133_)
        obtain ⟨ad256, e256, hx256_0, hx256_1⟩ := at_T100 HR0.out x11_1 p256 q256
        cases e256
        replace hx256_0 := hbz_ HB.out hx256_0
        replace hx256_1 := hbz_ HB.out hx256_1
        replace p256 := eq_true p256
        replace q256 := eq_true q256
        go_wp2_with (((with_reducible refine gate_dst (N := 5) rfl ?_); refine box_event ?hg (N := 5) ?hd (cs := #[.int .i64 0, .int .i64 0]) (t := 100) ?hr ?_; (case hd => rfl); (case hg => rfl); (case hr => first | (go_simp; done) | (go_simp; rfl)); intro gb257 hg w8 hbox hb; replace HO_3 := Aside0.mk (Kd.R_below (w107_) hb); have BK257 := Aside0.mk (hbox); have GW257 := Aside0.mk ((by rw [hg]; exact (below_size (w87_)) : w.heap.size ≤ gb257)); have GE257 := Aside0.mk ((by rw [hg]; exact (below_size (w87_)) : w.heap.size ≤ gb257)); replace HB := Aside0.mk (below_step (w87_) hb); clear hb hbox hg; have hcz9_0 : w8.cell? ⟨gb257, 0, none⟩ = some (.int .i64 0) := (blk_cell BK257.out 0).trans rfl; have hcz9_1 : w8.cell? ⟨gb257, 1, none⟩ = some (.int .i64 0) := (blk_cell BK257.out 1).trans rfl; have hfz9_0 := blk_frozen BK257.out 0; have hfz9_1 := blk_frozen BK257.out 1))
        go_loopg [6] k1 (fun kq v6 w' => ∃ (x3_2 : List Bool) (x6_2 : Int), v6 = .int .i64 x6_2 ∧ Aside0 (impl_setOf.l1 kq x3_2 x6_2 l0 (l0.length : Int) x11_1 ((rd_T100 l0 x11_1).f0) ((rd_T100 l0 x11_1).f1) = some r) ∧ Aside0 (kq ≤ k1) ∧ Aside0 (Kd.R Kd.bool 152 w' w.heap.size (fun _ => True) (.slice (some ⟨v254, 0, none⟩) 2001 2001) x3_2) ∧ Aside0 (w'.heap[gb257]? = some (.cells #[.int .i64 ((rd_T100 l0 x11_1).f0), .int .i64 ((rd_T100 l0 x11_1).f1)] 100 (0, 0))) ∧ Aside0 (Below w.heap.size w w'))
        case atStart => exact ⟨(x3_1), ((rd_T100 l0 x11_1).f0), (w134_), H', ⟨Nat.le_refl _⟩, ⟨by (with_reducible repeat (first | apply Kd.R_alloc | apply Kd.R_drewN | apply Kd.R_drew)); exact Kd.R_mono (Kd.R_far (p := ⟨gb257, 1, none⟩) (Kd.R_far (p := ⟨gb257, 0, none⟩) (Kd.R_types HO_3.out BK257.out (by decide)) (fun _ hk => hk.2) (.int .i64 ((rd_T100 l0 x11_1).f0))) (fun _ hk => hk.2) (.int .i64 ((rd_T100 l0 x11_1).f1))) (fun _ hk => trivial)⟩, ⟨by (with_reducible repeat (first | refine blk_drewN ?_ _ | refine blk_drew ?_ | refine blk_alloc ?_ _)); refine blk_put (cs := #[.int .i64 ((rd_T100 l0 x11_1).f0), .int .i64 0]) ?_ 1 _ rfl; (with_reducible repeat (first | refine blk_drewN ?_ _ | refine blk_drew ?_ | refine blk_alloc ?_ _)); refine blk_put (cs := #[.int .i64 0, .int .i64 0]) ?_ 0 _ rfl; (with_reducible repeat (first | refine blk_drewN ?_ _ | refine blk_drew ?_ | refine blk_alloc ?_ _)); exact BK257.out⟩, ⟨w64_⟩⟩
        case round =>
          clear H'
          try clear c2
          try clear c2b0
          try clear c2b1
          try clear p2
          try clear q2
          try clear hx2
          try clear c4
          try clear c5
          try clear c5b0
          try clear c6
          try clear c6b0
          try clear c7
          try clear c7b0
          try clear hcz9_0
          try clear hcz9_1
          try clear hfz9_0
          try clear hfz9_1
          try clear hx256_0
          try clear hx256_1
          try clear p2
          try clear p256
          try clear q256
          obtain ⟨x3_2, x6_2, rfl, HA, HK2, HO_3, BK257, HB⟩ := hrel
          cases gk with
          | zero => exact absurd HA.out (by simp [impl_setOf.l1])
          | succ k2 =>
            have H := HA.out
            clear HA
            simp only [impl_setOf.l1] at H
            by_cases c10 : x6_2 ≤ ((rd_T100 l0 x11_1).f1); rotate_left
            · rw [if_neg c10] at H
              have c10b0 : decide (x6_2 ≤ ((rd_T100 l0 x11_1).f1)) = false := decide_eq_false c10
              clear c10
              have H' := Aside0.mk H
              clear H
              have hcz17_0 : wr.cell? ⟨gb257, 0, none⟩ = some (.int .i64 ((rd_T100 l0 x11_1).f0)) := (blk_cell BK257.out 0).trans rfl
              have hcz17_1 : wr.cell? ⟨gb257, 1, none⟩ = some (.int .i64 ((rd_T100 l0 x11_1).f1)) := (blk_cell BK257.out 1).trans rfl
              have hfz17_0 := blk_frozen BK257.out 0
              have hfz17_1 := blk_frozen BK257.out 1
              go_wp2
              go_roundg k2
              case measure => have := HK1.out; have := HK2.out; omega
              case rel => exact ⟨(x3_2), (wrap64 (x11_1 + 1)), (w134_), H', ⟨w137_⟩, ⟨w107_⟩, ⟨w64_⟩⟩
            rw [if_pos c10] at H
            have c10b0 : decide (x6_2 ≤ ((rd_T100 l0 x11_1).f1)) = true := decide_eq_true c10
            clear c10
            by_cases c11 : 0 ≤ x6_2; rotate_left
            · rw [if_neg c11] at H
              exact absurd H (by simp)
            rw [if_pos c11] at H
            have c11b0 : decide (0 ≤ x6_2) = true := decide_eq_true c11
            clear c11
            by_cases c12 : x6_2 < (x3_2.length : Int); rotate_left
            · rw [if_neg c12] at H
              exact absurd H (by simp)
            rw [if_pos c12] at H
            have c12b0 : decide (x6_2 < (x3_2.length : Int)) = true := decide_eq_true c12
            clear c12
            obtain ⟨y258, hy258⟩ : ∃ y_ : List Bool, y_ = (x3_2.set (x6_2 : Int).toNat true) := ⟨_, rfl⟩
            replace H : (impl_setOf.l1 k2 y258 (wrap64 (x6_2 + 1)) l0 (l0.length : Int) x11_1 ((rd_T100 l0 x11_1).f0) ((rd_T100 l0 x11_1).f1)) = some r := by first | (rw [hy258]; with_reducible exact H) | (have H2_ := (Option.bind_some _ _).symm.trans H; rw [hy258]; with_reducible exact H2_) | (have H2_ := (Option.bind_some _ _).symm.trans H; with_reducible exact H2_) | with_reducible exact H | (rw [hy258]; exact H) | exact H
            have Ny258 := Aside0.mk hy258
            clear hy258
            have H' := Aside0.mk H
            clear H
            have hcz14_0 : wr.cell? ⟨gb257, 0, none⟩ = some (.int .i64 ((rd_T100 l0 x11_1).f0)) := (blk_cell BK257.out 0).trans rfl
            have hcz14_1 : wr.cell? ⟨gb257, 1, none⟩ = some (.int .i64 ((rd_T100 l0 x11_1).f1)) := (blk_cell BK257.out 1).trans rfl
            have hfz14_0 := blk_frozen BK257.out 0
            have hfz14_1 := blk_frozen BK257.out 1
            have p13 : 0 ≤ (x6_2 : Int) := of_decide_eq_true (w133_)
            have q13 : (x6_2 : Int) < ((x3_2.length : Int) : Int) := of_decide_eq_true (w133_)
            obtain ⟨gb13, gl13, cl13, HG13⟩ := PS_form HO_3.out
            have GB13 := Aside0.mk gb13
            have GG13 := Aside0.mk HG13
            clear gb13 gl13 HG13
            have q13z : (x6_2 : Int) < 2001 := (by have e_ := (Kd.R_reads' HO_3.out).1; have h_ := q13; rw [← e_] at h_; exact h_)
            obtain ⟨hx13_0, hf13_0⟩ := Kd.R_celln false HO_3.out (x6_2 : Int) p13 q13z
            replace q13z := eq_true q13z
            replace p13 := eq_true p13
            replace q13 := eq_true q13
            have HP15 := Kd.R_putg HO_3.out (x6_2 : Int) true
            go_wp2_with (((with_reducible refine gate_store (t := 4) (p := 26) rfl ?_); refine store_event (t := 4) (p := 26) (v := ?vo_w16) (w1 := (wr.setCell ⟨v254, (x6_2 : Int).toNat, none⟩ (.bool true))) ?hg ?ho ?hn ?hr ?_; (case ho => rfl); (case hg => rfl); (case hn => rfl); (case hr => first | (go_simp; done) | (go_simp; rfl)); intro w16 hw; have hg : wr.grownBy w16 (some v254) := (by rw [hw]; exact HP15.2); have hp_ : Kd.R Kd.bool 152 w16 w.heap.size (fun _ => True) (.slice (some ⟨v254, 0, none⟩) 2001 2001) y258 := (by rw [hw, Ny258.out]; exact HP15.1); clear HP15; replace BK257 := Aside0.mk (blk_grown (g := gb257) (o := .cells #[.int .i64 ((rd_T100 l0 x11_1).f0), .int .i64 ((rd_T100 l0 x11_1).f1)] 100 (0, 0)) (by (with_reducible repeat (first | refine blk_drewN ?_ _ | refine blk_drew ?_ | refine blk_alloc ?_ _)); exact BK257.out) hg (Kd.R_ne HO_3.out BK257.out (by decide))); replace HO_3 := Aside0.mk (hp_); replace HB := Aside0.mk ((by rw [hw]; exact below_set (HB.out) GB13.out : Below w.heap.size w w16)); clear hg hw hp_))
            go_roundg k2
            case measure => have := HK1.out; have := HK2.out; omega
            case rel => exact ⟨(y258), (wrap64 (x6_2 + 1)), (w134_), H', ⟨w137_⟩, ⟨w107_⟩, ⟨by (with_reducible repeat (first | refine blk_drewN ?_ _ | refine blk_drew ?_ | refine blk_alloc ?_ _)); exact BK257.out⟩, ⟨w64_⟩⟩
  · rw [if_neg c2] at H
    exact absurd H (by simp)

def impl_pageSet_all.l0 : Nat → List Bool → List (S100) → Int → Option ((List (S100)))
  | 0, _, _, _ => none
  | k + 1, x0, x3, x4 => if x4 ≤ 2000 then (if 0 ≤ x4 then (if x4 < (x0.length : Int) then (if rdOf false x0 x4 = true then (if (x3.length : Int) > 0 then (if 0 ≤ (wrap64 ((x3.length : Int) - 1)) then (if (wrap64 ((x3.length : Int) - 1)) < (x3.length : Int) then (if ((rd_T100 x3 (wrap64 ((x3.length : Int) - 1))).f1) = (wrap64 (x4 - 1)) then (impl_pageSet_all.l0 k x0 (x3.set ((wrap64 ((x3.length : Int) - 1)) : Int).toNat (⟨(rd_T100 x3 (wrap64 ((x3.length : Int) - 1))).f0, x4⟩ : S100)) (wrap64 (x4 + 1))) else (if x3.length < 8796093022208 then (impl_pageSet_all.l0 k x0 (x3 ++ [(⟨x4, x4⟩ : S100)]) (wrap64 (x4 + 1))) else (none))) else (none)) else (none)) else (if x3.length < 8796093022208 then (impl_pageSet_all.l0 k x0 (x3 ++ [(⟨x4, x4⟩ : S100)]) (wrap64 (x4 + 1))) else (none))) else (impl_pageSet_all.l0 k x0 x3 (wrap64 (x4 + 1)))) else (none)) else (none)) else (some x3)
def impl_pageSet_all.f (k : Nat) (l0 : List Bool) : Option ((List (S100))) := impl_pageSet_all.l0 k l0 (([] : List (S100))) 1
set_option maxHeartbeats 8000000 in
set_option maxRecDepth 100000 in
theorem impl_pageSet_all.calls (k : Nat) (g0 : Nat) (l0 : List Bool) (r : List (S100)) (w : World) (hr0 : Kd.C Kd.bool w (some ⟨g0, 0, none⟩) l0.length l0) (hc0 : l0.length = 2001) (h : impl_pageSet_all.f k l0 = some r) :
    Calls Tryd.prog 194 #[.pointer (some ⟨g0, 0, none⟩)] w fun e w' => ∃ v0_ : Value, e = .returned (v0_) ∧ Kd.R k100 100 w' w.heap.size (fun _ => True) v0_ r ∧ Below w.heap.size w w' := by
  have hu63 := Tryd.underlying100
  have HR0 := Aside0.mk hr0
  have HC0 := Aside0.mk hc0
  clear hr0 hc0
  have HB := Aside0.mk (Below.refl w.heap.size w)
  have H : (impl_pageSet_all.l0 k l0 (([] : List (S100))) 1) = some r := h
  clear h
  obtain ⟨y129, hy129⟩ : ∃ y_ : List (S100), y_ = (([] : List (S100))) := ⟨_, rfl⟩
  replace H : (impl_pageSet_all.l0 k l0 y129 1) = some r := by first | (rw [hy129]; with_reducible exact H) | (have H2_ := (Option.bind_some _ _).symm.trans H; rw [hy129]; with_reducible exact H2_) | (have H2_ := (Option.bind_some _ _).symm.trans H; with_reducible exact H2_) | with_reducible exact H | (rw [hy129]; exact H) | exact H
  have Ny129 := Aside0.mk hy129
  clear hy129
  have H' := Aside0.mk H
  clear H
  have hu58 := Tryd.underlying152
  go_enter Tryd.func194, Tryd.ntmps194
  go_wp2_with (((with_reducible refine gate_dst (N := 6) rfl ?_); refine Kd.R_lit k100 _ 100 ?hg (N := 6) ?hd (xs := ([] : List (S100))) (inner := []) (ok := fun _ => True) (okp := fun _ => True) ?hr ?hp (fun _ hk => hk) trivial (Below.refl _ _) (Nat.le_refl _) (by simp) ?_; (case hd => rfl); (case hg => rfl); (case hr => first | (go_simp; done) | (go_simp; rfl)); (case hp => exact (Reps.none _ _)); intro v130 w2 ho3 hb hg_ hnew_; clear hg_ hnew_; (first | rw [← Ny129.out] at ho3 | (simp only [Int.reduceToNat] at ho3; rw [← Ny129.out] at ho3)); have HO131 := Aside0.mk (Kd.R_lower ho3 (below_size (w87_))); replace HB := Aside0.mk (below_step (w87_) hb); clear hb ho3))
  go_loopg [3, 4] k (fun kq v3 v4 w' => ∃ (x3_1 : List (S100)) (x4_1 : Int), v4 = .int .i64 x4_1 ∧ Aside0 (impl_pageSet_all.l0 kq l0 x3_1 x4_1 = some r) ∧ Aside0 (kq ≤ k) ∧ Aside0 (Kd.R k100 100 w' w.heap.size (fun _ => True) v3 x3_1) ∧ Aside0 (Below w.heap.size w w'))
  case atStart => exact ⟨(y129), (1), (w134_), H', ⟨Nat.le_refl _⟩, ⟨by (with_reducible repeat (first | apply Kd.R_alloc | apply Kd.R_drewN | apply Kd.R_drew)); exact HO131.out⟩, ⟨w87_⟩⟩
  case round =>
    clear H'
    try clear p2
    obtain ⟨x3_1, x4_1, rfl, HA, HK1, HO_3, HB⟩ := hrel
    cases gk with
    | zero => exact absurd HA.out (by simp [impl_pageSet_all.l0])
    | succ k1 =>
      have H := HA.out
      clear HA
      simp only [impl_pageSet_all.l0] at H
      by_cases c4 : x4_1 ≤ 2000
      · rw [if_pos c4] at H
        have c4b0 : decide (x4_1 ≤ 2000) = true := decide_eq_true c4
        clear c4
        by_cases c5 : 0 ≤ x4_1; rotate_left
        · rw [if_neg c5] at H
          exact absurd H (by simp)
        rw [if_pos c5] at H
        have c5b0 : decide (0 ≤ x4_1) = true := decide_eq_true c5
        clear c5
        by_cases c6 : x4_1 < (l0.length : Int); rotate_left
        · rw [if_neg c6] at H
          exact absurd H (by simp)
        rw [if_pos c6] at H
        have c6b0 : decide (x4_1 < (l0.length : Int)) = true := decide_eq_true c6
        clear c6
        obtain ⟨bq7, hbq7⟩ : ∃ b_ : Bool, b_ = (rdOf false l0 x4_1) := ⟨_, rfl⟩
        replace H : (if bq7 = true then (if (x3_1.length : Int) > 0 then (if 0 ≤ (wrap64 ((x3_1.length : Int) - 1)) then (if (wrap64 ((x3_1.length : Int) - 1)) < (x3_1.length : Int) then (if ((rd_T100 x3_1 (wrap64 ((x3_1.length : Int) - 1))).f1) = (wrap64 (x4_1 - 1)) then (impl_pageSet_all.l0 k1 l0 (x3_1.set ((wrap64 ((x3_1.length : Int) - 1)) : Int).toNat (⟨(rd_T100 x3_1 (wrap64 ((x3_1.length : Int) - 1))).f0, x4_1⟩ : S100)) (wrap64 (x4_1 + 1))) else (if x3_1.length < 8796093022208 then (impl_pageSet_all.l0 k1 l0 (x3_1 ++ [(⟨x4_1, x4_1⟩ : S100)]) (wrap64 (x4_1 + 1))) else (none))) else (none)) else (none)) else (if x3_1.length < 8796093022208 then (impl_pageSet_all.l0 k1 l0 (x3_1 ++ [(⟨x4_1, x4_1⟩ : S100)]) (wrap64 (x4_1 + 1))) else (none))) else (impl_pageSet_all.l0 k1 l0 x3_1 (wrap64 (x4_1 + 1)))) = some r := by rw [← hbq7] at H; exact H
        have Nbq7 := Aside0.mk hbq7
        clear hbq7
        by_cases c8 : bq7 = true; rotate_left
        · replace c8 := Bool.eq_false_iff.mpr c8
          subst c8
          rw [if_neg nfz_] at H
          have H' := Aside0.mk H
          clear H
          obtain ⟨Ao24, co24, eo24⟩ := Kd.R_slice HO_3.out
          subst eo24
          have p132 : 0 ≤ (x4_1 : Int) := of_decide_eq_true (w133_)
          have q132 : x4_1 < (l0.length : Int) := of_decide_eq_true (w133_)
          obtain ⟨ad132, e132, hx132_0⟩ := Kd.at_bool HR0.out x4_1 p132 q132
          (try rw [← Nbq7.out] at hx132_0)
          cases e132
          rw [add_at, Nat.zero_add] at hx132_0
          have q132z : x4_1 < 2001 := by have := HC0.out; omega
          replace q132z := eq_true q132z
          replace hx132_0 := hbz_ HB.out hx132_0
          replace p132 := eq_true p132
          replace q132 := eq_true q132
          go_wp2
          go_roundg k1
          case measure => have := HK1.out; omega
          case rel => exact ⟨(x3_1), (wrap64 (x4_1 + 1)), (w134_), H', ⟨w144_⟩, ⟨w107_⟩, ⟨w87_⟩⟩
        subst c8
        rw [if_pos rfl] at H
        by_cases c9 : (x3_1.length : Int) > 0; rotate_left
        · rw [if_neg c9] at H
          have c9b0 : decide (0 < (x3_1.length : Int)) = false := decide_eq_false c9
          have c9b1 : decide (0 < x3_1.length) = false := decide_eq_false (by omega)
          clear c9
          by_cases c21 : x3_1.length < 8796093022208; rotate_left
          · rw [if_neg c21] at H
            exact absurd H (by simp)
          rw [if_pos c21] at H
          have LMc21 := Aside0.mk c21
          clear c21
          obtain ⟨y138, hy138⟩ : ∃ y_ : List (S100), y_ = (x3_1 ++ [(⟨x4_1, x4_1⟩ : S100)]) := ⟨_, rfl⟩
          replace H : (impl_pageSet_all.l0 k1 l0 y138 (wrap64 (x4_1 + 1))) = some r := by first | (rw [hy138]; with_reducible exact H) | (have H2_ := (Option.bind_some _ _).symm.trans H; rw [hy138]; with_reducible exact H2_) | (have H2_ := (Option.bind_some _ _).symm.trans H; with_reducible exact H2_) | with_reducible exact H | (rw [hy138]; exact H) | exact H
          have Ny138 := Aside0.mk hy138
          clear hy138
          have H' := Aside0.mk H
          clear H
          obtain ⟨Ao22, co22, eo22⟩ := Kd.R_slice HO_3.out
          subst eo22
          have p132 : 0 ≤ (x4_1 : Int) := of_decide_eq_true (w133_)
          have q132 : x4_1 < (l0.length : Int) := of_decide_eq_true (w133_)
          obtain ⟨ad132, e132, hx132_0⟩ := Kd.at_bool HR0.out x4_1 p132 q132
          (try rw [← Nbq7.out] at hx132_0)
          cases e132
          rw [add_at, Nat.zero_add] at hx132_0
          have q132z : x4_1 < 2001 := by have := HC0.out; omega
          replace q132z := eq_true q132z
          replace hx132_0 := hbz_ HB.out hx132_0
          replace p132 := eq_true p132
          replace q132 := eq_true q132
          go_wp2_with (((with_reducible refine gate_builtin (b := .append) (xs := #[.tmp 13, .tmp 17]) rfl ?_); at_builtin; refine Kd.R_append k100 (w0 := w) w.heap.size rfl (.tmp 13) (.tmp 17) 86 100 (.agg #[(.int .i64 0), (.int .i64 0)]) 16 rfl Tryd.underlying86 info100 rfl (by decide) (by omega) (.slice Ao22 x3_1.length co22) x3_1 (⟨x4_1, x4_1⟩ : S100) [.int .i64 x4_1, .int .i64 x4_1] (fun _ => True) (fun _ => False) rfl rfl ?aP (fun _ hk => hk.elim) ?aF ?aO ?aB ?aS ?aL ?_; (case aP => exact k100_mkM _ _ _ (⟨x4_1, x4_1⟩ : S100)); (case aB => exact (w87_)); (case aF => exact (fun _ _ => trivial)); (case aO => exact (w107_)); (case aS => exact (below_size (w87_))); (case aL => have := LMc21.out; omega); intro v139 w23 ho hb hg hat; rw [← Ny138.out] at ho; replace HB := Aside0.mk (hb); have HO140 := Aside0.mk (ho); clear HO_3; clear ho hb hg hat))
          go_roundg k1
          case measure => have := HK1.out; omega
          case rel => exact ⟨(y138), (wrap64 (x4_1 + 1)), (w134_), H', ⟨w144_⟩, ⟨by (with_reducible repeat (first | apply Kd.R_alloc | apply Kd.R_drewN | apply Kd.R_drew)); exact HO140.out⟩, ⟨w87_⟩⟩
        rw [if_pos c9] at H
        have c9b0 : decide (0 < (x3_1.length : Int)) = true := decide_eq_true c9
        have c9b1 : decide (0 < x3_1.length) = true := decide_eq_true (by omega)
        clear c9
        obtain ⟨ji10, hji10⟩ : ∃ j_ : Int, (wrap64 ((x3_1.length : Int) - 1)) = j_ := ⟨_, rfl⟩
        replace H : (if 0 ≤ (ji10) then (if (ji10) < (x3_1.length : Int) then (if ((rd_T100 x3_1 (ji10)).f1) = (wrap64 (x4_1 - 1)) then (impl_pageSet_all.l0 k1 l0 (x3_1.set ((ji10) : Int).toNat (⟨(rd_T100 x3_1 (ji10)).f0, x4_1⟩ : S100)) (wrap64 (x4_1 + 1))) else (if x3_1.length < 8796093022208 then (impl_pageSet_all.l0 k1 l0 (x3_1 ++ [(⟨x4_1, x4_1⟩ : S100)]) (wrap64 (x4_1 + 1))) else (none))) else (none)) else (none)) = some r := by first | (rw [hji10] at H; exact H) | (simp only [hji10] at H ⊢; exact H)
        have hji10w : (IntKind.i64.wrap ((x3_1.length : Int) - 1)) = ji10 := (i64_w _).trans hji10
        by_cases c11 : 0 ≤ (ji10); rotate_left
        · rw [if_neg c11] at H
          exact absurd H (by simp)
        rw [if_pos c11] at H
        have c11b0 : decide (0 ≤ (ji10)) = true := decide_eq_true c11
        clear c11
        by_cases c12 : (ji10) < (x3_1.length : Int); rotate_left
        · rw [if_neg c12] at H
          exact absurd H (by simp)
        rw [if_pos c12] at H
        have c12b0 : decide ((ji10) < (x3_1.length : Int)) = true := decide_eq_true c12
        clear c12
        by_cases c13 : ((rd_T100 x3_1 (ji10)).f1) = (wrap64 (x4_1 - 1)); rotate_left
        · rw [if_neg c13] at H
          have c13b0 : (((rd_T100 x3_1 (ji10)).f1) == (wrap64 (x4_1 - 1))) = false := beq_eq_false_iff_ne.mpr c13
          have c13b1 : (((rd_T100 x3_1 (ji10)).f1) != (wrap64 (x4_1 - 1))) = true := bne_iff_ne.mpr c13
          by_cases c18 : x3_1.length < 8796093022208; rotate_left
          · rw [if_neg c18] at H
            exact absurd H (by simp)
          rw [if_pos c18] at H
          have LMc18 := Aside0.mk c18
          clear c18
          obtain ⟨y135, hy135⟩ : ∃ y_ : List (S100), y_ = (x3_1 ++ [(⟨x4_1, x4_1⟩ : S100)]) := ⟨_, rfl⟩
          replace H : (impl_pageSet_all.l0 k1 l0 y135 (wrap64 (x4_1 + 1))) = some r := by first | (rw [hy135]; with_reducible exact H) | (have H2_ := (Option.bind_some _ _).symm.trans H; rw [hy135]; with_reducible exact H2_) | (have H2_ := (Option.bind_some _ _).symm.trans H; with_reducible exact H2_) | with_reducible exact H | (rw [hy135]; exact H) | exact H
          have Ny135 := Aside0.mk hy135
          clear hy135
          have H' := Aside0.mk H
          clear H
          obtain ⟨Ao19, co19, eo19⟩ := Kd.R_slice HO_3.out
          subst eo19
          have p132 : 0 ≤ (x4_1 : Int) := of_decide_eq_true (w133_)
          have q132 : x4_1 < (l0.length : Int) := of_decide_eq_true (w133_)
          obtain ⟨ad132, e132, hx132_0⟩ := Kd.at_bool HR0.out x4_1 p132 q132
          (try rw [← Nbq7.out] at hx132_0)
          cases e132
          rw [add_at, Nat.zero_add] at hx132_0
          have q132z : x4_1 < 2001 := by have := HC0.out; omega
          replace q132z := eq_true q132z
          replace hx132_0 := hbz_ HB.out hx132_0
          replace p132 := eq_true p132
          replace q132 := eq_true q132
          have p133 : 0 ≤ ((ji10) : Int) := of_decide_eq_true (w133_)
          have q133 : (ji10) < (x3_1.length : Int) := of_decide_eq_true (w133_)
          obtain ⟨ad133, e133, hx133_0, hx133_1⟩ := at_T100 (Kd.R_reads' HO_3.out).2.2 (ji10) p133 q133
          cases e133
          replace p133 := eq_true p133
          replace q133 := eq_true q133
          go_wp2_with (((with_reducible refine gate_builtin (b := .append) (xs := #[.tmp 13, .tmp 17]) rfl ?_); at_builtin; refine Kd.R_append k100 (w0 := w) w.heap.size rfl (.tmp 13) (.tmp 17) 86 100 (.agg #[(.int .i64 0), (.int .i64 0)]) 16 rfl Tryd.underlying86 info100 rfl (by decide) (by omega) (.slice (some ad133) x3_1.length co19) x3_1 (⟨x4_1, x4_1⟩ : S100) [.int .i64 x4_1, .int .i64 x4_1] (fun _ => True) (fun _ => False) rfl rfl ?aP (fun _ hk => hk.elim) ?aF ?aO ?aB ?aS ?aL ?_; (case aP => exact k100_mkM _ _ _ (⟨x4_1, x4_1⟩ : S100)); (case aB => exact (w87_)); (case aF => exact (fun _ _ => trivial)); (case aO => exact (w107_)); (case aS => exact (below_size (w87_))); (case aL => have := LMc18.out; omega); intro v136 w20 ho hb hg hat; rw [← Ny135.out] at ho; replace HB := Aside0.mk (hb); have HO137 := Aside0.mk (ho); clear HO_3; clear ho hb hg hat))
          go_roundg k1
          case measure => have := HK1.out; omega
          case rel => exact ⟨(y135), (wrap64 (x4_1 + 1)), (w134_), H', ⟨w144_⟩, ⟨by (with_reducible repeat (first | apply Kd.R_alloc | apply Kd.R_drewN | apply Kd.R_drew)); exact HO137.out⟩, ⟨w87_⟩⟩
        rw [if_pos c13] at H
        have c13b0 : (((rd_T100 x3_1 (ji10)).f1) == (wrap64 (x4_1 - 1))) = true := beq_iff_eq.mpr c13
        have c13b1 : (((rd_T100 x3_1 (ji10)).f1) != (wrap64 (x4_1 - 1))) = false := bne_eq_false_iff_eq.mpr c13
        clear c13
        obtain ⟨y134, hy134⟩ : ∃ y_ : List (S100), y_ = (x3_1.set ((ji10) : Int).toNat (⟨(rd_T100 x3_1 (ji10)).f0, x4_1⟩ : S100)) := ⟨_, rfl⟩
        replace H : (impl_pageSet_all.l0 k1 l0 y134 (wrap64 (x4_1 + 1))) = some r := by first | (rw [hy134]; with_reducible exact H) | (have H2_ := (Option.bind_some _ _).symm.trans H; rw [hy134]; with_reducible exact H2_) | (have H2_ := (Option.bind_some _ _).symm.trans H; with_reducible exact H2_) | with_reducible exact H | (rw [hy134]; exact H) | exact H
        have Ny134 := Aside0.mk hy134
        clear hy134
        have H' := Aside0.mk H
        clear H
        obtain ⟨Ao15, co15, eo15⟩ := Kd.R_slice HO_3.out
        subst eo15
        have p132 : 0 ≤ (x4_1 : Int) := of_decide_eq_true (w133_)
        have q132 : x4_1 < (l0.length : Int) := of_decide_eq_true (w133_)
        obtain ⟨ad132, e132, hx132_0⟩ := Kd.at_bool HR0.out x4_1 p132 q132
        (try rw [← Nbq7.out] at hx132_0)
        cases e132
        rw [add_at, Nat.zero_add] at hx132_0
        have q132z : x4_1 < 2001 := by have := HC0.out; omega
        replace q132z := eq_true q132z
        replace hx132_0 := hbz_ HB.out hx132_0
        replace p132 := eq_true p132
        replace q132 := eq_true q132
        have p133 : 0 ≤ ((ji10) : Int) := of_decide_eq_true (w133_)
        have q133 : (ji10) < (x3_1.length : Int) := of_decide_eq_true (w133_)
        obtain ⟨ad133, e133, hx133_0, hx133_1⟩ := at_T100 (Kd.R_reads' HO_3.out).2.2 (ji10) p133 q133
        cases e133
        replace p133 := eq_true p133
        replace q133 := eq_true q133
        have p14 : 0 ≤ ((ji10) : Int) := of_decide_eq_true (w133_)
        have q14 : ((ji10) : Int) < ((x3_1.length : Int) : Int) := of_decide_eq_true (w133_)
        obtain ⟨go14, co14, eo14, gb14, gl14, cl14, HG14⟩ := Kd.R_form HO_3.out (by omega)
        (first | cases eo14 | (injection eo14 with ea_ en_ ec_; (first | subst ea_ | (injection ea_ with ea_; subst ea_)); subst ec_; clear en_))
        have GB14 := Aside0.mk gb14
        have GG14 := Aside0.mk HG14
        clear gb14 gl14 HG14
        (first | simp only [add_plain] at hx133_0 | skip)
        (first | simp only [add_plain] at hx133_1 | skip)
        obtain ⟨ce14, hcl14, hM14, hcc14, hfr14⟩ := Kd.R_elem HO_3.out z100 ((ji10) : Int) p14 q14
        obtain rfl := k100_openM hM14
        have hx14_0 : wr.cell? ⟨go14, ((ji10) : Int).toNat * 2, none⟩ = some (.int .i64 ((rd_T100 x3_1 (ji10)).f0)) := hcc14 0 _ rfl
        have hx14_1 : wr.cell? ⟨go14, ((ji10) : Int).toNat * 2 + 1, none⟩ = some (.int .i64 ((rd_T100 x3_1 (ji10)).f1)) := hcc14 1 _ rfl
        have hf14_0 : wr.frozen? ⟨go14, ((ji10) : Int).toNat * 2, none⟩ = false := hfr14 0
        have hf14_1 : wr.frozen? ⟨go14, ((ji10) : Int).toNat * 2 + 1, none⟩ = false := hfr14 1
        clear hcl14 hcc14 hfr14 hM14
        replace p14 := eq_true p14
        replace q14 := eq_true q14
        have HX16 := Aside0.mk (show Kd.R k100 100 wr w.heap.size (fun _ => True) (.slice (some ⟨go14, 0, none⟩) x3_1.length co15) x3_1 from (w107_))
        obtain ⟨ce16, hcl16, hM16, hcc16, hfr16⟩ := Kd.R_elem HX16.out z100 ((ji10) : Int) (of_decide_eq_true (w133_)) (by have h_ : ((ji10) : Int) < ((x3_1.length : Int) : Int) := of_decide_eq_true (w133_); first | exact h_ | (have e_ := (Kd.R_reads' HO_3.out).1; omega) | simpa using h_)
        obtain rfl := k100_openM hM16
        have HP16 := Kd.R_seg HX16.out ((ji10) : Int) (of_decide_eq_true (w133_)) (by have h_ : ((ji10) : Int) < ((x3_1.length : Int) : Int) := of_decide_eq_true (w133_); first | exact h_ | (have e_ := (Kd.R_reads' HO_3.out).1; omega) | simpa using h_) (seg := [.int .i64 x4_1]) (j := 1) hcl16 hcc16 (show 2 ≤ 2 from by decide) (x' := (⟨(rd_T100 x3_1 (ji10)).f0, x4_1⟩ : S100)) (k100_mkM _ _ _ (⟨(rd_T100 x3_1 (ji10)).f0, x4_1⟩ : S100) ) (fun _ hk => hk)
        have hx16_1 := hcc16 1 _ rfl
        (try simp only [show (k100).sz = 2 from rfl, Nat.mul_one, Nat.add_zero] at hx16_1)
        have hf16_1 := hfr16 1
        (try simp only [show (k100).sz = 2 from rfl, Nat.mul_one, Nat.add_zero] at hf16_1)
        clear hcl16 hcc16 hfr16 hM16
        go_wp2_with (((with_reducible refine gate_store (t := 3) (p := 45) rfl ?_); refine store_event (t := 3) (p := 45) (v := ?vo_w17) (w1 := (wr.setCell ⟨go14, ((ji10) : Int).toNat * 2 + 1, none⟩ (.int .i64 x4_1))) ?hg ?ho ?hn ?hr ?_; (case ho => rfl); (case hg => rfl); (case hn => rfl); (case hr => first | (go_simp; done) | (go_simp; rfl)); intro w17 hw; have hg : wr.grownBy w17 (some go14) := (by rw [hw]; exact HP16.2); have hp_ : Kd.R k100 100 w17 w.heap.size (fun _ => True) (.slice (some ⟨go14, 0, none⟩) x3_1.length co15) y134 := (by rw [hw, Ny134.out]; exact HP16.1); clear HP16; replace HO_3 := Aside0.mk (hp_); replace HB := Aside0.mk ((by rw [hw]; exact below_set (HB.out) GB14.out : Below w.heap.size w w17)); clear hg hw hp_))
        go_roundg k1
        case measure => have := HK1.out; omega
        case rel => exact ⟨(y134), (wrap64 (x4_1 + 1)), (w134_), H', ⟨w144_⟩, ⟨w107_⟩, ⟨w87_⟩⟩
      · rw [if_neg c4] at H
        have c4b0 : decide (x4_1 ≤ 2000) = false := decide_eq_false c4
        clear c4
        obtain rfl := Option.some.inj H
        go_wp2
        go_ret
        exact ⟨_, w116_, w107_, w87_⟩

def impl_pageSet_ranges.f (k : Nat) (l0 : List Bool) : Option ((List (S100)) × Bool) := (impl_pageSet_all.f k l0).bind fun t141 => (if (t141.length : Int) > 20 then (some (([] : List (S100)), false)) else (some (t141, true)))
set_option maxHeartbeats 8000000 in
set_option maxRecDepth 100000 in
theorem impl_pageSet_ranges.calls (k : Nat) (g0 : Nat) (l0 : List Bool) (r1 : List (S100)) (r2 : Bool) (w : World) (hr0 : Kd.C Kd.bool w (some ⟨g0, 0, none⟩) l0.length l0) (hc0 : l0.length = 2001) (h : impl_pageSet_ranges.f k l0 = some (r1, r2)) :
    Calls Tryd.prog 156 #[.pointer (some ⟨g0, 0, none⟩)] w fun e w' => ∃ v0_ : Value, e = .returned (.tuple #[v0_, .bool r2]) ∧ Kd.R k100 100 w' w.heap.size (fun _ => True) v0_ r1 ∧ Below w.heap.size w w' := by
  have HR0 := Aside0.mk hr0
  have HC0 := Aside0.mk hc0
  clear hr0 hc0
  have HB := Aside0.mk (Below.refl w.heap.size w)
  have H : ((impl_pageSet_all.f k l0).bind fun t141 => (if (t141.length : Int) > 20 then (some (([] : List (S100)), false)) else (some (t141, true)))) = some (r1, r2) := h
  clear h
  replace H := Option.bind_eq_some_iff.mp H
  obtain ⟨t141, A20, H⟩ := H
  replace H : (if (t141.length : Int) > 20 then (some (([] : List (S100)), false)) else (some (t141, true))) = some (r1, r2) := H
  have A2 := Aside0.mk A20
  clear A20
  by_cases c3 : (t141.length : Int) > 20
  · rw [if_pos c3] at H
    have c3b0 : decide (20 < (t141.length : Int)) = true := decide_eq_true c3
    have c3b1 : decide (20 < t141.length) = true := decide_eq_true (by omega)
    clear c3
    simp only [Option.some.injEq, Prod.mk.injEq] at H
    obtain ⟨rfl, rfl⟩ := H
    go_enter Tryd.func156, Tryd.ntmps156
    go_wp2_with (((with_reducible refine gate_callee (f := 194) rfl ?_); refine goesL_ (some 6) rfl rfl Tryd.func194 (w162_) rfl #[.pointer (some ⟨g0, 0, none⟩)] rfl (w81_) ?_; (with_reducible refine (impl_pageSet_all.calls k g0 l0 t141 _ ?side1 ?side2 A2.out).mono ?_); (case side1 => repeat (first | exact HR0.out | (with_reducible refine Kd.C_alloc ?_ _) | (with_reducible refine Kd.C_drewN ?_ _) | (with_reducible refine Kd.C_drew ?_))); (case side2 => exact HC0.out); rintro e w4 ⟨v142, rfl, ho0, hb⟩; refine ⟨_, rfl, ?_⟩; have HO143 := Aside0.mk (Kd.R_lower ho0 (below_size (w87_))); replace HB := Aside0.mk (below_step (w87_) hb); (try clear hb); (try clear ho0); obtain ⟨Ao5, co5, eo5⟩ := Kd.R_slice HO143.out; subst eo5))
    go_ret2
    exact ⟨_, w116_, w80_, w87_⟩
  · rw [if_neg c3] at H
    have c3b0 : decide (20 < (t141.length : Int)) = false := decide_eq_false c3
    have c3b1 : decide (20 < t141.length) = false := decide_eq_false (by omega)
    clear c3
    simp only [Option.some.injEq, Prod.mk.injEq] at H
    obtain ⟨rfl, rfl⟩ := H
    go_enter Tryd.func156, Tryd.ntmps156
    go_wp2_with (((with_reducible refine gate_callee (f := 194) rfl ?_); refine goesL_ (some 6) rfl rfl Tryd.func194 (w162_) rfl #[.pointer (some ⟨g0, 0, none⟩)] rfl (w81_) ?_; (with_reducible refine (impl_pageSet_all.calls k g0 l0 t141 _ ?side1 ?side2 A2.out).mono ?_); (case side1 => repeat (first | exact HR0.out | (with_reducible refine Kd.C_alloc ?_ _) | (with_reducible refine Kd.C_drewN ?_ _) | (with_reducible refine Kd.C_drew ?_))); (case side2 => exact HC0.out); rintro e w6 ⟨v142, rfl, ho0, hb⟩; refine ⟨_, rfl, ?_⟩; have HO143 := Aside0.mk (Kd.R_lower ho0 (below_size (w87_))); replace HB := Aside0.mk (below_step (w87_) hb); (try clear hb); (try clear ho0); obtain ⟨Ao7, co7, eo7⟩ := Kd.R_slice HO143.out; subst eo7))
    go_ret2
    exact ⟨_, w116_, by (with_reducible repeat (first | apply Kd.R_alloc | apply Kd.R_drewN | apply Kd.R_drew)); exact HO143.out, w87_⟩

end Go.Proofs.YtppbpefehpbejaaDoor.P
end

section
namespace Go.Proofs.YtppbpefehpbejaaDoor.P
open Go.Shelf Go.RowKit Go.Proofs.YtppbpefehpbejaaDoorW.PrintWords Go.Proofs.YtppbpefehpbejaaDoorW.PrintLast Go.Proofs.YtppbpefehpbejaaDoorW.PrintMore
attribute [local go_sem] max2_int min2_int max_two min_two max_three min_three max_four min_four   -- for this text's walks alone
set_option linter.unusedVariables false
set_option linter.unusedSimpArgs false

mutual
def impl_combined.j0 (op : Bool → Bool → Bool) : Nat → List (S100) → List (S100) → Bool → Option ((List (S100)) × Bool)
  | 0, _, _, _ => none
  | k + 1, x0, x1, x18 => if x18 = true then (some (([] : List (S100)), false)) else ((impl_setOf.f k x0).bind fun t200 => ((impl_setOf.f k x1).bind fun t203 => (impl_combined.l0 op k t200 t203 0)))
def impl_combined.l0 (op : Bool → Bool → Bool) : Nat → List Bool → List Bool → Int → Option ((List (S100)) × Bool)
  | 0, _, _, _ => none
  | k + 1, x8, x9, x23 => if x23 < 2001 then (if 0 ≤ x23 then (if x23 < (x8.length : Int) then (if x23 < (x9.length : Int) then ((some (op (rdOf false x8 x23) (rdOf false x9 x23))).bind fun t208 => (impl_combined.l0 op k (x8.set (x23 : Int).toNat t208) x9 (wrap64 (x23 + 1)))) else (none)) else (none)) else (none)) else ((impl_pageSet_ranges.f k x8).bind fun bt210 => (some (bt210.1, bt210.2)))
end
def impl_combined.f (op : Bool → Bool → Bool) (k : Nat) (l0 : List (S100)) (l1 : List (S100)) : Option ((List (S100)) × Bool) := (impl_AreRanges.f k l0).bind fun t198 => (if t198 = true then ((impl_AreRanges.f k l1).bind fun t199 => (impl_combined.j0 op k l0 l1 (!t199))) else (impl_combined.j0 op k l0 l1 true))
def impl_combined.T7 : Bool × List (List Nat × List Nat) := (true, [([], []), ([], []), ([], []), ([], []), ([], []), ([3], [3]), ([5, 4], [4, 5]), ([6], [6]), ([], []), ([], []), ([8], [8]), ([10, 9], [9, 10]), ([11], [11]), ([2, 7, 12], [2, 7, 12]), ([0], [0]), ([14, 1, 0, 1, 2, 3, 4, 5, 6, 7, 8, 9, 10, 11, 12, 13], [1, 14]), ([15, 13, 13, 0, 1, 2, 3, 4, 5, 6, 7, 8, 9, 10, 11, 12, 13], [13, 15])])
def impl_combined.B7 : List Nat := [0, 0, 0, 0, 0, 8, 56, 120, 0, 0, 256, 1792, 3840, 8188, 1, 32767, 65535]
theorem impl_combined.tab7 : rtab .any (opsOf Tryd.f168 7) = impl_combined.T7 := by kernel_rfl
theorem impl_combined.bits7 : waitsOk impl_combined.T7.2 impl_combined.B7 = true := by kernel_rfl
set_option maxHeartbeats 8000000 in
set_option maxRecDepth 100000 in
theorem impl_combined.calls (F : FuncId) (op : Bool → Bool → Bool) (hEG : ∀ args w, (callFunc F args).run Tryd.prog w = .ok (.enter F args) w) (hF : ∀ a b W, Calls Tryd.prog F #[.bool a, .bool b] W fun e w' => e = .returned (.bool (op a b)) ∧ Drawn0 W w') (k : Nat) (A0 : Option Addr) (c0 : Nat) (l0 : List (S100)) (A1 : Option Addr) (c1 : Nat) (l1 : List (S100)) (r1 : List (S100)) (r2 : Bool) (w : World) (hr0 : Kd.C k100 w A0 l0.length l0) (hc0 : l0.length ≤ c0) (hr1 : Kd.C k100 w A1 l1.length l1) (hc1 : l1.length ≤ c1) (h : impl_combined.f op k l0 l1 = some (r1, r2)) :
    Calls Tryd.prog 168 #[.slice A0 l0.length c0, .slice A1 l1.length c1, .func (.func F) #[] #[]] w fun e w' => ∃ v0_ : Value, e = .returned (.tuple #[v0_, .bool r2]) ∧ Kd.R k100 100 w' w.heap.size (fun _ => True) v0_ r1 ∧ Below w.heap.size w w' := by
  have EG := Aside0.mk hEG
  have CF := Aside0.mk hF
  clear hEG hF
  have hu58 := Tryd.underlying152
  have HR0 := Aside0.mk hr0
  have HC0 := Aside0.mk hc0
  clear hr0 hc0
  have HR1 := Aside0.mk hr1
  have HC1 := Aside0.mk hc1
  clear hr1 hc1
  have HB := Aside0.mk (Below.refl w.heap.size w)
  have H : ((impl_AreRanges.f k l0).bind fun t198 => (if t198 = true then ((impl_AreRanges.f k l1).bind fun t199 => (impl_combined.j0 op k l0 l1 (!t199))) else (impl_combined.j0 op k l0 l1 true))) = some (r1, r2) := h
  clear h
  have HC4 := Aside0.mk H
  clear H
  go_enter Tryd.func168, Tryd.ntmps168
  go_upto_region 1 with (fail)
  go_cut [18] (fun v18 wc => ∃ (kq : Nat) (x18_3 : Bool), v18 = .bool x18_3 ∧ Aside0 (impl_combined.j0 op kq l0 l1 x18_3 = some (r1, r2)) ∧ Aside0 (kq ≤ k) ∧ Aside0 (Below w.heap.size w wc))
  case first =>
    have H := HC4.out
    clear HC4
    replace H := Option.bind_eq_some_iff.mp H
    obtain ⟨t198, A50, H⟩ := H
    replace H : (if t198 = true then ((impl_AreRanges.f k l1).bind fun t199 => (impl_combined.j0 op k l0 l1 (!t199))) else (impl_combined.j0 op k l0 l1 true)) = some (r1, r2) := H
    have A5 := Aside0.mk A50
    clear A50
    by_cases c6 : t198 = true; rotate_left
    · replace c6 := Bool.eq_false_iff.mpr c6
      subst c6
      rw [if_neg nfz_] at H
      have H' := Aside0.mk H
      clear H
      go_wp2_with (((with_reducible refine gate_callee (f := 91) rfl ?_); refine goesL_ (some 12) rfl rfl Tryd.func91 (w162_) rfl #[.slice A0 l0.length c0] rfl (w81_) ?_; (with_reducible refine (impl_AreRanges.calls k _ _ l0 false _ ?side1 ?side2 A5.out).mono ?_); (case side1 => repeat (first | exact (Kd.C_below HR0.out HB.out) | (with_reducible refine Kd.C_alloc ?_ _) | (with_reducible refine Kd.C_drewN ?_ _) | (with_reducible refine Kd.C_drew ?_))); (case side2 => exact HC0.out); rintro e w10 ⟨rfl, hb⟩; refine ⟨_, rfl, ?_⟩; replace HB := Aside0.mk (below_step (w87_) hb); (try clear hb)))
      go_meet
      case rel => exact ⟨_, (true), (w134_), H', ⟨w141_⟩, ⟨w87_⟩⟩
    subst c6
    rw [if_pos rfl] at H
    replace H := Option.bind_eq_some_iff.mp H
    obtain ⟨t199, A70, H⟩ := H
    replace H : (impl_combined.j0 op k l0 l1 (!t199)) = some (r1, r2) := H
    have A7 := Aside0.mk A70
    clear A70
    have H' := Aside0.mk H
    clear H
    go_wp2_with (first | ((with_reducible refine gate_callee (f := 91) rfl ?_); refine goesL_ (some 12) rfl rfl Tryd.func91 (w162_) rfl #[.slice A0 l0.length c0] rfl (w81_) ?_; (with_reducible refine (impl_AreRanges.calls k _ _ l0 true _ ?side1 ?side2 A5.out).mono ?_); (case side1 => repeat (first | exact (Kd.C_below HR0.out HB.out) | (with_reducible refine Kd.C_alloc ?_ _) | (with_reducible refine Kd.C_drewN ?_ _) | (with_reducible refine Kd.C_drew ?_))); (case side2 => exact HC0.out); rintro e w8 ⟨rfl, hb⟩; refine ⟨_, rfl, ?_⟩; replace HB := Aside0.mk (below_step (w87_) hb); (try clear hb)) | (go_at_call 91; (with_reducible refine (impl_AreRanges.calls k _ _ l1 t199 _ ?side1 ?side2 A7.out).mono ?_); (case side1 => repeat (first | exact (Kd.C_below HR1.out HB.out) | (with_reducible refine Kd.C_alloc ?_ _) | (with_reducible refine Kd.C_drewN ?_ _) | (with_reducible refine Kd.C_drew ?_))); (case side2 => exact HC1.out); rintro e w9 ⟨rfl, hb⟩; replace HB := Aside0.mk (below_step (w87_) hb); (try clear hb)))
    go_meet
    case rel => exact ⟨_, (!t199), (w134_), H', ⟨w141_⟩, ⟨w87_⟩⟩
  case rest =>
    clear HC4
    try clear c1
    try clear p2
    try clear c5
    try clear c6
    obtain ⟨kq, x18_3, rfl, HA, HJ3, HB⟩ := hcut
    cases kq with
    | zero => exact absurd HA.out (by simp [impl_combined.j0])
    | succ kj3 =>
      have H := HA.out
      clear HA
      simp only [impl_combined.j0] at H
      by_cases c11 : x18_3 = true
      · subst c11
        rw [if_pos rfl] at H
        simp only [Option.some.injEq, Prod.mk.injEq] at H
        obtain ⟨rfl, rfl⟩ := H
        go_wp2
        go_ret2
        exact ⟨_, w116_, w80_, w87_⟩
      · replace c11 := Bool.eq_false_iff.mpr c11
        subst c11
        rw [if_neg nfz_] at H
        replace H := Option.bind_eq_some_iff.mp H
        obtain ⟨t200, A120, H⟩ := H
        replace H : ((impl_setOf.f kj3 l1).bind fun t203 => (impl_combined.l0 op kj3 t200 t203 0)) = some (r1, r2) := H
        have A12 := Aside0.mk A120
        clear A120
        replace H := Option.bind_eq_some_iff.mp H
        obtain ⟨t203, A130, H⟩ := H
        replace H : (impl_combined.l0 op kj3 t200 t203 0) = some (r1, r2) := H
        have A13 := Aside0.mk A130
        clear A130
        have H' := Aside0.mk H
        clear H
        go_wp2_with (first | ((with_reducible refine gate_callee (f := 155) rfl ?_); refine goesL_ (some 20) rfl rfl Tryd.func155 (w162_) rfl #[.slice A0 l0.length c0] rfl (w81_) ?_; (with_reducible refine (impl_setOf.calls kj3 _ _ l0 t200 _ ?side1 ?side2 A12.out).mono ?_); (case side1 => repeat (first | exact (Kd.C_below HR0.out HB.out) | (with_reducible refine Kd.C_alloc ?_ _) | (with_reducible refine Kd.C_drewN ?_ _) | (with_reducible refine Kd.C_drew ?_))); (case side2 => exact HC0.out); rintro e w14 ⟨v201, rfl, ho0, hb⟩; refine ⟨_, rfl, ?_⟩; have HO202 := Aside0.mk (Kd.R_lower ho0 (below_size (w87_))); replace HB := Aside0.mk (below_step (w87_) hb); (try clear hb); (try clear ho0)) | ((with_reducible refine gate_callee (f := 155) rfl ?_); refine goesL_ (some 22) rfl rfl Tryd.func155 (w162_) rfl #[.slice A1 l1.length c1] rfl (w81_) ?_; (with_reducible refine (impl_setOf.calls kj3 _ _ l1 t203 _ ?side1 ?side2 A13.out).mono ?_); (case side1 => repeat (first | exact (Kd.C_below HR1.out HB.out) | (with_reducible refine Kd.C_alloc ?_ _) | (with_reducible refine Kd.C_drewN ?_ _) | (with_reducible refine Kd.C_drew ?_))); (case side2 => exact HC1.out); rintro e w15 ⟨v204, rfl, ho0, hb⟩; refine ⟨_, rfl, ?_⟩; have HO205 := Aside0.mk (Kd.R_lower (Kd.R_new' ho0 (Kd.R_lt (by (with_reducible repeat (first | apply Kd.R_alloc | apply Kd.R_drewN | apply Kd.R_drew)); exact HO202.out))) (below_size (w87_))); replace HO202 := Aside0.mk (Kd.R_elder' (by (with_reducible repeat (first | apply Kd.R_alloc | apply Kd.R_drewN | apply Kd.R_drew)); exact HO202.out) (Kd.R_base ho0) hb); replace HB := Aside0.mk (below_step (w87_) hb); (try clear hb); (try clear ho0)))
        go_loopg [23] kj3 (fun kq v23 w' => ∃ (x8_2 : List Bool) (x9_2 : List Bool) (x23_2 : Int), v23 = .int .i64 x23_2 ∧ Aside0 (impl_combined.l0 op kq x8_2 x9_2 x23_2 = some (r1, r2)) ∧ Aside0 (kq ≤ kj3) ∧ Aside0 (Kd.R Kd.bool 152 w' w.heap.size (fun k_ => some k_ ≠ (Value.slice (some ⟨v204, 0, none⟩) 2001 2001).ownBlock) (.slice (some ⟨v201, 0, none⟩) 2001 2001) x8_2) ∧ Aside0 (Kd.R Kd.bool 152 w' w.heap.size (fun k_ => some k_ ≠ (Value.slice (some ⟨v201, 0, none⟩) 2001 2001).ownBlock) (.slice (some ⟨v204, 0, none⟩) 2001 2001) x9_2) ∧ Aside0 (Below w.heap.size w w'))
        case atStart => exact ⟨(t200), (t203), (0), (w134_), H', ⟨Nat.le_refl _⟩, ⟨by (with_reducible repeat (first | apply Kd.R_alloc | apply Kd.R_drewN | apply Kd.R_drew)); exact Kd.R_mono HO202.out (fun _ hk => hk.2)⟩, ⟨by (with_reducible repeat (first | apply Kd.R_alloc | apply Kd.R_drewN | apply Kd.R_drew)); exact Kd.R_mono HO205.out (fun _ hk => hk.2)⟩, ⟨w87_⟩⟩
        case round =>
          clear H'
          try clear c1
          try clear p2
          try clear c4
          try clear c5
          try clear c6
          try clear c11
          try clear p2
          obtain ⟨x8_2, x9_2, x23_2, rfl, HA, HK2, HO_8, HO_9, HB⟩ := hrel
          cases gk with
          | zero => exact absurd HA.out (by simp [impl_combined.l0])
          | succ k2 =>
            have H := HA.out
            clear HA
            simp only [impl_combined.l0] at H
            by_cases c16 : x23_2 < 2001
            · rw [if_pos c16] at H
              have c16b0 : decide (x23_2 < 2001) = true := decide_eq_true c16
              clear c16
              by_cases c17 : 0 ≤ x23_2; rotate_left
              · rw [if_neg c17] at H
                exact absurd H (by simp)
              rw [if_pos c17] at H
              have c17b0 : decide (0 ≤ x23_2) = true := decide_eq_true c17
              clear c17
              by_cases c18 : x23_2 < (x8_2.length : Int); rotate_left
              · rw [if_neg c18] at H
                exact absurd H (by simp)
              rw [if_pos c18] at H
              have c18b0 : decide (x23_2 < (x8_2.length : Int)) = true := decide_eq_true c18
              clear c18
              by_cases c19 : x23_2 < (x9_2.length : Int); rotate_left
              · rw [if_neg c19] at H
                exact absurd H (by simp)
              rw [if_pos c19] at H
              have c19b0 : decide (x23_2 < (x9_2.length : Int)) = true := decide_eq_true c19
              clear c19
              replace H := Option.bind_eq_some_iff.mp H
              obtain ⟨t208, A200, H⟩ := H
              replace H : (impl_combined.l0 op k2 (x8_2.set (x23_2 : Int).toNat t208) x9_2 (wrap64 (x23_2 + 1))) = some (r1, r2) := H
              have A20 := Aside0.mk A200
              clear A200
              obtain ⟨y209, hy209⟩ : ∃ y_ : List Bool, y_ = (x8_2.set (x23_2 : Int).toNat t208) := ⟨_, rfl⟩
              replace H : (impl_combined.l0 op k2 y209 x9_2 (wrap64 (x23_2 + 1))) = some (r1, r2) := by first | (rw [hy209]; with_reducible exact H) | (have H2_ := (Option.bind_some _ _).symm.trans H; rw [hy209]; with_reducible exact H2_) | (have H2_ := (Option.bind_some _ _).symm.trans H; with_reducible exact H2_) | with_reducible exact H | (rw [hy209]; exact H) | exact H
              have Ny209 := Aside0.mk hy209
              clear hy209
              have H' := Aside0.mk H
              clear H
              try go_wp2
              have n0_ := Aside0.mk (Kd.R_drew HO_8.out)
              have n1_ := Aside0.mk (Kd.R_drew HO_9.out)
              have n2_ := Aside0.mk (below_drew1 HB.out)
              clear HO_8
              clear HO_9
              clear HB
              have HO_8 := n0_
              have HO_9 := n1_
              have HB := n2_
              clear n0_ n1_ n2_
              have p206 : 0 ≤ (x23_2 : Int) := of_decide_eq_true (w133_)
              have q206 : x23_2 < (x8_2.length : Int) := of_decide_eq_true (w133_)
              obtain ⟨ad206, e206, hx206_0⟩ := Kd.at_bool (Kd.R_reads' HO_8.out).2.2 x23_2 p206 q206
              cases e206
              rw [add_at, Nat.zero_add] at hx206_0
              have q206z : x23_2 < 2001 := by have := (Kd.R_reads' HO_8.out).1; omega
              replace q206z := eq_true q206z
              replace p206 := eq_true p206
              replace q206 := eq_true q206
              have p207 : 0 ≤ (x23_2 : Int) := of_decide_eq_true (w133_)
              have q207 : x23_2 < (x9_2.length : Int) := of_decide_eq_true (w133_)
              obtain ⟨ad207, e207, hx207_0⟩ := Kd.at_bool (Kd.R_reads' HO_9.out).2.2 x23_2 p207 q207
              cases e207
              rw [add_at, Nat.zero_add] at hx207_0
              have q207z : x23_2 < 2001 := by have := (Kd.R_reads' HO_9.out).1; omega
              replace q207z := eq_true q207z
              replace p207 := eq_true p207
              replace q207 := eq_true q207
              refine start_ (n := 17) (S := fun w' => w'.cell? (⟨v201, (x23_2).toNat, none⟩ : Addr) = some (.bool (rdOf false x8_2 x23_2)) ∧ w'.cell? (⟨v204, (x23_2).toNat, none⟩ : Addr) = some (.bool (rdOf false x9_2 x23_2))) (ds := [16]) #[false, false, false, false, false, false, false, false, false, false, false, false, false, false, false, false, false] (w162_) rfl rfl ⟨hx206_0, hx207_0⟩ (fun hHeld => ?_); refine with_tabW impl_combined.tab7 impl_combined.bits7 (fun HT_ HW_ => ?_)
              generalize wr.drew = w22 at HO_8 HO_9 HB hx206_0 hx207_0 hHeld ⊢
              refine pure_ (i := 0) (N := some 26) (v := ?_) (a' := ?_) (mz_ [1,16]) rfl rfl (any_of HT_.out (w162_)) (fun _ _ _ h => h) (Or.inl ⟨by rfl, ?_⟩) ?_ ?_
              rotate_left
              · intro w'
                go_simp
                with_reducible rfl
              rotate_left
              · simp only [Act.put, List.setIfInBounds_toArray, List.set_cons_zero, List.set_cons_succ, i64_w, i32_w]
                rfl
              refine pure_ (i := 1) (N := some 27) (v := ?_) (a' := ?_) (mz_ [2,15]) rfl rfl (any_of HT_.out (w162_)) (fun _ _ _ h => h) (Or.inl ⟨by rfl, ?_⟩) ?_ ?_
              rotate_left
              · intro w'
                go_simp
                with_reducible rfl
              rotate_left
              · simp only [Act.put, List.setIfInBounds_toArray, List.set_cons_zero, List.set_cons_succ, i64_w, i32_w]
                rfl
              refine pure_ (i := 2) (N := some 28) (v := ?_) (a' := ?_) (mz_ [3,14]) rfl rfl (any_of HT_.out (w162_)) (fun _ _ _ h => h) (Or.inl ⟨by rfl, ?_⟩) ?_ ?_
              rotate_left
              · intro w'
                go_simp
                with_reducible rfl
              rotate_left
              · simp only [Act.put, List.setIfInBounds_toArray, List.set_cons_zero, List.set_cons_succ, i64_w, i32_w]
                rfl
              refine pure_ (i := 3) (N := some 29) (v := ?_) (a' := ?_) (mz_ [4,13]) rfl rfl (any_of HT_.out (w162_)) (fun _ _ _ h => h) (Or.inl ⟨by rfl, ?_⟩) ?_ ?_
              rotate_left
              · intro w'
                go_simp
                with_reducible rfl
              rotate_left
              · simp only [Act.put, List.setIfInBounds_toArray, List.set_cons_zero, List.set_cons_succ, i64_w, i32_w]
                rfl
              refine pure_ (i := 4) (N := some 30) (v := ?_) (a' := ?_) (mz_ [5,12]) rfl rfl (any_of HT_.out (w162_)) (fun _ _ _ h => h) (Or.inl ⟨by rfl, ?_⟩) ?_ ?_
              rotate_left
              · intro w'
                go_simp
                with_reducible rfl
              rotate_left
              · simp only [Act.put, List.setIfInBounds_toArray, List.set_cons_zero, List.set_cons_succ, i64_w, i32_w]
                rfl
              refine pure_ (i := 5) (N := some 31) (v := ?_) (a' := ?_) (mz_ [6,11]) rfl rfl (any_of HT_.out (w162_)) (fun _ _ _ h => h) (Or.inl ⟨by rfl, ?_⟩) ?_ ?_
              rotate_left
              · intro w'
                go_simp
                with_reducible rfl
              rotate_left
              · simp only [Act.put, List.setIfInBounds_toArray, List.set_cons_zero, List.set_cons_succ, i64_w, i32_w]
                rfl
              refine pure_ (i := 6) (N := some 32) (v := ?_) (a' := ?_) (mz_ [7,10]) rfl rfl (any_of HT_.out (w162_)) (fun _ _ _ h => h) (Or.inl ⟨by rfl, ?_⟩) ?_ ?_
              rotate_left
              · intro w'
                go_simp
                with_reducible rfl
              rotate_left
              · simp only [Act.put, List.setIfInBounds_toArray, List.set_cons_zero, List.set_cons_succ, i64_w, i32_w]
                rfl
              refine pure_ (i := 8) (N := some 34) (v := ?_) (a' := ?_) (mz_ [7,1,1,8]) rfl rfl (any_of HT_.out (w162_)) (fun _ _ _ h => h) (Or.inl ⟨by rfl, ?_⟩) ?_ ?_
              rotate_left
              · intro w'
                go_simp
                with_reducible rfl
              rotate_left
              · simp only [Act.put, List.setIfInBounds_toArray, List.set_cons_zero, List.set_cons_succ, i64_w, i32_w]
                rfl
              refine pure_ (i := 9) (N := some 35) (v := ?_) (a' := ?_) (mz_ [7,1,2,7]) rfl rfl (any_of HT_.out (w162_)) (fun _ _ _ h => h) (Or.inl ⟨by rfl, ?_⟩) ?_ ?_
              rotate_left
              · intro w'
                go_simp
                with_reducible rfl
              rotate_left
              · simp only [Act.put, List.setIfInBounds_toArray, List.set_cons_zero, List.set_cons_succ, i64_w, i32_w]
                rfl
              refine pure_ (i := 10) (N := some 36) (v := ?_) (a' := ?_) (mz_ [7,1,3,6]) rfl rfl (any_of HT_.out (w162_)) (fun _ _ _ h => h) (Or.inl ⟨by rfl, ?_⟩) ?_ ?_
              rotate_left
              · intro w'
                go_simp
                with_reducible rfl
              rotate_left
              · simp only [Act.put, List.setIfInBounds_toArray, List.set_cons_zero, List.set_cons_succ, i64_w, i32_w]
                rfl
              refine pure_ (i := 11) (N := some 37) (v := ?_) (a' := ?_) (mz_ [7,1,4,5]) rfl rfl (any_of HT_.out (w162_)) (fun _ _ _ h => h) (Or.inl ⟨by rfl, ?_⟩) ?_ ?_
              rotate_left
              · intro w'
                go_simp
                with_reducible rfl
              rotate_left
              · simp only [Act.put, List.setIfInBounds_toArray, List.set_cons_zero, List.set_cons_succ, i64_w, i32_w]
                rfl
              refine pure_ (i := 14) (N := some 40) (v := ?_) (a' := ?_) (mz_ [7,1,4,2,1,2]) rfl rfl (any_of HT_.out (w162_)) (fun _ _ _ h => h) (Or.inl ⟨by rfl, ?_⟩) ?_ ?_
              rotate_left
              · intro w'
                go_simp
                with_reducible rfl
              rotate_left
              · simp only [Act.put, List.setIfInBounds_toArray, List.set_cons_zero, List.set_cons_succ, i64_w, i32_w]
                rfl
              refine take_ (i := 7) (N := some 33) (v := ?_) (a' := ?_) (mz_ [12,2,1,2]) rfl rfl (take_ofW HT_.out HW_.out (w162_)) (fun _ _ _ h => h) (Or.inl ⟨by rfl, ?_⟩) hHeld ?_ ?_
              rotate_left
              · rintro w' ⟨s0, s1⟩
                go_simp
                with_reducible rfl
              rotate_left
              · simp only [Act.put, List.setIfInBounds_toArray, List.set_cons_zero, List.set_cons_succ, i64_w, i32_w]
                rfl
              refine take_ (i := 12) (N := some 38) (v := ?_) (a' := ?_) (mz_ [13,1,1,2]) rfl rfl (take_ofW HT_.out HW_.out (w162_)) (fun _ _ _ h => h) (Or.inl ⟨by rfl, ?_⟩) hHeld ?_ ?_
              rotate_left
              · rintro w' ⟨s0, s1⟩
                go_simp
                with_reducible rfl
              rotate_left
              · simp only [Act.put, List.setIfInBounds_toArray, List.set_cons_zero, List.set_cons_succ, i64_w, i32_w]
                rfl
              refine one_ (i := 13) (N := some 39) (mz_ [15,2]) rfl rfl (one_of HT_.out (w162_)) (by decide) (fun K hK => ?_)
              refine call_ F #[.bool (rdOf false x8_2 x23_2), .bool (rdOf false x9_2 x23_2)] (by rfl) rfl (by have he_ := EG.out #[.bool (rdOf false x8_2 x23_2), .bool (rdOf false x9_2 x23_2)] w22; unfold execOp; simp [resolve, Deferred.ofValue, invoke, Act.eval, he_]) ?_
              rw [← Option.some.inj A20.out] at Ny209
              with_reducible refine (CF.out (rdOf false x8_2 x23_2) (rdOf false x9_2 x23_2) _).mono ?_
              rintro e w' ⟨rfl, ⟨nd, rfl⟩⟩
              refine ⟨_, rfl, ?_⟩
              have p21 : 0 ≤ (x23_2 : Int) := of_decide_eq_true (w133_)
              have q21 : (x23_2 : Int) < ((x8_2.length : Int) : Int) := of_decide_eq_true (w133_)
              obtain ⟨gb21, gl21, cl21, HG21⟩ := PS_form HO_8.out
              have GB21 := Aside0.mk gb21
              have GG21 := Aside0.mk HG21
              clear gb21 gl21 HG21
              (first | simp only [add_plain] at hx206_0 | skip)
              have q21z : (x23_2 : Int) < 2001 := (by have e_ := (Kd.R_reads' HO_8.out).1; have h_ := q21; rw [← e_] at h_; exact h_)
              obtain ⟨hx21_0, hf21_0⟩ := Kd.R_celln false HO_8.out (x23_2 : Int) p21 q21z
              replace q21z := eq_true q21z
              replace p21 := eq_true p21
              replace q21 := eq_true q21
              have HP25 := Kd.R_putn HO_8.out (x23_2 : Int) (op (rdOf false x8_2 x23_2) (rdOf false x9_2 x23_2))
              rw [← Ny209.out] at HP25
              have HQ25 := Aside0.mk HP25
              clear HP25
              refine hK.out _ _ ⟨hHeld.1, hHeld.2⟩ (fun hHeld => ?_)
              clear hK K
              refine norm_ (a' := ?_) ?_ ?_
              rotate_left
              · show Act.put _ (some 39) _ = _
                simp only [Act.put, List.setIfInBounds_toArray, List.set_cons_zero, List.set_cons_succ, i64_w, i32_w]
                rfl
              refine pure_ (i := 15) (N := some 41) (v := ?_) (a' := ?_) (mz_ [16,1]) rfl rfl (any_of HT_.out (w162_)) (fun _ _ _ h => h) (Or.inl ⟨by rfl, ?_⟩) ?_ ?_
              rotate_left
              · intro w'
                go_simp
                with_reducible rfl
              rotate_left
              · simp only [Act.put, List.setIfInBounds_toArray, List.set_cons_zero, List.set_cons_succ, i64_w, i32_w]
                rfl
              refine last_ (i := 16) (N := none) (mz_ [17]) rfl rfl (one_of HT_.out (w162_)) (by decide) (fun K hK => ?_)
              refine skip_ (w1 := ?_) (by rfl) rfl ?_ ?_
              rotate_left
              · go_simp
                rfl
              refine hK.out _ _ ?_
              clear hK K
              refine done_ (done_of HT_.out (w162_)) ?_
              try go_wp2
              go_roundg k2
              case measure => have := HJ3.out; have := HK2.out; omega
              case rel => exact ⟨(y209), (x9_2), (wrap64 (x23_2 + 1)), (w134_), H', ⟨w140_⟩, ⟨by (with_reducible repeat (first | apply Kd.R_alloc | apply Kd.R_drewN | apply Kd.R_drew)); exact HQ25.out⟩, ⟨by (with_reducible repeat (first | apply Kd.R_alloc | apply Kd.R_drewN | apply Kd.R_drew)); exact Kd.R_mono (Kd.R_far (p := ⟨v201, (x23_2 : Int).toNat, none⟩) (Kd.R_mono HO_9.out (fun k_ hk => (⟨hk, fun e_ => hk (by rw [e_]; rfl)⟩ : _ ∧ k_ ≠ v201))) (fun _ hk => hk.2) (.bool (op (rdOf false x8_2 x23_2) (rdOf false x9_2 x23_2)))) (fun _ hk => hk.1)⟩, ⟨by repeat (first | (with_reducible first | exact HB.out | apply below_alloc | apply pw_below_drewN | apply below_drew1 | refine below_set ?_ GB21.out) | exact HB.out)⟩⟩
            · rw [if_neg c16] at H
              have c16b0 : decide (x23_2 < 2001) = false := decide_eq_false c16
              clear c16
              replace H := Option.bind_eq_some_iff.mp H
              obtain ⟨⟨t210, t211⟩, A260, H⟩ := H
              replace H : (some (t210, t211)) = some (r1, r2) := H
              have A26 := Aside0.mk A260
              clear A260
              simp only [Option.some.injEq, Prod.mk.injEq] at H
              obtain ⟨rfl, rfl⟩ := H
              go_wp2_with (((with_reducible refine gate_callee (f := 156) rfl ?_); refine goesL_ (some 44) rfl rfl Tryd.func156 (w162_) rfl #[.pointer (some ⟨v201, 0, none⟩)] rfl (w81_) ?_; (with_reducible refine (impl_pageSet_ranges.calls k2 v201 x8_2 t210 t211 _ ?side1 ?side2 A26.out).mono ?_); (case side1 => repeat (first | exact (Kd.R_reads' HO_8.out).2.2 | (with_reducible refine Kd.C_alloc ?_ _) | (with_reducible refine Kd.C_drewN ?_ _) | (with_reducible refine Kd.C_drew ?_))); (case side2 => exact (Kd.R_reads' HO_8.out).1.symm); rintro e w28 ⟨v212, rfl, ho0, hb⟩; refine ⟨_, rfl, ?_⟩; replace HO_8 := Aside0.mk (Kd.R_below (w108_) hb); replace HO_9 := Aside0.mk (Kd.R_below (by (with_reducible repeat (first | apply Kd.R_alloc | apply Kd.R_drewN | apply Kd.R_drew)); exact HO_9.out) hb); have HO213 := Aside0.mk (Kd.R_lower ho0 (below_size (w87_))); replace HB := Aside0.mk (below_step (w87_) hb); (try clear hb); (try clear ho0)))
              go_ret2
              exact ⟨_, w116_, by (with_reducible repeat (first | apply Kd.R_alloc | apply Kd.R_drewN | apply Kd.R_drew)); exact HO213.out, w87_⟩

theorem impl_UnionRanges_1.calls (a b : Bool) (W : World) : Calls Tryd.prog 169 #[.bool a, .bool b] W fun e w' => e = .returned (.bool ((fun a b => a || b) a b)) ∧ Drawn0 W w' := by
  cases a <;> cases b <;> (go_enter Tryd.func169, Tryd.ntmps169; go_wp2; go_ret; exact ⟨w134_, w131_⟩)
def impl_UnionRanges.f (k : Nat) (l0 : List (S100)) (l1 : List (S100)) : Option ((List (S100)) × Bool) := impl_combined.f (fun a b => a || b) k l0 l1
set_option maxHeartbeats 8000000 in
set_option maxRecDepth 100000 in
theorem impl_UnionRanges.calls (k : Nat) (A0 : Option Addr) (c0 : Nat) (l0 : List (S100)) (A1 : Option Addr) (c1 : Nat) (l1 : List (S100)) (r1 : List (S100)) (r2 : Bool) (w : World) (hr0 : Kd.C k100 w A0 l0.length l0) (hc0 : l0.length ≤ c0) (hr1 : Kd.C k100 w A1 l1.length l1) (hc1 : l1.length ≤ c1) (h : impl_UnionRanges.f k l0 l1 = some (r1, r2)) :
    Calls Tryd.prog 92 #[.slice A0 l0.length c0, .slice A1 l1.length c1] w fun e w' => ∃ v0_ : Value, e = .returned (.tuple #[v0_, .bool r2]) ∧ Kd.R k100 100 w' w.heap.size (fun _ => True) v0_ r1 ∧ Below w.heap.size w w' := by
  have hcall := impl_combined.calls 169 (fun a b => a || b) (enters_of Tryd.func169 (w162_) rfl) impl_UnionRanges_1.calls k A0 c0 l0 A1 c1 l1 r1 r2 w hr0 hc0 hr1 hc1 h
  clear hr0 hc0 hr1 hc1 h
  have HCALL := Aside0.mk hcall
  clear hcall
  go_enter Tryd.func92, Tryd.ntmps92
  go_wp2_with (go_at_call 168; refine HCALL.out.mono ?_; rintro e w4 ⟨v216, rfl, ho0, hb⟩)
  go_ret2
  exact ⟨_, w116_, ho0, hb⟩

end Go.Proofs.YtppbpefehpbejaaDoor.P
end

section
namespace Go.Proofs.YtppbpefehpbejaaDoor.P
open Go.RowKit Go.Proofs.YtppbpefehpbejaaDoorW.PrintWords Go.Proofs.YtppbpefehpbejaaDoorW.PrintLast Go.Proofs.YtppbpefehpbejaaDoorW.PrintMore
set_option linter.unusedVariables false
set_option linter.unusedSimpArgs false

def impl_HasIndexed.f (k : Nat) (l0 : List (S100)) (a1 : Int) : Option (Bool × Bool) :=
  (impl_AreRanges.f k l0).bind fun t => (if t = true then ((impl_isIndexed.f a1).bind fun u => (if u = true then ((impl_setOf.f k l0).bind fun s => (if 0 ≤ a1 then (if a1 < (s.length : Int) then some (rdOf false s a1, true) else none) else none)) else some (false, false))) else some (false, false))
set_option maxHeartbeats 4000000 in
set_option maxRecDepth 100000 in
theorem impl_HasIndexed.calls (k : Nat) (A0 : Option Addr) (c0 : Nat) (l0 : List (S100)) (a1 : Int) (r1 : Bool) (r2 : Bool) (w : World) (hr0 : Kd.C k100 w A0 l0.length l0) (hc0 : l0.length ≤ c0) (h : impl_HasIndexed.f k l0 a1 = some (r1, r2)) :
    Calls Tryd.prog 74 #[.slice A0 l0.length c0, .int .i64 a1] w fun e w' => e = .returned (.tuple #[.bool r1, .bool r2]) ∧ Below w.heap.size w w' := by
  have hu58 := Tryd.underlying152
  have HR := Aside0.mk hr0
  have HC := Aside0.mk hc0
  clear hr0 hc0
  unfold impl_HasIndexed.f at h
  obtain ⟨t, h1, h⟩ := Option.bind_eq_some_iff.mp h
  have A1 := Aside0.mk h1
  clear h1
  cases t with
  | false =>
    rw [if_neg (by decide)] at h
    simp only [Option.some.injEq, Prod.mk.injEq] at h
    obtain ⟨rfl, rfl⟩ := h
    go_enter Tryd.func74, Tryd.ntmps74
    go_wp2_with (first | (go_at_call 91; (with_reducible refine (impl_AreRanges.calls k A0 c0 l0 false _ HR.out HC.out A1.out).mono ?_); rintro e w1 ⟨rfl, hb⟩; have HB1 := Aside0.mk (show Below w.heap.size w w1 from (w136_)); clear hb))
    go_ret2
    exact ⟨w134_, HB1.out⟩
  | true =>
    rw [if_pos rfl] at h
    obtain ⟨u, h2, h⟩ := Option.bind_eq_some_iff.mp h
    have A2 := Aside0.mk h2
    clear h2
    cases u with
    | false =>
      rw [if_neg (by decide)] at h
      simp only [Option.some.injEq, Prod.mk.injEq] at h
      obtain ⟨rfl, rfl⟩ := h
      go_enter Tryd.func74, Tryd.ntmps74
      go_wp2_with (first | (go_at_call 91; (with_reducible refine (impl_AreRanges.calls k A0 c0 l0 true _ HR.out HC.out A1.out).mono ?_); rintro e w1 ⟨rfl, hb⟩; have HB1 := Aside0.mk (show Below w.heap.size w w1 from (w136_)); clear hb) | (go_at_call 154; (with_reducible refine (impl_isIndexed.calls a1 false _ A2.out).mono ?_); rintro e w2 ⟨rfl, ⟨nd, rfl⟩⟩))
      go_ret2
      exact ⟨w134_, by repeat (first | (with_reducible first | exact HB1.out | apply pw_below_drewN) | exact HB1.out)⟩
    | true =>
      rw [if_pos rfl] at h
      obtain ⟨s, h3, h⟩ := Option.bind_eq_some_iff.mp h
      have A3 := Aside0.mk h3
      clear h3
      by_cases c1 : 0 ≤ a1; rotate_left
      · rw [if_neg c1] at h
        cases h
      rw [if_pos c1] at h
      by_cases c2 : a1 < (s.length : Int); rotate_left
      · rw [if_neg c2] at h
        cases h
      rw [if_pos c2] at h
      simp only [Option.some.injEq, Prod.mk.injEq] at h
      obtain ⟨hq, rfl⟩ := h
      have HQ := Aside0.mk hq
      clear hq
      go_enter Tryd.func74, Tryd.ntmps74
      go_wp2_with (first | (go_at_call 91; (with_reducible refine (impl_AreRanges.calls k A0 c0 l0 true _ HR.out HC.out A1.out).mono ?_); rintro e w1 ⟨rfl, hb⟩; have HB1 := Aside0.mk (show Below w.heap.size w w1 from (w136_)); clear hb) | (go_at_call 154; (with_reducible refine (impl_isIndexed.calls a1 true _ A2.out).mono ?_); rintro e w2 ⟨rfl, ⟨nd, rfl⟩⟩) | (go_at_call 155; (with_reducible refine (impl_setOf.calls k A0 c0 l0 s _ ?side1 HC.out A3.out).mono ?_); (case side1 => exact Kd.C_drewN (Kd.C_below HR.out HB1.out) _); rintro e w3 ⟨v, rfl, ho, hb⟩; have HB3 := Aside0.mk (below_step (pw_below_drewN HB1.out nd) hb); obtain ⟨ad, ead, hx0⟩ := Kd.at_bool (Kd.R_reads' ho).2.2 a1 c1 c2; rw [HQ.out] at hx0; cases ead; rw [add_at, Nat.zero_add] at hx0; have q1 : a1 < 2001 := (by have := (Kd.R_reads' ho).1; omega); clear ho hb))
      repeat (go_quiet (fail); try go_wp2)
      go_ret2
      exact ⟨w134_, by repeat (first | (with_reducible first | exact HB3.out | apply pw_below_drewN | apply below_drew1) | exact HB3.out)⟩

def impl_NearestIndexed.one (s : List Bool) (near : Int) (next : Option (Int × Bool)) : Option (Int × Bool) :=
  (impl_isIndexed.f near).bind fun t => (if t = true then (if 0 ≤ near then (if near < (s.length : Int) then (if rdOf false s near = true then some (near, true) else next) else none) else none) else next)
mutual
def impl_NearestIndexed.l0 : Nat → Int → List Bool → Int → Option (Int × Bool)
  | 0, _, _, _ => none
  | k + 1, a1, s, d => if d < 2000 then impl_NearestIndexed.l1 k a1 s d (wrap64 (a1 - d)) (wrap64 (a1 + d)) 0 else some (0, false)
def impl_NearestIndexed.l1 : Nat → Int → List Bool → Int → Int → Int → Int → Option (Int × Bool)
  | 0, _, _, _, _, _, _ => none
  | k + 1, a1, s, d, lo, hi, j => if j < 2 then (if j = 0 then impl_NearestIndexed.one s lo (impl_NearestIndexed.l1 k a1 s d lo hi 1) else impl_NearestIndexed.one s hi (impl_NearestIndexed.l1 k a1 s d lo hi 2)) else impl_NearestIndexed.l0 k a1 s (wrap64 (d + 1))
end
def impl_NearestIndexed.f (k : Nat) (l0 : List (S100)) (a1 : Int) : Option (Int × Bool) :=
  (impl_AreRanges.f k l0).bind fun t => (if t = true then ((impl_isIndexed.f a1).bind fun u => (if u = true then ((impl_setOf.f k l0).bind fun s => impl_NearestIndexed.l0 k a1 s 0) else some (0, false))) else some (0, false))
set_option maxHeartbeats 4000000 in
set_option maxRecDepth 100000 in
theorem impl_NearestIndexed.calls (k : Nat) (A0 : Option Addr) (c0 : Nat) (l0 : List (S100)) (a1 : Int) (r1 : Int) (r2 : Bool) (w : World) (hr0 : Kd.C k100 w A0 l0.length l0) (hc0 : l0.length ≤ c0) (h : impl_NearestIndexed.f k l0 a1 = some (r1, r2)) :
    Calls Tryd.prog 72 #[.slice A0 l0.length c0, .int .i64 a1] w fun e w' => e = .returned (.tuple #[.int .i64 r1, .bool r2]) ∧ Below w.heap.size w w' := by
  have hu58 := Tryd.underlying152
  have hu59 := Tryd.underlying159
  have HR := Aside0.mk hr0
  have HC := Aside0.mk hc0
  clear hr0 hc0
  unfold impl_NearestIndexed.f at h
  obtain ⟨t, h1, h⟩ := Option.bind_eq_some_iff.mp h
  have A1 := Aside0.mk h1
  clear h1
  cases t with
  | false =>
    rw [if_neg (by decide)] at h
    simp only [Option.some.injEq, Prod.mk.injEq] at h
    obtain ⟨rfl, rfl⟩ := h
    go_enter Tryd.func72, Tryd.ntmps72
    go_wp2_with (first | (go_at_call 91; (with_reducible refine (impl_AreRanges.calls k A0 c0 l0 false _ HR.out HC.out A1.out).mono ?_); rintro e w1 ⟨rfl, hb⟩; have HB1 := Aside0.mk (show Below w.heap.size w w1 from (w136_)); clear hb))
    go_ret2
    exact ⟨w134_, HB1.out⟩
  | true =>
    rw [if_pos rfl] at h
    obtain ⟨u, h2, h⟩ := Option.bind_eq_some_iff.mp h
    have A2 := Aside0.mk h2
    clear h2
    cases u with
    | false =>
      rw [if_neg (by decide)] at h
      simp only [Option.some.injEq, Prod.mk.injEq] at h
      obtain ⟨rfl, rfl⟩ := h
      go_enter Tryd.func72, Tryd.ntmps72
      go_wp2_with (first | (go_at_call 91; (with_reducible refine (impl_AreRanges.calls k A0 c0 l0 true _ HR.out HC.out A1.out).mono ?_); rintro e w1 ⟨rfl, hb⟩; have HB1 := Aside0.mk (show Below w.heap.size w w1 from (w136_)); clear hb) | (go_at_call 154; (with_reducible refine (impl_isIndexed.calls a1 false _ A2.out).mono ?_); rintro e w2 ⟨rfl, ⟨nd, rfl⟩⟩))
      go_ret2
      exact ⟨w134_, by repeat (first | (with_reducible first | exact HB1.out | apply pw_below_drewN) | exact HB1.out)⟩
    | true =>
      rw [if_pos rfl] at h
      obtain ⟨s, h3, h⟩ := Option.bind_eq_some_iff.mp h
      have A3 := Aside0.mk h3
      clear h3
      have H' := Aside0.mk h
      clear h
      go_enter Tryd.func72, Tryd.ntmps72
      go_wp2_with (first | (go_at_call 91; (with_reducible refine (impl_AreRanges.calls k A0 c0 l0 true _ HR.out HC.out A1.out).mono ?_); rintro e w1 ⟨rfl, hb⟩; have HB1 := Aside0.mk (show Below w.heap.size w w1 from (w136_)); clear hb) | (go_at_call 154; (with_reducible refine (impl_isIndexed.calls a1 true _ A2.out).mono ?_); rintro e w2 ⟨rfl, ⟨nd, rfl⟩⟩) | (go_at_call 155; (with_reducible refine (impl_setOf.calls k A0 c0 l0 s _ ?side1 HC.out A3.out).mono ?_); (case side1 => exact Kd.C_drewN (Kd.C_below HR.out HB1.out) _); rintro e w3 ⟨v, rfl, ho, hb⟩; have HO3 := Aside0.mk (Kd.R_lower ho (below_size (pw_below_drewN HB1.out nd))); have HB3 := Aside0.mk (below_step (pw_below_drewN HB1.out nd) hb); clear ho hb))
      go_loopg [20] k (fun kq v20 w' => ∃ (d : Int), v20 = .int .i64 d ∧ Aside0 (impl_NearestIndexed.l0 kq a1 s d = some (r1, r2)) ∧ Aside0 (kq ≤ k) ∧ Aside0 (Kd.R Kd.bool 152 w' w.heap.size (fun _ => True) (.slice (some ⟨v, 0, none⟩) 2001 2001) s) ∧ Aside0 (Below w.heap.size w w'))
      case atStart => exact ⟨(0), (w134_), H', ⟨Nat.le_refl _⟩, ⟨by (with_reducible repeat (first | apply Kd.R_alloc | apply Kd.R_drewN | apply Kd.R_drew)); exact HO3.out⟩, ⟨by repeat (first | (with_reducible first | exact HB3.out | apply below_alloc | apply pw_below_drewN | apply below_drew1) | exact HB3.out)⟩⟩
      case round =>
        clear H'
        obtain ⟨d, rfl, HA, HK1, HO, HB⟩ := hrel
        cases gk with
        | zero => exact absurd HA.out (by simp [impl_NearestIndexed.l0])
        | succ k1 =>
          have H := HA.out
          clear HA
          simp only [impl_NearestIndexed.l0] at H
          by_cases c5 : d < 2000; rotate_left
          · rw [if_neg c5] at H
            have c5b0 : decide (d < 2000) = false := decide_eq_false c5
            clear c5
            simp only [Option.some.injEq, Prod.mk.injEq] at H
            obtain ⟨rfl, rfl⟩ := H
            go_wp2
            go_ret2
            exact ⟨w134_, w103_⟩
          rw [if_pos c5] at H
          have c5b0 : decide (d < 2000) = true := decide_eq_true c5
          clear c5
          obtain ⟨lo, hlo⟩ : ∃ j_ : Int, (wrap64 (a1 - d)) = j_ := ⟨_, rfl⟩
          obtain ⟨hi, hhi⟩ : ∃ j_ : Int, (wrap64 (a1 + d)) = j_ := ⟨_, rfl⟩
          rw [hlo, hhi] at H
          have hlow : (IntKind.i64.wrap (a1 - d)) = lo := (i64_w _).trans hlo
          have hhiw : (IntKind.i64.wrap (a1 + d)) = hi := (i64_w _).trans hhi
          have H' := Aside0.mk H
          clear H hlo hhi
          have x0 : ∀ w : World, (Instr.index 159 (.agg #[.int .i64 lo, .int .i64 hi]) (.int .i64 0)).run Tryd.prog w = .ok (.int .i64 lo) w := fun _ => by kernel_rfl
          have x1 : ∀ w : World, (Instr.index 159 (.agg #[.int .i64 lo, .int .i64 hi]) (.int .i64 1)).run Tryd.prog w = .ok (.int .i64 hi) w := fun _ => by kernel_rfl
          go_wp2
          go_loopg [30] k1 (fun kq v30 w' => ∃ (j : Int), v30 = .int .i64 j ∧ Aside0 (impl_NearestIndexed.l1 kq a1 s d lo hi j = some (r1, r2)) ∧ Aside0 (kq ≤ k1) ∧ Aside0 (j = 0 ∨ j = 1 ∨ j = 2) ∧ Aside0 (Kd.R Kd.bool 152 w' w.heap.size (fun _ => True) (.slice (some ⟨v, 0, none⟩) 2001 2001) s) ∧ Aside0 (Below w.heap.size w w'))
          case atStart => exact ⟨(0), (w134_), H', ⟨Nat.le_refl _⟩, ⟨Or.inl rfl⟩, ⟨w114_⟩, ⟨w87_⟩⟩
          case round =>
            clear H' HO HB
            try clear c5b0
            obtain ⟨j, rfl, HA, HK2, HJ, HO, HB⟩ := hrel
            cases gk with
            | zero => exact absurd HA.out (by simp [impl_NearestIndexed.l1])
            | succ k2 =>
              have H := HA.out
              clear HA
              simp only [impl_NearestIndexed.l1] at H
              have HJ0 := HJ.out
              clear HJ
              rcases HJ0 with rfl | rfl | rfl
              · rw [if_pos (by decide), if_pos rfl, impl_NearestIndexed.one] at H
                obtain ⟨t, h4, H⟩ := Option.bind_eq_some_iff.mp H
                have A4 := Aside0.mk h4
                clear h4
                cases t with
                | false =>
                  rw [if_neg (by decide)] at H
                  have H' := Aside0.mk H
                  clear H
                  go_wp2_with (first | (go_at_call 154; (with_reducible refine (impl_isIndexed.calls lo false _ A4.out).mono ?_); rintro e w2 ⟨rfl, ⟨nd, rfl⟩⟩))
                  go_roundg k2
                  case measure => have := HK1.out; have := HK2.out; omega
                  case rel => exact ⟨1, (w134_), H', ⟨by have := HK2.out; omega⟩, ⟨Or.inr (Or.inl rfl)⟩, ⟨w114_⟩, ⟨w87_⟩⟩
                | true =>
                  rw [if_pos rfl] at H
                  by_cases c1 : 0 ≤ lo; rotate_left
                  · rw [if_neg c1] at H
                    cases H
                  rw [if_pos c1] at H
                  by_cases c2 : lo < (s.length : Int); rotate_left
                  · rw [if_neg c2] at H
                    cases H
                  rw [if_pos c2] at H
                  obtain ⟨ad, ead, hx0⟩ := Kd.at_bool (Kd.R_reads' HO.out).2.2 lo c1 c2
                  cases ead
                  rw [add_at, Nat.zero_add] at hx0
                  have q1 : lo < 2001 := (by have := (Kd.R_reads' HO.out).1; omega)
                  by_cases c6 : rdOf false s lo = true
                  · rw [if_pos c6] at H
                    rw [c6] at hx0
                    simp only [Option.some.injEq, Prod.mk.injEq] at H
                    obtain ⟨rfl, rfl⟩ := H
                    go_wp2_with (first | (go_at_call 154; (with_reducible refine (impl_isIndexed.calls lo true _ A4.out).mono ?_); rintro e w2 ⟨rfl, ⟨nd, rfl⟩⟩))
                    repeat (go_quiet (fail); try go_wp2)
                    go_ret2
                    exact ⟨w134_, w103_⟩
                  rw [if_neg c6] at H
                  have H' := Aside0.mk H
                  clear H
                  rw [Bool.eq_false_iff.mpr c6] at hx0
                  go_wp2_with (first | (go_at_call 154; (with_reducible refine (impl_isIndexed.calls lo true _ A4.out).mono ?_); rintro e w2 ⟨rfl, ⟨nd, rfl⟩⟩))
                  repeat (go_quiet (fail); try go_wp2)
                  go_roundg k2
                  case measure => have := HK1.out; have := HK2.out; omega
                  case rel => exact ⟨1, (w134_), H', ⟨by have := HK2.out; omega⟩, ⟨Or.inr (Or.inl rfl)⟩, ⟨w114_⟩, ⟨w87_⟩⟩
              · rw [if_pos (by decide), if_neg (by decide), impl_NearestIndexed.one] at H
                obtain ⟨t, h4, H⟩ := Option.bind_eq_some_iff.mp H
                have A4 := Aside0.mk h4
                clear h4
                cases t with
                | false =>
                  rw [if_neg (by decide)] at H
                  have H' := Aside0.mk H
                  clear H
                  go_wp2_with (first | (go_at_call 154; (with_reducible refine (impl_isIndexed.calls hi false _ A4.out).mono ?_); rintro e w2 ⟨rfl, ⟨nd, rfl⟩⟩))
                  go_roundg k2
                  case measure => have := HK1.out; have := HK2.out; omega
                  case rel => exact ⟨2, (w134_), H', ⟨by have := HK2.out; omega⟩, ⟨Or.inr (Or.inr rfl)⟩, ⟨w114_⟩, ⟨w87_⟩⟩
                | true =>
                  rw [if_pos rfl] at H
                  by_cases c1 : 0 ≤ hi; rotate_left
                  · rw [if_neg c1] at H
                    cases H
                  rw [if_pos c1] at H
                  by_cases c2 : hi < (s.length : Int); rotate_left
                  · rw [if_neg c2] at H
                    cases H
                  rw [if_pos c2] at H
                  obtain ⟨ad, ead, hx0⟩ := Kd.at_bool (Kd.R_reads' HO.out).2.2 hi c1 c2
                  cases ead
                  rw [add_at, Nat.zero_add] at hx0
                  have q1 : hi < 2001 := (by have := (Kd.R_reads' HO.out).1; omega)
                  by_cases c6 : rdOf false s hi = true
                  · rw [if_pos c6] at H
                    rw [c6] at hx0
                    simp only [Option.some.injEq, Prod.mk.injEq] at H
                    obtain ⟨rfl, rfl⟩ := H
                    go_wp2_with (first | (go_at_call 154; (with_reducible refine (impl_isIndexed.calls hi true _ A4.out).mono ?_); rintro e w2 ⟨rfl, ⟨nd, rfl⟩⟩))
                    repeat (go_quiet (fail); try go_wp2)
                    go_ret2
                    exact ⟨w134_, w103_⟩
                  rw [if_neg c6] at H
                  have H' := Aside0.mk H
                  clear H
                  rw [Bool.eq_false_iff.mpr c6] at hx0
                  go_wp2_with (first | (go_at_call 154; (with_reducible refine (impl_isIndexed.calls hi true _ A4.out).mono ?_); rintro e w2 ⟨rfl, ⟨nd, rfl⟩⟩))
                  repeat (go_quiet (fail); try go_wp2)
                  go_roundg k2
                  case measure => have := HK1.out; have := HK2.out; omega
                  case rel => exact ⟨2, (w134_), H', ⟨by have := HK2.out; omega⟩, ⟨Or.inr (Or.inr rfl)⟩, ⟨w114_⟩, ⟨w87_⟩⟩
              · rw [if_neg (by decide)] at H
                have H' := Aside0.mk H
                clear H
                go_wp2
                go_roundg k2
                case measure => have := HK1.out; have := HK2.out; omega
                case rel => exact ⟨(wrap64 (d + 1)), (w134_), H', ⟨w137_⟩, ⟨w114_⟩, ⟨w87_⟩⟩
end Go.Proofs.YtppbpefehpbejaaDoor.P
end

section
namespace Go.Proofs.YtppbpefehpbejaaDoor.P
open Go.RowKit Go.Proofs.YtppbpefehpbejaaDoorW.PrintWords Go.Proofs.YtppbpefehpbejaaDoorW.PrintLast Go.Proofs.YtppbpefehpbejaaDoorW.PrintMore
attribute [local go_sem] max2_int min2_int max_two min_two max_three min_three max_four min_four   -- for this text's walks alone
set_option linter.unusedVariables false
set_option linter.unusedSimpArgs false

mutual
def impl_PutPages.j0 : Nat → List (S100) → Int → Int → Bool → Option ((List (S100)) × Bool)
  | 0, _, _, _, _ => none
  | k + 1, x0, x1, x2, x24 => if x24 = true then (some (([] : List (S100)), false)) else (if 2001 ≤ 281474976710656 then ((impl_setOf.f k x0).bind fun t382 => (impl_PutPages.l0 k x1 x2 (List.replicate 2001 false) t382 0)) else (none))
def impl_PutPages.l0 : Nat → Int → Int → List Bool → List Bool → Int → Option ((List (S100)) × Bool)
  | 0, _, _, _, _, _ => none
  | k + 1, x1, x2, x8, x28, x29 => if x29 < 2001 then (if 0 ≤ x29 then (if x29 < (x28.length : Int) then (if rdOf false x28 x29 = true then (if x29 ≥ x1 then (if (wrap64 (x29 + x2)) > 2000 then (some (([] : List (S100)), false)) else (if 0 ≤ (wrap64 (x29 + x2)) then (if (wrap64 (x29 + x2)) < (x8.length : Int) then (impl_PutPages.l0 k x1 x2 (x8.set ((wrap64 (x29 + x2)) : Int).toNat true) x28 (wrap64 (x29 + 1))) else (none)) else (none))) else (if x29 > 2000 then (some (([] : List (S100)), false)) else (if x29 < (x8.length : Int) then (impl_PutPages.l0 k x1 x2 (x8.set (x29 : Int).toNat true) x28 (wrap64 (x29 + 1))) else (none)))) else (impl_PutPages.l0 k x1 x2 x8 x28 (wrap64 (x29 + 1)))) else (none)) else (none)) else ((impl_pageSet_ranges.f k x8).bind fun bt385 => (some (bt385.1, bt385.2)))
end
def impl_PutPages.f (k : Nat) (l0 : List (S100)) (a1 : Int) (a2 : Int) : Option ((List (S100)) × Bool) := (impl_AreRanges.f k l0).bind fun t376 => (if t376 = true then ((impl_isIndexed.f a1).bind fun t377 => (if t377 = true then ((impl_within.f a2 0 2000).bind fun t378 => (impl_PutPages.j0 k l0 a1 a2 (!t378))) else (impl_PutPages.j0 k l0 a1 a2 true))) else (impl_PutPages.j0 k l0 a1 a2 true))
set_option maxHeartbeats 8000000 in
set_option maxRecDepth 100000 in
theorem impl_PutPages.calls (k : Nat) (A0 : Option Addr) (c0 : Nat) (l0 : List (S100)) (a1 : Int) (a2 : Int) (r1 : List (S100)) (r2 : Bool) (w : World) (hr0 : Kd.C k100 w A0 l0.length l0) (hc0 : l0.length ≤ c0) (h : impl_PutPages.f k l0 a1 a2 = some (r1, r2)) :
    Calls Tryd.prog 68 #[.slice A0 l0.length c0, .int .i64 a1, .int .i64 a2] w fun e w' => ∃ v0_ : Value, e = .returned (.tuple #[v0_, .bool r2]) ∧ Kd.R k100 100 w' w.heap.size (fun _ => True) v0_ r1 ∧ Below w.heap.size w w' := by
  have HR0 := Aside0.mk hr0
  have HC0 := Aside0.mk hc0
  clear hr0 hc0
  have HB := Aside0.mk (Below.refl w.heap.size w)
  have H : ((impl_AreRanges.f k l0).bind fun t376 => (if t376 = true then ((impl_isIndexed.f a1).bind fun t377 => (if t377 = true then ((impl_within.f a2 0 2000).bind fun t378 => (impl_PutPages.j0 k l0 a1 a2 (!t378))) else (impl_PutPages.j0 k l0 a1 a2 true))) else (impl_PutPages.j0 k l0 a1 a2 true))) = some (r1, r2) := h
  clear h
  have HC4 := Aside0.mk H
  clear H
  have hu58 := Tryd.underlying152
  go_enter Tryd.func68, Tryd.ntmps68
  go_upto_region 1 with (fail)
  go_cut [24] (fun v24 wc => ∃ (kq : Nat) (x24_3 : Bool), v24 = .bool x24_3 ∧ Aside0 (impl_PutPages.j0 kq l0 a1 a2 x24_3 = some (r1, r2)) ∧ Aside0 (kq ≤ k) ∧ Aside0 (Below w.heap.size w wc))
  case first =>
    have H := HC4.out
    clear HC4
    replace H := Option.bind_eq_some_iff.mp H
    obtain ⟨t376, A50, H⟩ := H
    replace H : (if t376 = true then ((impl_isIndexed.f a1).bind fun t377 => (if t377 = true then ((impl_within.f a2 0 2000).bind fun t378 => (impl_PutPages.j0 k l0 a1 a2 (!t378))) else (impl_PutPages.j0 k l0 a1 a2 true))) else (impl_PutPages.j0 k l0 a1 a2 true)) = some (r1, r2) := H
    have A5 := Aside0.mk A50
    clear A50
    by_cases c6 : t376 = true; rotate_left
    · replace c6 := Bool.eq_false_iff.mpr c6
      subst c6
      rw [if_neg nfz_] at H
      have H' := Aside0.mk H
      clear H
      go_wp2_with ((go_at_call 91; (with_reducible refine (impl_AreRanges.calls k _ _ l0 false _ ?side1 ?side2 A5.out).mono ?_); (case side1 => repeat (first | exact (Kd.C_below HR0.out HB.out) | (with_reducible refine Kd.C_alloc ?_ _) | (with_reducible refine Kd.C_drewN ?_ _) | (with_reducible refine Kd.C_drew ?_))); (case side2 => exact HC0.out); rintro e w12 ⟨rfl, hb⟩; replace HB := Aside0.mk (below_step (w87_) hb); (try clear hb)))
      go_meet
      case rel => exact ⟨_, (true), (w134_), H', ⟨w141_⟩, ⟨w87_⟩⟩
    subst c6
    rw [if_pos rfl] at H
    replace H := Option.bind_eq_some_iff.mp H
    obtain ⟨t377, A70, H⟩ := H
    replace H : (if t377 = true then ((impl_within.f a2 0 2000).bind fun t378 => (impl_PutPages.j0 k l0 a1 a2 (!t378))) else (impl_PutPages.j0 k l0 a1 a2 true)) = some (r1, r2) := H
    have A7 := Aside0.mk A70
    clear A70
    by_cases c8 : t377 = true; rotate_left
    · replace c8 := Bool.eq_false_iff.mpr c8
      subst c8
      rw [if_neg nfz_] at H
      have H' := Aside0.mk H
      clear H
      go_wp2_with (first | (go_at_call 91; (with_reducible refine (impl_AreRanges.calls k _ _ l0 true _ ?side1 ?side2 A5.out).mono ?_); (case side1 => repeat (first | exact (Kd.C_below HR0.out HB.out) | (with_reducible refine Kd.C_alloc ?_ _) | (with_reducible refine Kd.C_drewN ?_ _) | (with_reducible refine Kd.C_drew ?_))); (case side2 => exact HC0.out); rintro e w11 ⟨rfl, hb⟩; replace HB := Aside0.mk (below_step (w87_) hb); (try clear hb)) | (go_at_call 154; (with_reducible refine (impl_isIndexed.calls a1 false _ A7.out).mono ?_); rintro e w' ⟨rfl, ⟨nd, rfl⟩⟩; (try first | exact ⟨rfl, _, World.drewN_drewN _ _ _⟩ | exact ⟨rfl, _, Eq.trans (World.drewN_drewN _ _ _) (congrArg (World.drewN _) (Nat.add_assoc _ _ _))⟩)))
      go_meet
      case rel => exact ⟨_, (true), (w134_), H', ⟨w141_⟩, ⟨w87_⟩⟩
    subst c8
    rw [if_pos rfl] at H
    replace H := Option.bind_eq_some_iff.mp H
    obtain ⟨t378, A90, H⟩ := H
    replace H : (impl_PutPages.j0 k l0 a1 a2 (!t378)) = some (r1, r2) := H
    have A9 := Aside0.mk A90
    clear A90
    have H' := Aside0.mk H
    clear H
    go_wp2_with (first | (go_at_call 91; (with_reducible refine (impl_AreRanges.calls k _ _ l0 true _ ?side1 ?side2 A5.out).mono ?_); (case side1 => repeat (first | exact (Kd.C_below HR0.out HB.out) | (with_reducible refine Kd.C_alloc ?_ _) | (with_reducible refine Kd.C_drewN ?_ _) | (with_reducible refine Kd.C_drew ?_))); (case side2 => exact HC0.out); rintro e w10 ⟨rfl, hb⟩; replace HB := Aside0.mk (below_step (w87_) hb); (try clear hb)) | (go_at_call 154; (with_reducible refine (impl_isIndexed.calls a1 true _ A7.out).mono ?_); rintro e w' ⟨rfl, ⟨nd, rfl⟩⟩; (try first | exact ⟨rfl, _, World.drewN_drewN _ _ _⟩ | exact ⟨rfl, _, Eq.trans (World.drewN_drewN _ _ _) (congrArg (World.drewN _) (Nat.add_assoc _ _ _))⟩)) | (go_at_call 97; (with_reducible refine (impl_within.calls a2 0 2000 t378 _ A9.out).mono ?_); rintro e w' ⟨rfl, ⟨nd, rfl⟩⟩; (try first | exact ⟨rfl, _, World.drewN_drewN _ _ _⟩ | exact ⟨rfl, _, Eq.trans (World.drewN_drewN _ _ _) (congrArg (World.drewN _) (Nat.add_assoc _ _ _))⟩)))
    go_meet
    case rel => exact ⟨_, (!t378), (w134_), H', ⟨w141_⟩, ⟨w87_⟩⟩
  case rest =>
    clear HC4
    try clear p2
    try clear c3
    try clear c6
    try clear c8
    obtain ⟨kq, x24_3, rfl, HA, HJ3, HB⟩ := hcut
    cases kq with
    | zero => exact absurd HA.out (by simp [impl_PutPages.j0])
    | succ kj3 =>
      have H := HA.out
      clear HA
      simp only [impl_PutPages.j0] at H
      by_cases c13 : x24_3 = true
      · subst c13
        rw [if_pos rfl] at H
        simp only [Option.some.injEq, Prod.mk.injEq] at H
        obtain ⟨rfl, rfl⟩ := H
        go_wp2
        go_ret2
        exact ⟨_, w116_, w80_, w87_⟩
      · replace c13 := Bool.eq_false_iff.mpr c13
        subst c13
        rw [if_neg nfz_] at H
        by_cases c14 : 2001 ≤ 281474976710656
        · rw [if_pos c14] at H
          have c14b0 := eq_true c14
          have c14b1 : decide (2001 ≤ 281474976710656) = true := decide_eq_true c14
          clear c14
          obtain ⟨y379, hy379⟩ : ∃ y_ : List Bool, y_ = (List.replicate 2001 false) := ⟨_, rfl⟩
          replace H : ((impl_setOf.f kj3 l0).bind fun t382 => (impl_PutPages.l0 kj3 a1 a2 y379 t382 0)) = some (r1, r2) := by first | (rw [hy379]; with_reducible exact H) | (have H2_ := (Option.bind_some _ _).symm.trans H; rw [hy379]; with_reducible exact H2_) | (have H2_ := (Option.bind_some _ _).symm.trans H; with_reducible exact H2_) | with_reducible exact H | (rw [hy379]; exact H) | exact H
          have Ny379 := Aside0.mk hy379
          clear hy379
          replace H := Option.bind_eq_some_iff.mp H
          obtain ⟨t382, A150, H⟩ := H
          replace H : (impl_PutPages.l0 kj3 a1 a2 y379 t382 0) = some (r1, r2) := H
          have A15 := Aside0.mk A150
          clear A150
          have H' := Aside0.mk H
          clear H
          go_wp2_with (first | ((with_reducible refine gate_dst (N := 26) rfl ?_); refine box_event ?hg (N := 26) ?hd (cs := Tryd.zeroCells152) (t := 152) ?hr ?_; (case hd => rfl); (case hg => rfl); (case hr => first | (go_simp; done) | (go_simp; rfl)); intro v380 hg_ w16 hbox hb; have ho17 := PS_new hbox (Nat.le_of_eq hg_.symm); rw [← Ny379.out] at ho17; clear hg_ hbox; have HO381 := Aside0.mk (Kd.R_lower ho17 (below_size (w87_))); replace HB := Aside0.mk (below_step (w87_) hb); clear hb ho17) | (go_at_call 155; (with_reducible refine (impl_setOf.calls kj3 _ _ l0 t382 _ ?side1 ?side2 A15.out).mono ?_); (case side1 => repeat (first | exact (Kd.C_below HR0.out HB.out) | (with_reducible refine Kd.C_alloc ?_ _) | (with_reducible refine Kd.C_drewN ?_ _) | (with_reducible refine Kd.C_drew ?_))); (case side2 => exact HC0.out); rintro e w18 ⟨v383, rfl, ho0, hb⟩; have HO384 := Aside0.mk (Kd.R_lower (Kd.R_new' ho0 (Kd.R_lt (by (with_reducible repeat (first | apply Kd.R_alloc | apply Kd.R_drewN | apply Kd.R_drew)); exact HO381.out))) (below_size (w87_))); replace HO381 := Aside0.mk (Kd.R_elder' (by (with_reducible repeat (first | apply Kd.R_alloc | apply Kd.R_drewN | apply Kd.R_drew)); exact HO381.out) (Kd.R_base ho0) hb); replace HB := Aside0.mk (below_step (w87_) hb); (try clear hb); (try clear ho0)))
          go_loopg [29] kj3 (fun kq v29 w' => ∃ (x8_2 : List Bool) (x28_2 : List Bool) (x29_2 : Int), v29 = .int .i64 x29_2 ∧ Aside0 (impl_PutPages.l0 kq a1 a2 x8_2 x28_2 x29_2 = some (r1, r2)) ∧ Aside0 (kq ≤ kj3) ∧ Aside0 (Kd.R Kd.bool 152 w' w.heap.size (fun k_ => some k_ ≠ (Value.slice (some ⟨v383, 0, none⟩) 2001 2001).ownBlock) (.slice (some ⟨v380, 0, none⟩) 2001 2001) x8_2) ∧ Aside0 (Kd.R Kd.bool 152 w' w.heap.size (fun k_ => some k_ ≠ (Value.slice (some ⟨v380, 0, none⟩) 2001 2001).ownBlock) (.slice (some ⟨v383, 0, none⟩) 2001 2001) x28_2) ∧ Aside0 (Below w.heap.size w w'))
          case atStart => exact ⟨(y379), (t382), (0), (w134_), H', ⟨Nat.le_refl _⟩, ⟨by (with_reducible repeat (first | apply Kd.R_alloc | apply Kd.R_drewN | apply Kd.R_drew)); exact Kd.R_mono HO381.out (fun _ hk => hk.2)⟩, ⟨by (with_reducible repeat (first | apply Kd.R_alloc | apply Kd.R_drewN | apply Kd.R_drew)); exact Kd.R_mono HO384.out (fun _ hk => hk.2)⟩, ⟨w87_⟩⟩
          case round =>
            clear H'
            try clear c1
            try clear p2
            try clear c3
            try clear c6
            try clear c8
            try clear c13
            try clear c14
            try clear c14b0
            try clear c14b1
            try clear p2
            obtain ⟨x8_2, x28_2, x29_2, rfl, HA, HK2, HO_8, HO_28, HB⟩ := hrel
            cases gk with
            | zero => exact absurd HA.out (by simp [impl_PutPages.l0])
            | succ k2 =>
              have H := HA.out
              clear HA
              simp only [impl_PutPages.l0] at H
              by_cases c19 : x29_2 < 2001; rotate_left
              · rw [if_neg c19] at H
                have c19b0 : decide (x29_2 < 2001) = false := decide_eq_false c19
                clear c19
                replace H := Option.bind_eq_some_iff.mp H
                obtain ⟨⟨t385, t386⟩, A420, H⟩ := H
                replace H : (some (t385, t386)) = some (r1, r2) := H
                have A42 := Aside0.mk A420
                clear A420
                simp only [Option.some.injEq, Prod.mk.injEq] at H
                obtain ⟨rfl, rfl⟩ := H
                go_wp2_with ((go_at_call 156; (with_reducible refine (impl_pageSet_ranges.calls k2 v380 x8_2 t385 t386 _ ?side1 ?side2 A42.out).mono ?_); (case side1 => repeat (first | exact (Kd.R_reads' HO_8.out).2.2 | (with_reducible refine Kd.C_alloc ?_ _) | (with_reducible refine Kd.C_drewN ?_ _) | (with_reducible refine Kd.C_drew ?_))); (case side2 => exact (Kd.R_reads' HO_8.out).1.symm); rintro e w44 ⟨v387, rfl, ho0, hb⟩; replace HO_8 := Aside0.mk (Kd.R_below (w108_) hb); replace HO_28 := Aside0.mk (Kd.R_below (by (with_reducible repeat (first | apply Kd.R_alloc | apply Kd.R_drewN | apply Kd.R_drew)); exact HO_28.out) hb); have HO388 := Aside0.mk (Kd.R_lower ho0 (below_size (w87_))); replace HB := Aside0.mk (below_step (w87_) hb); (try clear hb); (try clear ho0)))
                go_ret2
                exact ⟨_, w116_, by (with_reducible repeat (first | apply Kd.R_alloc | apply Kd.R_drewN | apply Kd.R_drew)); exact HO388.out, w87_⟩
              rw [if_pos c19] at H
              have c19b0 : decide (x29_2 < 2001) = true := decide_eq_true c19
              clear c19
              by_cases c20 : 0 ≤ x29_2; rotate_left
              · rw [if_neg c20] at H
                exact absurd H (by simp)
              rw [if_pos c20] at H
              have c20b0 : decide (0 ≤ x29_2) = true := decide_eq_true c20
              clear c20
              by_cases c21 : x29_2 < (x28_2.length : Int); rotate_left
              · rw [if_neg c21] at H
                exact absurd H (by simp)
              rw [if_pos c21] at H
              have c21b0 : decide (x29_2 < (x28_2.length : Int)) = true := decide_eq_true c21
              clear c21
              obtain ⟨bq22, hbq22⟩ : ∃ b_ : Bool, b_ = (rdOf false x28_2 x29_2) := ⟨_, rfl⟩
              replace H : (if bq22 = true then (if x29_2 ≥ a1 then (if (wrap64 (x29_2 + a2)) > 2000 then (some (([] : List (S100)), false)) else (if 0 ≤ (wrap64 (x29_2 + a2)) then (if (wrap64 (x29_2 + a2)) < (x8_2.length : Int) then (impl_PutPages.l0 k2 a1 a2 (x8_2.set ((wrap64 (x29_2 + a2)) : Int).toNat true) x28_2 (wrap64 (x29_2 + 1))) else (none)) else (none))) else (if x29_2 > 2000 then (some (([] : List (S100)), false)) else (if x29_2 < (x8_2.length : Int) then (impl_PutPages.l0 k2 a1 a2 (x8_2.set (x29_2 : Int).toNat true) x28_2 (wrap64 (x29_2 + 1))) else (none)))) else (impl_PutPages.l0 k2 a1 a2 x8_2 x28_2 (wrap64 (x29_2 + 1)))) = some (r1, r2) := by rw [← hbq22] at H; exact H
              have Nbq22 := Aside0.mk hbq22
              clear hbq22
              by_cases c23 : bq22 = true; rotate_left
              · replace c23 := Bool.eq_false_iff.mpr c23
                subst c23
                rw [if_neg nfz_] at H
                have H' := Aside0.mk H
                clear H
                have p389 : 0 ≤ (x29_2 : Int) := of_decide_eq_true (w133_)
                have q389 : x29_2 < (x28_2.length : Int) := of_decide_eq_true (w133_)
                obtain ⟨ad389, e389, hx389_0⟩ := Kd.at_bool (Kd.R_reads' HO_28.out).2.2 x29_2 p389 q389
                (try rw [← Nbq22.out] at hx389_0)
                cases e389
                rw [add_at, Nat.zero_add] at hx389_0
                have q389z : x29_2 < 2001 := by have := (Kd.R_reads' HO_28.out).1; omega
                replace q389z := eq_true q389z
                replace p389 := eq_true p389
                replace q389 := eq_true q389
                go_wp2
                repeat (go_quiet (fail); try go_wp2)
                go_roundg k2
                case measure => have := HJ3.out; have := HK2.out; omega
                case rel => exact ⟨(x8_2), (x28_2), (wrap64 (x29_2 + 1)), (w134_), H', ⟨w140_⟩, ⟨w108_⟩, ⟨by (with_reducible repeat (first | apply Kd.R_alloc | apply Kd.R_drewN | apply Kd.R_drew)); exact HO_28.out⟩, ⟨w87_⟩⟩
              subst c23
              rw [if_pos rfl] at H
              by_cases c24 : x29_2 ≥ a1; rotate_left
              · rw [if_neg c24] at H
                have c24b0 : decide (a1 ≤ x29_2) = false := decide_eq_false c24
                clear c24
                by_cases c34 : x29_2 > 2000
                · rw [if_pos c34] at H
                  have c34b0 : decide (2000 < x29_2) = true := decide_eq_true c34
                  clear c34
                  simp only [Option.some.injEq, Prod.mk.injEq] at H
                  obtain ⟨rfl, rfl⟩ := H
                  have p389 : 0 ≤ (x29_2 : Int) := of_decide_eq_true (w133_)
                  have q389 : x29_2 < (x28_2.length : Int) := of_decide_eq_true (w133_)
                  obtain ⟨ad389, e389, hx389_0⟩ := Kd.at_bool (Kd.R_reads' HO_28.out).2.2 x29_2 p389 q389
                  (try rw [← Nbq22.out] at hx389_0)
                  cases e389
                  rw [add_at, Nat.zero_add] at hx389_0
                  have q389z : x29_2 < 2001 := by have := (Kd.R_reads' HO_28.out).1; omega
                  replace q389z := eq_true q389z
                  replace p389 := eq_true p389
                  replace q389 := eq_true q389
                  go_wp2
                  repeat (go_quiet (fail); try go_wp2)
                  go_ret2
                  exact ⟨_, w116_, w80_, w87_⟩
                rw [if_neg c34] at H
                have c34b0 : decide (2000 < x29_2) = false := decide_eq_false c34
                clear c34
                by_cases c36 : x29_2 < (x8_2.length : Int); rotate_left
                · rw [if_neg c36] at H
                  exact absurd H (by simp)
                rw [if_pos c36] at H
                have c36b0 : decide (x29_2 < (x8_2.length : Int)) = true := decide_eq_true c36
                clear c36
                obtain ⟨y391, hy391⟩ : ∃ y_ : List Bool, y_ = (x8_2.set (x29_2 : Int).toNat true) := ⟨_, rfl⟩
                replace H : (impl_PutPages.l0 k2 a1 a2 y391 x28_2 (wrap64 (x29_2 + 1))) = some (r1, r2) := by first | (rw [hy391]; with_reducible exact H) | (have H2_ := (Option.bind_some _ _).symm.trans H; rw [hy391]; with_reducible exact H2_) | (have H2_ := (Option.bind_some _ _).symm.trans H; with_reducible exact H2_) | with_reducible exact H | (rw [hy391]; exact H) | exact H
                have Ny391 := Aside0.mk hy391
                clear hy391
                have H' := Aside0.mk H
                clear H
                have p389 : 0 ≤ (x29_2 : Int) := of_decide_eq_true (w133_)
                have q389 : x29_2 < (x28_2.length : Int) := of_decide_eq_true (w133_)
                obtain ⟨ad389, e389, hx389_0⟩ := Kd.at_bool (Kd.R_reads' HO_28.out).2.2 x29_2 p389 q389
                (try rw [← Nbq22.out] at hx389_0)
                cases e389
                rw [add_at, Nat.zero_add] at hx389_0
                have q389z : x29_2 < 2001 := by have := (Kd.R_reads' HO_28.out).1; omega
                replace q389z := eq_true q389z
                replace p389 := eq_true p389
                replace q389 := eq_true q389
                have p37 : 0 ≤ (x29_2 : Int) := of_decide_eq_true (w133_)
                have q37 : (x29_2 : Int) < ((x8_2.length : Int) : Int) := of_decide_eq_true (w133_)
                obtain ⟨gb37, gl37, cl37, HG37⟩ := PS_form HO_8.out
                have GB37 := Aside0.mk gb37
                have GG37 := Aside0.mk HG37
                clear gb37 gl37 HG37
                have q37z : (x29_2 : Int) < 2001 := (by have e_ := (Kd.R_reads' HO_8.out).1; have h_ := q37; rw [← e_] at h_; exact h_)
                obtain ⟨hx37_0, hf37_0⟩ := Kd.R_celln false HO_8.out (x29_2 : Int) p37 q37z
                replace q37z := eq_true q37z
                replace p37 := eq_true p37
                replace q37 := eq_true q37
                have HP39 := Kd.R_putg HO_8.out (x29_2 : Int) true
                go_wp2
                repeat (go_quiet (fail); try go_wp2_with (((with_reducible refine gate_store (t := 4) (p := 49) rfl ?_); (try (rw [drewN_self wr]; generalize hq_ : World.drewN wr _ = wr; have n0_ := Aside0.mk (Kd.R_at hq_ HO_8.out); have n1_ := Aside0.mk (Kd.R_at hq_ HO_28.out); have n2_ := Aside0.mk (below_at hq_ HB.out); clear hq_ HO_8 HO_28 HB; have HO_8 := n0_; have HO_28 := n1_; have HB := n2_; clear n0_ n1_ n2_; (try (have HP39 := Kd.R_putg HO_8.out (x29_2 : Int) true)); obtain ⟨hxn_, hfn_⟩ := Kd.R_celln false HO_8.out (x29_2 : Int) (of_eq_true p37) (of_eq_true q37z))); refine store_event (t := 4) (p := 49) (v := ?vo_w40) (w1 := (wr.setCell ⟨v380, (x29_2 : Int).toNat, none⟩ (.bool true))) ?hg ?ho ?hn ?hr ?_; (case ho => rfl); (case hg => rfl); (case hn => rfl); (case hr => first | (go_simp; done) | (go_simp; rfl)); intro w40 hw; have hg : wr.grownBy w40 (some v380) := (by rw [hw]; exact HP39.2); have hp_ : Kd.R Kd.bool 152 w40 w.heap.size (fun k_ => some k_ ≠ (Value.slice (some ⟨v383, 0, none⟩) 2001 2001).ownBlock) (.slice (some ⟨v380, 0, none⟩) 2001 2001) y391 := (by rw [hw, Ny391.out]; exact HP39.1); clear HP39; replace HO_8 := Aside0.mk (hp_); replace HO_28 := Aside0.mk (Kd.R_after (v := (.slice (some ⟨v380, 0, none⟩) 2001 2001)) (v1 := (.slice (some ⟨v380, 0, none⟩) 2001 2001)) (ok := (fun _ => True)) (w75_) hg (.inl rfl)); replace HB := Aside0.mk ((by rw [hw]; exact below_set (HB.out) GB37.out : Below w.heap.size w w40)); clear hg hw hp_)))
                go_roundg k2
                case measure => have := HJ3.out; have := HK2.out; omega
                case rel => exact ⟨(y391), (x28_2), (wrap64 (x29_2 + 1)), (w134_), H', ⟨w140_⟩, ⟨w108_⟩, ⟨w85_⟩, ⟨w87_⟩⟩
              rw [if_pos c24] at H
              have c24b0 : decide (a1 ≤ x29_2) = true := decide_eq_true c24
              clear c24
              by_cases c25 : (wrap64 (x29_2 + a2)) > 2000
              · rw [if_pos c25] at H
                have c25b0 : decide (2000 < (wrap64 (x29_2 + a2))) = true := decide_eq_true c25
                clear c25
                simp only [Option.some.injEq, Prod.mk.injEq] at H
                obtain ⟨rfl, rfl⟩ := H
                have p389 : 0 ≤ (x29_2 : Int) := of_decide_eq_true (w133_)
                have q389 : x29_2 < (x28_2.length : Int) := of_decide_eq_true (w133_)
                obtain ⟨ad389, e389, hx389_0⟩ := Kd.at_bool (Kd.R_reads' HO_28.out).2.2 x29_2 p389 q389
                (try rw [← Nbq22.out] at hx389_0)
                cases e389
                rw [add_at, Nat.zero_add] at hx389_0
                have q389z : x29_2 < 2001 := by have := (Kd.R_reads' HO_28.out).1; omega
                replace q389z := eq_true q389z
                replace p389 := eq_true p389
                replace q389 := eq_true q389
                go_wp2
                repeat (go_quiet (fail); try go_wp2)
                go_ret2
                exact ⟨_, w116_, w80_, w87_⟩
              rw [if_neg c25] at H
              have c25b0 : decide (2000 < (wrap64 (x29_2 + a2))) = false := decide_eq_false c25
              clear c25
              obtain ⟨ji27, hji27⟩ : ∃ j_ : Int, (wrap64 (x29_2 + a2)) = j_ := ⟨_, rfl⟩
              replace H : (if 0 ≤ (ji27) then (if (ji27) < (x8_2.length : Int) then (impl_PutPages.l0 k2 a1 a2 (x8_2.set ((ji27) : Int).toNat true) x28_2 (wrap64 (x29_2 + 1))) else (none)) else (none)) = some (r1, r2) := by first | (rw [hji27] at H; exact H) | (simp only [hji27] at H ⊢; exact H)
              (try rw [hji27] at c25b0)
              have hji27w : (IntKind.i64.wrap (x29_2 + a2)) = ji27 := (i64_w _).trans hji27
              by_cases c28 : 0 ≤ (ji27); rotate_left
              · rw [if_neg c28] at H
                exact absurd H (by simp)
              rw [if_pos c28] at H
              have c28b0 : decide (0 ≤ (ji27)) = true := decide_eq_true c28
              clear c28
              by_cases c29 : (ji27) < (x8_2.length : Int); rotate_left
              · rw [if_neg c29] at H
                exact absurd H (by simp)
              rw [if_pos c29] at H
              have c29b0 : decide ((ji27) < (x8_2.length : Int)) = true := decide_eq_true c29
              clear c29
              obtain ⟨y390, hy390⟩ : ∃ y_ : List Bool, y_ = (x8_2.set ((ji27) : Int).toNat true) := ⟨_, rfl⟩
              replace H : (impl_PutPages.l0 k2 a1 a2 y390 x28_2 (wrap64 (x29_2 + 1))) = some (r1, r2) := by first | (rw [hy390]; with_reducible exact H) | (have H2_ := (Option.bind_some _ _).symm.trans H; rw [hy390]; with_reducible exact H2_) | (have H2_ := (Option.bind_some _ _).symm.trans H; with_reducible exact H2_) | with_reducible exact H | (rw [hy390]; exact H) | exact H
              have Ny390 := Aside0.mk hy390
              clear hy390
              have H' := Aside0.mk H
              clear H
              have p389 : 0 ≤ (x29_2 : Int) := of_decide_eq_true (w133_)
              have q389 : x29_2 < (x28_2.length : Int) := of_decide_eq_true (w133_)
              obtain ⟨ad389, e389, hx389_0⟩ := Kd.at_bool (Kd.R_reads' HO_28.out).2.2 x29_2 p389 q389
              (try rw [← Nbq22.out] at hx389_0)
              cases e389
              rw [add_at, Nat.zero_add] at hx389_0
              have q389z : x29_2 < 2001 := by have := (Kd.R_reads' HO_28.out).1; omega
              replace q389z := eq_true q389z
              replace p389 := eq_true p389
              replace q389 := eq_true q389
              have p30 : 0 ≤ ((ji27) : Int) := of_decide_eq_true (w133_)
              have q30 : ((ji27) : Int) < ((x8_2.length : Int) : Int) := of_decide_eq_true (w133_)
              obtain ⟨gb30, gl30, cl30, HG30⟩ := PS_form HO_8.out
              have GB30 := Aside0.mk gb30
              have GG30 := Aside0.mk HG30
              clear gb30 gl30 HG30
              have q30z : ((ji27) : Int) < 2001 := (by have e_ := (Kd.R_reads' HO_8.out).1; have h_ := q30; rw [← e_] at h_; exact h_)
              obtain ⟨hx30_0, hf30_0⟩ := Kd.R_celln false HO_8.out ((ji27) : Int) p30 q30z
              replace q30z := eq_true q30z
              replace p30 := eq_true p30
              replace q30 := eq_true q30
              have HP32 := Kd.R_putg HO_8.out ((ji27) : Int) true
              go_wp2
              repeat (go_quiet (fail); try go_wp2_with (((with_reducible refine gate_store (t := 4) (p := 49) rfl ?_); (try (rw [drewN_self wr]; generalize hq_ : World.drewN wr _ = wr; have n0_ := Aside0.mk (Kd.R_at hq_ HO_8.out); have n1_ := Aside0.mk (Kd.R_at hq_ HO_28.out); have n2_ := Aside0.mk (below_at hq_ HB.out); clear hq_ HO_8 HO_28 HB; have HO_8 := n0_; have HO_28 := n1_; have HB := n2_; clear n0_ n1_ n2_; (try (have HP32 := Kd.R_putg HO_8.out ((ji27) : Int) true)); obtain ⟨hxn_, hfn_⟩ := Kd.R_celln false HO_8.out ((ji27) : Int) (of_eq_true p30) (of_eq_true q30z))); refine store_event (t := 4) (p := 49) (v := ?vo_w33) (w1 := (wr.setCell ⟨v380, ((ji27) : Int).toNat, none⟩ (.bool true))) ?hg ?ho ?hn ?hr ?_; (case ho => rfl); (case hg => rfl); (case hn => rfl); (case hr => first | (go_simp; done) | (go_simp; rfl)); intro w33 hw; have hg : wr.grownBy w33 (some v380) := (by rw [hw]; exact HP32.2); have hp_ : Kd.R Kd.bool 152 w33 w.heap.size (fun k_ => some k_ ≠ (Value.slice (some ⟨v383, 0, none⟩) 2001 2001).ownBlock) (.slice (some ⟨v380, 0, none⟩) 2001 2001) y390 := (by rw [hw, Ny390.out]; exact HP32.1); clear HP32; replace HO_8 := Aside0.mk (hp_); replace HO_28 := Aside0.mk (Kd.R_after (v := (.slice (some ⟨v380, 0, none⟩) 2001 2001)) (v1 := (.slice (some ⟨v380, 0, none⟩) 2001 2001)) (ok := (fun _ => True)) (w75_) hg (.inl rfl)); replace HB := Aside0.mk ((by rw [hw]; exact below_set (HB.out) GB30.out : Below w.heap.size w w33)); clear hg hw hp_)))
              go_roundg k2
              case measure => have := HJ3.out; have := HK2.out; omega
              case rel => exact ⟨(y390), (x28_2), (wrap64 (x29_2 + 1)), (w134_), H', ⟨w140_⟩, ⟨w108_⟩, ⟨w85_⟩, ⟨w87_⟩⟩
        · rw [if_neg c14] at H
          exact absurd H (by simp)


mutual
def impl_TakePages.j0 : Nat → List (S100) → Int → Int → Bool → Option ((List (S100)) × Bool)
  | 0, _, _, _, _ => none
  | k + 1, x0, x1, x2, x23 => if x23 = true then (some (([] : List (S100)), false)) else (if 2001 ≤ 281474976710656 then ((impl_setOf.f k x0).bind fun t317 => (impl_TakePages.l0 k x1 x2 (List.replicate 2001 false) t317 0)) else (none))
def impl_TakePages.l0 : Nat → Int → Int → List Bool → List Bool → Int → Option ((List (S100)) × Bool)
  | 0, _, _, _, _, _ => none
  | k + 1, x1, x2, x8, x27, x28 => if x28 < 2001 then (if 0 ≤ x28 then (if x28 < (x27.length : Int) then (if rdOf false x27 x28 = true then (if x28 < x1 then (if x28 < (x8.length : Int) then (impl_TakePages.l0 k x1 x2 (x8.set (x28 : Int).toNat true) x27 (wrap64 (x28 + 1))) else (none)) else (if x28 ≥ (wrap64 (x1 + x2)) then (if 0 ≤ (wrap64 (x28 - x2)) then (if (wrap64 (x28 - x2)) < (x8.length : Int) then (impl_TakePages.l0 k x1 x2 (x8.set ((wrap64 (x28 - x2)) : Int).toNat true) x27 (wrap64 (x28 + 1))) else (none)) else (none)) else (impl_TakePages.l0 k x1 x2 x8 x27 (wrap64 (x28 + 1))))) else (impl_TakePages.l0 k x1 x2 x8 x27 (wrap64 (x28 + 1)))) else (none)) else (none)) else ((impl_pageSet_ranges.f k x8).bind fun bt320 => (some (bt320.1, bt320.2)))
end
def impl_TakePages.f (k : Nat) (l0 : List (S100)) (a1 : Int) (a2 : Int) : Option ((List (S100)) × Bool) := (impl_AreRanges.f k l0).bind fun t311 => (if t311 = true then ((impl_isIndexed.f a1).bind fun t312 => (if t312 = true then ((impl_within.f a2 0 2000).bind fun t313 => (impl_TakePages.j0 k l0 a1 a2 (!t313))) else (impl_TakePages.j0 k l0 a1 a2 true))) else (impl_TakePages.j0 k l0 a1 a2 true))
set_option maxHeartbeats 8000000 in
set_option maxRecDepth 100000 in
theorem impl_TakePages.calls (k : Nat) (A0 : Option Addr) (c0 : Nat) (l0 : List (S100)) (a1 : Int) (a2 : Int) (r1 : List (S100)) (r2 : Bool) (w : World) (hr0 : Kd.C k100 w A0 l0.length l0) (hc0 : l0.length ≤ c0) (h : impl_TakePages.f k l0 a1 a2 = some (r1, r2)) :
    Calls Tryd.prog 70 #[.slice A0 l0.length c0, .int .i64 a1, .int .i64 a2] w fun e w' => ∃ v0_ : Value, e = .returned (.tuple #[v0_, .bool r2]) ∧ Kd.R k100 100 w' w.heap.size (fun _ => True) v0_ r1 ∧ Below w.heap.size w w' := by
  have HR0 := Aside0.mk hr0
  have HC0 := Aside0.mk hc0
  clear hr0 hc0
  have HB := Aside0.mk (Below.refl w.heap.size w)
  have H : ((impl_AreRanges.f k l0).bind fun t311 => (if t311 = true then ((impl_isIndexed.f a1).bind fun t312 => (if t312 = true then ((impl_within.f a2 0 2000).bind fun t313 => (impl_TakePages.j0 k l0 a1 a2 (!t313))) else (impl_TakePages.j0 k l0 a1 a2 true))) else (impl_TakePages.j0 k l0 a1 a2 true))) = some (r1, r2) := h
  clear h
  have HC4 := Aside0.mk H
  clear H
  have hu58 := Tryd.underlying152
  go_enter Tryd.func70, Tryd.ntmps70
  go_upto_region 1 with (fail)
  go_cut [23] (fun v23 wc => ∃ (kq : Nat) (x23_3 : Bool), v23 = .bool x23_3 ∧ Aside0 (impl_TakePages.j0 kq l0 a1 a2 x23_3 = some (r1, r2)) ∧ Aside0 (kq ≤ k) ∧ Aside0 (Below w.heap.size w wc))
  case first =>
    have H := HC4.out
    clear HC4
    replace H := Option.bind_eq_some_iff.mp H
    obtain ⟨t311, A50, H⟩ := H
    replace H : (if t311 = true then ((impl_isIndexed.f a1).bind fun t312 => (if t312 = true then ((impl_within.f a2 0 2000).bind fun t313 => (impl_TakePages.j0 k l0 a1 a2 (!t313))) else (impl_TakePages.j0 k l0 a1 a2 true))) else (impl_TakePages.j0 k l0 a1 a2 true)) = some (r1, r2) := H
    have A5 := Aside0.mk A50
    clear A50
    by_cases c6 : t311 = true; rotate_left
    · replace c6 := Bool.eq_false_iff.mpr c6
      subst c6
      rw [if_neg nfz_] at H
      have H' := Aside0.mk H
      clear H
      go_wp2_with ((go_at_call 91; (with_reducible refine (impl_AreRanges.calls k _ _ l0 false _ ?side1 ?side2 A5.out).mono ?_); (case side1 => repeat (first | exact (Kd.C_below HR0.out HB.out) | (with_reducible refine Kd.C_alloc ?_ _) | (with_reducible refine Kd.C_drewN ?_ _) | (with_reducible refine Kd.C_drew ?_))); (case side2 => exact HC0.out); rintro e w12 ⟨rfl, hb⟩; replace HB := Aside0.mk (below_step (w87_) hb); (try clear hb)))
      go_meet
      case rel => exact ⟨_, (true), (w134_), H', ⟨w141_⟩, ⟨w87_⟩⟩
    subst c6
    rw [if_pos rfl] at H
    replace H := Option.bind_eq_some_iff.mp H
    obtain ⟨t312, A70, H⟩ := H
    replace H : (if t312 = true then ((impl_within.f a2 0 2000).bind fun t313 => (impl_TakePages.j0 k l0 a1 a2 (!t313))) else (impl_TakePages.j0 k l0 a1 a2 true)) = some (r1, r2) := H
    have A7 := Aside0.mk A70
    clear A70
    by_cases c8 : t312 = true; rotate_left
    · replace c8 := Bool.eq_false_iff.mpr c8
      subst c8
      rw [if_neg nfz_] at H
      have H' := Aside0.mk H
      clear H
      go_wp2_with (first | (go_at_call 91; (with_reducible refine (impl_AreRanges.calls k _ _ l0 true _ ?side1 ?side2 A5.out).mono ?_); (case side1 => repeat (first | exact (Kd.C_below HR0.out HB.out) | (with_reducible refine Kd.C_alloc ?_ _) | (with_reducible refine Kd.C_drewN ?_ _) | (with_reducible refine Kd.C_drew ?_))); (case side2 => exact HC0.out); rintro e w11 ⟨rfl, hb⟩; replace HB := Aside0.mk (below_step (w87_) hb); (try clear hb)) | (go_at_call 154; (with_reducible refine (impl_isIndexed.calls a1 false _ A7.out).mono ?_); rintro e w' ⟨rfl, ⟨nd, rfl⟩⟩; (try first | exact ⟨rfl, _, World.drewN_drewN _ _ _⟩ | exact ⟨rfl, _, Eq.trans (World.drewN_drewN _ _ _) (congrArg (World.drewN _) (Nat.add_assoc _ _ _))⟩)))
      go_meet
      case rel => exact ⟨_, (true), (w134_), H', ⟨w141_⟩, ⟨w87_⟩⟩
    subst c8
    rw [if_pos rfl] at H
    replace H := Option.bind_eq_some_iff.mp H
    obtain ⟨t313, A90, H⟩ := H
    replace H : (impl_TakePages.j0 k l0 a1 a2 (!t313)) = some (r1, r2) := H
    have A9 := Aside0.mk A90
    clear A90
    have H' := Aside0.mk H
    clear H
    go_wp2_with (first | (go_at_call 91; (with_reducible refine (impl_AreRanges.calls k _ _ l0 true _ ?side1 ?side2 A5.out).mono ?_); (case side1 => repeat (first | exact (Kd.C_below HR0.out HB.out) | (with_reducible refine Kd.C_alloc ?_ _) | (with_reducible refine Kd.C_drewN ?_ _) | (with_reducible refine Kd.C_drew ?_))); (case side2 => exact HC0.out); rintro e w10 ⟨rfl, hb⟩; replace HB := Aside0.mk (below_step (w87_) hb); (try clear hb)) | (go_at_call 154; (with_reducible refine (impl_isIndexed.calls a1 true _ A7.out).mono ?_); rintro e w' ⟨rfl, ⟨nd, rfl⟩⟩; (try first | exact ⟨rfl, _, World.drewN_drewN _ _ _⟩ | exact ⟨rfl, _, Eq.trans (World.drewN_drewN _ _ _) (congrArg (World.drewN _) (Nat.add_assoc _ _ _))⟩)) | (go_at_call 97; (with_reducible refine (impl_within.calls a2 0 2000 t313 _ A9.out).mono ?_); rintro e w' ⟨rfl, ⟨nd, rfl⟩⟩; (try first | exact ⟨rfl, _, World.drewN_drewN _ _ _⟩ | exact ⟨rfl, _, Eq.trans (World.drewN_drewN _ _ _) (congrArg (World.drewN _) (Nat.add_assoc _ _ _))⟩)))
    go_meet
    case rel => exact ⟨_, (!t313), (w134_), H', ⟨w141_⟩, ⟨w87_⟩⟩
  case rest =>
    clear HC4
    try clear p2
    try clear c3
    try clear c6
    try clear c8
    obtain ⟨kq, x23_3, rfl, HA, HJ3, HB⟩ := hcut
    cases kq with
    | zero => exact absurd HA.out (by simp [impl_TakePages.j0])
    | succ kj3 =>
      have H := HA.out
      clear HA
      simp only [impl_TakePages.j0] at H
      by_cases c13 : x23_3 = true
      · subst c13
        rw [if_pos rfl] at H
        simp only [Option.some.injEq, Prod.mk.injEq] at H
        obtain ⟨rfl, rfl⟩ := H
        go_wp2
        go_ret2
        exact ⟨_, w116_, w80_, w87_⟩
      · replace c13 := Bool.eq_false_iff.mpr c13
        subst c13
        rw [if_neg nfz_] at H
        by_cases c14 : 2001 ≤ 281474976710656
        · rw [if_pos c14] at H
          have c14b0 := eq_true c14
          have c14b1 : decide (2001 ≤ 281474976710656) = true := decide_eq_true c14
          clear c14
          obtain ⟨y314, hy314⟩ : ∃ y_ : List Bool, y_ = (List.replicate 2001 false) := ⟨_, rfl⟩
          replace H : ((impl_setOf.f kj3 l0).bind fun t317 => (impl_TakePages.l0 kj3 a1 a2 y314 t317 0)) = some (r1, r2) := by first | (rw [hy314]; with_reducible exact H) | (have H2_ := (Option.bind_some _ _).symm.trans H; rw [hy314]; with_reducible exact H2_) | (have H2_ := (Option.bind_some _ _).symm.trans H; with_reducible exact H2_) | with_reducible exact H | (rw [hy314]; exact H) | exact H
          have Ny314 := Aside0.mk hy314
          clear hy314
          replace H := Option.bind_eq_some_iff.mp H
          obtain ⟨t317, A150, H⟩ := H
          replace H : (impl_TakePages.l0 kj3 a1 a2 y314 t317 0) = some (r1, r2) := H
          have A15 := Aside0.mk A150
          clear A150
          have H' := Aside0.mk H
          clear H
          go_wp2_with (first | ((with_reducible refine gate_dst (N := 25) rfl ?_); refine box_event ?hg (N := 25) ?hd (cs := Tryd.zeroCells152) (t := 152) ?hr ?_; (case hd => rfl); (case hg => rfl); (case hr => first | (go_simp; done) | (go_simp; rfl)); intro v315 hg_ w16 hbox hb; have ho17 := PS_new hbox (Nat.le_of_eq hg_.symm); rw [← Ny314.out] at ho17; clear hg_ hbox; have HO316 := Aside0.mk (Kd.R_lower ho17 (below_size (w87_))); replace HB := Aside0.mk (below_step (w87_) hb); clear hb ho17) | (go_at_call 155; (with_reducible refine (impl_setOf.calls kj3 _ _ l0 t317 _ ?side1 ?side2 A15.out).mono ?_); (case side1 => repeat (first | exact (Kd.C_below HR0.out HB.out) | (with_reducible refine Kd.C_alloc ?_ _) | (with_reducible refine Kd.C_drewN ?_ _) | (with_reducible refine Kd.C_drew ?_))); (case side2 => exact HC0.out); rintro e w18 ⟨v318, rfl, ho0, hb⟩; have HO319 := Aside0.mk (Kd.R_lower (Kd.R_new' ho0 (Kd.R_lt (by (with_reducible repeat (first | apply Kd.R_alloc | apply Kd.R_drewN | apply Kd.R_drew)); exact HO316.out))) (below_size (w87_))); replace HO316 := Aside0.mk (Kd.R_elder' (by (with_reducible repeat (first | apply Kd.R_alloc | apply Kd.R_drewN | apply Kd.R_drew)); exact HO316.out) (Kd.R_base ho0) hb); replace HB := Aside0.mk (below_step (w87_) hb); (try clear hb); (try clear ho0)))
          go_loopg [28] kj3 (fun kq v28 w' => ∃ (x8_2 : List Bool) (x27_2 : List Bool) (x28_2 : Int), v28 = .int .i64 x28_2 ∧ Aside0 (impl_TakePages.l0 kq a1 a2 x8_2 x27_2 x28_2 = some (r1, r2)) ∧ Aside0 (kq ≤ kj3) ∧ Aside0 (Kd.R Kd.bool 152 w' w.heap.size (fun k_ => some k_ ≠ (Value.slice (some ⟨v318, 0, none⟩) 2001 2001).ownBlock) (.slice (some ⟨v315, 0, none⟩) 2001 2001) x8_2) ∧ Aside0 (Kd.R Kd.bool 152 w' w.heap.size (fun k_ => some k_ ≠ (Value.slice (some ⟨v315, 0, none⟩) 2001 2001).ownBlock) (.slice (some ⟨v318, 0, none⟩) 2001 2001) x27_2) ∧ Aside0 (Below w.heap.size w w'))
          case atStart => exact ⟨(y314), (t317), (0), (w134_), H', ⟨Nat.le_refl _⟩, ⟨by (with_reducible repeat (first | apply Kd.R_alloc | apply Kd.R_drewN | apply Kd.R_drew)); exact Kd.R_mono HO316.out (fun _ hk => hk.2)⟩, ⟨by (with_reducible repeat (first | apply Kd.R_alloc | apply Kd.R_drewN | apply Kd.R_drew)); exact Kd.R_mono HO319.out (fun _ hk => hk.2)⟩, ⟨w87_⟩⟩
          case round =>
            clear H'
            try clear c1
            try clear p2
            try clear c3
            try clear c6
            try clear c8
            try clear c13
            try clear c14
            try clear c14b0
            try clear c14b1
            try clear p2
            obtain ⟨x8_2, x27_2, x28_2, rfl, HA, HK2, HO_8, HO_27, HB⟩ := hrel
            cases gk with
            | zero => exact absurd HA.out (by simp [impl_TakePages.l0])
            | succ k2 =>
              have H := HA.out
              clear HA
              simp only [impl_TakePages.l0] at H
              by_cases c19 : x28_2 < 2001; rotate_left
              · rw [if_neg c19] at H
                have c19b0 : decide (x28_2 < 2001) = false := decide_eq_false c19
                clear c19
                replace H := Option.bind_eq_some_iff.mp H
                obtain ⟨⟨t320, t321⟩, A400, H⟩ := H
                replace H : (some (t320, t321)) = some (r1, r2) := H
                have A40 := Aside0.mk A400
                clear A400
                simp only [Option.some.injEq, Prod.mk.injEq] at H
                obtain ⟨rfl, rfl⟩ := H
                go_wp2_with ((go_at_call 156; (with_reducible refine (impl_pageSet_ranges.calls k2 v315 x8_2 t320 t321 _ ?side1 ?side2 A40.out).mono ?_); (case side1 => repeat (first | exact (Kd.R_reads' HO_8.out).2.2 | (with_reducible refine Kd.C_alloc ?_ _) | (with_reducible refine Kd.C_drewN ?_ _) | (with_reducible refine Kd.C_drew ?_))); (case side2 => exact (Kd.R_reads' HO_8.out).1.symm); rintro e w42 ⟨v322, rfl, ho0, hb⟩; replace HO_8 := Aside0.mk (Kd.R_below (w108_) hb); replace HO_27 := Aside0.mk (Kd.R_below (w105_) hb); have HO323 := Aside0.mk (Kd.R_lower ho0 (below_size (w87_))); replace HB := Aside0.mk (below_step (w87_) hb); (try clear hb); (try clear ho0)))
                go_ret2
                exact ⟨_, w116_, by (with_reducible repeat (first | apply Kd.R_alloc | apply Kd.R_drewN | apply Kd.R_drew)); exact HO323.out, w87_⟩
              rw [if_pos c19] at H
              have c19b0 : decide (x28_2 < 2001) = true := decide_eq_true c19
              clear c19
              by_cases c20 : 0 ≤ x28_2; rotate_left
              · rw [if_neg c20] at H
                exact absurd H (by simp)
              rw [if_pos c20] at H
              have c20b0 : decide (0 ≤ x28_2) = true := decide_eq_true c20
              clear c20
              by_cases c21 : x28_2 < (x27_2.length : Int); rotate_left
              · rw [if_neg c21] at H
                exact absurd H (by simp)
              rw [if_pos c21] at H
              have c21b0 : decide (x28_2 < (x27_2.length : Int)) = true := decide_eq_true c21
              clear c21
              obtain ⟨bq22, hbq22⟩ : ∃ b_ : Bool, b_ = (rdOf false x27_2 x28_2) := ⟨_, rfl⟩
              replace H : (if bq22 = true then (if x28_2 < a1 then (if x28_2 < (x8_2.length : Int) then (impl_TakePages.l0 k2 a1 a2 (x8_2.set (x28_2 : Int).toNat true) x27_2 (wrap64 (x28_2 + 1))) else (none)) else (if x28_2 ≥ (wrap64 (a1 + a2)) then (if 0 ≤ (wrap64 (x28_2 - a2)) then (if (wrap64 (x28_2 - a2)) < (x8_2.length : Int) then (impl_TakePages.l0 k2 a1 a2 (x8_2.set ((wrap64 (x28_2 - a2)) : Int).toNat true) x27_2 (wrap64 (x28_2 + 1))) else (none)) else (none)) else (impl_TakePages.l0 k2 a1 a2 x8_2 x27_2 (wrap64 (x28_2 + 1))))) else (impl_TakePages.l0 k2 a1 a2 x8_2 x27_2 (wrap64 (x28_2 + 1)))) = some (r1, r2) := by rw [← hbq22] at H; exact H
              have Nbq22 := Aside0.mk hbq22
              clear hbq22
              by_cases c23 : bq22 = true; rotate_left
              · replace c23 := Bool.eq_false_iff.mpr c23
                subst c23
                rw [if_neg nfz_] at H
                have H' := Aside0.mk H
                clear H
                have p324 : 0 ≤ (x28_2 : Int) := of_decide_eq_true (w133_)
                have q324 : x28_2 < (x27_2.length : Int) := of_decide_eq_true (w133_)
                obtain ⟨ad324, e324, hx324_0⟩ := Kd.at_bool (Kd.R_reads' HO_27.out).2.2 x28_2 p324 q324
                (try rw [← Nbq22.out] at hx324_0)
                cases e324
                rw [add_at, Nat.zero_add] at hx324_0
                have q324z : x28_2 < 2001 := by have := (Kd.R_reads' HO_27.out).1; omega
                replace q324z := eq_true q324z
                replace p324 := eq_true p324
                replace q324 := eq_true q324
                go_wp2
                repeat (go_quiet (fail); try go_wp2)
                go_roundg k2
                case measure => have := HJ3.out; have := HK2.out; omega
                case rel => exact ⟨(x8_2), (x27_2), (wrap64 (x28_2 + 1)), (w134_), H', ⟨w140_⟩, ⟨w108_⟩, ⟨w105_⟩, ⟨w87_⟩⟩
              subst c23
              rw [if_pos rfl] at H
              by_cases c24 : x28_2 < a1
              · rw [if_pos c24] at H
                have c24b0 : decide (x28_2 < a1) = true := decide_eq_true c24
                clear c24
                by_cases c25 : x28_2 < (x8_2.length : Int); rotate_left
                · rw [if_neg c25] at H
                  exact absurd H (by simp)
                rw [if_pos c25] at H
                have c25b0 : decide (x28_2 < (x8_2.length : Int)) = true := decide_eq_true c25
                clear c25
                obtain ⟨y325, hy325⟩ : ∃ y_ : List Bool, y_ = (x8_2.set (x28_2 : Int).toNat true) := ⟨_, rfl⟩
                replace H : (impl_TakePages.l0 k2 a1 a2 y325 x27_2 (wrap64 (x28_2 + 1))) = some (r1, r2) := by first | (rw [hy325]; with_reducible exact H) | (have H2_ := (Option.bind_some _ _).symm.trans H; rw [hy325]; with_reducible exact H2_) | (have H2_ := (Option.bind_some _ _).symm.trans H; with_reducible exact H2_) | with_reducible exact H | (rw [hy325]; exact H) | exact H
                have Ny325 := Aside0.mk hy325
                clear hy325
                have H' := Aside0.mk H
                clear H
                have p324 : 0 ≤ (x28_2 : Int) := of_decide_eq_true (w133_)
                have q324 : x28_2 < (x27_2.length : Int) := of_decide_eq_true (w133_)
                obtain ⟨ad324, e324, hx324_0⟩ := Kd.at_bool (Kd.R_reads' HO_27.out).2.2 x28_2 p324 q324
                (try rw [← Nbq22.out] at hx324_0)
                cases e324
                rw [add_at, Nat.zero_add] at hx324_0
                have q324z : x28_2 < 2001 := by have := (Kd.R_reads' HO_27.out).1; omega
                replace q324z := eq_true q324z
                replace p324 := eq_true p324
                replace q324 := eq_true q324
                have p26 : 0 ≤ (x28_2 : Int) := of_decide_eq_true (w133_)
                have q26 : (x28_2 : Int) < ((x8_2.length : Int) : Int) := of_decide_eq_true (w133_)
                obtain ⟨gb26, gl26, cl26, HG26⟩ := PS_form HO_8.out
                have GB26 := Aside0.mk gb26
                have GG26 := Aside0.mk HG26
                clear gb26 gl26 HG26
                have q26z : (x28_2 : Int) < 2001 := (by have e_ := (Kd.R_reads' HO_8.out).1; have h_ := q26; rw [← e_] at h_; exact h_)
                obtain ⟨hx26_0, hf26_0⟩ := Kd.R_celln false HO_8.out (x28_2 : Int) p26 q26z
                replace q26z := eq_true q26z
                replace p26 := eq_true p26
                replace q26 := eq_true q26
                have HP28 := Kd.R_putg HO_8.out (x28_2 : Int) true
                go_wp2
                repeat (go_quiet (fail); try go_wp2_with (((with_reducible refine gate_store (t := 4) (p := 44) rfl ?_); (try (rw [drewN_self wr]; generalize hq_ : World.drewN wr _ = wr; have n0_ := Aside0.mk (Kd.R_at hq_ HO_8.out); have n1_ := Aside0.mk (Kd.R_at hq_ HO_27.out); have n2_ := Aside0.mk (below_at hq_ HB.out); clear hq_ HO_8 HO_27 HB; have HO_8 := n0_; have HO_27 := n1_; have HB := n2_; clear n0_ n1_ n2_; (try (have HP28 := Kd.R_putg HO_8.out (x28_2 : Int) true)); obtain ⟨hxn_, hfn_⟩ := Kd.R_celln false HO_8.out (x28_2 : Int) (of_eq_true p26) (of_eq_true q26z))); refine store_event (t := 4) (p := 44) (v := ?vo_w29) (w1 := (wr.setCell ⟨v315, (x28_2 : Int).toNat, none⟩ (.bool true))) ?hg ?ho ?hn ?hr ?_; (case ho => rfl); (case hg => rfl); (case hn => rfl); (case hr => first | (go_simp; done) | (go_simp; rfl)); intro w29 hw; have hg : wr.grownBy w29 (some v315) := (by rw [hw]; exact HP28.2); have hp_ : Kd.R Kd.bool 152 w29 w.heap.size (fun k_ => some k_ ≠ (Value.slice (some ⟨v318, 0, none⟩) 2001 2001).ownBlock) (.slice (some ⟨v315, 0, none⟩) 2001 2001) y325 := (by rw [hw, Ny325.out]; exact HP28.1); clear HP28; replace HO_8 := Aside0.mk (hp_); replace HO_27 := Aside0.mk (Kd.R_after (v := (.slice (some ⟨v315, 0, none⟩) 2001 2001)) (v1 := (.slice (some ⟨v315, 0, none⟩) 2001 2001)) (ok := (fun _ => True)) (w76_) hg (.inl rfl)); replace HB := Aside0.mk ((by rw [hw]; exact below_set (HB.out) GB26.out : Below w.heap.size w w29)); clear hg hw hp_)))
                go_roundg k2
                case measure => have := HJ3.out; have := HK2.out; omega
                case rel => exact ⟨(y325), (x27_2), (wrap64 (x28_2 + 1)), (w134_), H', ⟨w140_⟩, ⟨w108_⟩, ⟨w86_⟩, ⟨w87_⟩⟩
              rw [if_neg c24] at H
              have c24b0 : decide (x28_2 < a1) = false := decide_eq_false c24
              clear c24
              by_cases c30 : x28_2 ≥ (wrap64 (a1 + a2)); rotate_left
              · rw [if_neg c30] at H
                have c30b0 : decide ((wrap64 (a1 + a2)) ≤ x28_2) = false := decide_eq_false c30
                clear c30
                have H' := Aside0.mk H
                clear H
                have p324 : 0 ≤ (x28_2 : Int) := of_decide_eq_true (w133_)
                have q324 : x28_2 < (x27_2.length : Int) := of_decide_eq_true (w133_)
                obtain ⟨ad324, e324, hx324_0⟩ := Kd.at_bool (Kd.R_reads' HO_27.out).2.2 x28_2 p324 q324
                (try rw [← Nbq22.out] at hx324_0)
                cases e324
                rw [add_at, Nat.zero_add] at hx324_0
                have q324z : x28_2 < 2001 := by have := (Kd.R_reads' HO_27.out).1; omega
                replace q324z := eq_true q324z
                replace p324 := eq_true p324
                replace q324 := eq_true q324
                go_wp2
                repeat (go_quiet (fail); try go_wp2)
                go_roundg k2
                case measure => have := HJ3.out; have := HK2.out; omega
                case rel => exact ⟨(x8_2), (x27_2), (wrap64 (x28_2 + 1)), (w134_), H', ⟨w140_⟩, ⟨w108_⟩, ⟨w105_⟩, ⟨w87_⟩⟩
              rw [if_pos c30] at H
              have c30b0 : decide ((wrap64 (a1 + a2)) ≤ x28_2) = true := decide_eq_true c30
              clear c30
              obtain ⟨ji31, hji31⟩ : ∃ j_ : Int, (wrap64 (x28_2 - a2)) = j_ := ⟨_, rfl⟩
              replace H : (if 0 ≤ (ji31) then (if (ji31) < (x8_2.length : Int) then (impl_TakePages.l0 k2 a1 a2 (x8_2.set ((ji31) : Int).toNat true) x27_2 (wrap64 (x28_2 + 1))) else (none)) else (none)) = some (r1, r2) := by first | (rw [hji31] at H; exact H) | (simp only [hji31] at H ⊢; exact H)
              have hji31w : (IntKind.i64.wrap (x28_2 - a2)) = ji31 := (i64_w _).trans hji31
              by_cases c32 : 0 ≤ (ji31); rotate_left
              · rw [if_neg c32] at H
                exact absurd H (by simp)
              rw [if_pos c32] at H
              have c32b0 : decide (0 ≤ (ji31)) = true := decide_eq_true c32
              clear c32
              by_cases c33 : (ji31) < (x8_2.length : Int); rotate_left
              · rw [if_neg c33] at H
                exact absurd H (by simp)
              rw [if_pos c33] at H
              have c33b0 : decide ((ji31) < (x8_2.length : Int)) = true := decide_eq_true c33
              clear c33
              obtain ⟨y326, hy326⟩ : ∃ y_ : List Bool, y_ = (x8_2.set ((ji31) : Int).toNat true) := ⟨_, rfl⟩
              replace H : (impl_TakePages.l0 k2 a1 a2 y326 x27_2 (wrap64 (x28_2 + 1))) = some (r1, r2) := by first | (rw [hy326]; with_reducible exact H) | (have H2_ := (Option.bind_some _ _).symm.trans H; rw [hy326]; with_reducible exact H2_) | (have H2_ := (Option.bind_some _ _).symm.trans H; with_reducible exact H2_) | with_reducible exact H | (rw [hy326]; exact H) | exact H
              have Ny326 := Aside0.mk hy326
              clear hy326
              have H' := Aside0.mk H
              clear H
              have p324 : 0 ≤ (x28_2 : Int) := of_decide_eq_true (w133_)
              have q324 : x28_2 < (x27_2.length : Int) := of_decide_eq_true (w133_)
              obtain ⟨ad324, e324, hx324_0⟩ := Kd.at_bool (Kd.R_reads' HO_27.out).2.2 x28_2 p324 q324
              (try rw [← Nbq22.out] at hx324_0)
              cases e324
              rw [add_at, Nat.zero_add] at hx324_0
              have q324z : x28_2 < 2001 := by have := (Kd.R_reads' HO_27.out).1; omega
              replace q324z := eq_true q324z
              replace p324 := eq_true p324
              replace q324 := eq_true q324
              have p34 : 0 ≤ ((ji31) : Int) := of_decide_eq_true (w133_)
              have q34 : ((ji31) : Int) < ((x8_2.length : Int) : Int) := of_decide_eq_true (w133_)
              obtain ⟨gb34, gl34, cl34, HG34⟩ := PS_form HO_8.out
              have GB34 := Aside0.mk gb34
              have GG34 := Aside0.mk HG34
              clear gb34 gl34 HG34
              have q34z : ((ji31) : Int) < 2001 := (by have e_ := (Kd.R_reads' HO_8.out).1; have h_ := q34; rw [← e_] at h_; exact h_)
              obtain ⟨hx34_0, hf34_0⟩ := Kd.R_celln false HO_8.out ((ji31) : Int) p34 q34z
              replace q34z := eq_true q34z
              replace p34 := eq_true p34
              replace q34 := eq_true q34
              have HP36 := Kd.R_putg HO_8.out ((ji31) : Int) true
              go_wp2
              repeat (go_quiet (fail); try go_wp2_with (((with_reducible refine gate_store (t := 4) (p := 56) rfl ?_); (try (rw [drewN_self wr]; generalize hq_ : World.drewN wr _ = wr; have n0_ := Aside0.mk (Kd.R_at hq_ HO_8.out); have n1_ := Aside0.mk (Kd.R_at hq_ HO_27.out); have n2_ := Aside0.mk (below_at hq_ HB.out); clear hq_ HO_8 HO_27 HB; have HO_8 := n0_; have HO_27 := n1_; have HB := n2_; clear n0_ n1_ n2_; (try (have HP36 := Kd.R_putg HO_8.out ((ji31) : Int) true)); obtain ⟨hxn_, hfn_⟩ := Kd.R_celln false HO_8.out ((ji31) : Int) (of_eq_true p34) (of_eq_true q34z))); refine store_event (t := 4) (p := 56) (v := ?vo_w37) (w1 := (wr.setCell ⟨v315, ((ji31) : Int).toNat, none⟩ (.bool true))) ?hg ?ho ?hn ?hr ?_; (case ho => rfl); (case hg => rfl); (case hn => rfl); (case hr => first | (go_simp; done) | (go_simp; rfl)); intro w37 hw; have hg : wr.grownBy w37 (some v315) := (by rw [hw]; exact HP36.2); have hp_ : Kd.R Kd.bool 152 w37 w.heap.size (fun k_ => some k_ ≠ (Value.slice (some ⟨v318, 0, none⟩) 2001 2001).ownBlock) (.slice (some ⟨v315, 0, none⟩) 2001 2001) y326 := (by rw [hw, Ny326.out]; exact HP36.1); clear HP36; replace HO_8 := Aside0.mk (hp_); replace HO_27 := Aside0.mk (Kd.R_after (v := (.slice (some ⟨v315, 0, none⟩) 2001 2001)) (v1 := (.slice (some ⟨v315, 0, none⟩) 2001 2001)) (ok := (fun _ => True)) (w76_) hg (.inl rfl)); replace HB := Aside0.mk ((by rw [hw]; exact below_set (HB.out) GB34.out : Below w.heap.size w w37)); clear hg hw hp_)))
              go_roundg k2
              case measure => have := HJ3.out; have := HK2.out; omega
              case rel => exact ⟨(y326), (x27_2), (wrap64 (x28_2 + 1)), (w134_), H', ⟨w140_⟩, ⟨w108_⟩, ⟨w86_⟩, ⟨w87_⟩⟩
        · rw [if_neg c14] at H
          exact absurd H (by simp)


attribute [local go_sem high] eqA100
mutual
def laws_FnIndexesMoved.j0 : Nat → List Int → List (S100) → Int → Int → List (S100) → Bool → List (S100) → Bool → Int → Bool → Bool → Bool → Option (Bool)
 | 0, _, _, _, _, _, _, _, _, _, _, _, _ => none
 | k + 1, x1, x5, x6, x7, x8, x9, x12, x13, x16, x17, x20, x203 => if x203 = true then (some false) else (if x9 = true then ((impl_TakePages.f k x8 x6 x7).bind fun bt477 => ((impl_CountIndexed.f k x5).bind fun bt481 => ((impl_CountIndexed.f k x8).bind fun bt483 => (if bt477.2 = true then ((laws_fRanges.f k bt477.1 x5).bind fun t485 => (if t485 = true then (if bt481.2 = true then (if bt483.2 = true then (if bt481.1 = bt483.1 then (laws_FnIndexesMoved.j1 k x1 x5 x6 x7 x12 x13 x16 x17 x20) else (some false)) else (some false)) else (some false)) else (some false))) else (some false))))) else (laws_FnIndexesMoved.j1 k x1 x5 x6 x7 x12 x13 x16 x17 x20))
def laws_FnIndexesMoved.j1 : Nat → List Int → List (S100) → Int → Int → List (S100) → Bool → Int → Bool → Bool → Option (Bool)
 | 0, _, _, _, _, _, _, _, _, _ => none
 | k + 1, x1, x5, x6, x7, x12, x13, x16, x17, x20 => if x13 = true then ((impl_CountIndexed.f k x5).bind fun bt486 => ((impl_CountIndexed.f k x12).bind fun bt488 => (if bt486.2 = true then (if bt488.2 = true then (if bt488.1 > bt486.1 then (some false) else (if (wrap64 (bt486.1 - bt488.1)) > x7 then (some false) else (if x7 = 0 then ((laws_fRanges.f k x12 x5).bind fun t490 => (if t490 = true then (laws_FnIndexesMoved.j2 k x1 x5 x6 x16 x17 x20) else (some false))) else (laws_FnIndexesMoved.j2 k x1 x5 x6 x16 x17 x20)))) else (some false)) else (some false)))) else (laws_FnIndexesMoved.j2 k x1 x5 x6 x16 x17 x20)
def laws_FnIndexesMoved.j2 : Nat → List Int → List (S100) → Int → Int → Bool → Bool → Option (Bool)
 | 0, _, _, _, _, _, _ => none
 | k + 1, x1, x5, x6, x16, x17, x20 => if x17 = true then ((impl_HasIndexed.f k x5 x16).bind fun bt491 => (if (wrap64 (x16 - x6)) < 0 then (laws_FnIndexesMoved.j3 k x1 x5 x6 x16 x20 bt491.1 bt491.2 (wrap64 (-(wrap64 (x16 - x6))))) else (laws_FnIndexesMoved.j3 k x1 x5 x6 x16 x20 bt491.1 bt491.2 (wrap64 (x16 - x6))))) else (laws_FnIndexesMoved.j8 k x1)
def laws_FnIndexesMoved.j8 : Nat → List Int → Option (Bool)
 | 0, _ => none
 | k + 1, x1 => (spec_DrawJoinGaps.f k x1).bind fun bt495 => ((impl_JoinGaps.f k bt495.1 bt495.2).bind fun bt499 => ((spec_JoinGaps.f k bt495.1 bt495.2).bind fun bt503 => ((impl_GapsBetween.f k bt495.1).bind fun bt507 => ((spec_GapsBetween.f k bt495.1).bind fun bt511 => ((impl_LongestRange.f k bt495.1).bind fun bt515 => ((spec_LongestRange.f k bt495.1).bind fun bt519 => ((spec_DrawShortRange.f x1).bind fun bt523 => ((impl_ShortRange.f k bt523.1 bt523.2).bind fun bt526 => ((spec_ShortRange.f k bt523.1 bt523.2).bind fun bt528 => ((spec_DrawLongRange.f k x1).bind fun t530 => ((impl_LongRange.f k t530).bind fun bt531 => ((spec_LongRange.f k t530).bind fun bt535 => (if (bt499.2 != bt503.2) = true then (laws_FnIndexesMoved.j9 k bt495.1 bt495.2 bt499.1 bt499.2 bt507.1 bt507.2 bt515.2.2 bt526.1 bt526.2 t530 bt531.2.2 true bt515.1 bt515.2.1 bt523.1 bt523.2 bt531.1 bt531.2.1) else ((laws_fRanges.f k bt499.1 bt503.1).bind fun t539 => (if t539 = true then (if (bt507.2 != bt511.2) = true then (laws_FnIndexesMoved.j9 k bt495.1 bt495.2 bt499.1 bt499.2 bt507.1 bt507.2 bt515.2.2 bt526.1 bt526.2 t530 bt531.2.2 true bt515.1 bt515.2.1 bt523.1 bt523.2 bt531.1 bt531.2.1) else ((laws_fRanges.f k bt507.1 bt511.1).bind fun t540 => (if t540 = true then (if (bt515.2.2 != bt519.2.2) = true then (laws_FnIndexesMoved.j9 k bt495.1 bt495.2 bt499.1 bt499.2 bt507.1 bt507.2 bt515.2.2 bt526.1 bt526.2 t530 bt531.2.2 true bt515.1 bt515.2.1 bt523.1 bt523.2 bt531.1 bt531.2.1) else (if (!(bt515.1 == bt519.1) || (!(bt515.2.1 == bt519.2.1))) = true then (laws_FnIndexesMoved.j9 k bt495.1 bt495.2 bt499.1 bt499.2 bt507.1 bt507.2 bt515.2.2 bt526.1 bt526.2 t530 bt531.2.2 true bt515.1 bt515.2.1 bt523.1 bt523.2 bt531.1 bt531.2.1) else (if (bt526.2 != bt528.2) = true then (laws_FnIndexesMoved.j9 k bt495.1 bt495.2 bt499.1 bt499.2 bt507.1 bt507.2 bt515.2.2 bt526.1 bt526.2 t530 bt531.2.2 true bt515.1 bt515.2.1 bt523.1 bt523.2 bt531.1 bt531.2.1) else (if bt526.1.toList = bt528.1.toList then (if (bt531.2.2 != bt535.2.2) = true then (laws_FnIndexesMoved.j9 k bt495.1 bt495.2 bt499.1 bt499.2 bt507.1 bt507.2 bt515.2.2 bt526.1 bt526.2 t530 bt531.2.2 true bt515.1 bt515.2.1 bt523.1 bt523.2 bt531.1 bt531.2.1) else (if (!(bt531.1 == bt535.1) || (!(bt531.2.1 == bt535.2.1))) = true then (laws_FnIndexesMoved.j9 k bt495.1 bt495.2 bt499.1 bt499.2 bt507.1 bt507.2 bt515.2.2 bt526.1 bt526.2 t530 bt531.2.2 true bt515.1 bt515.2.1 bt523.1 bt523.2 bt531.1 bt531.2.1) else (if bt499.2 = true then (if bt507.2 = true then (laws_FnIndexesMoved.j9 k bt495.1 bt495.2 bt499.1 bt499.2 bt507.1 bt507.2 bt515.2.2 bt526.1 bt526.2 t530 bt531.2.2 (bt515.2.2 != (decide ((bt495.1.length : Int) > 0))) bt515.1 bt515.2.1 bt523.1 bt523.2 bt531.1 bt531.2.1) else (laws_FnIndexesMoved.j9 k bt495.1 bt495.2 bt499.1 bt499.2 bt507.1 bt507.2 bt515.2.2 bt526.1 bt526.2 t530 bt531.2.2 true bt515.1 bt515.2.1 bt523.1 bt523.2 bt531.1 bt531.2.1)) else (if bt507.2 = true then (laws_FnIndexesMoved.j9 k bt495.1 bt495.2 bt499.1 bt499.2 bt507.1 bt507.2 bt515.2.2 bt526.1 bt526.2 t530 bt531.2.2 (bt515.2.2 != (decide ((bt495.1.length : Int) > 0))) bt515.1 bt515.2.1 bt523.1 bt523.2 bt531.1 bt531.2.1) else (laws_FnIndexesMoved.j9 k bt495.1 bt495.2 bt499.1 bt499.2 bt507.1 bt507.2 bt515.2.2 bt526.1 bt526.2 t530 bt531.2.2 (bt515.2.2 != false) bt515.1 bt515.2.1 bt523.1 bt523.2 bt531.1 bt531.2.1))))) else (laws_FnIndexesMoved.j9 k bt495.1 bt495.2 bt499.1 bt499.2 bt507.1 bt507.2 bt515.2.2 bt526.1 bt526.2 t530 bt531.2.2 true bt515.1 bt515.2.1 bt523.1 bt523.2 bt531.1 bt531.2.1))))) else (laws_FnIndexesMoved.j9 k bt495.1 bt495.2 bt499.1 bt499.2 bt507.1 bt507.2 bt515.2.2 bt526.1 bt526.2 t530 bt531.2.2 true bt515.1 bt515.2.1 bt523.1 bt523.2 bt531.1 bt531.2.1)))) else (laws_FnIndexesMoved.j9 k bt495.1 bt495.2 bt499.1 bt499.2 bt507.1 bt507.2 bt515.2.2 bt526.1 bt526.2 t530 bt531.2.2 true bt515.1 bt515.2.1 bt523.1 bt523.2 bt531.1 bt531.2.1))))))))))))))))
def laws_FnIndexesMoved.j9 : Nat → List (S100) → Int → List (S100) → Bool → List (S100) → Bool → Bool → ByteArray → Bool → ByteArray → Bool → Bool → Int → Int → Int → Int → Int → Int → Option (Bool)
 | 0, _, _, _, _, _, _, _, _, _, _, _, _, _, _, _, _, _, _ => none
 | k + 1, x40, x41, x42, x43, x46, x47, x51, x55, x56, x59, x61, x483, x519000, x519001, x526000, x526001, x535000, x535001 => if x483 = true then (some false) else (if x47 = true then ((impl_AreRanges.f k x46).bind fun t541 => (if t541 = true then (if (x40.length : Int) > 0 then (laws_FnIndexesMoved.j10 k x40 x41 x42 x43 x46 x51 x55 x56 x59 x61 ((x46.length : Int) != (wrap64 ((x40.length : Int) - 1))) x519000 x519001 x526000 x526001 x535000 x535001) else (laws_FnIndexesMoved.j10 k x40 x41 x42 x43 x46 x51 x55 x56 x59 x61 false x519000 x519001 x526000 x526001 x535000 x535001)) else (laws_FnIndexesMoved.j10 k x40 x41 x42 x43 x46 x51 x55 x56 x59 x61 true x519000 x519001 x526000 x526001 x535000 x535001))) else (laws_FnIndexesMoved.j13 k x40 x41 x42 x43 x46 x55 x56 x59 x61 x526000 x526001 x535000 x535001))
def laws_FnIndexesMoved.j13 : Nat → List (S100) → Int → List (S100) → Bool → List (S100) → ByteArray → Bool → ByteArray → Bool → Int → Int → Int → Int → Option (Bool)
 | 0, _, _, _, _, _, _, _, _, _, _, _, _, _ => none
 | k + 1, x40, x41, x42, x43, x46, x55, x56, x59, x61, x526000, x526001, x535000, x535001 => if x43 = true then ((impl_AreRanges.f k x42).bind fun t552 => (if t552 = true then (laws_FnIndexesMoved.j14 k x41 x42 x46 x55 x56 x59 x61 (decide ((x42.length : Int) > (x40.length : Int))) x526000 x526001 x535000 x535001) else (laws_FnIndexesMoved.j14 k x41 x42 x46 x55 x56 x59 x61 true x526000 x526001 x535000 x535001))) else (laws_FnIndexesMoved.j17 k x55 x56 x59 x61 x526000 x526001 x535000 x535001)
def laws_FnIndexesMoved.j17 : Nat → ByteArray → Bool → ByteArray → Bool → Int → Int → Int → Int → Option (Bool)
 | 0, _, _, _, _, _, _, _, _ => none
 | k + 1, x55, x56, x59, x61, x526000, x526001, x535000, x535001 => if x56 = true then ((impl_LongRange.f k x55).bind fun bt561 => (if bt561.2.2 = true then (laws_FnIndexesMoved.j18 k x59 x61 (!(bt561.1 == x526000) || (!(bt561.2.1 == x526001))) x535000 x535001) else (laws_FnIndexesMoved.j18 k x59 x61 true x535000 x535001))) else (if x61 = true then ((impl_ShortRange.f k x535000 x535001).bind fun bt567 => (if bt567.2 = true then (some (bt567.1.toList == x59.toList)) else (some false))) else (some true))
def laws_FnIndexesMoved.j18 : Nat → ByteArray → Bool → Bool → Int → Int → Option (Bool)
 | 0, _, _, _, _, _ => none
 | k + 1, x59, x61, x634, x535000, x535001 => if x634 = true then (some false) else (if x61 = true then ((impl_ShortRange.f k x535000 x535001).bind fun bt565 => (if bt565.2 = true then (some (bt565.1.toList == x59.toList)) else (some false))) else (some true))
def laws_FnIndexesMoved.j14 : Nat → Int → List (S100) → List (S100) → ByteArray → Bool → ByteArray → Bool → Bool → Int → Int → Int → Int → Option (Bool)
 | 0, _, _, _, _, _, _, _, _, _, _, _, _ => none
 | k + 1, x41, x42, x46, x55, x56, x59, x61, x575, x526000, x526001, x535000, x535001 => if x575 = true then (some false) else ((impl_GapsBetween.f k x42).bind fun bt553 => (if bt553.2 = true then (laws_FnIndexesMoved.l2 k x41 x46 x55 x56 x59 x61 bt553.1 0 x46 (x46.length : Int) 0 x526000 x526001 x535000 x535001) else (some false)))
def laws_FnIndexesMoved.l2 : Nat → Int → List (S100) → ByteArray → Bool → ByteArray → Bool → List (S100) → Int → List (S100) → Int → Int → Int → Int → Int → Int → Option (Bool)
 | 0, _, _, _, _, _, _, _, _, _, _, _, _, _, _, _ => none
 | k + 1, x41, x46, x55, x56, x59, x61, x68, x70, x583, x584, x585, x526000, x526001, x535000, x535001 => if x585 < x584 then (if 0 ≤ x585 then (if x585 < (x583.length : Int) then (if (wrap64 ((wrap64 (((rd_T100 x583 x585).f1) - ((rd_T100 x583 x585).f0))) + 1)) ≤ x41 then (laws_FnIndexesMoved.l2 k x41 x46 x55 x56 x59 x61 x68 (wrap64 (x70 + 1)) x583 x584 (wrap64 (x585 + 1)) x526000 x526001 x535000 x535001) else (laws_FnIndexesMoved.l2 k x41 x46 x55 x56 x59 x61 x68 x70 x583 x584 (wrap64 (x585 + 1)) x526000 x526001 x535000 x535001)) else (none)) else (none)) else (laws_FnIndexesMoved.l3 k x41 x46 x55 x56 x59 x61 x68 x70 x68 (x68.length : Int) 0 x526000 x526001 x535000 x535001)
def laws_FnIndexesMoved.l3 : Nat → Int → List (S100) → ByteArray → Bool → ByteArray → Bool → List (S100) → Int → List (S100) → Int → Int → Int → Int → Int → Int → Option (Bool)
 | 0, _, _, _, _, _, _, _, _, _, _, _, _, _, _, _ => none
 | k + 1, x41, x46, x55, x56, x59, x61, x68, x70, x600, x601, x602, x526000, x526001, x535000, x535001 => if x602 < x601 then (if 0 ≤ x602 then (if x602 < (x600.length : Int) then (if (wrap64 ((wrap64 (((rd_T100 x600 x602).f1) - ((rd_T100 x600 x602).f0))) + 1)) ≤ x41 then (some false) else (laws_FnIndexesMoved.l3 k x41 x46 x55 x56 x59 x61 x68 x70 x600 x601 (wrap64 (x602 + 1)) x526000 x526001 x535000 x535001)) else (none)) else (none)) else (if (x68.length : Int) = (wrap64 ((x46.length : Int) - x70)) then (laws_FnIndexesMoved.j17 k x55 x56 x59 x61 x526000 x526001 x535000 x535001) else (some false))
def laws_FnIndexesMoved.j10 : Nat → List (S100) → Int → List (S100) → Bool → List (S100) → Bool → ByteArray → Bool → ByteArray → Bool → Bool → Int → Int → Int → Int → Int → Int → Option (Bool)
 | 0, _, _, _, _, _, _, _, _, _, _, _, _, _, _, _, _, _ => none
 | k + 1, x40, x41, x42, x43, x46, x51, x55, x56, x59, x61, x500, x519000, x519001, x526000, x526001, x535000, x535001 => if x500 = true then (some false) else ((impl_UnionRanges.f k x40 x46).bind fun bt542 => (if bt542.2 = true then (if (x40.length : Int) > 0 then (if (bt542.1.length : Int) = 1 then (if 0 < (bt542.1.length : Int) then (if 0 < (x40.length : Int) then (if ((rd_T100 bt542.1 0).f0) = ((rd_T100 x40 0).f0) then (if 0 ≤ (wrap64 ((x40.length : Int) - 1)) then (if (wrap64 ((x40.length : Int) - 1)) < (x40.length : Int) then (laws_FnIndexesMoved.j11 k x40 x41 x42 x43 x46 x51 x55 x56 x59 x61 (((rd_T100 bt542.1 0).f1) != ((rd_T100 x40 (wrap64 ((x40.length : Int) - 1))).f1)) x519000 x519001 x526000 x526001 x535000 x535001) else (none)) else (none)) else (laws_FnIndexesMoved.j11 k x40 x41 x42 x43 x46 x51 x55 x56 x59 x61 true x519000 x519001 x526000 x526001 x535000 x535001)) else (none)) else (none)) else (laws_FnIndexesMoved.j11 k x40 x41 x42 x43 x46 x51 x55 x56 x59 x61 true x519000 x519001 x526000 x526001 x535000 x535001)) else (laws_FnIndexesMoved.j11 k x40 x41 x42 x43 x46 x51 x55 x56 x59 x61 false x519000 x519001 x526000 x526001 x535000 x535001)) else (laws_FnIndexesMoved.j11 k x40 x41 x42 x43 x46 x51 x55 x56 x59 x61 true x519000 x519001 x526000 x526001 x535000 x535001)))
def laws_FnIndexesMoved.j11 : Nat → List (S100) → Int → List (S100) → Bool → List (S100) → Bool → ByteArray → Bool → ByteArray → Bool → Bool → Int → Int → Int → Int → Int → Int → Option (Bool)
 | 0, _, _, _, _, _, _, _, _, _, _, _, _, _, _, _, _, _ => none
 | k + 1, x40, x41, x42, x43, x46, x51, x55, x56, x59, x61, x543, x519000, x519001, x526000, x526001, x535000, x535001 => if x543 = true then (some false) else (laws_FnIndexesMoved.l1 k x40 x41 x42 x43 x46 x51 x55 x56 x59 x61 x40 (x40.length : Int) 0 x519000 x519001 x526000 x526001 x535000 x535001)
def laws_FnIndexesMoved.l1 : Nat → List (S100) → Int → List (S100) → Bool → List (S100) → Bool → ByteArray → Bool → ByteArray → Bool → List (S100) → Int → Int → Int → Int → Int → Int → Int → Int → Option (Bool)
 | 0, _, _, _, _, _, _, _, _, _, _, _, _, _, _, _, _, _, _, _ => none
 | k + 1, x40, x41, x42, x43, x46, x51, x55, x56, x59, x61, x544, x545, x546, x519000, x519001, x526000, x526001, x535000, x535001 => if x546 < x545 then (if 0 ≤ x546 then (if x546 < (x544.length : Int) then (if x51 = true then (if (wrap64 (((rd_T100 x544 x546).f1) - ((rd_T100 x544 x546).f0))) > (wrap64 (x519001 - x519000)) then (some false) else (laws_FnIndexesMoved.l1 k x40 x41 x42 x43 x46 x51 x55 x56 x59 x61 x544 x545 (wrap64 (x546 + 1)) x519000 x519001 x526000 x526001 x535000 x535001)) else (laws_FnIndexesMoved.l1 k x40 x41 x42 x43 x46 x51 x55 x56 x59 x61 x544 x545 (wrap64 (x546 + 1)) x519000 x519001 x526000 x526001 x535000 x535001)) else (none)) else (none)) else (laws_FnIndexesMoved.j13 k x40 x41 x42 x43 x46 x55 x56 x59 x61 x526000 x526001 x535000 x535001)
def laws_FnIndexesMoved.j3 : Nat → List Int → List (S100) → Int → Int → Bool → Bool → Bool → Int → Option (Bool)
 | 0, _, _, _, _, _, _, _, _ => none
 | k + 1, x1, x5, x6, x16, x20, x34, x35, x36 => if x35 = true then (if x34 = true then (laws_FnIndexesMoved.j4 k x1 x5 x6 x16 x36 (x20 != (x36 == 0))) else (laws_FnIndexesMoved.j4 k x1 x5 x6 x16 x36 true)) else (laws_FnIndexesMoved.j4 k x1 x5 x6 x16 x36 true)
def laws_FnIndexesMoved.j4 : Nat → List Int → List (S100) → Int → Int → Int → Bool → Option (Bool)
 | 0, _, _, _, _, _, _ => none
 | k + 1, x1, x5, x6, x16, x36, x307 => if x307 = true then (some false) else (laws_FnIndexesMoved.l0 k x1 x5 x6 x16 x36 (wrap64 (x6 - x36)))
def laws_FnIndexesMoved.l0 : Nat → List Int → List (S100) → Int → Int → Int → Int → Option (Bool)
 | 0, _, _, _, _, _, _ => none
 | k + 1, x1, x5, x6, x16, x36, x37 => if x37 ≤ (wrap64 (x6 + x36)) then (laws_FnIndexesMoved.j6 k x1 x5 x6 x16 x36 x37 (decide (x36 ≤ 40))) else (laws_FnIndexesMoved.j6 k x1 x5 x6 x16 x36 x37 false)
def laws_FnIndexesMoved.j6 : Nat → List Int → List (S100) → Int → Int → Int → Int → Bool → Option (Bool)
 | 0, _, _, _, _, _, _, _ => none
 | k + 1, x1, x5, x6, x16, x36, x37, x319 => if x319 = true then (if x37 < 1 then (laws_FnIndexesMoved.j7 k x1 x5 x6 x16 x36 x37 true) else (laws_FnIndexesMoved.j7 k x1 x5 x6 x16 x36 x37 (decide (x37 > 2000)))) else (laws_FnIndexesMoved.j8 k x1)
def laws_FnIndexesMoved.j7 : Nat → List Int → List (S100) → Int → Int → Int → Int → Bool → Option (Bool)
 | 0, _, _, _, _, _, _, _ => none
 | k + 1, x1, x5, x6, x16, x36, x37, x327 => if x327 = true then (laws_FnIndexesMoved.l0 k x1 x5 x6 x16 x36 (wrap64 (x37 + 1))) else ((impl_HasIndexed.f k x5 x37).bind fun bt493 => (if bt493.2 = true then (if bt493.1 = true then (if x37 = x16 then (laws_FnIndexesMoved.l0 k x1 x5 x6 x16 x36 (wrap64 (x37 + 1))) else (if x37 = (wrap64 (x6 + x36)) then (if x16 > x37 then (some false) else (laws_FnIndexesMoved.l0 k x1 x5 x6 x16 x36 (wrap64 (x37 + 1)))) else (some false))) else (laws_FnIndexesMoved.l0 k x1 x5 x6 x16 x36 (wrap64 (x37 + 1)))) else (some false)))
end
def laws_FnIndexesMoved.f (k : Nat) (l0 : List Int) (l1 : List Int) : Option (Bool) := (laws_big.f l0 l1).bind fun t445 => (if t445 = true then (some true) else ((spec_DrawPutPages.f k l0).bind fun bt446 => ((impl_PutPages.f k bt446.1 bt446.2.1 bt446.2.2).bind fun bt451 => ((spec_PutPages.f k bt446.1 bt446.2.1 bt446.2.2).bind fun bt455 => ((impl_TakePages.f k bt446.1 bt446.2.1 bt446.2.2).bind fun bt459 => ((spec_TakePages.f k bt446.1 bt446.2.1 bt446.2.2).bind fun bt463 => ((impl_NearestIndexed.f k bt446.1 bt446.2.1).bind fun bt467 => ((spec_NearestIndexed.f k bt446.1 bt446.2.1).bind fun bt469 => ((impl_HasIndexed.f k bt446.1 bt446.2.1).bind fun bt471 => ((spec_HasIndexed.f k bt446.1 bt446.2.1).bind fun bt473 => (if (bt451.2 != bt455.2) = true then (laws_FnIndexesMoved.j0 k l1 bt446.1 bt446.2.1 bt446.2.2 bt451.1 bt451.2 bt459.1 bt459.2 bt467.1 bt467.2 bt471.1 true) else ((laws_fRanges.f k bt451.1 bt455.1).bind fun t475 => (if t475 = true then (if (bt459.2 != bt463.2) = true then (laws_FnIndexesMoved.j0 k l1 bt446.1 bt446.2.1 bt446.2.2 bt451.1 bt451.2 bt459.1 bt459.2 bt467.1 bt467.2 bt471.1 true) else ((laws_fRanges.f k bt459.1 bt463.1).bind fun t476 => (if t476 = true then (if (bt467.2 != bt469.2) = true then (laws_FnIndexesMoved.j0 k l1 bt446.1 bt446.2.1 bt446.2.2 bt451.1 bt451.2 bt459.1 bt459.2 bt467.1 bt467.2 bt471.1 true) else (if bt467.1 = bt469.1 then (if (bt471.2 != bt473.2) = true then (laws_FnIndexesMoved.j0 k l1 bt446.1 bt446.2.1 bt446.2.2 bt451.1 bt451.2 bt459.1 bt459.2 bt467.1 bt467.2 bt471.1 true) else (if (bt471.1 != bt473.1) = true then (laws_FnIndexesMoved.j0 k l1 bt446.1 bt446.2.1 bt446.2.2 bt451.1 bt451.2 bt459.1 bt459.2 bt467.1 bt467.2 bt471.1 true) else (if bt471.2 = true then (if (bt467.2 != (decide ((bt446.1.length : Int) > 0))) = true then (laws_FnIndexesMoved.j0 k l1 bt446.1 bt446.2.1 bt446.2.2 bt451.1 bt451.2 bt459.1 bt459.2 bt467.1 bt467.2 bt471.1 true) else (if bt451.2 = true then (if bt459.2 = true then (laws_FnIndexesMoved.j0 k l1 bt446.1 bt446.2.1 bt446.2.2 bt451.1 bt451.2 bt459.1 bt459.2 bt467.1 bt467.2 bt471.1 (!bt471.2)) else (laws_FnIndexesMoved.j0 k l1 bt446.1 bt446.2.1 bt446.2.2 bt451.1 bt451.2 bt459.1 bt459.2 bt467.1 bt467.2 bt471.1 true)) else (if bt459.2 = true then (laws_FnIndexesMoved.j0 k l1 bt446.1 bt446.2.1 bt446.2.2 bt451.1 bt451.2 bt459.1 bt459.2 bt467.1 bt467.2 bt471.1 (!bt471.2)) else (laws_FnIndexesMoved.j0 k l1 bt446.1 bt446.2.1 bt446.2.2 bt451.1 bt451.2 bt459.1 bt459.2 bt467.1 bt467.2 bt471.1 false)))) else (if (bt467.2 != false) = true then (laws_FnIndexesMoved.j0 k l1 bt446.1 bt446.2.1 bt446.2.2 bt451.1 bt451.2 bt459.1 bt459.2 bt467.1 bt467.2 bt471.1 true) else (if bt451.2 = true then (if bt459.2 = true then (laws_FnIndexesMoved.j0 k l1 bt446.1 bt446.2.1 bt446.2.2 bt451.1 bt451.2 bt459.1 bt459.2 bt467.1 bt467.2 bt471.1 (!bt471.2)) else (laws_FnIndexesMoved.j0 k l1 bt446.1 bt446.2.1 bt446.2.2 bt451.1 bt451.2 bt459.1 bt459.2 bt467.1 bt467.2 bt471.1 true)) else (if bt459.2 = true then (laws_FnIndexesMoved.j0 k l1 bt446.1 bt446.2.1 bt446.2.2 bt451.1 bt451.2 bt459.1 bt459.2 bt467.1 bt467.2 bt471.1 (!bt471.2)) else (laws_FnIndexesMoved.j0 k l1 bt446.1 bt446.2.1 bt446.2.2 bt451.1 bt451.2 bt459.1 bt459.2 bt467.1 bt467.2 bt471.1 false))))))) else (laws_FnIndexesMoved.j0 k l1 bt446.1 bt446.2.1 bt446.2.2 bt451.1 bt451.2 bt459.1 bt459.2 bt467.1 bt467.2 bt471.1 true))) else (laws_FnIndexesMoved.j0 k l1 bt446.1 bt446.2.1 bt446.2.2 bt451.1 bt451.2 bt459.1 bt459.2 bt467.1 bt467.2 bt471.1 true)))) else (laws_FnIndexesMoved.j0 k l1 bt446.1 bt446.2.1 bt446.2.2 bt451.1 bt451.2 bt459.1 bt459.2 bt467.1 bt467.2 bt471.1 true))))))))))))))
theorem laws_FnIndexesMoved.j0_no (k : Nat) (y0_ : List Int) (y1_ : List (S100)) (y2_ : Int) (y3_ : Int) (y4_ : List (S100)) (y5_ : Bool) (y6_ : List (S100)) (y7_ : Bool) (y8_ : Int) (y9_ : Bool) (y10_ : Bool) (r : Bool) (hr : r = true) (H : laws_FnIndexesMoved.j0 k y0_ y1_ y2_ y3_ y4_ y5_ y6_ y7_ y8_ y9_ y10_ true = some r) : False := by
 subst hr
 cases k with
 | zero => simp [laws_FnIndexesMoved.j0] at H
 | succ k => rw [laws_FnIndexesMoved.j0, if_pos rfl] at H; cases H
theorem laws_FnIndexesMoved.j9_no (k : Nat) (y0_ : List (S100)) (y1_ : Int) (y2_ : List (S100)) (y3_ : Bool) (y4_ : List (S100)) (y5_ : Bool) (y6_ : Bool) (y7_ : ByteArray) (y8_ : Bool) (y9_ : ByteArray) (y10_ : Bool) (y12_ : Int) (y13_ : Int) (y14_ : Int) (y15_ : Int) (y16_ : Int) (y17_ : Int) (r : Bool) (hr : r = true) (H : laws_FnIndexesMoved.j9 k y0_ y1_ y2_ y3_ y4_ y5_ y6_ y7_ y8_ y9_ y10_ true y12_ y13_ y14_ y15_ y16_ y17_ = some r) : False := by
 subst hr
 cases k with
 | zero => simp [laws_FnIndexesMoved.j9] at H
 | succ k => rw [laws_FnIndexesMoved.j9, if_pos rfl] at H; cases H
theorem laws_FnIndexesMoved.j18_no (k : Nat) (y0_ : ByteArray) (y1_ : Bool) (y3_ : Int) (y4_ : Int) (r : Bool) (hr : r = true) (H : laws_FnIndexesMoved.j18 k y0_ y1_ true y3_ y4_ = some r) : False := by
 subst hr
 cases k with
 | zero => simp [laws_FnIndexesMoved.j18] at H
 | succ k => rw [laws_FnIndexesMoved.j18, if_pos rfl] at H; cases H
theorem laws_FnIndexesMoved.j14_no (k : Nat) (y0_ : Int) (y1_ : List (S100)) (y2_ : List (S100)) (y3_ : ByteArray) (y4_ : Bool) (y5_ : ByteArray) (y6_ : Bool) (y8_ : Int) (y9_ : Int) (y10_ : Int) (y11_ : Int) (r : Bool) (hr : r = true) (H : laws_FnIndexesMoved.j14 k y0_ y1_ y2_ y3_ y4_ y5_ y6_ true y8_ y9_ y10_ y11_ = some r) : False := by
 subst hr
 cases k with
 | zero => simp [laws_FnIndexesMoved.j14] at H
 | succ k => rw [laws_FnIndexesMoved.j14, if_pos rfl] at H; cases H
theorem laws_FnIndexesMoved.j10_no (k : Nat) (y0_ : List (S100)) (y1_ : Int) (y2_ : List (S100)) (y3_ : Bool) (y4_ : List (S100)) (y5_ : Bool) (y6_ : ByteArray) (y7_ : Bool) (y8_ : ByteArray) (y9_ : Bool) (y11_ : Int) (y12_ : Int) (y13_ : Int) (y14_ : Int) (y15_ : Int) (y16_ : Int) (r : Bool) (hr : r = true) (H : laws_FnIndexesMoved.j10 k y0_ y1_ y2_ y3_ y4_ y5_ y6_ y7_ y8_ y9_ true y11_ y12_ y13_ y14_ y15_ y16_ = some r) : False := by
 subst hr
 cases k with
 | zero => simp [laws_FnIndexesMoved.j10] at H
 | succ k => rw [laws_FnIndexesMoved.j10, if_pos rfl] at H; cases H
theorem laws_FnIndexesMoved.j11_no (k : Nat) (y0_ : List (S100)) (y1_ : Int) (y2_ : List (S100)) (y3_ : Bool) (y4_ : List (S100)) (y5_ : Bool) (y6_ : ByteArray) (y7_ : Bool) (y8_ : ByteArray) (y9_ : Bool) (y11_ : Int) (y12_ : Int) (y13_ : Int) (y14_ : Int) (y15_ : Int) (y16_ : Int) (r : Bool) (hr : r = true) (H : laws_FnIndexesMoved.j11 k y0_ y1_ y2_ y3_ y4_ y5_ y6_ y7_ y8_ y9_ true y11_ y12_ y13_ y14_ y15_ y16_ = some r) : False := by
 subst hr
 cases k with
 | zero => simp [laws_FnIndexesMoved.j11] at H
 | succ k => rw [laws_FnIndexesMoved.j11, if_pos rfl] at H; cases H
theorem laws_FnIndexesMoved.j4_no (k : Nat) (y0_ : List Int) (y1_ : List (S100)) (y2_ : Int) (y3_ : Int) (y4_ : Int) (r : Bool) (hr : r = true) (H : laws_FnIndexesMoved.j4 k y0_ y1_ y2_ y3_ y4_ true = some r) : False := by
 subst hr
 cases k with
 | zero => simp [laws_FnIndexesMoved.j4] at H
 | succ k => rw [laws_FnIndexesMoved.j4, if_pos rfl] at H; cases H

def laws_FnIndexesMoved.Pure : Prop := ∀ (l0 : List Int) (l1 : List Int), (l0.length ≤ maxLen ∧ ∀ x0_, x0_ ∈ l0 → (Lit.int .u8 x0_).wf = true) → (l1.length ≤ maxLen ∧ ∀ x0_, x0_ ∈ l1 → (Lit.int .u8 x0_).wf = true) → ∃ k, laws_FnIndexesMoved.f k l0 l1 = some true

end Go.Proofs.YtppbpefehpbejaaDoor.P
end
