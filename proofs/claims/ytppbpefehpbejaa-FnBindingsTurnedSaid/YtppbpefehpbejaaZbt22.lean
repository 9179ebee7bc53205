/- Lean functions with the answers of the program's Go functions, and for each the proof that the Go code comes to these answers; no condition. -/
import Derived.Test.YtppbpefehpbejaaZbt21
import Derived.Test.YtppbpefehpbejaaZbt7
section
namespace Go.Proofs.Ytppbpefehpbejaa.P
open Go.RowKit Go.Proofs.YtppbpefehpbejaaW.PrintWords Go.Proofs.YtppbpefehpbejaaW.PrintLast Go.Proofs.YtppbpefehpbejaaW.PrintMore
attribute [local go_sem] max2_int min2_int max_two min_two max_three min_three max_four min_four   -- for this text's walks alone
set_option linter.unusedVariables false
set_option linter.unusedSimpArgs false

/-! ### spec_biFar: function 79 -/
/-- Rows of whole numbers, and one element of them that is held. -/
def NEl (A : Option Addr) (l : List Int) (d : Kd (List Int)) (e : Nat) (w : World) (base : Nat) (ok : Nat → Prop) (v : Value) (xs : List (List Int)) : Prop := Kd.N d e w base ok v xs ∧ Kd.F (Kd.int .i64) w ok A l.length l
section
variable {A : Option Addr} {l : List Int} {d : Kd (List Int)} {e : Nat} {w w1 : World} {base : Nat} {ok ok' : Nat → Prop} {v u u1 v1 : Value} {xs : List (List Int)}
theorem NEl_mono (h : NEl A l d e w base ok v xs) (hok : ∀ k, ok k → ok' k) : NEl A l d e w base ok' v xs := ⟨Kd.N_mono h.1 hok, Kd.F_mono h.2 hok⟩
theorem NEl_alloc (h : NEl A l d e w base ok v xs) (o : Obj) : NEl A l d e (w.alloc o) base ok v xs := ⟨Kd.N_alloc h.1 o, Kd.F_alloc h.2 o⟩
theorem NEl_drew (h : NEl A l d e w base ok v xs) : NEl A l d e w.drew base ok v xs := ⟨Kd.N_drew h.1, Kd.F_drew h.2⟩
theorem NEl_drewN (h : NEl A l d e w base ok v xs) (m : Nat) : NEl A l d e (w.drewN m) base ok v xs := ⟨Kd.N_drewN h.1 m, Kd.F_drewN h.2 m⟩
theorem NEl_elder' (h : NEl A l d e w base ok v xs) (hbase : ∀ k, u.ownBlock = some k → w.heap.size ≤ k) (hb : Below w.heap.size w w1) : NEl A l d e w1 base (fun k => ok k ∧ some k ≠ u.ownBlock) v xs := ⟨Kd.N_elder' h.1 hbase hb, Kd.F_elder' h.2 hbase hb⟩
theorem NEl_after (h : NEl A l d e w base (fun k => ok k ∧ some k ≠ u.ownBlock) v xs) (hg : w.grownBy w1 u.ownBlock) (hat : u1.ownBlock = u.ownBlock ∨ ∃ b, u1.ownBlock = some b ∧ w.heap.size ≤ b) : NEl A l d e w1 base (fun k => ok k ∧ some k ≠ u1.ownBlock) v xs := ⟨Kd.N_after h.1 hg hat, Kd.F_after h.2 hg hat⟩
theorem NEl_afterv (h : NEl A l d e w base (fun k => ok k ∧ some k ≠ v.ownBlock) u xs) (hg : w.grownBy w1 v.ownBlock) (hat : v1.ownBlock = v.ownBlock ∨ ∃ b, v1.ownBlock = some b ∧ w.heap.size ≤ b) : NEl A l d e w1 base (fun k => ok k ∧ some k ≠ v1.ownBlock) u xs := NEl_after h hg hat
end
mutual
def spec_biFar.l0 : Nat → Int → List Int → Int → Int → Option (List Int)
 | 0, _, _, _, _ => none
 | k + 1, x0, x3, x20, x21 => if x21 < x20 then (if 0 ≤ x21 then (if x21 < (x3.length : Int) then (spec_biFar.l0 k x0 (x3.set (x21 : Int).toNat (-1)) x20 (wrap64 (x21 + 1))) else (none)) else (none)) else (spec_biFar.l1 k x0 x3 ([] : List Int) 1)
def spec_biFar.l1 : Nat → Int → List Int → List Int → Int → Option (List Int)
 | 0, _, _, _, _ => none
 | k + 1, x0, x3, x5, x6 => if x6 ≤ x0 then (if x5.length < 17592186044416 then (spec_biFar.l1 k x0 x3 (x5 ++ [x6]) (wrap64 (x6 + 1))) else (none)) else ((spec_biRank.f k x5).bind fun t241 => (if 0 ≤ t241 then (if t241 < (x3.length : Int) then (spec_biFar.l2 k x0 (x3.set (t241 : Int).toNat 0) (([x5] : List (List Int))) 1) else (none)) else (none)))
def spec_biFar.l2 : Nat → Int → List Int → List (List Int) → Int → Option (List Int)
 | 0, _, _, _, _ => none
 | k + 1, x0, x3, x7, x8 => if (x7.length : Int) > 0 then (spec_biFar.l3 k x0 x3 x8 ([] : List (List Int)) x7 (x7.length : Int) 0) else (some x3)
def spec_biFar.l3 : Nat → Int → List Int → Int → List (List Int) → List (List Int) → Int → Int → Option (List Int)
 | 0, _, _, _, _, _, _, _ => none
 | k + 1, x0, x3, x8, x9, x48, x49, x50 => if x50 < x49 then (if 0 ≤ x50 then (if x50 < (x48.length : Int) then (spec_biFar.l4 k x0 x3 x8 x9 (rd_L2 x48 x50) 0 x48 x49 x50) else (none)) else (none)) else (spec_biFar.l2 k x0 x3 x9 (wrap64 (x8 + 1)))
def spec_biFar.l4 : Nat → Int → List Int → Int → List (List Int) → List Int → Int → List (List Int) → Int → Int → Option (List Int)
 | 0, _, _, _, _, _, _, _, _, _ => none
 | k + 1, x0, x3, x8, x9, x11, x12, x48, x49, x50 => if x12 < x0 then (spec_biFar.l5 k x0 x3 x8 x9 x11 x12 x12 x48 x49 x50) else (spec_biFar.l3 k x0 x3 x8 x9 x48 x49 (wrap64 (x50 + 1)))
def spec_biFar.l5 : Nat → Int → List Int → Int → List (List Int) → List Int → Int → Int → List (List Int) → Int → Int → Option (List Int)
 | 0, _, _, _, _, _, _, _, _, _, _ => none
 | k + 1, x0, x3, x8, x9, x11, x12, x13, x48, x49, x50 => if x13 < x0 then ((spec_biTurn.f k x11 x12 x13).bind fun t244 => ((spec_biRank.f k t244).bind fun t247 => (if 0 ≤ t247 then (if t247 < (x3.length : Int) then (if (rd x3 t247) < 0 then (if x9.length < 5864062014805 then (spec_biFar.l5 k x0 (x3.set (t247 : Int).toNat x8) x8 (x9 ++ [t244]) x11 x12 (wrap64 (x13 + 1)) x48 x49 x50) else (none)) else (spec_biFar.l5 k x0 x3 x8 x9 x11 x12 (wrap64 (x13 + 1)) x48 x49 x50)) else (none)) else (none)))) else (spec_biFar.l4 k x0 x3 x8 x9 x11 (wrap64 (x12 + 1)) x48 x49 x50)
end
def spec_biFar.f (k : Nat) (a0 : Int) : Option (List Int) := (spec_biAll.f k a0).bind fun t230 => (if 0 ≤ t230 then (if (t230 : Int).toNat ≤ 35184372088832 then ((some (List.replicate (t230 : Int).toNat 0 : List Int)).bind fun y231 => (spec_biFar.l0 k a0 y231 (y231.length : Int) 0)) else (none)) else (none))
set_option maxHeartbeats 8000000 in
set_option maxRecDepth 100000 in
theorem spec_biFar.calls (k : Nat) (a0 : Int) (r : List Int) (w : World) (h : spec_biFar.f k a0 = some r) :
  Calls Try.prog 79 #[.int .i64 a0] w fun e w' => ∃ v0_ : Value, e = .returned (v0_) ∧ Kd.R (Kd.int .i64) 3 w' w.heap.size (fun _ => True) v0_ r ∧ Below w.heap.size w w' := by
 have HB := Az_ (Below.refl w.heap.size w)
 have H : ((spec_biAll.f k a0).bind fun t230 => (if 0 ≤ t230 then (if (t230 : Int).toNat ≤ 35184372088832 then ((some (List.replicate (t230 : Int).toNat 0 : List Int)).bind fun y231 => (spec_biFar.l0 k a0 y231 (y231.length : Int) 0)) else (none)) else (none))) = some r := h
 clear h
 replace H := Option.bind_eq_some_iff.mp H
 obtain ⟨t230, A20, H⟩ := H
 replace H : (if 0 ≤ t230 then (if (t230 : Int).toNat ≤ 35184372088832 then ((some (List.replicate (t230 : Int).toNat 0 : List Int)).bind fun y231 => (spec_biFar.l0 k a0 y231 (y231.length : Int) 0)) else (none)) else (none)) = some r := H
 have A2 := Az_ A20
 clear A20
 by_cases c3 : 0 ≤ t230
 ·rw [if_pos c3] at H
  have c3b0 := eq_true c3
  have c3b1 := decide_eq_true c3
  clear c3
  by_cases c4 : (t230 : Int).toNat ≤ 35184372088832
  ·rw [if_pos c4] at H
   have c4b0 := eq_true c4
   have c4b1 := decide_eq_true c4
   clear c4
   obtain ⟨y231, hy231⟩ : ∃ y_ : List Int, y_ = (List.replicate (t230 : Int).toNat 0) := ⟨_, rfl⟩
   replace H : (spec_biFar.l0 k a0 y231 (y231.length : Int) 0) = some r := by first | (rw [hy231]; with_reducible exact H) | (have H2_ := (Option.bind_some _ _).symm.trans H; rw [hy231]; with_reducible exact H2_) | (have H2_ := (Option.bind_some _ _).symm.trans H; with_reducible exact H2_) | with_reducible exact H | (rw [hy231]; exact H) | exact H
   have Ny231 := Az_ hy231
   clear hy231
   have H' := Az_ H
   clear H
   go_enter Try.func79, Try.ntmps79
   go_wp2_with (first | ((with_reducible refine gate_callee (f := 105) rfl ?_); refine goesL_ (some 17) rfl rfl Try.func105 (by kernel_rfl) rfl #[.int .i64 a0] rfl maz_ ?_; (with_reducible refine (spec_biAll.calls k a0 t230 _ A2.out).mono ?_); rintro e w' ⟨rfl, ⟨nd, rfl⟩⟩; refine ⟨_, rfl, ?_⟩) | ((with_reducible refine gate_dst (N := 18) rfl ?_); refine Kd.R_make (Kd.int .i64) _ 3 rfl (N := 18) rfl 24 _ _ rfl t230 rfl rfl Try.underlying24 (.int .i64 0) 8 info3 rfl (by decide) (by omega) 0 (ok := fun _ => True) (okp := fun _ => True) rfl (fun _ hk => hk) trivial (of_decide_eq_true asz_) (Nat.le_trans (Nat.mul_le_mul_right _ (of_decide_eq_true asz_ : t230.toNat ≤ 35184372088832)) (by omega)) (Below.refl _ _) (Nat.le_refl _) ?_; intro v232 w5 ho6 hb hg_ hnew_; clear hg_ hnew_; (first | rw [← Ny231.out] at ho6 | (simp only [Int.reduceToNat] at ho6; rw [← Ny231.out] at ho6)); have n0_ := Az_ (Kd.R_lower ho6 (below_size (ubz_ HB.out))); have n1_ := Az_ (btz_ (ubz_ HB.out) hb); clear HB; have HO233 := n0_; have HB := n1_; clear n0_ n1_; clear hb ho6; obtain ⟨Ao7, co7, eo7⟩ := Kd.R_slice HO233.out; subst eo7))
   go_loopg [21] k (fun kq v21 w' => ∃ (x3_1 : List Int) (x21_1 : Int), v21 = .int .i64 x21_1 ∧ Aside0 (spec_biFar.l0 kq a0 x3_1 (y231.length : Int) x21_1 = some r) ∧ Aside0 (kq ≤ k) ∧ Aside0 (Kd.R (Kd.int .i64) 3 w' w.heap.size (fun _ => True) (.slice Ao7 y231.length co7) x3_1) ∧ Aside0 (Below w.heap.size w w'))
   case atStart => exact ⟨(y231), (0), qaz_, H', ⟨Nat.le_refl _⟩, ⟨by (with_reducible repeat (first | apply raz_ | apply rnz_ | apply rdz_)); exact HO233.out⟩, ⟨by exact ubz_ HB.out⟩⟩
   case round =>
    clear H'
    (try clear c1); (try clear p2); (try clear c3); (try clear c3b0); (try clear c3b1); (try clear c4); (try clear c4b0); (try clear c4b1); (try clear c7)
    obtain ⟨x3_1, x21_1, rfl, HA, HK1, HO_3, HB⟩ := hrel
    have hl3_1 := (Kd.R_reads' HO_3.out).1
    rw [hl3_1] at HO_3
    (try simp only [hl3_1])
    cases gk with
    | zero => exact absurd HA.out (by simp [spec_biFar.l0])
    | succ k1 =>
     have H := HA.out
     clear HA
     simp only [spec_biFar.l0] at H
     by_cases c8 : x21_1 < (y231.length : Int)
     ·rw [if_pos c8] at H
      have c8b0 := decide_eq_true c8
      clear c8
      by_cases c9 : 0 ≤ x21_1
      ·rw [if_pos c9] at H
       have c9b0 := decide_eq_true c9
       clear c9
       by_cases c10 : x21_1 < (x3_1.length : Int)
       ·rw [if_pos c10] at H
        have c10b0 := decide_eq_true c10
        clear c10
        obtain ⟨y234, hy234⟩ : ∃ y_ : List Int, y_ = (x3_1.set (x21_1 : Int).toNat (-1)) := ⟨_, rfl⟩
        replace H : (spec_biFar.l0 k1 a0 y234 (y231.length : Int) (wrap64 (x21_1 + 1))) = some r := by first | (rw [hy234]; with_reducible exact H) | (have H2_ := (Option.bind_some _ _).symm.trans H; rw [hy234]; with_reducible exact H2_) | (have H2_ := (Option.bind_some _ _).symm.trans H; with_reducible exact H2_) | with_reducible exact H | (rw [hy234]; exact H) | exact H
        have Ny234 := Az_ hy234
        clear hy234
        have H' := Az_ H
        clear H
        have p11 : 0 ≤ (x21_1 : Int) := of_decide_eq_true asz_
        have q11 : (x21_1 : Int) < ((x3_1.length : Int) : Int) := of_decide_eq_true asz_
        obtain ⟨go11, co11, eo11, gb11, gl11, cl11, HG11⟩ := Kd.R_form HO_3.out (by omega)
        (first | cases eo11 | (injection eo11 with ea_ en_ ec_; (first | subst ea_ | (injection ea_ with ea_; subst ea_)); subst ec_; clear en_))
        have GB11 := Az_ gb11
        have GG11 := Az_ HG11
        clear gb11 gl11 HG11
        obtain ⟨hx11_0, hf11_0⟩ := Kd.R_celln 0 HO_3.out (x21_1 : Int) p11 q11
        replace p11 := eq_true p11
        replace q11 := eq_true q11
        have HP12 := Kd.R_putg HO_3.out (x21_1 : Int) (-1)
        go_wp2_with (first | ((with_reducible refine gate_store (t := 3) (p := 26) rfl ?_); refine store_event (t := 3) (p := 26) (v := ?vo_w13) (w1 := (wr.setCell ⟨go11, (x21_1 : Int).toNat, none⟩ (.int .i64 (-1)))) ?hg ?ho ?hn ?hr ?_; (case ho => rfl); (case hg => rfl); (case hn => rfl); (case hr => first | (go_simp; done) | (go_simp; rfl)); intro w13 hw; have hg : wr.grownBy w13 (some go11) := (by rw [hw]; exact HP12.2); have hp_ : Kd.R (Kd.int .i64) 3 w13 w.heap.size (fun _ => True) (.slice (some ⟨go11, 0, none⟩) x3_1.length co7) y234 := (by rw [hw, Ny234.out]; exact HP12.1); clear HP12; have n0_ := Az_ (hp_); have n1_ := Az_ ((by rw [hw]; exact bsz_ (HB.out) GB11.out : Below w.heap.size w w13)); clear HO_3; clear HB; have HO_3 := n0_; have HB := n1_; clear n0_ n1_; clear hg hw hp_))
        (try simp only [← hl3_1])
        go_roundg k1
        case measure => have := HK1.out; omega
        case rel => exact ⟨(y234), (wrap64 (x21_1 + 1)), qaz_, H', ⟨by have := HK1.out; omega⟩, ⟨by (try simp only [hl3_1]); (with_reducible repeat (first | apply raz_ | apply rnz_ | apply rdz_)); exact HO_3.out⟩, ⟨by exact ubz_ HB.out⟩⟩
       ·rw [if_neg c10] at H
        exact absurd H (by simp)
      ·rw [if_neg c9] at H
       exact absurd H (by simp)
     ·rw [if_neg c8] at H
      have c8b0 := decide_eq_false c8
      (try rw [hl3_1] at c8b0)
      clear c8
      have H' := Az_ H
      clear H
      go_wp2
      go_loopg [5, 6] k1 (fun kq v5 v6 w' => ∃ (x5_2 : List Int) (x6_2 : Int), v6 = .int .i64 x6_2 ∧ Aside0 (spec_biFar.l1 kq a0 x3_1 x5_2 x6_2 = some r) ∧ Aside0 (kq ≤ k1) ∧ Aside0 (Kd.R (Kd.int .i64) 3 w' w.heap.size (fun k_ => some k_ ≠ (v5 : Value).ownBlock) (.slice Ao7 x3_1.length co7) x3_1) ∧ Aside0 (Kd.R (Kd.int .i64) 3 w' w.heap.size (fun k_ => some k_ ≠ ((.slice Ao7 x3_1.length co7) : Value).ownBlock) v5 x5_2) ∧ Aside0 (Below w.heap.size w w'))
      case atStart => exact ⟨(([] : List Int)), (1), qaz_, H', ⟨Nat.le_refl _⟩, ⟨by (try simp only [hl3_1]); (with_reducible repeat (first | apply raz_ | apply rnz_ | apply rdz_)); exact Kd.R_mono HO_3.out (fun _ hk => (by simp [Value.ownBlock]))⟩, ⟨by (try simp only [hl3_1]); first | exact Kd.R_nil _ _ _ _ _ | exact Kd.N_nil _ _ _ _ _ | exact Kd.V_nil _ _ _ _ _ | exact Kd.Q_nil _ _ _ _ _ | exact Kd.S_nil _ _ _ _ _⟩, ⟨by exact ubz_ HB.out⟩⟩
      case round =>
       clear H'
       (try clear c1); (try clear p1); (try clear q1); (try clear hx1); (try clear hf1); (try clear p2); (try clear c3); (try clear c3b0); (try clear c3b1); (try clear c4); (try clear c4b0); (try clear c4b1); (try clear p6); (try clear c7); (try clear c8); (try clear c8b0); (try clear c9); (try clear c9b0); (try clear c10); (try clear c10b0); (try clear p11); (try clear q11); (try clear hx11); (try clear hf11); (try clear hx11_0); (try clear p11); (try clear p2); (try clear q11)
       obtain ⟨x5_2, x6_2, rfl, HA, HK2, HO_3, HO_5, HB⟩ := hrel
       cases gk with
       | zero => exact absurd HA.out (by simp [spec_biFar.l1])
       | succ k2 =>
        have H := HA.out
        clear HA
        simp only [spec_biFar.l1] at H
        by_cases c14 : x6_2 ≤ a0
        ·rw [if_pos c14] at H
         have c14b0 := decide_eq_true c14
         clear c14
         by_cases c15 : x5_2.length < 17592186044416
         ·rw [if_pos c15] at H
          have LMc15 := Az_ c15
          clear c15
          obtain ⟨y235, hy235⟩ : ∃ y_ : List Int, y_ = (x5_2 ++ [x6_2]) := ⟨_, rfl⟩
          replace H : (spec_biFar.l1 k2 a0 x3_1 y235 (wrap64 (x6_2 + 1))) = some r := by first | (rw [hy235]; with_reducible exact H) | (have H2_ := (Option.bind_some _ _).symm.trans H; rw [hy235]; with_reducible exact H2_) | (have H2_ := (Option.bind_some _ _).symm.trans H; with_reducible exact H2_) | with_reducible exact H | (rw [hy235]; exact H) | exact H
          have Ny235 := Az_ hy235
          clear hy235
          have H' := Az_ H
          clear H
          go_wp2_with (first | ((with_reducible refine gate_builtin (b := .append) (xs := #[.tmp 33, .tmp 35]) rfl ?_); at_builtin; refine Kd.R_append (Kd.int .i64) (w0 := w) w.heap.size rfl (.tmp 33) (.tmp 35) 24 3 (.int .i64 0) 8 rfl Try.underlying24 info3 rfl (by decide) (by omega) u5 x5_2 x6_2 [.int .i64 x6_2] (fun k_ => some k_ ≠ (.slice Ao7 x3_1.length co7 : Value).ownBlock) (fun _ => False) rfl rfl ?aP (fun _ hk => hk.elim) ?aF ?aO ?aB ?aS ?aL ?_; (case aP => exact rfl); (case aB => exact (ubz_ HB.out)); (case aF => exact (fun k_ hk => Kd.fresh' (Kd.R_lt (by exact urz_ HO_3.out)) k_ hk)); (case aO => exact (by exact urz_ HO_5.out)); (case aS => exact (below_size (ubz_ HB.out))); (case aL => have := LMc15.out; omega); intro v236 w16 ho hb hg hat; rw [← Ny235.out] at ho; have n0_ := Az_ (Kd.R_after (ok := (fun _ => True)) (by (with_reducible repeat (first | apply raz_ | apply rnz_ | apply rdz_)); exact Kd.R_mono HO_3.out (fun _ hk => ⟨trivial, hk⟩)) hg hat); have n1_ := Az_ (hb); have n2_ := Az_ (ho); clear HO_3; clear HB; clear HO_5; have HO_3 := n0_; have HB := n1_; have HO237 := n2_; clear n0_ n1_ n2_; clear ho hb hg hat))
          go_roundg k2
          case measure => have := HK1.out; have := HK2.out; omega
          case rel => exact ⟨(y235), (wrap64 (x6_2 + 1)), qaz_, H', ⟨by have := HK1.out; have := HK2.out; omega⟩, ⟨by (try simp only [hl3_1]); (with_reducible repeat (first | apply raz_ | apply rnz_ | apply rdz_)); exact Kd.R_mono HO_3.out (fun _ hk => hk.2)⟩, ⟨by (try simp only [hl3_1]); (with_reducible repeat (first | apply raz_ | apply rnz_ | apply rdz_)); exact HO237.out⟩, ⟨by exact ubz_ HB.out⟩⟩
         ·rw [if_neg c15] at H
          exact absurd H (by simp)
        ·rw [if_neg c14] at H
         have c14b0 := decide_eq_false c14
         clear c14
         obtain ⟨y238, hy238⟩ : ∃ y_ : List (List Int), y_ = (([x5_2] : List (List Int))) := ⟨_, rfl⟩
         replace H : ((spec_biRank.f k2 x5_2).bind fun t241 => (if 0 ≤ t241 then (if t241 < (x3_1.length : Int) then (spec_biFar.l2 k2 a0 (x3_1.set (t241 : Int).toNat 0) y238 1) else (none)) else (none))) = some r := by first | (rw [hy238]; with_reducible exact H) | (have H2_ := (Option.bind_some _ _).symm.trans H; rw [hy238]; with_reducible exact H2_) | (have H2_ := (Option.bind_some _ _).symm.trans H; with_reducible exact H2_) | with_reducible exact H | (rw [hy238]; exact H) | exact H
         have Ny238 := Az_ hy238
         clear hy238
         replace H := Option.bind_eq_some_iff.mp H
         obtain ⟨t241, A170, H⟩ := H
         replace H : (if 0 ≤ t241 then (if t241 < (x3_1.length : Int) then (spec_biFar.l2 k2 a0 (x3_1.set (t241 : Int).toNat 0) y238 1) else (none)) else (none)) = some r := H
         have A17 := Az_ A170
         clear A170
         by_cases c18 : 0 ≤ t241
         ·rw [if_pos c18] at H
          have c18b0 := decide_eq_true c18
          clear c18
          by_cases c19 : t241 < (x3_1.length : Int)
          ·rw [if_pos c19] at H
           have c19b0 := decide_eq_true c19
           clear c19
           obtain ⟨y242, hy242⟩ : ∃ y_ : List Int, y_ = (x3_1.set (t241 : Int).toNat 0) := ⟨_, rfl⟩
           replace H : (spec_biFar.l2 k2 a0 y242 y238 1) = some r := by first | (rw [hy242]; with_reducible exact H) | (have H2_ := (Option.bind_some _ _).symm.trans H; rw [hy242]; with_reducible exact H2_) | (have H2_ := (Option.bind_some _ _).symm.trans H; with_reducible exact H2_) | with_reducible exact H | (rw [hy242]; exact H) | exact H
           have Ny242 := Az_ hy242
           clear hy242
           have H' := Az_ H
           clear H
           obtain ⟨Ao21, co21, eo21⟩ := Kd.R_slice HO_5.out
           subst eo21
           go_wp2_with (first | ((with_reducible refine gate_dst (N := 38) rfl ?_); refine Kd.N_lit (Kd.slice 3 (Kd.int .i64)) _ 24 ?hg (N' := 38) ?hd (xs := ([x5_2] : List (List Int))) (inner := [.slice Ao21 x5_2.length co21]) (ok := (fun k_ => some k_ ≠ (.slice Ao7 x3_1.length co7 : Value).ownBlock)) (okp := (fun k_ => some k_ ≠ (.slice Ao7 x3_1.length co7 : Value).ownBlock)) ?hr ?hp (fun _ hk => hk) ((show ∀ k_, wr.heap.size ≤ k_ → (fun k_ => some k_ ≠ (.slice Ao7 x3_1.length co7 : Value).ownBlock) k_ from fun k_ hk => Kd.fresh' (Kd.R_lt (by exact urz_ HO_3.out)) k_ hk) _ (Nat.le_refl _)) (Below.refl _ _) (Nat.le_refl _) (by simp) ?_; (case hd => rfl); (case hg => rfl); (case hr => first | (go_simp; done) | (go_simp; rfl)); (case hp => exact (Reps.one (show Kd.FK (Kd.slice 3 (Kd.int .i64)) _ _ x5_2 [.slice Ao21 x5_2.length co21] from (Kd.FK_slice_mk (Kd.R_reads' (Kd.R_mono (ok' := (fun k_ => some k_ ≠ (.slice Ao7 x3_1.length co7 : Value).ownBlock)) (HO_5.out) (fun k_ hk => hk))).2.1 (Kd.R_F (Kd.R_mono (ok' := (fun k_ => some k_ ≠ (.slice Ao7 x3_1.length co7 : Value).ownBlock)) (HO_5.out) (fun k_ hk => hk))))) (Reps.none _ _))); intro v239 w22 ho23 hb hg_ hnew_; clear hg_ hnew_; (first | rw [← Ny238.out] at ho23 | (simp only [Int.reduceToNat] at ho23; rw [← Ny238.out] at ho23)); have n0_ := Az_ (Kd.R_below (by exact urz_ HO_3.out) hb); have n1_ := Az_ (Kd.N_lower ho23 (below_size (ubz_ HB.out))); have n2_ := Az_ (btz_ (ubz_ HB.out) hb); clear HO_3; clear HB; have n9_ := Az_ (Kd.R_below HO_5.out hb); clear HO_5; have HO_5 := n9_; clear n9_; have HO_3 := n0_; have HO240 := n1_; have HB := n2_; clear n0_ n1_ n2_; clear hb ho23) | ((with_reducible refine gate_callee (f := 80) rfl ?_); refine goesL_ (some 41) rfl rfl Try.func80 (by kernel_rfl) rfl #[.slice Ao21 x5_2.length co21] rfl maz_ ?_; (with_reducible refine (spec_biRank.calls k2 _ _ x5_2 t241 _ ?side1 ?side2 A17.out).mono ?_); (case side1 => exact ucz_ ((Kd.R_reads' HO_5.out).2.2)); (case side2 => exact (Kd.R_reads' HO_5.out).2.1); rintro e w' ⟨rfl, ⟨nd, rfl⟩⟩; refine ⟨_, rfl, ?_⟩; (try (rw [drewN_self w22]; generalize hq_ : World.drewN w22 _ = w22; have n0_ : Aside0 (Kd.N (Kd.slice 3 (Kd.int .i64)) 24 w22 w.heap.size (fun k_ => some k_ ≠ (.slice Ao7 x3_1.length co7 : Value).ownBlock) v239 y238) := ⟨by rw [← hq_]; exact (by (with_reducible repeat (first | apply Kd.N_alloc | apply Kd.N_drewN | apply Kd.N_drew)); exact HO240.out)⟩; have n1_ : Aside0 (Kd.R (Kd.int .i64) 3 w22 w.heap.size (fun _ => True) (.slice Ao7 x3_1.length co7) x3_1) := ⟨by rw [← hq_]; exact (by (with_reducible repeat (first | apply raz_ | apply rnz_ | apply rdz_)); exact Kd.R_mono HO_3.out (fun _ hk => trivial))⟩; have n2_ : Aside0 (Below w.heap.size w w22) := ⟨by rw [← hq_]; exact (ubz_ HB.out)⟩; clear HO240 HO_3 HB hq_; have HO240 := n0_; have HO_3 := n1_; have HB := n2_; clear n0_ n1_ n2_)); have p20 : 0 ≤ (t241 : Int) := of_decide_eq_true asz_; have q20 : (t241 : Int) < ((x3_1.length : Int) : Int) := of_decide_eq_true asz_; obtain ⟨go20, co20, eo20, gb20, gl20, cl20, HG20⟩ := Kd.R_form HO_3.out (by omega); (first | cases eo20 | (injection eo20 with ea_ en_ ec_; (first | subst ea_ | (injection ea_ with ea_; subst ea_)); subst ec_; clear en_)); have GB20 := Az_ gb20; have GG20 := Az_ HG20; clear gb20 gl20 HG20; obtain ⟨hx20_0, hf20_0⟩ := Kd.R_celln 0 HO_3.out (t241 : Int) p20 q20; replace p20 := eq_true p20; replace q20 := eq_true q20; have n_ := Az_ (Kd.R_mono (ok' := (fun _ => True)) HO_3.out (fun k_ hk => trivial)); clear HO_3; have HO_3 := n_; clear n_; obtain ⟨hy24_, hz24_⟩ := Kd.R_celln 0 HO_3.out (t241 : Int) (of_decide_eq_true asz_) (of_decide_eq_true asz_); have HP24 := Kd.R_putg HO_3.out (t241 : Int) 0) | ((with_reducible refine gate_store (t := 3) (p := 42) rfl ?_); refine store_event (t := 3) (p := 42) (v := ?vo_w25) (w1 := (w22.setCell ⟨go20, (t241 : Int).toNat, none⟩ (.int .i64 0))) ?hg ?ho ?hn ?hr ?_; (case ho => rfl); (case hg => rfl); (case hn => rfl); (case hr => first | (go_simp; done) | (go_simp; rfl)); intro w25 hw; have hg : w22.grownBy w25 (some go20) := (by rw [hw]; exact HP24.2); have hp_ : Kd.R (Kd.int .i64) 3 w25 w.heap.size (fun _ => True) (.slice (some ⟨go20, 0, none⟩) x3_1.length co7) y242 := (by rw [hw, Ny242.out]; exact HP24.1); clear HP24; have n0_ := Az_ (hp_); have n1_ := Az_ (Kd.N_afterv (v := (.slice (some ⟨go20, 0, none⟩) x3_1.length co7)) (v1 := (.slice (some ⟨go20, 0, none⟩) x3_1.length co7)) (ok := (fun _ => True)) (by (with_reducible repeat (first | apply Kd.N_alloc | apply Kd.N_drewN | apply Kd.N_drew)); exact Kd.N_mono HO240.out (fun _ hk => ⟨trivial, hk⟩)) hg (.inl rfl)); have n2_ := Az_ ((by rw [hw]; exact bsz_ (HB.out) GB20.out : Below w.heap.size w w25)); clear HO_3; clear HO240; clear HB; have HO_3 := n0_; have HO240 := n1_; have HB := n2_; clear n0_ n1_ n2_; clear hg hw hp_))
           go_loopg [7, 8] k2 (fun kq v7 v8 w' => ∃ (x3_3 : List Int) (x7_3 : List (List Int)) (x8_3 : Int), v8 = .int .i64 x8_3 ∧ Aside0 (spec_biFar.l2 kq a0 x3_3 x7_3 x8_3 = some r) ∧ Aside0 (kq ≤ k2) ∧ Aside0 (Kd.R (Kd.int .i64) 3 w' w.heap.size (fun _ => True) (.slice (some ⟨go20, 0, none⟩) x3_1.length co7) x3_3) ∧ Aside0 (Kd.N (Kd.slice 3 (Kd.int .i64)) 24 w' w.heap.size (fun k_ => some k_ ≠ ((.slice (some ⟨go20, 0, none⟩) x3_1.length co7) : Value).ownBlock) v7 x7_3) ∧ Aside0 (Below w.heap.size w w'))
           case atStart => exact ⟨(y242), (y238), (1), qaz_, H', ⟨Nat.le_refl _⟩, ⟨by (try simp only [hl3_1]); (with_reducible repeat (first | apply raz_ | apply rnz_ | apply rdz_)); exact HO_3.out⟩, ⟨by (try simp only [hl3_1]); (with_reducible repeat (first | apply Kd.N_alloc | apply Kd.N_drewN | apply Kd.N_drew)); exact Kd.N_mono HO240.out (fun _ hk => hk.2)⟩, ⟨by exact ubz_ HB.out⟩⟩
           case round =>
            clear H'
            (try clear c1); (try clear p1); (try clear q1); (try clear hx1); (try clear hf1); (try clear p2); (try clear q2); (try clear hx2); (try clear hf2); (try clear c3); (try clear c3b0); (try clear c3b1); (try clear c4); (try clear c4b0); (try clear c4b1); (try clear p6); (try clear c7); (try clear c8); (try clear c8b0); (try clear c9); (try clear c9b0); (try clear c10); (try clear c10b0); (try clear p11); (try clear q11); (try clear hx11); (try clear hf11); (try clear c14); (try clear c14b0); (try clear c15); (try clear c18); (try clear c18b0); (try clear c19); (try clear c19b0); (try clear p20); (try clear q20); (try clear hx20); (try clear hf20); (try clear hx11_0); (try clear hx20_0); (try clear p1); (try clear p11); (try clear p2); (try clear p20); (try clear p6); (try clear q1); (try clear q11); (try clear q20)
            obtain ⟨x3_3, x7_3, x8_3, rfl, HA, HK3, HO_3, HO_7, HB⟩ := hrel
            have hl3_3 := (Kd.R_reads' HO_3.out).1
            rw [hl3_3] at HO_3
            (try simp only [hl3_3])
            (try simp only [hl3_3] at HO_7)
            cases gk with
            | zero => exact absurd HA.out (by simp [spec_biFar.l2])
            | succ k3 =>
             have H := HA.out
             clear HA
             simp only [spec_biFar.l2] at H
             by_cases c26 : (x7_3.length : Int) > 0
             ·rw [if_pos c26] at H
              have c26b0 := decide_eq_true c26
              have c26b1 : decide (0 < x7_3.length) = true := decide_eq_true (by omega)
              clear c26
              have H' := Az_ H
              clear H
              obtain ⟨Ao27, co27, eo27⟩ := Kd.N_slice HO_7.out
              subst eo27
              go_wp2
              go_loopg [9, 50] k3 (fun kq v9 v50 w' => ∃ (x3_4 : List Int) (x9_4 : List (List Int)) (x50_4 : Int), v50 = .int .i64 x50_4 ∧ Aside0 (spec_biFar.l3 kq a0 x3_4 x8_3 x9_4 x7_3 (x7_3.length : Int) x50_4 = some r) ∧ Aside0 (kq ≤ k3) ∧ Aside0 (Kd.R (Kd.int .i64) 3 w' w.heap.size (fun _ => True) (.slice (some ⟨go20, 0, none⟩) x3_3.length co7) x3_4) ∧ Aside0 (Kd.N (Kd.slice 3 (Kd.int .i64)) 24 w' w.heap.size (fun k_ => some k_ ≠ ((.slice (some ⟨go20, 0, none⟩) x3_3.length co7) : Value).ownBlock ∧ some k_ ≠ ((.slice Ao27 x7_3.length co27) : Value).ownBlock) v9 x9_4) ∧ Aside0 (Kd.N (Kd.slice 3 (Kd.int .i64)) 24 w' w.heap.size (fun k_ => some k_ ≠ ((.slice (some ⟨go20, 0, none⟩) x3_3.length co7) : Value).ownBlock ∧ some k_ ≠ (v9 : Value).ownBlock) (.slice Ao27 x7_3.length co27) x7_3) ∧ Aside0 (Below w.heap.size w w'))
              case atStart => exact ⟨(x3_3), (([] : List (List Int))), (0), qaz_, H', ⟨Nat.le_refl _⟩, ⟨by (try simp only [hl3_1]); (try simp only [hl3_3]); (with_reducible repeat (first | apply raz_ | apply rnz_ | apply rdz_)); exact HO_3.out⟩, ⟨by (try simp only [hl3_1]); (try simp only [hl3_3]); first | exact Kd.S_nil _ _ _ _ _ | exact Kd.N_nil _ _ _ _ _ | exact Kd.V_nil _ _ _ _ _ | exact Kd.Q_nil _ _ _ _ _ | exact Kd.R_nil _ _ _ _ _⟩, ⟨by (try simp only [hl3_1]); (try simp only [hl3_3]); (with_reducible repeat (first | apply Kd.N_alloc | apply Kd.N_drewN | apply Kd.N_drew)); exact Kd.N_mono HO_7.out (fun _ hk => ⟨hk, (by simp [Value.ownBlock])⟩)⟩, ⟨by exact ubz_ HB.out⟩⟩
              case round =>
               clear H'
               (try clear c1); (try clear p1); (try clear q1); (try clear hx1); (try clear hf1); (try clear c2); (try clear p2); (try clear q2); (try clear hx2); (try clear hf2); (try clear c3); (try clear c3b0); (try clear c3b1); (try clear c4); (try clear c4b0); (try clear c4b1); (try clear p6); (try clear c7); (try clear c8); (try clear c8b0); (try clear c9); (try clear c9b0); (try clear c10); (try clear c10b0); (try clear p11); (try clear q11); (try clear hx11); (try clear hf11); (try clear c14); (try clear c14b0); (try clear c15); (try clear c18); (try clear c18b0); (try clear c19); (try clear c19b0); (try clear p20); (try clear q20); (try clear hx20); (try clear hf20); (try clear c26); (try clear c26b0); (try clear c26b1); (try clear hx11_0); (try clear hx20_0); (try clear p1); (try clear p11); (try clear p2); (try clear p20); (try clear p6); (try clear q1); (try clear q11); (try clear q2); (try clear q20)
               obtain ⟨x3_4, x9_4, x50_4, rfl, HA, HK4, HO_3, HO_9, HO_48, HB⟩ := hrel
               have hl3_4 := (Kd.R_reads' HO_3.out).1
               rw [hl3_4] at HO_3
               (try simp only [hl3_4])
               (try simp only [hl3_4] at HO_9)
               (try simp only [hl3_4] at HO_48)
               cases gk with
               | zero => exact absurd HA.out (by simp [spec_biFar.l3])
               | succ k4 =>
                have H := HA.out
                clear HA
                simp only [spec_biFar.l3] at H
                by_cases c28 : x50_4 < (x7_3.length : Int)
                ·rw [if_pos c28] at H
                 have c28b0 := decide_eq_true c28
                 clear c28
                 by_cases c29 : 0 ≤ x50_4
                 ·rw [if_pos c29] at H
                  have c29b0 := decide_eq_true c29
                  clear c29
                  by_cases c30 : x50_4 < (x7_3.length : Int)
                  ·rw [if_pos c30] at H
                   have c30b0 := decide_eq_true c30
                   clear c30
                   have H' := Az_ H
                   clear H
                   have p243 : 0 ≤ (x50_4 : Int) := of_decide_eq_true asz_
                   have q243 : x50_4 < (x7_3.length : Int) := of_decide_eq_true asz_
                   obtain ⟨ad243, A243_0, c243_0, e243, hx243_0, hl243_0, hi243_0⟩ := at_L2 (Kd.N_reads' HO_48.out).2.2 x50_4 p243 q243
                   cases e243
                   obtain ⟨ce243, hce243, hMe243, hcc243⟩ := Kd.N_get HO_48.out [] x50_4 p243 (by first | exact q243 | exact of_decide_eq_true asz_ | (have e_ := (Kd.N_reads' HO_48.out).1; omega))
                   obtain ⟨ua243_0, uc243_0, rfl, ul243_0, ge243_0⟩ := Kd.FK_slice_open hMe243
                   have hv243_0 := hcc243 0 _ rfl
                   rw [Nat.add_zero, show ((Kd.slice 3 (Kd.int .i64))).sz = 1 from rfl, Nat.mul_one] at hv243_0
                   replace hv243_0 := Option.some.inj (hv243_0.symm.trans hx243_0)
                   injection hv243_0 with hva_ hvn_ hvc_
                   rw [hva_] at ge243_0
                   rw [hvc_] at ul243_0
                   have HL243_0 := Az_ (show Kd.V (Kd.int .i64) 3 _ w.heap.size _ _ (rd_L2 x7_3 x50_4) from Kd.V_mk ul243_0 ge243_0)
                   clear hva_ hvn_ hvc_ ge243_0 ul243_0 hcc243 hce243
                   have HR243_0 := Az_ hi243_0
                   have HC243_0 := Az_ hl243_0
                   clear hi243_0 hl243_0
                   replace p243 := eq_true p243
                   replace q243 := eq_true q243
                   go_wp2
                   go_loopg [9, 12] k4 (fun kq v9 v12 w' => ∃ (x3_5 : List Int) (x9_5 : List (List Int)) (x12_5 : Int), v12 = .int .i64 x12_5 ∧ Aside0 (spec_biFar.l4 kq a0 x3_5 x8_3 x9_5 (rd_L2 x7_3 x50_4) x12_5 x7_3 (x7_3.length : Int) x50_4 = some r) ∧ Aside0 (kq ≤ k4) ∧ Aside0 (Kd.R (Kd.int .i64) 3 w' w.heap.size (fun _ => True) (.slice (some ⟨go20, 0, none⟩) x3_4.length co7) x3_5) ∧ Aside0 (Kd.N (Kd.slice 3 (Kd.int .i64)) 24 w' w.heap.size (fun k_ => some k_ ≠ ((.slice (some ⟨go20, 0, none⟩) x3_4.length co7) : Value).ownBlock ∧ some k_ ≠ ((.slice (some ad243) x7_3.length co27) : Value).ownBlock) v9 x9_5) ∧ Aside0 (NEl A243_0 (rd_L2 x7_3 x50_4) (Kd.slice 3 (Kd.int .i64)) 24 w' w.heap.size (fun k_ => some k_ ≠ ((.slice (some ⟨go20, 0, none⟩) x3_4.length co7) : Value).ownBlock ∧ some k_ ≠ (v9 : Value).ownBlock) (.slice (some ad243) x7_3.length co27) x7_3) ∧ Aside0 (Below w.heap.size w w'))
                   case atStart => exact ⟨(x3_4), (x9_4), (0), qaz_, H', ⟨Nat.le_refl _⟩, ⟨by (try simp only [hl3_1]); (try simp only [hl3_3]); (try simp only [hl3_4]); (with_reducible repeat (first | apply raz_ | apply rnz_ | apply rdz_)); exact HO_3.out⟩, ⟨by (try simp only [hl3_1]); (try simp only [hl3_3]); (try simp only [hl3_4]); (with_reducible repeat (first | apply Kd.N_alloc | apply Kd.N_drewN | apply Kd.N_drew)); exact HO_9.out⟩, ⟨by (try simp only [hl3_1]); (try simp only [hl3_3]); (try simp only [hl3_4]); exact And.intro HO_48.out (Kd.F_mono (Kd.V_F HL243_0.out) (fun _ h_ => h_.1))⟩, ⟨by exact ubz_ HB.out⟩⟩
                   case round =>
                    clear H'
                    (try clear c1); (try clear p1); (try clear q1); (try clear hx1); (try clear hf1); (try clear c2); (try clear p2); (try clear q2); (try clear hx2); (try clear hf2); (try clear c3); (try clear c3b0); (try clear c3b1); (try clear c4); (try clear c4b0); (try clear c4b1); (try clear p6); (try clear c7); (try clear c8); (try clear c8b0); (try clear c9); (try clear c9b0); (try clear c10); (try clear c10b0); (try clear p11); (try clear q11); (try clear hx11); (try clear hf11); (try clear c14); (try clear c14b0); (try clear c15); (try clear c18); (try clear c18b0); (try clear c19); (try clear c19b0); (try clear p20); (try clear q20); (try clear hx20); (try clear hf20); (try clear c24); (try clear p24); (try clear q24); (try clear hx24); (try clear c26); (try clear c26b0); (try clear c26b1); (try clear c28); (try clear c28b0); (try clear c29); (try clear c29b0); (try clear c30); (try clear c30b0); (try clear hx11_0); (try clear hx20_0); (try clear hx243_0); (try clear p1); (try clear p11); (try clear p2); (try clear p20); (try clear p243); (try clear p6); (try clear q1); (try clear q11); (try clear q2); (try clear q20); (try clear q243)
                    obtain ⟨x3_5, x9_5, x12_5, rfl, HA, HK5, HO_3, HO_9, HO_48, HB⟩ := hrel
                    have hl3_5 := (Kd.R_reads' HO_3.out).1
                    rw [hl3_5] at HO_3
                    (try simp only [hl3_5])
                    (try simp only [hl3_5] at HO_9)
                    (try simp only [hl3_5] at HO_48)
                    cases gk with
                    | zero => exact absurd HA.out (by simp [spec_biFar.l4])
                    | succ k5 =>
                     have H := HA.out
                     clear HA
                     simp only [spec_biFar.l4] at H
                     by_cases c31 : x12_5 < a0
                     ·rw [if_pos c31] at H
                      have c31b0 := decide_eq_true c31
                      clear c31
                      have H' := Az_ H
                      clear H
                      go_wp2
                      go_loopg [9, 13] k5 (fun kq v9 v13 w' => ∃ (x3_6 : List Int) (x9_6 : List (List Int)) (x13_6 : Int), v13 = .int .i64 x13_6 ∧ Aside0 (spec_biFar.l5 kq a0 x3_6 x8_3 x9_6 (rd_L2 x7_3 x50_4) x12_5 x13_6 x7_3 (x7_3.length : Int) x50_4 = some r) ∧ Aside0 (kq ≤ k5) ∧ Aside0 (Kd.R (Kd.int .i64) 3 w' w.heap.size (fun _ => True) (.slice (some ⟨go20, 0, none⟩) x3_5.length co7) x3_6) ∧ Aside0 (Kd.N (Kd.slice 3 (Kd.int .i64)) 24 w' w.heap.size (fun k_ => some k_ ≠ ((.slice (some ⟨go20, 0, none⟩) x3_5.length co7) : Value).ownBlock ∧ some k_ ≠ ((.slice (some ad243) x7_3.length co27) : Value).ownBlock) v9 x9_6) ∧ Aside0 (NEl A243_0 (rd_L2 x7_3 x50_4) (Kd.slice 3 (Kd.int .i64)) 24 w' w.heap.size (fun k_ => some k_ ≠ ((.slice (some ⟨go20, 0, none⟩) x3_5.length co7) : Value).ownBlock ∧ some k_ ≠ (v9 : Value).ownBlock) (.slice (some ad243) x7_3.length co27) x7_3) ∧ Aside0 (Below w.heap.size w w'))
                      case atStart => exact ⟨(x3_5), (x9_5), (x12_5), qaz_, H', ⟨Nat.le_refl _⟩, ⟨by (try simp only [hl3_1]); (try simp only [hl3_3]); (try simp only [hl3_4]); (try simp only [hl3_5]); (with_reducible repeat (first | apply raz_ | apply rnz_ | apply rdz_)); exact HO_3.out⟩, ⟨by (try simp only [hl3_1]); (try simp only [hl3_3]); (try simp only [hl3_4]); (try simp only [hl3_5]); (with_reducible repeat (first | apply Kd.N_alloc | apply Kd.N_drewN | apply Kd.N_drew)); exact HO_9.out⟩, ⟨by (try simp only [hl3_1]); (try simp only [hl3_3]); (try simp only [hl3_4]); (try simp only [hl3_5]); (with_reducible repeat (first | apply NEl_alloc | apply NEl_drewN | apply NEl_drew)); exact HO_48.out⟩, ⟨by exact ubz_ HB.out⟩⟩
                      case round =>
                       clear H'
                       (try clear c1); (try clear p1); (try clear q1); (try clear hx1); (try clear hf1); (try clear c2); (try clear p2); (try clear q2); (try clear hx2); (try clear hf2); (try clear c3); (try clear c3b0); (try clear c3b1); (try clear c4); (try clear c4b0); (try clear c4b1); (try clear p6); (try clear c7); (try clear c8); (try clear c8b0); (try clear c9); (try clear c9b0); (try clear c10); (try clear c10b0); (try clear p11); (try clear q11); (try clear hx11); (try clear hf11); (try clear c14); (try clear c14b0); (try clear c15); (try clear c18); (try clear c18b0); (try clear c19); (try clear c19b0); (try clear p20); (try clear q20); (try clear hx20); (try clear hf20); (try clear c24); (try clear p24); (try clear q24); (try clear hx24); (try clear c26); (try clear c26b0); (try clear c26b1); (try clear c28); (try clear c28b0); (try clear c29); (try clear c29b0); (try clear c30); (try clear c30b0); (try clear c31); (try clear c31b0); (try clear hx11_0); (try clear hx20_0); (try clear hx243_0); (try clear p1); (try clear p11); (try clear p2); (try clear p20); (try clear p24); (try clear p243); (try clear p6); (try clear q1); (try clear q11); (try clear q2); (try clear q20); (try clear q24); (try clear q243)
                       obtain ⟨x3_6, x9_6, x13_6, rfl, HA, HK6, HO_3, HO_9, HO_48, HB⟩ := hrel
                       have hl3_6 := (Kd.R_reads' HO_3.out).1
                       rw [hl3_6] at HO_3
                       (try simp only [hl3_6])
                       (try simp only [hl3_6] at HO_9)
                       (try simp only [hl3_6] at HO_48)
                       cases gk with
                       | zero => exact absurd HA.out (by simp [spec_biFar.l5])
                       | succ k6 =>
                        have H := HA.out
                        clear HA
                        simp only [spec_biFar.l5] at H
                        by_cases c32 : x13_6 < a0
                        ·rw [if_pos c32] at H
                         have c32b0 := decide_eq_true c32
                         clear c32
                         replace H := Option.bind_eq_some_iff.mp H
                         obtain ⟨t244, A330, H⟩ := H
                         replace H : ((spec_biRank.f k6 t244).bind fun t247 => (if 0 ≤ t247 then (if t247 < (x3_6.length : Int) then (if (rd x3_6 t247) < 0 then (if x9_6.length < 5864062014805 then (spec_biFar.l5 k6 a0 (x3_6.set (t247 : Int).toNat x8_3) x8_3 (x9_6 ++ [t244]) (rd_L2 x7_3 x50_4) x12_5 (wrap64 (x13_6 + 1)) x7_3 (x7_3.length : Int) x50_4) else (none)) else (spec_biFar.l5 k6 a0 x3_6 x8_3 x9_6 (rd_L2 x7_3 x50_4) x12_5 (wrap64 (x13_6 + 1)) x7_3 (x7_3.length : Int) x50_4)) else (none)) else (none))) = some r := H
                         have A33 := Az_ A330
                         clear A330
                         replace H := Option.bind_eq_some_iff.mp H
                         obtain ⟨t247, A340, H⟩ := H
                         replace H : (if 0 ≤ t247 then (if t247 < (x3_6.length : Int) then (if (rd x3_6 t247) < 0 then (if x9_6.length < 5864062014805 then (spec_biFar.l5 k6 a0 (x3_6.set (t247 : Int).toNat x8_3) x8_3 (x9_6 ++ [t244]) (rd_L2 x7_3 x50_4) x12_5 (wrap64 (x13_6 + 1)) x7_3 (x7_3.length : Int) x50_4) else (none)) else (spec_biFar.l5 k6 a0 x3_6 x8_3 x9_6 (rd_L2 x7_3 x50_4) x12_5 (wrap64 (x13_6 + 1)) x7_3 (x7_3.length : Int) x50_4)) else (none)) else (none)) = some r := H
                         have A34 := Az_ A340
                         clear A340
                         by_cases c35 : 0 ≤ t247
                         ·rw [if_pos c35] at H
                          have c35b0 := decide_eq_true c35
                          clear c35
                          by_cases c36 : t247 < (x3_6.length : Int)
                          ·rw [if_pos c36] at H
                           have c36b0 := decide_eq_true c36
                           clear c36
                           by_cases c37 : (rd x3_6 t247) < 0
                           ·rw [if_pos c37] at H
                            have c37b0 := decide_eq_true c37
                            clear c37
                            obtain ⟨y249, hy249⟩ : ∃ y_ : List Int, y_ = (x3_6.set (t247 : Int).toNat x8_3) := ⟨_, rfl⟩
                            replace H : (if x9_6.length < 5864062014805 then (spec_biFar.l5 k6 a0 y249 x8_3 (x9_6 ++ [t244]) (rd_L2 x7_3 x50_4) x12_5 (wrap64 (x13_6 + 1)) x7_3 (x7_3.length : Int) x50_4) else (none)) = some r := by first | (rw [hy249]; with_reducible exact H) | (have H2_ := (Option.bind_some _ _).symm.trans H; rw [hy249]; with_reducible exact H2_) | (have H2_ := (Option.bind_some _ _).symm.trans H; with_reducible exact H2_) | with_reducible exact H | (rw [hy249]; exact H) | exact H
                            have Ny249 := Az_ hy249
                            clear hy249
                            by_cases c39 : x9_6.length < 5864062014805
                            ·rw [if_pos c39] at H
                             have LMc39 := Az_ c39
                             clear c39
                             obtain ⟨y250, hy250⟩ : ∃ y_ : List (List Int), y_ = (x9_6 ++ [t244]) := ⟨_, rfl⟩
                             replace H : (spec_biFar.l5 k6 a0 y249 x8_3 y250 (rd_L2 x7_3 x50_4) x12_5 (wrap64 (x13_6 + 1)) x7_3 (x7_3.length : Int) x50_4) = some r := by first | (rw [hy250]; with_reducible exact H) | (have H2_ := (Option.bind_some _ _).symm.trans H; rw [hy250]; with_reducible exact H2_) | (have H2_ := (Option.bind_some _ _).symm.trans H; with_reducible exact H2_) | with_reducible exact H | (rw [hy250]; exact H) | exact H
                             have Ny250 := Az_ hy250
                             clear hy250
                             have H' := Az_ H
                             clear H
                             go_wp2_with (first | ((with_reducible refine gate_callee (f := 81) rfl ?_); refine goesL_ (some 68) rfl rfl Try.func81 (by kernel_rfl) rfl #[.slice A243_0 (rd_L2 x7_3 x50_4).length c243_0, .int .i64 x12_5, .int .i64 x13_6] rfl maz_ ?_; (with_reducible refine (spec_biTurn.calls k6 _ _ (rd_L2 x7_3 x50_4) x12_5 x13_6 t244 _ ?side1 ?side2 A33.out).mono ?_); (case side1 => exact ucz_ ((Kd.F_now HO_48.out.2))); (case side2 => exact HC243_0.out); rintro e w40 ⟨v245, rfl, ho0, hb⟩; refine ⟨_, rfl, ?_⟩; have n0_ := Az_ (rez_ (by exact urz_ HO_3.out) (Kd.R_base ho0) hb); have n1_ := Az_ (Kd.N_elder' (by (with_reducible repeat (first | apply Kd.N_alloc | apply Kd.N_drewN | apply Kd.N_drew)); exact HO_9.out) (Kd.R_base ho0) hb); have n2_ := Az_ (NEl_elder' (by (with_reducible repeat (first | apply NEl_alloc | apply NEl_drewN | apply NEl_drew)); exact HO_48.out) (Kd.R_base ho0) hb); have n3_ := Az_ (Kd.R_lower (Kd.R_new' ho0 (Kd.R_lt (by exact urz_ HO_3.out))) (below_size (ubz_ HB.out))); have n4_ := Az_ (btz_ (ubz_ HB.out) hb); clear HO_3; clear HO_9; clear HO_48; clear HB; have HO_3 := n0_; have HO_9 := n1_; have HO_48 := n2_; have HO246 := n3_; have HB := n4_; clear n0_ n1_ n2_ n3_ n4_; (try clear hb); (try clear hb2); (try clear hk); (try clear hi); (try clear ho0); obtain ⟨Ao41, co41, eo41⟩ := Kd.R_slice HO246.out; subst eo41) | ((with_reducible refine gate_callee (f := 80) rfl ?_); refine goesL_ (some 70) rfl rfl Try.func80 (by kernel_rfl) rfl #[.slice Ao41 t244.length co41] rfl maz_ ?_; (with_reducible refine (spec_biRank.calls k6 _ _ t244 t247 _ ?side1 ?side2 A34.out).mono ?_); (case side1 => exact ucz_ ((Kd.R_reads' HO246.out).2.2)); (case side2 => exact (Kd.R_reads' HO246.out).2.1); rintro e w' ⟨rfl, ⟨nd, rfl⟩⟩; refine ⟨_, rfl, ?_⟩; (try (rw [drewN_self w40]; generalize hq_ : World.drewN w40 _ = w40; have n0_ : Aside0 (Kd.R (Kd.int .i64) 3 w40 w.heap.size (fun k_ => some k_ ≠ (.slice (some ⟨go20, 0, none⟩) x3_6.length co7 : Value).ownBlock) (.slice Ao41 t244.length co41) t244) := ⟨by rw [← hq_]; exact (by (with_reducible repeat (first | apply raz_ | apply rnz_ | apply rdz_)); exact Kd.R_mono HO246.out (fun _ hk => hk.2))⟩; have n1_ : Aside0 (Kd.R (Kd.int .i64) 3 w40 w.heap.size (fun k_ => some k_ ≠ (.slice Ao41 t244.length co41 : Value).ownBlock) (.slice (some ⟨go20, 0, none⟩) x3_6.length co7) x3_6) := ⟨by rw [← hq_]; exact (by (with_reducible repeat (first | apply raz_ | apply rnz_ | apply rdz_)); exact Kd.R_mono HO_3.out (fun _ hk => hk.2))⟩; have n2_ : Aside0 (NEl A243_0 (rd_L2 x7_3 x50_4) (Kd.slice 3 (Kd.int .i64)) 24 w40 w.heap.size (fun k_ => some k_ ≠ (.slice Ao41 t244.length co41 : Value).ownBlock ∧ some k_ ≠ (.slice (some ⟨go20, 0, none⟩) x3_6.length co7 : Value).ownBlock ∧ some k_ ≠ (u9 : Value).ownBlock) (.slice (some ad243) x7_3.length co27) x7_3) := ⟨by rw [← hq_]; exact (by (with_reducible repeat (first | apply NEl_alloc | apply NEl_drewN | apply NEl_drew)); exact NEl_mono HO_48.out (fun _ hk => ⟨hk.2, ⟨hk.1.1, hk.1.2⟩⟩))⟩; have n3_ : Aside0 (Kd.N (Kd.slice 3 (Kd.int .i64)) 24 w40 w.heap.size (fun k_ => some k_ ≠ (.slice Ao41 t244.length co41 : Value).ownBlock ∧ some k_ ≠ (.slice (some ⟨go20, 0, none⟩) x3_6.length co7 : Value).ownBlock ∧ some k_ ≠ (.slice (some ad243) x7_3.length co27 : Value).ownBlock) u9 x9_6) := ⟨by rw [← hq_]; exact (by (with_reducible repeat (first | apply Kd.N_alloc | apply Kd.N_drewN | apply Kd.N_drew)); exact Kd.N_mono HO_9.out (fun _ hk => ⟨hk.2, ⟨hk.1.1, hk.1.2⟩⟩))⟩; have n4_ : Aside0 (Below w.heap.size w w40) := ⟨by rw [← hq_]; exact (ubz_ HB.out)⟩; clear HO246 HO_3 HO_48 HO_9 HB hq_; have HO246 := n0_; have HO_3 := n1_; have HO_48 := n2_; have HO_9 := n3_; have HB := n4_; clear n0_ n1_ n2_ n3_ n4_)); have p248 : 0 ≤ (t247 : Int) := of_decide_eq_true asz_; have q248 : t247 < (x3_6.length : Int) := of_decide_eq_true asz_; obtain ⟨ad248, e248, hx248_0⟩ := Kd.at_int (Kd.R_reads' HO_3.out).2.2 t247 p248 q248; obtain rfl : (⟨go20, 0, none⟩ : Addr) = ad248 := (by injection e248); (first | simp only [add_plain] at hx248_0 | simp only [add_at] at hx248_0 | simp only [Addr.add, Nat.zero_add] at hx248_0 | skip); replace p248 := eq_true p248; replace q248 := eq_true q248; have p38 : 0 ≤ (t247 : Int) := of_decide_eq_true asz_; have q38 : (t247 : Int) < ((x3_6.length : Int) : Int) := of_decide_eq_true asz_; obtain ⟨hx38_0, hf38_0⟩ := Kd.R_celln 0 HO_3.out (t247 : Int) p38 q38; replace p38 := eq_true p38; replace q38 := eq_true q38; have n_ := Az_ (Kd.R_mono (ok' := (fun k_ => some k_ ≠ (.slice Ao41 t244.length co41 : Value).ownBlock)) HO_3.out (fun k_ hk => by first | exact hk.2 | ((repeat' apply And.intro) <;> first | exact hk | exact hk.1 | exact hk.2 | exact hk.1.1 | exact hk.1.2 | exact hk.2.1 | exact hk.2.2 | exact hk.1.1.1 | exact hk.1.1.2 | exact hk.1.2.1 | exact hk.1.2.2 | exact hk.2.1.1 | exact hk.2.1.2 | exact hk.2.2.1 | exact hk.2.2.2 | exact hk.1.1.1.1 | exact hk.1.1.1.2 | exact hk.1.1.2.1 | exact hk.1.1.2.2 | exact hk.1.2.1.1 | exact hk.1.2.1.2 | exact hk.1.2.2.1 | exact hk.1.2.2.2 | exact hk.2.1.1.1 | exact hk.2.1.1.2 | exact hk.2.1.2.1 | exact hk.2.1.2.2 | exact hk.2.2.1.1 | exact hk.2.2.1.2 | exact hk.2.2.2.1 | exact hk.2.2.2.2))); clear HO_3; have HO_3 := n_; clear n_; obtain ⟨hy42_, hz42_⟩ := Kd.R_celln 0 HO_3.out (t247 : Int) (of_decide_eq_true asz_) (of_decide_eq_true asz_); have HP42 := Kd.R_putg HO_3.out (t247 : Int) x8_3) | ((with_reducible refine gate_store (t := 3) (p := 79) rfl ?_); refine store_event (t := 3) (p := 79) (v := ?vo_w43) (w1 := (w40.setCell ⟨go20, (t247 : Int).toNat, none⟩ (.int .i64 x8_3))) ?hg ?ho ?hn ?hr ?_; (case ho => rfl); (case hg => rfl); (case hn => rfl); (case hr => first | (go_simp; done) | (go_simp; rfl)); intro w43 hw; have hg : w40.grownBy w43 (some go20) := (by rw [hw]; exact HP42.2); have hp_ : Kd.R (Kd.int .i64) 3 w43 w.heap.size (fun k_ => some k_ ≠ (.slice Ao41 t244.length co41 : Value).ownBlock) (.slice (some ⟨go20, 0, none⟩) x3_6.length co7) y249 := (by rw [hw, Ny249.out]; exact HP42.1); clear HP42; have n0_ := Az_ (hp_); have n1_ := Az_ (Kd.N_afterv (v := (.slice (some ⟨go20, 0, none⟩) x3_6.length co7)) (v1 := (.slice (some ⟨go20, 0, none⟩) x3_6.length co7)) (ok := (fun k_ => some k_ ≠ (.slice (some ad243) x7_3.length co27 : Value).ownBlock ∧ some k_ ≠ (.slice Ao41 t244.length co41 : Value).ownBlock)) (by (with_reducible repeat (first | apply Kd.N_alloc | apply Kd.N_drewN | apply Kd.N_drew)); exact Kd.N_mono HO_9.out (fun _ hk => by first | exact ⟨⟨hk.1.2, hk.2⟩, hk.1.1⟩ | ((repeat' apply And.intro) <;> first | exact hk | exact hk.1 | exact hk.2 | exact hk.1.1 | exact hk.1.2 | exact hk.2.1 | exact hk.2.2 | exact hk.1.1.1 | exact hk.1.1.2 | exact hk.1.2.1 | exact hk.1.2.2 | exact hk.2.1.1 | exact hk.2.1.2 | exact hk.2.2.1 | exact hk.2.2.2 | exact hk.1.1.1.1 | exact hk.1.1.1.2 | exact hk.1.1.2.1 | exact hk.1.1.2.2 | exact hk.1.2.1.1 | exact hk.1.2.1.2 | exact hk.1.2.2.1 | exact hk.1.2.2.2 | exact hk.2.1.1.1 | exact hk.2.1.1.2 | exact hk.2.1.2.1 | exact hk.2.1.2.2 | exact hk.2.2.1.1 | exact hk.2.2.1.2 | exact hk.2.2.2.1 | exact hk.2.2.2.2))) hg (.inl rfl)); have n2_ := Az_ (NEl_afterv (v := (.slice (some ⟨go20, 0, none⟩) x3_6.length co7)) (v1 := (.slice (some ⟨go20, 0, none⟩) x3_6.length co7)) (ok := (fun k_ => some k_ ≠ (u9 : Value).ownBlock ∧ some k_ ≠ (.slice Ao41 t244.length co41 : Value).ownBlock)) (by (with_reducible repeat (first | apply NEl_alloc | apply NEl_drewN | apply NEl_drew)); exact NEl_mono HO_48.out (fun _ hk => by first | exact ⟨⟨hk.1.2, hk.2⟩, hk.1.1⟩ | ((repeat' apply And.intro) <;> first | exact hk | exact hk.1 | exact hk.2 | exact hk.1.1 | exact hk.1.2 | exact hk.2.1 | exact hk.2.2 | exact hk.1.1.1 | exact hk.1.1.2 | exact hk.1.2.1 | exact hk.1.2.2 | exact hk.2.1.1 | exact hk.2.1.2 | exact hk.2.2.1 | exact hk.2.2.2 | exact hk.1.1.1.1 | exact hk.1.1.1.2 | exact hk.1.1.2.1 | exact hk.1.1.2.2 | exact hk.1.2.1.1 | exact hk.1.2.1.2 | exact hk.1.2.2.1 | exact hk.1.2.2.2 | exact hk.2.1.1.1 | exact hk.2.1.1.2 | exact hk.2.1.2.1 | exact hk.2.1.2.2 | exact hk.2.2.1.1 | exact hk.2.2.1.2 | exact hk.2.2.2.1 | exact hk.2.2.2.2))) hg (.inl rfl)); have n3_ := Az_ (Kd.R_after (v := (.slice (some ⟨go20, 0, none⟩) x3_6.length co7)) (v1 := (.slice (some ⟨go20, 0, none⟩) x3_6.length co7)) (ok := (fun _ => True)) (by (with_reducible repeat (first | apply raz_ | apply rnz_ | apply rdz_)); first | exact HO246.out | exact Kd.R_mono HO246.out (fun _ hk => by first | exact hk | ((repeat' apply And.intro) <;> first | exact trivial | exact hk | exact hk.1 | exact hk.2 | exact hk.1.1 | exact hk.1.2 | exact hk.2.1 | exact hk.2.2 | exact hk.1.1.1 | exact hk.1.1.2 | exact hk.1.2.1 | exact hk.1.2.2 | exact hk.2.1.1 | exact hk.2.1.2 | exact hk.2.2.1 | exact hk.2.2.2 | exact hk.1.1.1.1 | exact hk.1.1.1.2 | exact hk.1.1.2.1 | exact hk.1.1.2.2 | exact hk.1.2.1.1 | exact hk.1.2.1.2 | exact hk.1.2.2.1 | exact hk.1.2.2.2 | exact hk.2.1.1.1 | exact hk.2.1.1.2 | exact hk.2.1.2.1 | exact hk.2.1.2.2 | exact hk.2.2.1.1 | exact hk.2.2.1.2 | exact hk.2.2.2.1 | exact hk.2.2.2.2))) hg (.inl rfl)); have n4_ := Az_ ((by rw [hw]; exact bsz_ (HB.out) GB20.out : Below w.heap.size w w43)); clear HO_3; clear HO_9; clear HO_48; clear HO246; clear HB; have HO_3 := n0_; have HO_9 := n1_; have HO_48 := n2_; have HO246 := n3_; have HB := n4_; clear n0_ n1_ n2_ n3_ n4_; clear hg hw hp_) | ((with_reducible refine gate_builtin (b := .append) (xs := #[.tmp 80, .tmp 82]) rfl ?_); at_builtin; refine Kd.N_append (Kd.slice 3 (Kd.int .i64)) (w0 := w) w.heap.size rfl (.tmp 80) (.tmp 82) 41 24 (.slice none 0 0) 24 rfl Try.underlying41 info24 rfl (by decide) (by omega) u9 x9_6 t244 [.slice Ao41 t244.length co41] (fun k_ => some k_ ≠ (.slice (some ⟨go20, 0, none⟩) x3_6.length co7 : Value).ownBlock ∧ some k_ ≠ (.slice (some ad243) x7_3.length co27 : Value).ownBlock) (fun k_ => ((fun k_ => some k_ ≠ (.slice (some ⟨go20, 0, none⟩) x3_6.length co7 : Value).ownBlock ∧ some k_ ≠ (.slice (some ad243) x7_3.length co27 : Value).ownBlock)) k_ ∧ some k_ ≠ (u9 : Value).ownBlock) rfl rfl ?aP (fun _ hk => by first | exact hk | ((repeat' apply And.intro) <;> first | exact hk | exact hk.1 | exact hk.2 | exact hk.1.1 | exact hk.1.2 | exact hk.2.1 | exact hk.2.2 | exact hk.1.1.1 | exact hk.1.1.2 | exact hk.1.2.1 | exact hk.1.2.2 | exact hk.2.1.1 | exact hk.2.1.2 | exact hk.2.2.1 | exact hk.2.2.2 | exact hk.1.1.1.1 | exact hk.1.1.1.2 | exact hk.1.1.2.1 | exact hk.1.1.2.2 | exact hk.1.2.1.1 | exact hk.1.2.1.2 | exact hk.1.2.2.1 | exact hk.1.2.2.2 | exact hk.2.1.1.1 | exact hk.2.1.1.2 | exact hk.2.1.2.1 | exact hk.2.1.2.2 | exact hk.2.2.1.1 | exact hk.2.2.1.2 | exact hk.2.2.2.1 | exact hk.2.2.2.2)) ?aF ?aO ?aB ?aS ?aL ?_; (case aP => exact (Kd.FK_slice_mk (Kd.R_reads' (Kd.R_mono (ok' := (fun k_ => ((fun k_ => some k_ ≠ (.slice (some ⟨go20, 0, none⟩) x3_6.length co7 : Value).ownBlock ∧ some k_ ≠ (.slice (some ad243) x7_3.length co27 : Value).ownBlock)) k_ ∧ some k_ ≠ (u9 : Value).ownBlock)) (Kd.R_apart' (Kd.R_apart' (HO246.out) (Kd.N_typed HO_48.out.1) (by decide)) (Kd.N_typed HO_9.out) (by decide)) (fun k_ hk => by first | exact ⟨⟨hk.1.1.2, hk.1.2⟩, hk.2⟩ | ((repeat' apply And.intro) <;> first | exact hk | exact hk.1 | exact hk.2 | exact hk.1.1 | exact hk.1.2 | exact hk.2.1 | exact hk.2.2 | exact hk.1.1.1 | exact hk.1.1.2 | exact hk.1.2.1 | exact hk.1.2.2 | exact hk.2.1.1 | exact hk.2.1.2 | exact hk.2.2.1 | exact hk.2.2.2 | exact hk.1.1.1.1 | exact hk.1.1.1.2 | exact hk.1.1.2.1 | exact hk.1.1.2.2 | exact hk.1.2.1.1 | exact hk.1.2.1.2 | exact hk.1.2.2.1 | exact hk.1.2.2.2 | exact hk.2.1.1.1 | exact hk.2.1.1.2 | exact hk.2.1.2.1 | exact hk.2.1.2.2 | exact hk.2.2.1.1 | exact hk.2.2.1.2 | exact hk.2.2.2.1 | exact hk.2.2.2.2)))).2.1 (Kd.R_F (Kd.R_mono (ok' := (fun k_ => ((fun k_ => some k_ ≠ (.slice (some ⟨go20, 0, none⟩) x3_6.length co7 : Value).ownBlock ∧ some k_ ≠ (.slice (some ad243) x7_3.length co27 : Value).ownBlock)) k_ ∧ some k_ ≠ (u9 : Value).ownBlock)) (Kd.R_apart' (Kd.R_apart' (HO246.out) (Kd.N_typed HO_48.out.1) (by decide)) (Kd.N_typed HO_9.out) (by decide)) (fun k_ hk => by first | exact ⟨⟨hk.1.1.2, hk.1.2⟩, hk.2⟩ | ((repeat' apply And.intro) <;> first | exact hk | exact hk.1 | exact hk.2 | exact hk.1.1 | exact hk.1.2 | exact hk.2.1 | exact hk.2.2 | exact hk.1.1.1 | exact hk.1.1.2 | exact hk.1.2.1 | exact hk.1.2.2 | exact hk.2.1.1 | exact hk.2.1.2 | exact hk.2.2.1 | exact hk.2.2.2 | exact hk.1.1.1.1 | exact hk.1.1.1.2 | exact hk.1.1.2.1 | exact hk.1.1.2.2 | exact hk.1.2.1.1 | exact hk.1.2.1.2 | exact hk.1.2.2.1 | exact hk.1.2.2.2 | exact hk.2.1.1.1 | exact hk.2.1.1.2 | exact hk.2.1.2.1 | exact hk.2.1.2.2 | exact hk.2.2.1.1 | exact hk.2.2.1.2 | exact hk.2.2.2.1 | exact hk.2.2.2.2)))))); (case aB => exact (ubz_ HB.out)); (case aF => exact (fun k_ hk => ⟨Kd.fresh' (Kd.R_lt (by (with_reducible repeat (first | apply raz_ | apply rnz_ | apply rdz_)); first | exact HO_3.out | exact Kd.R_mono HO_3.out (fun _ hk => by first | exact hk | ((repeat' apply And.intro) <;> first | exact trivial | exact hk | exact hk.1 | exact hk.2 | exact hk.1.1 | exact hk.1.2 | exact hk.2.1 | exact hk.2.2 | exact hk.1.1.1 | exact hk.1.1.2 | exact hk.1.2.1 | exact hk.1.2.2 | exact hk.2.1.1 | exact hk.2.1.2 | exact hk.2.2.1 | exact hk.2.2.2 | exact hk.1.1.1.1 | exact hk.1.1.1.2 | exact hk.1.1.2.1 | exact hk.1.1.2.2 | exact hk.1.2.1.1 | exact hk.1.2.1.2 | exact hk.1.2.2.1 | exact hk.1.2.2.2 | exact hk.2.1.1.1 | exact hk.2.1.1.2 | exact hk.2.1.2.1 | exact hk.2.1.2.2 | exact hk.2.2.1.1 | exact hk.2.2.1.2 | exact hk.2.2.2.1 | exact hk.2.2.2.2)))) k_ hk, Kd.fresh' (Kd.N_lt (by (with_reducible repeat (first | apply Kd.N_alloc | apply Kd.N_drewN | apply Kd.N_drew)); exact HO_48.out.1)) k_ hk⟩)); (case aO => exact (by (with_reducible repeat (first | apply Kd.N_alloc | apply Kd.N_drewN | apply Kd.N_drew)); exact Kd.N_mono HO_9.out (fun _ hk => by first | exact ⟨hk.2, hk.1.1⟩ | ((repeat' apply And.intro) <;> first | exact hk | exact hk.1 | exact hk.2 | exact hk.1.1 | exact hk.1.2 | exact hk.2.1 | exact hk.2.2 | exact hk.1.1.1 | exact hk.1.1.2 | exact hk.1.2.1 | exact hk.1.2.2 | exact hk.2.1.1 | exact hk.2.1.2 | exact hk.2.2.1 | exact hk.2.2.2 | exact hk.1.1.1.1 | exact hk.1.1.1.2 | exact hk.1.1.2.1 | exact hk.1.1.2.2 | exact hk.1.2.1.1 | exact hk.1.2.1.2 | exact hk.1.2.2.1 | exact hk.1.2.2.2 | exact hk.2.1.1.1 | exact hk.2.1.1.2 | exact hk.2.1.2.1 | exact hk.2.1.2.2 | exact hk.2.2.1.1 | exact hk.2.2.1.2 | exact hk.2.2.2.1 | exact hk.2.2.2.2)))); (case aS => exact (below_size (ubz_ HB.out))); (case aL => have := LMc39.out; omega); intro v251 w44 ho hb hg hat; rw [← Ny250.out] at ho; have n0_ := Az_ (Kd.R_over' (by (with_reducible repeat (first | apply raz_ | apply rnz_ | apply rdz_)); first | exact HO_3.out | exact Kd.R_mono HO_3.out (fun _ hk => by first | exact hk | ((repeat' apply And.intro) <;> first | exact trivial | exact hk | exact hk.1 | exact hk.2 | exact hk.1.1 | exact hk.1.2 | exact hk.2.1 | exact hk.2.2 | exact hk.1.1.1 | exact hk.1.1.2 | exact hk.1.2.1 | exact hk.1.2.2 | exact hk.2.1.1 | exact hk.2.1.2 | exact hk.2.2.1 | exact hk.2.2.2 | exact hk.1.1.1.1 | exact hk.1.1.1.2 | exact hk.1.1.2.1 | exact hk.1.1.2.2 | exact hk.1.2.1.1 | exact hk.1.2.1.2 | exact hk.1.2.2.1 | exact hk.1.2.2.2 | exact hk.2.1.1.1 | exact hk.2.1.1.2 | exact hk.2.1.2.1 | exact hk.2.1.2.2 | exact hk.2.2.1.1 | exact hk.2.2.1.2 | exact hk.2.2.2.1 | exact hk.2.2.2.2))) (Kd.N_typed (by (with_reducible repeat (first | apply Kd.N_alloc | apply Kd.N_drewN | apply Kd.N_drew)); first | exact HO_9.out | exact Kd.N_mono HO_9.out (fun _ hk => by first | exact hk | ((repeat' apply And.intro) <;> first | exact trivial | exact hk | exact hk.1 | exact hk.2 | exact hk.1.1 | exact hk.1.2 | exact hk.2.1 | exact hk.2.2 | exact hk.1.1.1 | exact hk.1.1.2 | exact hk.1.2.1 | exact hk.1.2.2 | exact hk.2.1.1 | exact hk.2.1.2 | exact hk.2.2.1 | exact hk.2.2.2 | exact hk.1.1.1.1 | exact hk.1.1.1.2 | exact hk.1.1.2.1 | exact hk.1.1.2.2 | exact hk.1.2.1.1 | exact hk.1.2.1.2 | exact hk.1.2.2.1 | exact hk.1.2.2.2 | exact hk.2.1.1.1 | exact hk.2.1.1.2 | exact hk.2.1.2.1 | exact hk.2.1.2.2 | exact hk.2.2.1.1 | exact hk.2.2.1.2 | exact hk.2.2.2.1 | exact hk.2.2.2.2)))) (by decide) hg); have n1_ := Az_ (NEl_afterv (ok := (fun k_ => some k_ ≠ (.slice (some ⟨go20, 0, none⟩) x3_6.length co7 : Value).ownBlock ∧ some k_ ≠ (.slice Ao41 t244.length co41 : Value).ownBlock)) (by (with_reducible repeat (first | apply NEl_alloc | apply NEl_drewN | apply NEl_drew)); exact NEl_mono HO_48.out (fun _ hk => by first | exact ⟨⟨hk.2, hk.1.2⟩, hk.1.1⟩ | ((repeat' apply And.intro) <;> first | exact hk | exact hk.1 | exact hk.2 | exact hk.1.1 | exact hk.1.2 | exact hk.2.1 | exact hk.2.2 | exact hk.1.1.1 | exact hk.1.1.2 | exact hk.1.2.1 | exact hk.1.2.2 | exact hk.2.1.1 | exact hk.2.1.2 | exact hk.2.2.1 | exact hk.2.2.2 | exact hk.1.1.1.1 | exact hk.1.1.1.2 | exact hk.1.1.2.1 | exact hk.1.1.2.2 | exact hk.1.2.1.1 | exact hk.1.2.1.2 | exact hk.1.2.2.1 | exact hk.1.2.2.2 | exact hk.2.1.1.1 | exact hk.2.1.1.2 | exact hk.2.1.2.1 | exact hk.2.1.2.2 | exact hk.2.2.1.1 | exact hk.2.2.1.2 | exact hk.2.2.2.1 | exact hk.2.2.2.2))) hg hat); have n2_ := Az_ (hb); have n3_ := Az_ (ho); clear HO_3; clear HO_48; clear HB; clear HO_9; clear HO246; have HO_3 := n0_; have HO_48 := n1_; have HB := n2_; have HO252 := n3_; clear n0_ n1_ n2_ n3_; clear ho hb hg hat))
                             (try simp only [← hl3_6])
                             go_roundg k6
                             case measure => have := HK1.out; have := HK2.out; have := HK3.out; have := HK4.out; have := HK5.out; have := HK6.out; omega
                             case rel => exact ⟨(y249), (y250), (wrap64 (x13_6 + 1)), qaz_, H', ⟨by have := HK1.out; have := HK2.out; have := HK3.out; have := HK4.out; have := HK5.out; have := HK6.out; omega⟩, ⟨by (try simp only [hl3_1]); (try simp only [hl3_3]); (try simp only [hl3_4]); (try simp only [hl3_5]); (try simp only [hl3_6]); (with_reducible repeat (first | apply raz_ | apply rnz_ | apply rdz_)); exact Kd.R_mono HO_3.out (fun _ hk => trivial)⟩, ⟨by (try simp only [hl3_1]); (try simp only [hl3_3]); (try simp only [hl3_4]); (try simp only [hl3_5]); (try simp only [hl3_6]); (with_reducible repeat (first | apply Kd.N_alloc | apply Kd.N_drewN | apply Kd.N_drew)); exact HO252.out⟩, ⟨by (try simp only [hl3_1]); (try simp only [hl3_3]); (try simp only [hl3_4]); (try simp only [hl3_5]); (try simp only [hl3_6]); (with_reducible repeat (first | apply NEl_alloc | apply NEl_drewN | apply NEl_drew)); exact NEl_mono HO_48.out (fun _ hk => ⟨hk.1.1, hk.2⟩)⟩, ⟨by exact ubz_ HB.out⟩⟩
                            ·rw [if_neg c39] at H
                             exact absurd H (by simp)
                           ·rw [if_neg c37] at H
                            have c37b0 := decide_eq_false c37
                            clear c37
                            have H' := Az_ H
                            clear H
                            go_wp2_with (first | ((with_reducible refine gate_callee (f := 81) rfl ?_); refine goesL_ (some 68) rfl rfl Try.func81 (by kernel_rfl) rfl #[.slice A243_0 (rd_L2 x7_3 x50_4).length c243_0, .int .i64 x12_5, .int .i64 x13_6] rfl maz_ ?_; (with_reducible refine (spec_biTurn.calls k6 _ _ (rd_L2 x7_3 x50_4) x12_5 x13_6 t244 _ ?side1 ?side2 A33.out).mono ?_); (case side1 => exact ucz_ ((Kd.F_now HO_48.out.2))); (case side2 => exact HC243_0.out); rintro e w45 ⟨v245, rfl, ho0, hb⟩; refine ⟨_, rfl, ?_⟩; have n0_ := Az_ (rez_ (by exact urz_ HO_3.out) (Kd.R_base ho0) hb); have n1_ := Az_ (Kd.N_elder' (by (with_reducible repeat (first | apply Kd.N_alloc | apply Kd.N_drewN | apply Kd.N_drew)); exact HO_9.out) (Kd.R_base ho0) hb); have n2_ := Az_ (NEl_elder' (by (with_reducible repeat (first | apply NEl_alloc | apply NEl_drewN | apply NEl_drew)); exact HO_48.out) (Kd.R_base ho0) hb); have n3_ := Az_ (Kd.R_lower (Kd.R_new' ho0 (Kd.R_lt (by exact urz_ HO_3.out))) (below_size (ubz_ HB.out))); have n4_ := Az_ (btz_ (ubz_ HB.out) hb); clear HO_3; clear HO_9; clear HO_48; clear HB; have HO_3 := n0_; have HO_9 := n1_; have HO_48 := n2_; have HO246 := n3_; have HB := n4_; clear n0_ n1_ n2_ n3_ n4_; (try clear hb); (try clear hb2); (try clear hk); (try clear hi); (try clear ho0); obtain ⟨Ao46, co46, eo46⟩ := Kd.R_slice HO246.out; subst eo46) | ((with_reducible refine gate_callee (f := 80) rfl ?_); refine goesL_ (some 70) rfl rfl Try.func80 (by kernel_rfl) rfl #[.slice Ao46 t244.length co46] rfl maz_ ?_; (with_reducible refine (spec_biRank.calls k6 _ _ t244 t247 _ ?side1 ?side2 A34.out).mono ?_); (case side1 => exact ucz_ ((Kd.R_reads' HO246.out).2.2)); (case side2 => exact (Kd.R_reads' HO246.out).2.1); rintro e w' ⟨rfl, ⟨nd, rfl⟩⟩; refine ⟨_, rfl, ?_⟩; have p248 : 0 ≤ (t247 : Int) := of_decide_eq_true asz_; have q248 : t247 < (x3_6.length : Int) := of_decide_eq_true asz_; obtain ⟨ad248, e248, hx248_0⟩ := Kd.at_int (Kd.R_reads' HO_3.out).2.2 t247 p248 q248; obtain rfl : (⟨go20, 0, none⟩ : Addr) = ad248 := (by injection e248); (first | simp only [add_plain] at hx248_0 | simp only [add_at] at hx248_0 | simp only [Addr.add, Nat.zero_add] at hx248_0 | skip); replace p248 := eq_true p248; replace q248 := eq_true q248))
                            (try simp only [← hl3_6])
                            go_roundg k6
                            case measure => have := HK1.out; have := HK2.out; have := HK3.out; have := HK4.out; have := HK5.out; have := HK6.out; omega
                            case rel => exact ⟨(x3_6), (x9_6), (wrap64 (x13_6 + 1)), qaz_, H', ⟨by have := HK1.out; have := HK2.out; have := HK3.out; have := HK4.out; have := HK5.out; have := HK6.out; omega⟩, ⟨by (try simp only [hl3_1]); (try simp only [hl3_3]); (try simp only [hl3_4]); (try simp only [hl3_5]); (try simp only [hl3_6]); (with_reducible repeat (first | apply raz_ | apply rnz_ | apply rdz_)); exact Kd.R_mono HO_3.out (fun _ hk => trivial)⟩, ⟨by (try simp only [hl3_1]); (try simp only [hl3_3]); (try simp only [hl3_4]); (try simp only [hl3_5]); (try simp only [hl3_6]); (with_reducible repeat (first | apply Kd.N_alloc | apply Kd.N_drewN | apply Kd.N_drew)); exact Kd.N_mono HO_9.out (fun _ hk => ⟨hk.1.1, hk.1.2⟩)⟩, ⟨by (try simp only [hl3_1]); (try simp only [hl3_3]); (try simp only [hl3_4]); (try simp only [hl3_5]); (try simp only [hl3_6]); (with_reducible repeat (first | apply NEl_alloc | apply NEl_drewN | apply NEl_drew)); exact NEl_mono HO_48.out (fun _ hk => ⟨hk.1.1, hk.1.2⟩)⟩, ⟨by exact ubz_ HB.out⟩⟩
                          ·rw [if_neg c36] at H
                           exact absurd H (by simp)
                         ·rw [if_neg c35] at H
                          exact absurd H (by simp)
                        ·rw [if_neg c32] at H
                         have c32b0 := decide_eq_false c32
                         clear c32
                         have H' := Az_ H
                         clear H
                         go_wp2
                         (try simp only [← hl3_5, ← hl3_6])
                         go_roundg k6
                         case measure => have := HK1.out; have := HK2.out; have := HK3.out; have := HK4.out; have := HK5.out; have := HK6.out; omega
                         case rel => exact ⟨(x3_6), (x9_6), (wrap64 (x12_5 + 1)), qaz_, H', ⟨by have := HK1.out; have := HK2.out; have := HK3.out; have := HK4.out; have := HK5.out; have := HK6.out; omega⟩, ⟨by (try simp only [hl3_1]); (try simp only [hl3_3]); (try simp only [hl3_4]); (try simp only [hl3_5]); (try simp only [hl3_6]); (with_reducible repeat (first | apply raz_ | apply rnz_ | apply rdz_)); exact HO_3.out⟩, ⟨by (try simp only [hl3_1]); (try simp only [hl3_3]); (try simp only [hl3_4]); (try simp only [hl3_5]); (try simp only [hl3_6]); (with_reducible repeat (first | apply Kd.N_alloc | apply Kd.N_drewN | apply Kd.N_drew)); exact HO_9.out⟩, ⟨by (try simp only [hl3_1]); (try simp only [hl3_3]); (try simp only [hl3_4]); (try simp only [hl3_5]); (try simp only [hl3_6]); (with_reducible repeat (first | apply NEl_alloc | apply NEl_drewN | apply NEl_drew)); exact HO_48.out⟩, ⟨by exact ubz_ HB.out⟩⟩
                     ·rw [if_neg c31] at H
                      have c31b0 := decide_eq_false c31
                      clear c31
                      have H' := Az_ H
                      clear H
                      go_wp2
                      (try simp only [← hl3_4, ← hl3_5])
                      go_roundg k5
                      case measure => have := HK1.out; have := HK2.out; have := HK3.out; have := HK4.out; have := HK5.out; omega
                      case rel => exact ⟨(x3_5), (x9_5), (wrap64 (x50_4 + 1)), qaz_, H', ⟨by have := HK1.out; have := HK2.out; have := HK3.out; have := HK4.out; have := HK5.out; omega⟩, ⟨by (try simp only [hl3_1]); (try simp only [hl3_3]); (try simp only [hl3_4]); (try simp only [hl3_5]); (with_reducible repeat (first | apply raz_ | apply rnz_ | apply rdz_)); exact HO_3.out⟩, ⟨by (try simp only [hl3_1]); (try simp only [hl3_3]); (try simp only [hl3_4]); (try simp only [hl3_5]); (with_reducible repeat (first | apply Kd.N_alloc | apply Kd.N_drewN | apply Kd.N_drew)); exact HO_9.out⟩, ⟨by (try simp only [hl3_1]); (try simp only [hl3_3]); (try simp only [hl3_4]); (try simp only [hl3_5]); exact HO_48.out.1⟩, ⟨by exact ubz_ HB.out⟩⟩
                  ·rw [if_neg c30] at H
                   exact absurd H (by simp)
                 ·rw [if_neg c29] at H
                  exact absurd H (by simp)
                ·rw [if_neg c28] at H
                 have c28b0 := decide_eq_false c28
                 clear c28
                 have H' := Az_ H
                 clear H
                 go_wp2
                 (try simp only [← hl3_3, ← hl3_4])
                 go_roundg k4
                 case measure => have := HK1.out; have := HK2.out; have := HK3.out; have := HK4.out; omega
                 case rel => exact ⟨(x3_4), (x9_4), (wrap64 (x8_3 + 1)), qaz_, H', ⟨by have := HK1.out; have := HK2.out; have := HK3.out; have := HK4.out; omega⟩, ⟨by (try simp only [hl3_1]); (try simp only [hl3_3]); (try simp only [hl3_4]); (with_reducible repeat (first | apply raz_ | apply rnz_ | apply rdz_)); exact HO_3.out⟩, ⟨by (try simp only [hl3_1]); (try simp only [hl3_3]); (try simp only [hl3_4]); (with_reducible repeat (first | apply Kd.N_alloc | apply Kd.N_drewN | apply Kd.N_drew)); exact Kd.N_mono HO_9.out (fun _ hk => hk.1)⟩, ⟨by exact ubz_ HB.out⟩⟩
             ·rw [if_neg c26] at H
              have c26b0 := decide_eq_false c26
              have c26b1 : decide (0 < x7_3.length) = false := decide_eq_false (by omega)
              clear c26
              obtain rfl := Option.some.inj H
              obtain ⟨Ao47, co47, eo47⟩ := Kd.N_slice HO_7.out
              subst eo47
              go_wp2
              go_ret
              exact ⟨_, by first | rfl | (simp [errW_none, errW_some] <;> rfl) | (simp [*, errW_none, errW_some] <;> rfl), by (with_reducible repeat (first | apply raz_ | apply rnz_ | apply rdz_)); exact HO_3.out, by exact ubz_ HB.out⟩
          ·rw [if_neg c19] at H
           exact absurd H (by simp)
         ·rw [if_neg c18] at H
          exact absurd H (by simp)
  ·rw [if_neg c4] at H
   exact absurd H (by simp)
 ·rw [if_neg c3] at H
  exact absurd H (by simp)

end Go.Proofs.Ytppbpefehpbejaa.P
end

section
namespace Go.Proofs.Ytppbpefehpbejaa.P
open Go.RowKit Go.Proofs.YtppbpefehpbejaaW.PrintWords Go.Proofs.YtppbpefehpbejaaW.PrintLast Go.Proofs.YtppbpefehpbejaaW.PrintMore
attribute [local go_sem] max2_int min2_int max_two min_two max_three min_three max_four min_four   -- for this text's walks alone
set_option linter.unusedVariables false
set_option linter.unusedSimpArgs false

/-! ### spec_FirstTurns: function 32 -/
mutual
def spec_FirstTurns.l0 : Nat → List Int → List Int → List (List Int) → Option ((List (List Int)) × Bool)
 | 0, _, _, _ => none
 | k + 1, x0, x4, x5 => (spec_biRank.f k x0).bind fun t257 => (if 0 ≤ t257 then (if t257 < (x4.length : Int) then (if (rd x4 t257) > 0 then (spec_FirstTurns.l1 k x0 x4 x5 0) else (some (x5, true))) else (none)) else (none))
def spec_FirstTurns.l1 : Nat → List Int → List Int → List (List Int) → Int → Option ((List (List Int)) × Bool)
 | 0, _, _, _, _ => none
 | k + 1, x0, x4, x5, x6 => if x6 < (wrap64 ((x0.length : Int) * (x0.length : Int))) then (if (x0.length : Int) = 0 then (none) else (if (Int.tmod x6 (x0.length : Int)) < (wrap64 (Int.tdiv x6 (x0.length : Int))) then (spec_FirstTurns.l1 k x0 x4 x5 (wrap64 (x6 + 1))) else ((spec_biTurn.f k x0 (wrap64 (Int.tdiv x6 (x0.length : Int))) (Int.tmod x6 (x0.length : Int))).bind fun t259 => ((spec_biRank.f k t259).bind fun t262 => (if 0 ≤ t262 then (if t262 < (x4.length : Int) then ((spec_biRank.f k x0).bind fun t264 => (if 0 ≤ t264 then (if t264 < (x4.length : Int) then (if (rd x4 t262) < (rd x4 t264) then (if x5.length < 5864062014805 then (spec_FirstTurns.l0 k t259 x4 (x5 ++ [(([wrap64 (Int.tdiv x6 (x0.length : Int)), Int.tmod x6 (x0.length : Int)] : List Int))])) else (none)) else (spec_FirstTurns.l1 k x0 x4 x5 (wrap64 (x6 + 1)))) else (none)) else (none))) else (none)) else (none)))))) else (spec_FirstTurns.l0 k x0 x4 x5)
end
def spec_FirstTurns.f (k : Nat) (l0 : List Int) : Option ((List (List Int)) × Bool) := (spec_biFew.f k l0).bind fun t253 => (if t253 = true then ((spec_biFar.f k (l0.length : Int)).bind fun t254 => (spec_FirstTurns.l0 k l0 t254 ([] : List (List Int)))) else (some (([] : List (List Int)), false)))
set_option maxHeartbeats 8000000 in
set_option maxRecDepth 100000 in
theorem spec_FirstTurns.calls (k : Nat) (P0_ : Nat → Prop) (A0 : Option Addr) (c0 : Nat) (l0 : List Int) (r1 : List (List Int)) (r2 : Bool) (w : World) (hs0 : Kd.V (Kd.int .i64) 3 w w.heap.size (fun k_ => P0_ k_) (.slice A0 l0.length c0) l0) (h : spec_FirstTurns.f k l0 = some (r1, r2)) :
  Calls Try.prog 32 #[.slice A0 l0.length c0] w fun e w' => ∃ v0_ : Value, e = .returned (.tuple #[v0_, .bool r2]) ∧ Kd.S (Kd.slice 3 (Kd.int .i64)) 24 w' w.heap.size (fun k_ => (w.heap.size ≤ k_)) v0_ r1 ∧ Below w.heap.size w w' := by
 have HO0 := Az_ (show Kd.V (Kd.int .i64) 3 w w.heap.size (fun k_ => (P0_ k_ ∨ w.heap.size ≤ k_)) (.slice A0 l0.length c0) l0 from Kd.V_mono hs0 (fun k_ hk => .inl hk))
 have HB := Az_ (Below.refl w.heap.size w)
 have H : ((spec_biFew.f k l0).bind fun t253 => (if t253 = true then ((spec_biFar.f k (l0.length : Int)).bind fun t254 => (spec_FirstTurns.l0 k l0 t254 ([] : List (List Int)))) else (some (([] : List (List Int)), false)))) = some (r1, r2) := h
 clear h
 replace H := Option.bind_eq_some_iff.mp H
 obtain ⟨t253, A20, H⟩ := H
 replace H : (if t253 = true then ((spec_biFar.f k (l0.length : Int)).bind fun t254 => (spec_FirstTurns.l0 k l0 t254 ([] : List (List Int)))) else (some (([] : List (List Int)), false))) = some (r1, r2) := H
 have A2 := Az_ A20
 clear A20
 by_cases c3 : t253 = true
 ·subst c3
  have H1 : ((spec_biFar.f k (l0.length : Int)).bind fun t254 => (spec_FirstTurns.l0 k l0 t254 ([] : List (List Int)))) = some (r1, r2) := by rw [if_pos rfl] at H; exact H
  clear H
  have H := H1
  clear H1
  replace H := Option.bind_eq_some_iff.mp H
  obtain ⟨t254, A40, H⟩ := H
  replace H : (spec_FirstTurns.l0 k l0 t254 ([] : List (List Int))) = some (r1, r2) := H
  have A4 := Az_ A40
  clear A40
  have H' := Az_ H
  clear H
  go_enter Try.func32, Try.ntmps32
  go_wp2_with (first | (go_at_call 78; (with_reducible refine (spec_biFew.calls k _ _ l0 true _ ?side1 ?side2 A2.out).mono ?_); (case side1 => exact ucz_ ((Kd.V_reads' HO0.out).2.2)); (case side2 => exact (Kd.V_reads' HO0.out).2.1); rintro e w' ⟨rfl, ⟨nd, rfl⟩⟩; (try first | exact ⟨rfl, _, World.drewN_drewN _ _ _⟩ | exact ⟨rfl, _, Eq.trans (World.drewN_drewN _ _ _) (congrArg (World.drewN _) (Nat.add_assoc _ _ _))⟩)) | (go_at_call 79; (with_reducible refine (spec_biFar.calls k (l0.length : Int) t254 _ A4.out).mono ?_); rintro e w5 ⟨v255, rfl, ho0, hb⟩; have n0_ := Az_ (Kd.V_elder' (by (with_reducible repeat (first | apply Kd.V_alloc | apply Kd.V_drewN | apply Kd.V_drew)); exact HO0.out) (Kd.R_base ho0) hb); have n1_ := Az_ (Kd.R_lower (Kd.R_newM (M := fun k_ => (w.heap.size ≤ k_)) ho0 (below_size (ubz_ HB.out)) (fun k_ h_ => h_)) (below_size (ubz_ HB.out))); have n2_ := Az_ (btz_ (ubz_ HB.out) hb); clear HO0; clear HB; have HO0 := n0_; have HO256 := n1_; have HB := n2_; clear n0_ n1_ n2_; (try clear hb); (try clear hb2); (try clear hk); (try clear hi); (try clear ho0)))
  repeat (go_quiet (first | (go_at_call 78; (with_reducible refine (spec_biFew.calls k _ _ l0 true _ ?side1 ?side2 A2.out).mono ?_); (case side1 => exact ucz_ ((Kd.V_reads' HO0.out).2.2)); (case side2 => exact (Kd.V_reads' HO0.out).2.1); rintro e w' ⟨rfl, ⟨nd, rfl⟩⟩; (try first | exact ⟨rfl, _, World.drewN_drewN _ _ _⟩ | exact ⟨rfl, _, Eq.trans (World.drewN_drewN _ _ _) (congrArg (World.drewN _) (Nat.add_assoc _ _ _))⟩)) | (go_at_call 79; (with_reducible refine (spec_biFar.calls k (l0.length : Int) t254 _ A4.out).mono ?_); rintro e w5 ⟨v255, rfl, ho0, hb⟩; have n0_ := Az_ (Kd.V_elder' (by (with_reducible repeat (first | apply Kd.V_alloc | apply Kd.V_drewN | apply Kd.V_drew)); exact HO0.out) (Kd.R_base ho0) hb); have n1_ := Az_ (Kd.R_lower (Kd.R_newM (M := fun k_ => (w.heap.size ≤ k_)) ho0 (below_size (ubz_ HB.out)) (fun k_ h_ => h_)) (below_size (ubz_ HB.out))); have n2_ := Az_ (btz_ (ubz_ HB.out) hb); clear HO0; clear HB; have HO0 := n0_; have HO256 := n1_; have HB := n2_; clear n0_ n1_ n2_; (try clear hb); (try clear hb2); (try clear hk); (try clear hi); (try clear ho0))); try go_wp2_with (first | (go_at_call 78; (with_reducible refine (spec_biFew.calls k _ _ l0 true _ ?side1 ?side2 A2.out).mono ?_); (case side1 => exact ucz_ ((Kd.V_reads' HO0.out).2.2)); (case side2 => exact (Kd.V_reads' HO0.out).2.1); rintro e w' ⟨rfl, ⟨nd, rfl⟩⟩; (try first | exact ⟨rfl, _, World.drewN_drewN _ _ _⟩ | exact ⟨rfl, _, Eq.trans (World.drewN_drewN _ _ _) (congrArg (World.drewN _) (Nat.add_assoc _ _ _))⟩)) | (go_at_call 79; (with_reducible refine (spec_biFar.calls k (l0.length : Int) t254 _ A4.out).mono ?_); rintro e w5 ⟨v255, rfl, ho0, hb⟩; have n0_ := Az_ (Kd.V_elder' (by (with_reducible repeat (first | apply Kd.V_alloc | apply Kd.V_drewN | apply Kd.V_drew)); exact HO0.out) (Kd.R_base ho0) hb); have n1_ := Az_ (Kd.R_lower (Kd.R_newM (M := fun k_ => (w.heap.size ≤ k_)) ho0 (below_size (ubz_ HB.out)) (fun k_ h_ => h_)) (below_size (ubz_ HB.out))); have n2_ := Az_ (btz_ (ubz_ HB.out) hb); clear HO0; clear HB; have HO0 := n0_; have HO256 := n1_; have HB := n2_; clear n0_ n1_ n2_; (try clear hb); (try clear hb2); (try clear hk); (try clear hi); (try clear ho0))))
  go_loopg [0, 5] k (fun kq v0 v5 w' => ∃ (x0_1 : List Int) (x5_1 : List (List Int)), Aside0 (spec_FirstTurns.l0 kq x0_1 t254 x5_1 = some (r1, r2)) ∧ Aside0 (kq ≤ k) ∧ Aside0 (Kd.V (Kd.int .i64) 3 w' w.heap.size (fun k_ => (P0_ k_ ∨ w.heap.size ≤ k_) ∧ some k_ ≠ (v255 : Value).ownBlock ∧ some k_ ≠ (v5 : Value).ownBlock) v0 x0_1) ∧ Aside0 (Kd.R (Kd.int .i64) 3 w' w.heap.size (fun k_ => (w.heap.size ≤ k_)) v255 t254) ∧ Aside0 (Kd.S (Kd.slice 3 (Kd.int .i64)) 24 w' w.heap.size (fun k_ => (w.heap.size ≤ k_) ∧ some k_ ≠ (v255 : Value).ownBlock) v5 x5_1) ∧ Aside0 (Below w.heap.size w w'))
  case atStart => exact ⟨(l0), (([] : List (List Int))), H', ⟨Nat.le_refl _⟩, ⟨by (with_reducible repeat (first | apply Kd.V_alloc | apply Kd.V_drewN | apply Kd.V_drew)); exact Kd.V_mono HO0.out (fun _ hk => ⟨hk.1, ⟨hk.2, (by simp [Value.ownBlock])⟩⟩)⟩, ⟨by (with_reducible repeat (first | apply raz_ | apply rnz_ | apply rdz_)); exact Kd.R_mono HO256.out (fun _ hk => hk.1)⟩, ⟨by first | exact Kd.S_nil _ _ _ _ _ | exact Kd.N_nil _ _ _ _ _ | exact Kd.V_nil _ _ _ _ _ | exact Kd.Q_nil _ _ _ _ _ | exact Kd.R_nil _ _ _ _ _⟩, ⟨by exact ubz_ HB.out⟩⟩
  case round =>
   clear H'
   (try clear p2); (try clear c3)
   obtain ⟨x0_1, x5_1, HA, HK1, HO_0, HO_4, HO_5, HB⟩ := hrel
   cases gk with
   | zero => exact absurd HA.out (by simp [spec_FirstTurns.l0])
   | succ k1 =>
    have H := HA.out
    clear HA
    simp only [spec_FirstTurns.l0] at H
    replace H := Option.bind_eq_some_iff.mp H
    obtain ⟨t257, A60, H⟩ := H
    replace H : (if 0 ≤ t257 then (if t257 < (t254.length : Int) then (if (rd t254 t257) > 0 then (spec_FirstTurns.l1 k1 x0_1 t254 x5_1 0) else (some (x5_1, true))) else (none)) else (none)) = some (r1, r2) := H
    have A6 := Az_ A60
    clear A60
    by_cases c7 : 0 ≤ t257
    ·rw [if_pos c7] at H
     have c7b0 := decide_eq_true c7
     clear c7
     by_cases c8 : t257 < (t254.length : Int)
     ·rw [if_pos c8] at H
      have c8b0 := decide_eq_true c8
      clear c8
      by_cases c9 : (rd t254 t257) > 0
      ·rw [if_pos c9] at H
       have c9b0 := decide_eq_true c9
       clear c9
       have H' := Az_ H
       clear H
       obtain ⟨Ao10, co10, eo10⟩ := Kd.V_slice HO_0.out
       subst eo10
       go_wp2_with (first | (go_at_call 80; (with_reducible refine (spec_biRank.calls k1 _ _ x0_1 t257 _ ?side1 ?side2 A6.out).mono ?_); (case side1 => exact ucz_ ((Kd.V_reads' HO_0.out).2.2)); (case side2 => exact (Kd.V_reads' HO_0.out).2.1); rintro e w' ⟨rfl, ⟨nd, rfl⟩⟩; (try first | exact ⟨rfl, _, World.drewN_drewN _ _ _⟩ | exact ⟨rfl, _, Eq.trans (World.drewN_drewN _ _ _) (congrArg (World.drewN _) (Nat.add_assoc _ _ _))⟩); obtain ⟨Ao11, co11, eo11⟩ := Kd.R_slice HO_4.out; subst eo11; have p258 : 0 ≤ (t257 : Int) := of_decide_eq_true asz_; have q258 : t257 < (t254.length : Int) := of_decide_eq_true asz_; obtain ⟨ad258, e258, hx258_0⟩ := Kd.at_int (Kd.R_reads' HO_4.out).2.2 t257 p258 q258; cases e258; replace p258 := eq_true p258; replace q258 := eq_true q258))
       repeat (go_quiet (first | (go_at_call 80; (with_reducible refine (spec_biRank.calls k1 _ _ x0_1 t257 _ ?side1 ?side2 A6.out).mono ?_); (case side1 => exact ucz_ ((Kd.V_reads' HO_0.out).2.2)); (case side2 => exact (Kd.V_reads' HO_0.out).2.1); rintro e w' ⟨rfl, ⟨nd, rfl⟩⟩; (try first | exact ⟨rfl, _, World.drewN_drewN _ _ _⟩ | exact ⟨rfl, _, Eq.trans (World.drewN_drewN _ _ _) (congrArg (World.drewN _) (Nat.add_assoc _ _ _))⟩); obtain ⟨Ao11, co11, eo11⟩ := Kd.R_slice HO_4.out; subst eo11; have p258 : 0 ≤ (t257 : Int) := of_decide_eq_true asz_; have q258 : t257 < (t254.length : Int) := of_decide_eq_true asz_; obtain ⟨ad258, e258, hx258_0⟩ := Kd.at_int (Kd.R_reads' HO_4.out).2.2 t257 p258 q258; cases e258; replace p258 := eq_true p258; replace q258 := eq_true q258)); try go_wp2_with (first | (go_at_call 80; (with_reducible refine (spec_biRank.calls k1 _ _ x0_1 t257 _ ?side1 ?side2 A6.out).mono ?_); (case side1 => exact ucz_ ((Kd.V_reads' HO_0.out).2.2)); (case side2 => exact (Kd.V_reads' HO_0.out).2.1); rintro e w' ⟨rfl, ⟨nd, rfl⟩⟩; (try first | exact ⟨rfl, _, World.drewN_drewN _ _ _⟩ | exact ⟨rfl, _, Eq.trans (World.drewN_drewN _ _ _) (congrArg (World.drewN _) (Nat.add_assoc _ _ _))⟩); obtain ⟨Ao11, co11, eo11⟩ := Kd.R_slice HO_4.out; subst eo11; have p258 : 0 ≤ (t257 : Int) := of_decide_eq_true asz_; have q258 : t257 < (t254.length : Int) := of_decide_eq_true asz_; obtain ⟨ad258, e258, hx258_0⟩ := Kd.at_int (Kd.R_reads' HO_4.out).2.2 t257 p258 q258; cases e258; replace p258 := eq_true p258; replace q258 := eq_true q258)))
       go_loopg [0, 5, 6] k1 (fun kq v0 v5 v6 w' => ∃ (x0_2 : List Int) (x5_2 : List (List Int)) (x6_2 : Int), v6 = .int .i64 x6_2 ∧ Aside0 (spec_FirstTurns.l1 kq x0_2 t254 x5_2 x6_2 = some (r1, r2)) ∧ Aside0 (kq ≤ k1) ∧ Aside0 (Kd.V (Kd.int .i64) 3 w' w.heap.size (fun k_ => (P0_ k_ ∨ w.heap.size ≤ k_) ∧ some k_ ≠ ((.slice (some ad258) t254.length co11) : Value).ownBlock ∧ some k_ ≠ (v5 : Value).ownBlock) v0 x0_2) ∧ Aside0 (Kd.R (Kd.int .i64) 3 w' w.heap.size (fun k_ => (w.heap.size ≤ k_)) (.slice (some ad258) t254.length co11) t254) ∧ Aside0 (Kd.S (Kd.slice 3 (Kd.int .i64)) 24 w' w.heap.size (fun k_ => (w.heap.size ≤ k_) ∧ some k_ ≠ ((.slice (some ad258) t254.length co11) : Value).ownBlock) v5 x5_2) ∧ Aside0 (Below w.heap.size w w'))
       case atStart => exact ⟨(x0_1), (x5_1), (0), qaz_, H', ⟨Nat.le_refl _⟩, ⟨by (with_reducible repeat (first | apply Kd.V_alloc | apply Kd.V_drewN | apply Kd.V_drew)); exact HO_0.out⟩, ⟨by (with_reducible repeat (first | apply raz_ | apply rnz_ | apply rdz_)); exact HO_4.out⟩, ⟨by (with_reducible repeat (first | apply Kd.S_alloc | apply Kd.S_drewN | apply Kd.S_drew)); exact HO_5.out⟩, ⟨by exact ubz_ HB.out⟩⟩
       case round =>
        clear H'
        (try clear p2); (try clear q2); (try clear hx2); (try clear c3); (try clear c7); (try clear c7b0); (try clear c8); (try clear c8b0); (try clear c9); (try clear c9b0); (try clear hx258_0); (try clear p2); (try clear p258); (try clear q258)
        obtain ⟨x0_2, x5_2, x6_2, rfl, HA, HK2, HO_0, HO_4, HO_5, HB⟩ := hrel
        cases gk with
        | zero => exact absurd HA.out (by simp [spec_FirstTurns.l1])
        | succ k2 =>
         have H := HA.out
         clear HA
         simp only [spec_FirstTurns.l1] at H
         by_cases c12 : x6_2 < (wrap64 ((x0_2.length : Int) * (x0_2.length : Int)))
         ·rw [if_pos c12] at H
          have c12b0 := decide_eq_true c12
          clear c12
          by_cases c13 : (x0_2.length : Int) = 0
          ·rw [if_pos c13] at H
           exact absurd H (by simp)
          ·rw [if_neg c13] at H
           have c13b0 : ((x0_2.length : Int) == 0) = false := beq_eq_false_iff_ne.mpr c13
           have c13b1 : ((x0_2.length : Int) != 0) = true := bne_iff_ne.mpr c13
           have c13b2 : ¬ (x0_2 = []) := fun h_ => c13 (by rw [h_]; rfl)
           by_cases c14 : (Int.tmod x6_2 (x0_2.length : Int)) < (wrap64 (Int.tdiv x6_2 (x0_2.length : Int)))
           ·rw [if_pos c14] at H
            have c14b0 := decide_eq_true c14
            clear c14
            have H' := Az_ H
            clear H
            obtain ⟨Ao15, co15, eo15⟩ := Kd.V_slice HO_0.out
            subst eo15
            go_wp2
            repeat (go_quiet (fail); try go_wp2)
            go_roundg k2
            case measure => have := HK1.out; have := HK2.out; omega
            case rel => exact ⟨(x0_2), (x5_2), (wrap64 (x6_2 + 1)), qaz_, H', ⟨by have := HK1.out; have := HK2.out; omega⟩, ⟨by (with_reducible repeat (first | apply Kd.V_alloc | apply Kd.V_drewN | apply Kd.V_drew)); exact HO_0.out⟩, ⟨by (with_reducible repeat (first | apply raz_ | apply rnz_ | apply rdz_)); exact HO_4.out⟩, ⟨by (with_reducible repeat (first | apply Kd.S_alloc | apply Kd.S_drewN | apply Kd.S_drew)); exact HO_5.out⟩, ⟨by exact ubz_ HB.out⟩⟩
           ·rw [if_neg c14] at H
            have c14b0 := decide_eq_false c14
            clear c14
            replace H := Option.bind_eq_some_iff.mp H
            obtain ⟨t259, A160, H⟩ := H
            replace H : ((spec_biRank.f k2 t259).bind fun t262 => (if 0 ≤ t262 then (if t262 < (t254.length : Int) then ((spec_biRank.f k2 x0_2).bind fun t264 => (if 0 ≤ t264 then (if t264 < (t254.length : Int) then (if (rd t254 t262) < (rd t254 t264) then (if x5_2.length < 5864062014805 then (spec_FirstTurns.l0 k2 t259 t254 (x5_2 ++ [(([wrap64 (Int.tdiv x6_2 (x0_2.length : Int)), Int.tmod x6_2 (x0_2.length : Int)] : List Int))])) else (none)) else (spec_FirstTurns.l1 k2 x0_2 t254 x5_2 (wrap64 (x6_2 + 1)))) else (none)) else (none))) else (none)) else (none))) = some (r1, r2) := H
            have A16 := Az_ A160
            clear A160
            replace H := Option.bind_eq_some_iff.mp H
            obtain ⟨t262, A170, H⟩ := H
            replace H : (if 0 ≤ t262 then (if t262 < (t254.length : Int) then ((spec_biRank.f k2 x0_2).bind fun t264 => (if 0 ≤ t264 then (if t264 < (t254.length : Int) then (if (rd t254 t262) < (rd t254 t264) then (if x5_2.length < 5864062014805 then (spec_FirstTurns.l0 k2 t259 t254 (x5_2 ++ [(([wrap64 (Int.tdiv x6_2 (x0_2.length : Int)), Int.tmod x6_2 (x0_2.length : Int)] : List Int))])) else (none)) else (spec_FirstTurns.l1 k2 x0_2 t254 x5_2 (wrap64 (x6_2 + 1)))) else (none)) else (none))) else (none)) else (none)) = some (r1, r2) := H
            have A17 := Az_ A170
            clear A170
            by_cases c18 : 0 ≤ t262
            ·rw [if_pos c18] at H
             have c18b0 := decide_eq_true c18
             clear c18
             by_cases c19 : t262 < (t254.length : Int)
             ·rw [if_pos c19] at H
              have c19b0 := decide_eq_true c19
              clear c19
              replace H := Option.bind_eq_some_iff.mp H
              obtain ⟨t264, A200, H⟩ := H
              replace H : (if 0 ≤ t264 then (if t264 < (t254.length : Int) then (if (rd t254 t262) < (rd t254 t264) then (if x5_2.length < 5864062014805 then (spec_FirstTurns.l0 k2 t259 t254 (x5_2 ++ [(([wrap64 (Int.tdiv x6_2 (x0_2.length : Int)), Int.tmod x6_2 (x0_2.length : Int)] : List Int))])) else (none)) else (spec_FirstTurns.l1 k2 x0_2 t254 x5_2 (wrap64 (x6_2 + 1)))) else (none)) else (none)) = some (r1, r2) := H
              have A20 := Az_ A200
              clear A200
              by_cases c21 : 0 ≤ t264
              ·rw [if_pos c21] at H
               have c21b0 := decide_eq_true c21
               clear c21
               by_cases c22 : t264 < (t254.length : Int)
               ·rw [if_pos c22] at H
                have c22b0 := decide_eq_true c22
                clear c22
                by_cases c23 : (rd t254 t262) < (rd t254 t264)
                ·rw [if_pos c23] at H
                 have c23b0 := decide_eq_true c23
                 clear c23
                 obtain ⟨y266, hy266⟩ : ∃ y_ : List Int, y_ = (([wrap64 (Int.tdiv x6_2 (x0_2.length : Int)), Int.tmod x6_2 (x0_2.length : Int)] : List Int)) := ⟨_, rfl⟩
                 replace H : (if x5_2.length < 5864062014805 then (spec_FirstTurns.l0 k2 t259 t254 (x5_2 ++ [y266])) else (none)) = some (r1, r2) := by first | (rw [hy266]; with_reducible exact H) | (have H2_ := (Option.bind_some _ _).symm.trans H; rw [hy266]; with_reducible exact H2_) | (have H2_ := (Option.bind_some _ _).symm.trans H; with_reducible exact H2_) | with_reducible exact H | (rw [hy266]; exact H) | exact H
                 have Ny266 := Az_ hy266
                 clear hy266
                 by_cases c24 : x5_2.length < 5864062014805
                 ·rw [if_pos c24] at H
                  have LMc24 := Az_ c24
                  clear c24
                  obtain ⟨y269, hy269⟩ : ∃ y_ : List (List Int), y_ = (x5_2 ++ [y266]) := ⟨_, rfl⟩
                  replace H : (spec_FirstTurns.l0 k2 t259 t254 y269) = some (r1, r2) := by first | (rw [hy269]; with_reducible exact H) | (have H2_ := (Option.bind_some _ _).symm.trans H; rw [hy269]; with_reducible exact H2_) | (have H2_ := (Option.bind_some _ _).symm.trans H; with_reducible exact H2_) | with_reducible exact H | (rw [hy269]; exact H) | exact H
                  have Ny269 := Az_ hy269
                  clear hy269
                  have H' := Az_ H
                  clear H
                  obtain ⟨Ao25, co25, eo25⟩ := Kd.V_slice HO_0.out
                  subst eo25
                  go_wp2_with (first | (go_at_call 81; (with_reducible refine (spec_biTurn.calls k2 _ _ x0_2 (wrap64 (Int.tdiv x6_2 (x0_2.length : Int))) (Int.tmod x6_2 (x0_2.length : Int)) t259 _ ?side1 ?side2 A16.out).mono ?_); (case side1 => exact ucz_ ((Kd.V_reads' HO_0.out).2.2)); (case side2 => exact (Kd.V_reads' HO_0.out).2.1); rintro e w26 ⟨v260, rfl, ho0, hb⟩; have n0_ := Az_ (Kd.V_elder' (by (with_reducible repeat (first | apply Kd.V_alloc | apply Kd.V_drewN | apply Kd.V_drew)); exact HO_0.out) (Kd.R_base ho0) hb); have n1_ := Az_ (rez_ (by exact urz_ HO_4.out) (Kd.R_base ho0) hb); have n2_ := Az_ (Kd.S_elder' (by (with_reducible repeat (first | apply Kd.S_alloc | apply Kd.S_drewN | apply Kd.S_drew)); exact HO_5.out) (Kd.R_base ho0) hb); have n3_ := Az_ (Kd.R_lower (Kd.R_new' (Kd.R_newM (M := fun k_ => (w.heap.size ≤ k_)) ho0 (below_size (ubz_ HB.out)) (fun k_ h_ => h_)) (Kd.R_lt (by exact urz_ HO_4.out))) (below_size (ubz_ HB.out))); have n4_ := Az_ (btz_ (ubz_ HB.out) hb); clear HO_0; clear HO_4; clear HO_5; clear HB; have HO_0 := n0_; have HO_4 := n1_; have HO_5 := n2_; have HO261 := n3_; have HB := n4_; clear n0_ n1_ n2_ n3_ n4_; (try clear hb); (try clear hb2); (try clear hk); (try clear hi); (try clear ho0); obtain ⟨Ao27, co27, eo27⟩ := Kd.R_slice HO261.out; subst eo27) | (go_at_call 80; (with_reducible refine (spec_biRank.calls k2 _ _ t259 t262 _ ?side1 ?side2 A17.out).mono ?_); (case side1 => exact ucz_ ((Kd.R_reads' HO261.out).2.2)); (case side2 => exact (Kd.R_reads' HO261.out).2.1); rintro e w' ⟨rfl, ⟨nd, rfl⟩⟩; (try first | exact ⟨rfl, _, World.drewN_drewN _ _ _⟩ | exact ⟨rfl, _, Eq.trans (World.drewN_drewN _ _ _) (congrArg (World.drewN _) (Nat.add_assoc _ _ _))⟩); have p263 : 0 ≤ (t262 : Int) := of_decide_eq_true asz_; have q263 : t262 < (t254.length : Int) := of_decide_eq_true asz_; obtain ⟨ad263, e263, hx263_0⟩ := Kd.at_int (Kd.R_reads' HO_4.out).2.2 t262 p263 q263; obtain rfl : ad258 = ad263 := (by injection e263); replace p263 := eq_true p263; replace q263 := eq_true q263) | (go_at_call 80; (with_reducible refine (spec_biRank.calls k2 _ _ x0_2 t264 _ ?side1 ?side2 A20.out).mono ?_); (case side1 => exact ucz_ ((Kd.V_reads' HO_0.out).2.2)); (case side2 => exact (Kd.V_reads' HO_0.out).2.1); rintro e w' ⟨rfl, ⟨nd, rfl⟩⟩; (try first | exact ⟨rfl, _, World.drewN_drewN _ _ _⟩ | exact ⟨rfl, _, Eq.trans (World.drewN_drewN _ _ _) (congrArg (World.drewN _) (Nat.add_assoc _ _ _))⟩); have p265 : 0 ≤ (t264 : Int) := of_decide_eq_true asz_; have q265 : t264 < (t254.length : Int) := of_decide_eq_true asz_; obtain ⟨ad265, e265, hx265_0⟩ := Kd.at_int (Kd.R_reads' HO_4.out).2.2 t264 p265 q265; obtain rfl : ad258 = ad265 := (by injection e265); replace p265 := eq_true p265; replace q265 := eq_true q265) | ((with_reducible refine gate_dst (N := 60) rfl ?_); refine Kd.R_lit (Kd.int .i64) _ 3 ?hg (N := 60) ?hd (xs := ([wrap64 (Int.tdiv x6_2 (x0_2.length : Int)), Int.tmod x6_2 (x0_2.length : Int)] : List Int)) (inner := [.int .i64 (wrap64 (Int.tdiv x6_2 (x0_2.length : Int))), .int .i64 (Int.tmod x6_2 (x0_2.length : Int))]) (ok := fun _ => True) (okp := fun _ => True) ?hr ?hp (fun _ hk => hk) trivial (Below.refl _ _) (Nat.le_refl _) (by simp) ?_; (case hd => rfl); (case hg => rfl); (case hr => first | (go_simp; done) | (go_simp; rfl)); (case hp => exact (Reps.one (show Kd.M (Kd.int .i64) _ _ _ (wrap64 (Int.tdiv x6_2 (x0_2.length : Int))) [.int .i64 (wrap64 (Int.tdiv x6_2 (x0_2.length : Int)))] from rfl) (Reps.one (show Kd.M (Kd.int .i64) _ _ _ (Int.tmod x6_2 (x0_2.length : Int)) [.int .i64 (Int.tmod x6_2 (x0_2.length : Int))] from rfl) (Reps.none _ _)))); intro v267 w28 ho29 hb hg_ hnew_; clear hg_ hnew_; (first | rw [← Ny266.out] at ho29 | (simp only [Int.reduceToNat] at ho29; rw [← Ny266.out] at ho29)); have n0_ := Az_ (Kd.V_elder' (by (with_reducible repeat (first | apply Kd.V_alloc | apply Kd.V_drewN | apply Kd.V_drew)); exact HO_0.out) (Kd.R_base ho29) hb); have n1_ := Az_ (rez_ (by exact urz_ HO_4.out) (Kd.R_base ho29) hb); have n2_ := Az_ (Kd.S_elder' (by (with_reducible repeat (first | apply Kd.S_alloc | apply Kd.S_drewN | apply Kd.S_drew)); exact HO_5.out) (Kd.R_base ho29) hb); have n3_ := Az_ (rez_ (by exact urz_ HO261.out) (Kd.R_base ho29) hb); have n4_ := Az_ (Kd.R_lower (Kd.R_new' (Kd.R_new' (Kd.R_newM (M := fun k_ => (w.heap.size ≤ k_)) ho29 (below_size (ubz_ HB.out)) (fun k_ h_ => h_)) (Kd.R_lt (by exact urz_ HO_4.out))) (Kd.R_lt (by exact urz_ HO261.out))) (below_size (ubz_ HB.out))); have n5_ := Az_ (btz_ (ubz_ HB.out) hb); clear HO_0; clear HO_4; clear HO_5; clear HO261; clear HB; have HO_0 := n0_; have HO_4 := n1_; have HO_5 := n2_; have HO261 := n3_; have HO268 := n4_; have HB := n5_; clear n0_ n1_ n2_ n3_ n4_ n5_; clear hb ho29; obtain ⟨Ao31, co31, eo31⟩ := Kd.R_slice HO268.out; subst eo31) | ((with_reducible refine gate_builtin (b := .append) (xs := #[.tmp 57, .tmp 61]) rfl ?_); at_builtin; refine Kd.S_append (Kd.slice 3 (Kd.int .i64)) (w0 := w) w.heap.size rfl (.tmp 57) (.tmp 61) 41 24 (.slice none 0 0) 24 rfl Try.underlying41 info24 rfl (by decide) (by omega) u5 x5_2 y266 [.slice Ao31 y266.length co31] (fun k_ => (w.heap.size ≤ k_) ∧ some k_ ≠ (.slice (some ad258) t254.length co11 : Value).ownBlock ∧ some k_ ≠ (.slice Ao27 t259.length co27 : Value).ownBlock) (fun k_ => some k_ = (.slice Ao31 y266.length co31 : Value).ownBlock) rfl rfl ?aP (fun k_ hk_ => ((Kd.R_mono (ok' := fun k_ => ((fun k_ => (w.heap.size ≤ k_) ∧ some k_ ≠ (.slice (some ad258) t254.length co11 : Value).ownBlock ∧ some k_ ≠ (.slice Ao27 t259.length co27 : Value).ownBlock)) k_ ∧ some k_ ≠ (u5 : Value).ownBlock) (Kd.R_apart' (HO268.out) (Kd.S_typed HO_5.out) (by decide)) (fun k_ hk => ⟨⟨hk.1.1.1.1, ⟨hk.1.1.2, hk.1.2⟩⟩, hk.2⟩))).1 k_ hk_.symm) ?aF ?aO ?aB ?aS ?aL ?_; (case aP => exact Kd.M_row (Kd.R_mono (Kd.R_tight rfl (Kd.R_mono (ok' := fun k_ => ((fun k_ => (w.heap.size ≤ k_) ∧ some k_ ≠ (.slice (some ad258) t254.length co11 : Value).ownBlock ∧ some k_ ≠ (.slice Ao27 t259.length co27 : Value).ownBlock)) k_ ∧ some k_ ≠ (u5 : Value).ownBlock) (Kd.R_apart' (HO268.out) (Kd.S_typed HO_5.out) (by decide)) (fun k_ hk => ⟨⟨hk.1.1.1.1, ⟨hk.1.1.2, hk.1.2⟩⟩, hk.2⟩))) (fun _ h_ => h_))); (case aB => exact (ubz_ HB.out)); (case aF => exact (fun k_ hk => ⟨(Nat.le_trans (below_size (ubz_ HB.out)) hk), Kd.fresh' (Kd.R_lt (by exact urz_ HO_4.out)) k_ hk, Kd.fresh' (Kd.R_lt (by exact urz_ HO261.out)) k_ hk⟩)); (case aO => exact (by (with_reducible repeat (first | apply Kd.S_alloc | apply Kd.S_drewN | apply Kd.S_drew)); exact Kd.S_mono HO_5.out (fun k_ hk => ⟨⟨hk.1.1.1, ⟨hk.1.1.2, hk.1.2⟩⟩, fun e_ => hk.2 e_⟩))); (case aS => exact (below_size (ubz_ HB.out))); (case aL => have := LMc24.out; omega); intro v270 w30 ho hb hg hat; rw [← Ny269.out] at ho; have n0_ := Az_ (Kd.V_afterv (ok := (fun k_ => (P0_ k_ ∨ w.heap.size ≤ k_) ∧ some k_ ≠ (.slice (some ad258) t254.length co11 : Value).ownBlock ∧ some k_ ≠ (.slice Ao27 t259.length co27 : Value).ownBlock ∧ some k_ ≠ (.slice Ao31 y266.length co31 : Value).ownBlock)) (by (with_reducible repeat (first | apply Kd.V_alloc | apply Kd.V_drewN | apply Kd.V_drew)); exact Kd.V_mono HO_0.out (fun _ hk => ⟨⟨hk.1.1.1, ⟨hk.1.1.2.1, ⟨hk.1.2, hk.2⟩⟩⟩, hk.1.1.2.2⟩)) hg hat); have n1_ := Az_ (Kd.R_over' (by exact urz_ HO_4.out) (Kd.S_typed (by (with_reducible repeat (first | apply Kd.S_alloc | apply Kd.S_drewN | apply Kd.S_drew)); exact HO_5.out)) (by decide) hg); have n2_ := Az_ (Kd.R_over' (by exact urz_ HO261.out) (Kd.S_typed (by (with_reducible repeat (first | apply Kd.S_alloc | apply Kd.S_drewN | apply Kd.S_drew)); exact HO_5.out)) (by decide) hg); have n3_ := Az_ (hb); have n4_ := Az_ (ho); clear HO_0; clear HO_4; clear HO261; clear HB; clear HO_5; clear HO268; have HO_0 := n0_; have HO_4 := n1_; have HO261 := n2_; have HB := n3_; have HO271 := n4_; clear n0_ n1_ n2_ n3_ n4_; clear ho hb hg hat))
                  repeat (go_quiet (first | (go_at_call 81; (with_reducible refine (spec_biTurn.calls k2 _ _ x0_2 (wrap64 (Int.tdiv x6_2 (x0_2.length : Int))) (Int.tmod x6_2 (x0_2.length : Int)) t259 _ ?side1 ?side2 A16.out).mono ?_); (case side1 => exact ucz_ ((Kd.V_reads' HO_0.out).2.2)); (case side2 => exact (Kd.V_reads' HO_0.out).2.1); rintro e w26 ⟨v260, rfl, ho0, hb⟩; have n0_ := Az_ (Kd.V_elder' (by (with_reducible repeat (first | apply Kd.V_alloc | apply Kd.V_drewN | apply Kd.V_drew)); exact HO_0.out) (Kd.R_base ho0) hb); have n1_ := Az_ (rez_ (by exact urz_ HO_4.out) (Kd.R_base ho0) hb); have n2_ := Az_ (Kd.S_elder' (by (with_reducible repeat (first | apply Kd.S_alloc | apply Kd.S_drewN | apply Kd.S_drew)); exact HO_5.out) (Kd.R_base ho0) hb); have n3_ := Az_ (Kd.R_lower (Kd.R_new' (Kd.R_newM (M := fun k_ => (w.heap.size ≤ k_)) ho0 (below_size (ubz_ HB.out)) (fun k_ h_ => h_)) (Kd.R_lt (by exact urz_ HO_4.out))) (below_size (ubz_ HB.out))); have n4_ := Az_ (btz_ (ubz_ HB.out) hb); clear HO_0; clear HO_4; clear HO_5; clear HB; have HO_0 := n0_; have HO_4 := n1_; have HO_5 := n2_; have HO261 := n3_; have HB := n4_; clear n0_ n1_ n2_ n3_ n4_; (try clear hb); (try clear hb2); (try clear hk); (try clear hi); (try clear ho0); obtain ⟨Ao27, co27, eo27⟩ := Kd.R_slice HO261.out; subst eo27) | (go_at_call 80; (with_reducible refine (spec_biRank.calls k2 _ _ t259 t262 _ ?side1 ?side2 A17.out).mono ?_); (case side1 => exact ucz_ ((Kd.R_reads' HO261.out).2.2)); (case side2 => exact (Kd.R_reads' HO261.out).2.1); rintro e w' ⟨rfl, ⟨nd, rfl⟩⟩; (try first | exact ⟨rfl, _, World.drewN_drewN _ _ _⟩ | exact ⟨rfl, _, Eq.trans (World.drewN_drewN _ _ _) (congrArg (World.drewN _) (Nat.add_assoc _ _ _))⟩); have p263 : 0 ≤ (t262 : Int) := of_decide_eq_true asz_; have q263 : t262 < (t254.length : Int) := of_decide_eq_true asz_; obtain ⟨ad263, e263, hx263_0⟩ := Kd.at_int (Kd.R_reads' HO_4.out).2.2 t262 p263 q263; obtain rfl : ad258 = ad263 := (by injection e263); replace p263 := eq_true p263; replace q263 := eq_true q263) | (go_at_call 80; (with_reducible refine (spec_biRank.calls k2 _ _ x0_2 t264 _ ?side1 ?side2 A20.out).mono ?_); (case side1 => exact ucz_ ((Kd.V_reads' HO_0.out).2.2)); (case side2 => exact (Kd.V_reads' HO_0.out).2.1); rintro e w' ⟨rfl, ⟨nd, rfl⟩⟩; (try first | exact ⟨rfl, _, World.drewN_drewN _ _ _⟩ | exact ⟨rfl, _, Eq.trans (World.drewN_drewN _ _ _) (congrArg (World.drewN _) (Nat.add_assoc _ _ _))⟩); have p265 : 0 ≤ (t264 : Int) := of_decide_eq_true asz_; have q265 : t264 < (t254.length : Int) := of_decide_eq_true asz_; obtain ⟨ad265, e265, hx265_0⟩ := Kd.at_int (Kd.R_reads' HO_4.out).2.2 t264 p265 q265; obtain rfl : ad258 = ad265 := (by injection e265); replace p265 := eq_true p265; replace q265 := eq_true q265) | ((with_reducible refine gate_dst (N := 60) rfl ?_); refine Kd.R_lit (Kd.int .i64) _ 3 ?hg (N := 60) ?hd (xs := ([wrap64 (Int.tdiv x6_2 (x0_2.length : Int)), Int.tmod x6_2 (x0_2.length : Int)] : List Int)) (inner := [.int .i64 (wrap64 (Int.tdiv x6_2 (x0_2.length : Int))), .int .i64 (Int.tmod x6_2 (x0_2.length : Int))]) (ok := fun _ => True) (okp := fun _ => True) ?hr ?hp (fun _ hk => hk) trivial (Below.refl _ _) (Nat.le_refl _) (by simp) ?_; (case hd => rfl); (case hg => rfl); (case hr => first | (go_simp; done) | (go_simp; rfl)); (case hp => exact (Reps.one (show Kd.M (Kd.int .i64) _ _ _ (wrap64 (Int.tdiv x6_2 (x0_2.length : Int))) [.int .i64 (wrap64 (Int.tdiv x6_2 (x0_2.length : Int)))] from rfl) (Reps.one (show Kd.M (Kd.int .i64) _ _ _ (Int.tmod x6_2 (x0_2.length : Int)) [.int .i64 (Int.tmod x6_2 (x0_2.length : Int))] from rfl) (Reps.none _ _)))); intro v267 w28 ho29 hb hg_ hnew_; clear hg_ hnew_; (first | rw [← Ny266.out] at ho29 | (simp only [Int.reduceToNat] at ho29; rw [← Ny266.out] at ho29)); have n0_ := Az_ (Kd.V_elder' (by (with_reducible repeat (first | apply Kd.V_alloc | apply Kd.V_drewN | apply Kd.V_drew)); exact HO_0.out) (Kd.R_base ho29) hb); have n1_ := Az_ (rez_ (by exact urz_ HO_4.out) (Kd.R_base ho29) hb); have n2_ := Az_ (Kd.S_elder' (by (with_reducible repeat (first | apply Kd.S_alloc | apply Kd.S_drewN | apply Kd.S_drew)); exact HO_5.out) (Kd.R_base ho29) hb); have n3_ := Az_ (rez_ (by exact urz_ HO261.out) (Kd.R_base ho29) hb); have n4_ := Az_ (Kd.R_lower (Kd.R_new' (Kd.R_new' (Kd.R_newM (M := fun k_ => (w.heap.size ≤ k_)) ho29 (below_size (ubz_ HB.out)) (fun k_ h_ => h_)) (Kd.R_lt (by exact urz_ HO_4.out))) (Kd.R_lt (by exact urz_ HO261.out))) (below_size (ubz_ HB.out))); have n5_ := Az_ (btz_ (ubz_ HB.out) hb); clear HO_0; clear HO_4; clear HO_5; clear HO261; clear HB; have HO_0 := n0_; have HO_4 := n1_; have HO_5 := n2_; have HO261 := n3_; have HO268 := n4_; have HB := n5_; clear n0_ n1_ n2_ n3_ n4_ n5_; clear hb ho29; obtain ⟨Ao31, co31, eo31⟩ := Kd.R_slice HO268.out; subst eo31) | ((with_reducible refine gate_builtin (b := .append) (xs := #[.tmp 57, .tmp 61]) rfl ?_); at_builtin; refine Kd.S_append (Kd.slice 3 (Kd.int .i64)) (w0 := w) w.heap.size rfl (.tmp 57) (.tmp 61) 41 24 (.slice none 0 0) 24 rfl Try.underlying41 info24 rfl (by decide) (by omega) u5 x5_2 y266 [.slice Ao31 y266.length co31] (fun k_ => (w.heap.size ≤ k_) ∧ some k_ ≠ (.slice (some ad258) t254.length co11 : Value).ownBlock ∧ some k_ ≠ (.slice Ao27 t259.length co27 : Value).ownBlock) (fun k_ => some k_ = (.slice Ao31 y266.length co31 : Value).ownBlock) rfl rfl ?aP (fun k_ hk_ => ((Kd.R_mono (ok' := fun k_ => ((fun k_ => (w.heap.size ≤ k_) ∧ some k_ ≠ (.slice (some ad258) t254.length co11 : Value).ownBlock ∧ some k_ ≠ (.slice Ao27 t259.length co27 : Value).ownBlock)) k_ ∧ some k_ ≠ (u5 : Value).ownBlock) (Kd.R_apart' (HO268.out) (Kd.S_typed HO_5.out) (by decide)) (fun k_ hk => ⟨⟨hk.1.1.1.1, ⟨hk.1.1.2, hk.1.2⟩⟩, hk.2⟩))).1 k_ hk_.symm) ?aF ?aO ?aB ?aS ?aL ?_; (case aP => exact Kd.M_row (Kd.R_mono (Kd.R_tight rfl (Kd.R_mono (ok' := fun k_ => ((fun k_ => (w.heap.size ≤ k_) ∧ some k_ ≠ (.slice (some ad258) t254.length co11 : Value).ownBlock ∧ some k_ ≠ (.slice Ao27 t259.length co27 : Value).ownBlock)) k_ ∧ some k_ ≠ (u5 : Value).ownBlock) (Kd.R_apart' (HO268.out) (Kd.S_typed HO_5.out) (by decide)) (fun k_ hk => ⟨⟨hk.1.1.1.1, ⟨hk.1.1.2, hk.1.2⟩⟩, hk.2⟩))) (fun _ h_ => h_))); (case aB => exact (ubz_ HB.out)); (case aF => exact (fun k_ hk => ⟨(Nat.le_trans (below_size (ubz_ HB.out)) hk), Kd.fresh' (Kd.R_lt (by exact urz_ HO_4.out)) k_ hk, Kd.fresh' (Kd.R_lt (by exact urz_ HO261.out)) k_ hk⟩)); (case aO => exact (by (with_reducible repeat (first | apply Kd.S_alloc | apply Kd.S_drewN | apply Kd.S_drew)); exact Kd.S_mono HO_5.out (fun k_ hk => ⟨⟨hk.1.1.1, ⟨hk.1.1.2, hk.1.2⟩⟩, fun e_ => hk.2 e_⟩))); (case aS => exact (below_size (ubz_ HB.out))); (case aL => have := LMc24.out; omega); intro v270 w30 ho hb hg hat; rw [← Ny269.out] at ho; have n0_ := Az_ (Kd.V_afterv (ok := (fun k_ => (P0_ k_ ∨ w.heap.size ≤ k_) ∧ some k_ ≠ (.slice (some ad258) t254.length co11 : Value).ownBlock ∧ some k_ ≠ (.slice Ao27 t259.length co27 : Value).ownBlock ∧ some k_ ≠ (.slice Ao31 y266.length co31 : Value).ownBlock)) (by (with_reducible repeat (first | apply Kd.V_alloc | apply Kd.V_drewN | apply Kd.V_drew)); exact Kd.V_mono HO_0.out (fun _ hk => ⟨⟨hk.1.1.1, ⟨hk.1.1.2.1, ⟨hk.1.2, hk.2⟩⟩⟩, hk.1.1.2.2⟩)) hg hat); have n1_ := Az_ (Kd.R_over' (by exact urz_ HO_4.out) (Kd.S_typed (by (with_reducible repeat (first | apply Kd.S_alloc | apply Kd.S_drewN | apply Kd.S_drew)); exact HO_5.out)) (by decide) hg); have n2_ := Az_ (Kd.R_over' (by exact urz_ HO261.out) (Kd.S_typed (by (with_reducible repeat (first | apply Kd.S_alloc | apply Kd.S_drewN | apply Kd.S_drew)); exact HO_5.out)) (by decide) hg); have n3_ := Az_ (hb); have n4_ := Az_ (ho); clear HO_0; clear HO_4; clear HO261; clear HB; clear HO_5; clear HO268; have HO_0 := n0_; have HO_4 := n1_; have HO261 := n2_; have HB := n3_; have HO271 := n4_; clear n0_ n1_ n2_ n3_ n4_; clear ho hb hg hat)); try go_wp2_with (first | (go_at_call 81; (with_reducible refine (spec_biTurn.calls k2 _ _ x0_2 (wrap64 (Int.tdiv x6_2 (x0_2.length : Int))) (Int.tmod x6_2 (x0_2.length : Int)) t259 _ ?side1 ?side2 A16.out).mono ?_); (case side1 => exact ucz_ ((Kd.V_reads' HO_0.out).2.2)); (case side2 => exact (Kd.V_reads' HO_0.out).2.1); rintro e w26 ⟨v260, rfl, ho0, hb⟩; have n0_ := Az_ (Kd.V_elder' (by (with_reducible repeat (first | apply Kd.V_alloc | apply Kd.V_drewN | apply Kd.V_drew)); exact HO_0.out) (Kd.R_base ho0) hb); have n1_ := Az_ (rez_ (by exact urz_ HO_4.out) (Kd.R_base ho0) hb); have n2_ := Az_ (Kd.S_elder' (by (with_reducible repeat (first | apply Kd.S_alloc | apply Kd.S_drewN | apply Kd.S_drew)); exact HO_5.out) (Kd.R_base ho0) hb); have n3_ := Az_ (Kd.R_lower (Kd.R_new' (Kd.R_newM (M := fun k_ => (w.heap.size ≤ k_)) ho0 (below_size (ubz_ HB.out)) (fun k_ h_ => h_)) (Kd.R_lt (by exact urz_ HO_4.out))) (below_size (ubz_ HB.out))); have n4_ := Az_ (btz_ (ubz_ HB.out) hb); clear HO_0; clear HO_4; clear HO_5; clear HB; have HO_0 := n0_; have HO_4 := n1_; have HO_5 := n2_; have HO261 := n3_; have HB := n4_; clear n0_ n1_ n2_ n3_ n4_; (try clear hb); (try clear hb2); (try clear hk); (try clear hi); (try clear ho0); obtain ⟨Ao27, co27, eo27⟩ := Kd.R_slice HO261.out; subst eo27) | (go_at_call 80; (with_reducible refine (spec_biRank.calls k2 _ _ t259 t262 _ ?side1 ?side2 A17.out).mono ?_); (case side1 => exact ucz_ ((Kd.R_reads' HO261.out).2.2)); (case side2 => exact (Kd.R_reads' HO261.out).2.1); rintro e w' ⟨rfl, ⟨nd, rfl⟩⟩; (try first | exact ⟨rfl, _, World.drewN_drewN _ _ _⟩ | exact ⟨rfl, _, Eq.trans (World.drewN_drewN _ _ _) (congrArg (World.drewN _) (Nat.add_assoc _ _ _))⟩); have p263 : 0 ≤ (t262 : Int) := of_decide_eq_true asz_; have q263 : t262 < (t254.length : Int) := of_decide_eq_true asz_; obtain ⟨ad263, e263, hx263_0⟩ := Kd.at_int (Kd.R_reads' HO_4.out).2.2 t262 p263 q263; obtain rfl : ad258 = ad263 := (by injection e263); replace p263 := eq_true p263; replace q263 := eq_true q263) | (go_at_call 80; (with_reducible refine (spec_biRank.calls k2 _ _ x0_2 t264 _ ?side1 ?side2 A20.out).mono ?_); (case side1 => exact ucz_ ((Kd.V_reads' HO_0.out).2.2)); (case side2 => exact (Kd.V_reads' HO_0.out).2.1); rintro e w' ⟨rfl, ⟨nd, rfl⟩⟩; (try first | exact ⟨rfl, _, World.drewN_drewN _ _ _⟩ | exact ⟨rfl, _, Eq.trans (World.drewN_drewN _ _ _) (congrArg (World.drewN _) (Nat.add_assoc _ _ _))⟩); have p265 : 0 ≤ (t264 : Int) := of_decide_eq_true asz_; have q265 : t264 < (t254.length : Int) := of_decide_eq_true asz_; obtain ⟨ad265, e265, hx265_0⟩ := Kd.at_int (Kd.R_reads' HO_4.out).2.2 t264 p265 q265; obtain rfl : ad258 = ad265 := (by injection e265); replace p265 := eq_true p265; replace q265 := eq_true q265) | ((with_reducible refine gate_dst (N := 60) rfl ?_); refine Kd.R_lit (Kd.int .i64) _ 3 ?hg (N := 60) ?hd (xs := ([wrap64 (Int.tdiv x6_2 (x0_2.length : Int)), Int.tmod x6_2 (x0_2.length : Int)] : List Int)) (inner := [.int .i64 (wrap64 (Int.tdiv x6_2 (x0_2.length : Int))), .int .i64 (Int.tmod x6_2 (x0_2.length : Int))]) (ok := fun _ => True) (okp := fun _ => True) ?hr ?hp (fun _ hk => hk) trivial (Below.refl _ _) (Nat.le_refl _) (by simp) ?_; (case hd => rfl); (case hg => rfl); (case hr => first | (go_simp; done) | (go_simp; rfl)); (case hp => exact (Reps.one (show Kd.M (Kd.int .i64) _ _ _ (wrap64 (Int.tdiv x6_2 (x0_2.length : Int))) [.int .i64 (wrap64 (Int.tdiv x6_2 (x0_2.length : Int)))] from rfl) (Reps.one (show Kd.M (Kd.int .i64) _ _ _ (Int.tmod x6_2 (x0_2.length : Int)) [.int .i64 (Int.tmod x6_2 (x0_2.length : Int))] from rfl) (Reps.none _ _)))); intro v267 w28 ho29 hb hg_ hnew_; clear hg_ hnew_; (first | rw [← Ny266.out] at ho29 | (simp only [Int.reduceToNat] at ho29; rw [← Ny266.out] at ho29)); have n0_ := Az_ (Kd.V_elder' (by (with_reducible repeat (first | apply Kd.V_alloc | apply Kd.V_drewN | apply Kd.V_drew)); exact HO_0.out) (Kd.R_base ho29) hb); have n1_ := Az_ (rez_ (by exact urz_ HO_4.out) (Kd.R_base ho29) hb); have n2_ := Az_ (Kd.S_elder' (by (with_reducible repeat (first | apply Kd.S_alloc | apply Kd.S_drewN | apply Kd.S_drew)); exact HO_5.out) (Kd.R_base ho29) hb); have n3_ := Az_ (rez_ (by exact urz_ HO261.out) (Kd.R_base ho29) hb); have n4_ := Az_ (Kd.R_lower (Kd.R_new' (Kd.R_new' (Kd.R_newM (M := fun k_ => (w.heap.size ≤ k_)) ho29 (below_size (ubz_ HB.out)) (fun k_ h_ => h_)) (Kd.R_lt (by exact urz_ HO_4.out))) (Kd.R_lt (by exact urz_ HO261.out))) (below_size (ubz_ HB.out))); have n5_ := Az_ (btz_ (ubz_ HB.out) hb); clear HO_0; clear HO_4; clear HO_5; clear HO261; clear HB; have HO_0 := n0_; have HO_4 := n1_; have HO_5 := n2_; have HO261 := n3_; have HO268 := n4_; have HB := n5_; clear n0_ n1_ n2_ n3_ n4_ n5_; clear hb ho29; obtain ⟨Ao31, co31, eo31⟩ := Kd.R_slice HO268.out; subst eo31) | ((with_reducible refine gate_builtin (b := .append) (xs := #[.tmp 57, .tmp 61]) rfl ?_); at_builtin; refine Kd.S_append (Kd.slice 3 (Kd.int .i64)) (w0 := w) w.heap.size rfl (.tmp 57) (.tmp 61) 41 24 (.slice none 0 0) 24 rfl Try.underlying41 info24 rfl (by decide) (by omega) u5 x5_2 y266 [.slice Ao31 y266.length co31] (fun k_ => (w.heap.size ≤ k_) ∧ some k_ ≠ (.slice (some ad258) t254.length co11 : Value).ownBlock ∧ some k_ ≠ (.slice Ao27 t259.length co27 : Value).ownBlock) (fun k_ => some k_ = (.slice Ao31 y266.length co31 : Value).ownBlock) rfl rfl ?aP (fun k_ hk_ => ((Kd.R_mono (ok' := fun k_ => ((fun k_ => (w.heap.size ≤ k_) ∧ some k_ ≠ (.slice (some ad258) t254.length co11 : Value).ownBlock ∧ some k_ ≠ (.slice Ao27 t259.length co27 : Value).ownBlock)) k_ ∧ some k_ ≠ (u5 : Value).ownBlock) (Kd.R_apart' (HO268.out) (Kd.S_typed HO_5.out) (by decide)) (fun k_ hk => ⟨⟨hk.1.1.1.1, ⟨hk.1.1.2, hk.1.2⟩⟩, hk.2⟩))).1 k_ hk_.symm) ?aF ?aO ?aB ?aS ?aL ?_; (case aP => exact Kd.M_row (Kd.R_mono (Kd.R_tight rfl (Kd.R_mono (ok' := fun k_ => ((fun k_ => (w.heap.size ≤ k_) ∧ some k_ ≠ (.slice (some ad258) t254.length co11 : Value).ownBlock ∧ some k_ ≠ (.slice Ao27 t259.length co27 : Value).ownBlock)) k_ ∧ some k_ ≠ (u5 : Value).ownBlock) (Kd.R_apart' (HO268.out) (Kd.S_typed HO_5.out) (by decide)) (fun k_ hk => ⟨⟨hk.1.1.1.1, ⟨hk.1.1.2, hk.1.2⟩⟩, hk.2⟩))) (fun _ h_ => h_))); (case aB => exact (ubz_ HB.out)); (case aF => exact (fun k_ hk => ⟨(Nat.le_trans (below_size (ubz_ HB.out)) hk), Kd.fresh' (Kd.R_lt (by exact urz_ HO_4.out)) k_ hk, Kd.fresh' (Kd.R_lt (by exact urz_ HO261.out)) k_ hk⟩)); (case aO => exact (by (with_reducible repeat (first | apply Kd.S_alloc | apply Kd.S_drewN | apply Kd.S_drew)); exact Kd.S_mono HO_5.out (fun k_ hk => ⟨⟨hk.1.1.1, ⟨hk.1.1.2, hk.1.2⟩⟩, fun e_ => hk.2 e_⟩))); (case aS => exact (below_size (ubz_ HB.out))); (case aL => have := LMc24.out; omega); intro v270 w30 ho hb hg hat; rw [← Ny269.out] at ho; have n0_ := Az_ (Kd.V_afterv (ok := (fun k_ => (P0_ k_ ∨ w.heap.size ≤ k_) ∧ some k_ ≠ (.slice (some ad258) t254.length co11 : Value).ownBlock ∧ some k_ ≠ (.slice Ao27 t259.length co27 : Value).ownBlock ∧ some k_ ≠ (.slice Ao31 y266.length co31 : Value).ownBlock)) (by (with_reducible repeat (first | apply Kd.V_alloc | apply Kd.V_drewN | apply Kd.V_drew)); exact Kd.V_mono HO_0.out (fun _ hk => ⟨⟨hk.1.1.1, ⟨hk.1.1.2.1, ⟨hk.1.2, hk.2⟩⟩⟩, hk.1.1.2.2⟩)) hg hat); have n1_ := Az_ (Kd.R_over' (by exact urz_ HO_4.out) (Kd.S_typed (by (with_reducible repeat (first | apply Kd.S_alloc | apply Kd.S_drewN | apply Kd.S_drew)); exact HO_5.out)) (by decide) hg); have n2_ := Az_ (Kd.R_over' (by exact urz_ HO261.out) (Kd.S_typed (by (with_reducible repeat (first | apply Kd.S_alloc | apply Kd.S_drewN | apply Kd.S_drew)); exact HO_5.out)) (by decide) hg); have n3_ := Az_ (hb); have n4_ := Az_ (ho); clear HO_0; clear HO_4; clear HO261; clear HB; clear HO_5; clear HO268; have HO_0 := n0_; have HO_4 := n1_; have HO261 := n2_; have HB := n3_; have HO271 := n4_; clear n0_ n1_ n2_ n3_ n4_; clear ho hb hg hat)))
                  go_roundg k2
                  case measure => have := HK1.out; have := HK2.out; omega
                  case rel => exact ⟨(t259), (y269), H', ⟨by have := HK1.out; have := HK2.out; omega⟩, ⟨Kd.V_mono (Kd.R_V (by (with_reducible repeat (first | apply raz_ | apply rnz_ | apply rdz_)); exact Kd.R_mono (ok' := fun k_ => w.heap.size ≤ k_ ∧ some k_ ≠ (.slice (some ad258) t254.length co11 : Value).ownBlock ∧ some k_ ≠ (v270 : Value).ownBlock) (Kd.R_apart' HO261.out (Kd.S_typed HO271.out) (by decide)) (fun _ hk => ⟨hk.1.1.1.1, ⟨hk.1.1.2, hk.2⟩⟩))) (fun k_ hk => by first | exact ⟨(.inr (hk.1)), hk.2⟩ | exact (.inr (hk)))⟩, ⟨by (with_reducible repeat (first | apply raz_ | apply rnz_ | apply rdz_)); exact Kd.R_mono HO_4.out (fun _ hk => hk.1.1)⟩, ⟨by (with_reducible repeat (first | apply Kd.S_alloc | apply Kd.S_drewN | apply Kd.S_drew)); exact Kd.S_mono HO271.out (fun _ hk => ⟨hk.1, hk.2.1⟩)⟩, ⟨by exact ubz_ HB.out⟩⟩
                 ·rw [if_neg c24] at H
                  exact absurd H (by simp)
                ·rw [if_neg c23] at H
                 have c23b0 := decide_eq_false c23
                 clear c23
                 have H' := Az_ H
                 clear H
                 obtain ⟨Ao32, co32, eo32⟩ := Kd.V_slice HO_0.out
                 subst eo32
                 go_wp2_with (first | (go_at_call 81; (with_reducible refine (spec_biTurn.calls k2 _ _ x0_2 (wrap64 (Int.tdiv x6_2 (x0_2.length : Int))) (Int.tmod x6_2 (x0_2.length : Int)) t259 _ ?side1 ?side2 A16.out).mono ?_); (case side1 => exact ucz_ ((Kd.V_reads' HO_0.out).2.2)); (case side2 => exact (Kd.V_reads' HO_0.out).2.1); rintro e w33 ⟨v260, rfl, ho0, hb⟩; have n0_ := Az_ (Kd.V_elder' (by (with_reducible repeat (first | apply Kd.V_alloc | apply Kd.V_drewN | apply Kd.V_drew)); exact HO_0.out) (Kd.R_base ho0) hb); have n1_ := Az_ (rez_ (by exact urz_ HO_4.out) (Kd.R_base ho0) hb); have n2_ := Az_ (Kd.S_elder' (by (with_reducible repeat (first | apply Kd.S_alloc | apply Kd.S_drewN | apply Kd.S_drew)); exact HO_5.out) (Kd.R_base ho0) hb); have n3_ := Az_ (Kd.R_lower (Kd.R_new' (Kd.R_newM (M := fun k_ => (w.heap.size ≤ k_)) ho0 (below_size (ubz_ HB.out)) (fun k_ h_ => h_)) (Kd.R_lt (by exact urz_ HO_4.out))) (below_size (ubz_ HB.out))); have n4_ := Az_ (btz_ (ubz_ HB.out) hb); clear HO_0; clear HO_4; clear HO_5; clear HB; have HO_0 := n0_; have HO_4 := n1_; have HO_5 := n2_; have HO261 := n3_; have HB := n4_; clear n0_ n1_ n2_ n3_ n4_; (try clear hb); (try clear hb2); (try clear hk); (try clear hi); (try clear ho0); obtain ⟨Ao34, co34, eo34⟩ := Kd.R_slice HO261.out; subst eo34) | (go_at_call 80; (with_reducible refine (spec_biRank.calls k2 _ _ t259 t262 _ ?side1 ?side2 A17.out).mono ?_); (case side1 => exact ucz_ ((Kd.R_reads' HO261.out).2.2)); (case side2 => exact (Kd.R_reads' HO261.out).2.1); rintro e w' ⟨rfl, ⟨nd, rfl⟩⟩; (try first | exact ⟨rfl, _, World.drewN_drewN _ _ _⟩ | exact ⟨rfl, _, Eq.trans (World.drewN_drewN _ _ _) (congrArg (World.drewN _) (Nat.add_assoc _ _ _))⟩); have p263 : 0 ≤ (t262 : Int) := of_decide_eq_true asz_; have q263 : t262 < (t254.length : Int) := of_decide_eq_true asz_; obtain ⟨ad263, e263, hx263_0⟩ := Kd.at_int (Kd.R_reads' HO_4.out).2.2 t262 p263 q263; obtain rfl : ad258 = ad263 := (by injection e263); replace p263 := eq_true p263; replace q263 := eq_true q263) | (go_at_call 80; (with_reducible refine (spec_biRank.calls k2 _ _ x0_2 t264 _ ?side1 ?side2 A20.out).mono ?_); (case side1 => exact ucz_ ((Kd.V_reads' HO_0.out).2.2)); (case side2 => exact (Kd.V_reads' HO_0.out).2.1); rintro e w' ⟨rfl, ⟨nd, rfl⟩⟩; (try first | exact ⟨rfl, _, World.drewN_drewN _ _ _⟩ | exact ⟨rfl, _, Eq.trans (World.drewN_drewN _ _ _) (congrArg (World.drewN _) (Nat.add_assoc _ _ _))⟩); have p265 : 0 ≤ (t264 : Int) := of_decide_eq_true asz_; have q265 : t264 < (t254.length : Int) := of_decide_eq_true asz_; obtain ⟨ad265, e265, hx265_0⟩ := Kd.at_int (Kd.R_reads' HO_4.out).2.2 t264 p265 q265; obtain rfl : ad258 = ad265 := (by injection e265); replace p265 := eq_true p265; replace q265 := eq_true q265))
                 repeat (go_quiet (first | (go_at_call 81; (with_reducible refine (spec_biTurn.calls k2 _ _ x0_2 (wrap64 (Int.tdiv x6_2 (x0_2.length : Int))) (Int.tmod x6_2 (x0_2.length : Int)) t259 _ ?side1 ?side2 A16.out).mono ?_); (case side1 => exact ucz_ ((Kd.V_reads' HO_0.out).2.2)); (case side2 => exact (Kd.V_reads' HO_0.out).2.1); rintro e w33 ⟨v260, rfl, ho0, hb⟩; have n0_ := Az_ (Kd.V_elder' (by (with_reducible repeat (first | apply Kd.V_alloc | apply Kd.V_drewN | apply Kd.V_drew)); exact HO_0.out) (Kd.R_base ho0) hb); have n1_ := Az_ (rez_ (by exact urz_ HO_4.out) (Kd.R_base ho0) hb); have n2_ := Az_ (Kd.S_elder' (by (with_reducible repeat (first | apply Kd.S_alloc | apply Kd.S_drewN | apply Kd.S_drew)); exact HO_5.out) (Kd.R_base ho0) hb); have n3_ := Az_ (Kd.R_lower (Kd.R_new' (Kd.R_newM (M := fun k_ => (w.heap.size ≤ k_)) ho0 (below_size (ubz_ HB.out)) (fun k_ h_ => h_)) (Kd.R_lt (by exact urz_ HO_4.out))) (below_size (ubz_ HB.out))); have n4_ := Az_ (btz_ (ubz_ HB.out) hb); clear HO_0; clear HO_4; clear HO_5; clear HB; have HO_0 := n0_; have HO_4 := n1_; have HO_5 := n2_; have HO261 := n3_; have HB := n4_; clear n0_ n1_ n2_ n3_ n4_; (try clear hb); (try clear hb2); (try clear hk); (try clear hi); (try clear ho0); obtain ⟨Ao34, co34, eo34⟩ := Kd.R_slice HO261.out; subst eo34) | (go_at_call 80; (with_reducible refine (spec_biRank.calls k2 _ _ t259 t262 _ ?side1 ?side2 A17.out).mono ?_); (case side1 => exact ucz_ ((Kd.R_reads' HO261.out).2.2)); (case side2 => exact (Kd.R_reads' HO261.out).2.1); rintro e w' ⟨rfl, ⟨nd, rfl⟩⟩; (try first | exact ⟨rfl, _, World.drewN_drewN _ _ _⟩ | exact ⟨rfl, _, Eq.trans (World.drewN_drewN _ _ _) (congrArg (World.drewN _) (Nat.add_assoc _ _ _))⟩); have p263 : 0 ≤ (t262 : Int) := of_decide_eq_true asz_; have q263 : t262 < (t254.length : Int) := of_decide_eq_true asz_; obtain ⟨ad263, e263, hx263_0⟩ := Kd.at_int (Kd.R_reads' HO_4.out).2.2 t262 p263 q263; obtain rfl : ad258 = ad263 := (by injection e263); replace p263 := eq_true p263; replace q263 := eq_true q263) | (go_at_call 80; (with_reducible refine (spec_biRank.calls k2 _ _ x0_2 t264 _ ?side1 ?side2 A20.out).mono ?_); (case side1 => exact ucz_ ((Kd.V_reads' HO_0.out).2.2)); (case side2 => exact (Kd.V_reads' HO_0.out).2.1); rintro e w' ⟨rfl, ⟨nd, rfl⟩⟩; (try first | exact ⟨rfl, _, World.drewN_drewN _ _ _⟩ | exact ⟨rfl, _, Eq.trans (World.drewN_drewN _ _ _) (congrArg (World.drewN _) (Nat.add_assoc _ _ _))⟩); have p265 : 0 ≤ (t264 : Int) := of_decide_eq_true asz_; have q265 : t264 < (t254.length : Int) := of_decide_eq_true asz_; obtain ⟨ad265, e265, hx265_0⟩ := Kd.at_int (Kd.R_reads' HO_4.out).2.2 t264 p265 q265; obtain rfl : ad258 = ad265 := (by injection e265); replace p265 := eq_true p265; replace q265 := eq_true q265)); try go_wp2_with (first | (go_at_call 81; (with_reducible refine (spec_biTurn.calls k2 _ _ x0_2 (wrap64 (Int.tdiv x6_2 (x0_2.length : Int))) (Int.tmod x6_2 (x0_2.length : Int)) t259 _ ?side1 ?side2 A16.out).mono ?_); (case side1 => exact ucz_ ((Kd.V_reads' HO_0.out).2.2)); (case side2 => exact (Kd.V_reads' HO_0.out).2.1); rintro e w33 ⟨v260, rfl, ho0, hb⟩; have n0_ := Az_ (Kd.V_elder' (by (with_reducible repeat (first | apply Kd.V_alloc | apply Kd.V_drewN | apply Kd.V_drew)); exact HO_0.out) (Kd.R_base ho0) hb); have n1_ := Az_ (rez_ (by exact urz_ HO_4.out) (Kd.R_base ho0) hb); have n2_ := Az_ (Kd.S_elder' (by (with_reducible repeat (first | apply Kd.S_alloc | apply Kd.S_drewN | apply Kd.S_drew)); exact HO_5.out) (Kd.R_base ho0) hb); have n3_ := Az_ (Kd.R_lower (Kd.R_new' (Kd.R_newM (M := fun k_ => (w.heap.size ≤ k_)) ho0 (below_size (ubz_ HB.out)) (fun k_ h_ => h_)) (Kd.R_lt (by exact urz_ HO_4.out))) (below_size (ubz_ HB.out))); have n4_ := Az_ (btz_ (ubz_ HB.out) hb); clear HO_0; clear HO_4; clear HO_5; clear HB; have HO_0 := n0_; have HO_4 := n1_; have HO_5 := n2_; have HO261 := n3_; have HB := n4_; clear n0_ n1_ n2_ n3_ n4_; (try clear hb); (try clear hb2); (try clear hk); (try clear hi); (try clear ho0); obtain ⟨Ao34, co34, eo34⟩ := Kd.R_slice HO261.out; subst eo34) | (go_at_call 80; (with_reducible refine (spec_biRank.calls k2 _ _ t259 t262 _ ?side1 ?side2 A17.out).mono ?_); (case side1 => exact ucz_ ((Kd.R_reads' HO261.out).2.2)); (case side2 => exact (Kd.R_reads' HO261.out).2.1); rintro e w' ⟨rfl, ⟨nd, rfl⟩⟩; (try first | exact ⟨rfl, _, World.drewN_drewN _ _ _⟩ | exact ⟨rfl, _, Eq.trans (World.drewN_drewN _ _ _) (congrArg (World.drewN _) (Nat.add_assoc _ _ _))⟩); have p263 : 0 ≤ (t262 : Int) := of_decide_eq_true asz_; have q263 : t262 < (t254.length : Int) := of_decide_eq_true asz_; obtain ⟨ad263, e263, hx263_0⟩ := Kd.at_int (Kd.R_reads' HO_4.out).2.2 t262 p263 q263; obtain rfl : ad258 = ad263 := (by injection e263); replace p263 := eq_true p263; replace q263 := eq_true q263) | (go_at_call 80; (with_reducible refine (spec_biRank.calls k2 _ _ x0_2 t264 _ ?side1 ?side2 A20.out).mono ?_); (case side1 => exact ucz_ ((Kd.V_reads' HO_0.out).2.2)); (case side2 => exact (Kd.V_reads' HO_0.out).2.1); rintro e w' ⟨rfl, ⟨nd, rfl⟩⟩; (try first | exact ⟨rfl, _, World.drewN_drewN _ _ _⟩ | exact ⟨rfl, _, Eq.trans (World.drewN_drewN _ _ _) (congrArg (World.drewN _) (Nat.add_assoc _ _ _))⟩); have p265 : 0 ≤ (t264 : Int) := of_decide_eq_true asz_; have q265 : t264 < (t254.length : Int) := of_decide_eq_true asz_; obtain ⟨ad265, e265, hx265_0⟩ := Kd.at_int (Kd.R_reads' HO_4.out).2.2 t264 p265 q265; obtain rfl : ad258 = ad265 := (by injection e265); replace p265 := eq_true p265; replace q265 := eq_true q265)))
                 go_roundg k2
                 case measure => have := HK1.out; have := HK2.out; omega
                 case rel => exact ⟨(x0_2), (x5_2), (wrap64 (x6_2 + 1)), qaz_, H', ⟨by have := HK1.out; have := HK2.out; omega⟩, ⟨by (with_reducible repeat (first | apply Kd.V_alloc | apply Kd.V_drewN | apply Kd.V_drew)); exact Kd.V_mono HO_0.out (fun _ hk => ⟨hk.1.1, ⟨hk.1.2.1, hk.1.2.2⟩⟩)⟩, ⟨by (with_reducible repeat (first | apply raz_ | apply rnz_ | apply rdz_)); exact Kd.R_mono HO_4.out (fun _ hk => hk.1)⟩, ⟨by (with_reducible repeat (first | apply Kd.S_alloc | apply Kd.S_drewN | apply Kd.S_drew)); exact Kd.S_mono HO_5.out (fun _ hk => ⟨hk.1.1, hk.1.2⟩)⟩, ⟨by exact ubz_ HB.out⟩⟩
               ·rw [if_neg c22] at H
                exact absurd H (by simp)
              ·rw [if_neg c21] at H
               exact absurd H (by simp)
             ·rw [if_neg c19] at H
              exact absurd H (by simp)
            ·rw [if_neg c18] at H
             exact absurd H (by simp)
         ·rw [if_neg c12] at H
          have c12b0 := decide_eq_false c12
          clear c12
          have H' := Az_ H
          clear H
          obtain ⟨Ao35, co35, eo35⟩ := Kd.V_slice HO_0.out
          subst eo35
          go_wp2
          repeat (go_quiet (fail); try go_wp2)
          go_roundg k2
          case measure => have := HK1.out; have := HK2.out; omega
          case rel => exact ⟨(x0_2), (x5_2), H', ⟨by have := HK1.out; have := HK2.out; omega⟩, ⟨by (with_reducible repeat (first | apply Kd.V_alloc | apply Kd.V_drewN | apply Kd.V_drew)); exact HO_0.out⟩, ⟨by (with_reducible repeat (first | apply raz_ | apply rnz_ | apply rdz_)); exact HO_4.out⟩, ⟨by (with_reducible repeat (first | apply Kd.S_alloc | apply Kd.S_drewN | apply Kd.S_drew)); exact HO_5.out⟩, ⟨by exact ubz_ HB.out⟩⟩
      ·rw [if_neg c9] at H
       have c9b0 := decide_eq_false c9
       clear c9
       simp only [Option.some.injEq, Prod.mk.injEq] at H
       obtain ⟨rfl, rfl⟩ := H
       obtain ⟨Ao36, co36, eo36⟩ := Kd.V_slice HO_0.out
       subst eo36
       go_wp2_with (first | (go_at_call 80; (with_reducible refine (spec_biRank.calls k1 _ _ x0_1 t257 _ ?side1 ?side2 A6.out).mono ?_); (case side1 => exact ucz_ ((Kd.V_reads' HO_0.out).2.2)); (case side2 => exact (Kd.V_reads' HO_0.out).2.1); rintro e w' ⟨rfl, ⟨nd, rfl⟩⟩; (try first | exact ⟨rfl, _, World.drewN_drewN _ _ _⟩ | exact ⟨rfl, _, Eq.trans (World.drewN_drewN _ _ _) (congrArg (World.drewN _) (Nat.add_assoc _ _ _))⟩); obtain ⟨Ao37, co37, eo37⟩ := Kd.R_slice HO_4.out; subst eo37; have p258 : 0 ≤ (t257 : Int) := of_decide_eq_true asz_; have q258 : t257 < (t254.length : Int) := of_decide_eq_true asz_; obtain ⟨ad258, e258, hx258_0⟩ := Kd.at_int (Kd.R_reads' HO_4.out).2.2 t257 p258 q258; cases e258; replace p258 := eq_true p258; replace q258 := eq_true q258))
       repeat (go_quiet (first | (go_at_call 80; (with_reducible refine (spec_biRank.calls k1 _ _ x0_1 t257 _ ?side1 ?side2 A6.out).mono ?_); (case side1 => exact ucz_ ((Kd.V_reads' HO_0.out).2.2)); (case side2 => exact (Kd.V_reads' HO_0.out).2.1); rintro e w' ⟨rfl, ⟨nd, rfl⟩⟩; (try first | exact ⟨rfl, _, World.drewN_drewN _ _ _⟩ | exact ⟨rfl, _, Eq.trans (World.drewN_drewN _ _ _) (congrArg (World.drewN _) (Nat.add_assoc _ _ _))⟩); obtain ⟨Ao37, co37, eo37⟩ := Kd.R_slice HO_4.out; subst eo37; have p258 : 0 ≤ (t257 : Int) := of_decide_eq_true asz_; have q258 : t257 < (t254.length : Int) := of_decide_eq_true asz_; obtain ⟨ad258, e258, hx258_0⟩ := Kd.at_int (Kd.R_reads' HO_4.out).2.2 t257 p258 q258; cases e258; replace p258 := eq_true p258; replace q258 := eq_true q258)); try go_wp2_with (first | (go_at_call 80; (with_reducible refine (spec_biRank.calls k1 _ _ x0_1 t257 _ ?side1 ?side2 A6.out).mono ?_); (case side1 => exact ucz_ ((Kd.V_reads' HO_0.out).2.2)); (case side2 => exact (Kd.V_reads' HO_0.out).2.1); rintro e w' ⟨rfl, ⟨nd, rfl⟩⟩; (try first | exact ⟨rfl, _, World.drewN_drewN _ _ _⟩ | exact ⟨rfl, _, Eq.trans (World.drewN_drewN _ _ _) (congrArg (World.drewN _) (Nat.add_assoc _ _ _))⟩); obtain ⟨Ao37, co37, eo37⟩ := Kd.R_slice HO_4.out; subst eo37; have p258 : 0 ≤ (t257 : Int) := of_decide_eq_true asz_; have q258 : t257 < (t254.length : Int) := of_decide_eq_true asz_; obtain ⟨ad258, e258, hx258_0⟩ := Kd.at_int (Kd.R_reads' HO_4.out).2.2 t257 p258 q258; cases e258; replace p258 := eq_true p258; replace q258 := eq_true q258)))
       go_ret2
       exact ⟨_, by first | rfl | (simp [errW_none, errW_some] <;> rfl) | (simp [*, errW_none, errW_some] <;> rfl), by (with_reducible repeat (first | apply Kd.S_alloc | apply Kd.S_drewN | apply Kd.S_drew)); exact Kd.S_mono HO_5.out (fun _ hk => hk.1), by exact ubz_ HB.out⟩
     ·rw [if_neg c8] at H
      exact absurd H (by simp)
    ·rw [if_neg c7] at H
     exact absurd H (by simp)
 ·replace c3 := Bool.eq_false_iff.mpr c3
  subst c3
  have H1 : (some (([] : List (List Int)), false)) = some (r1, r2) := by rw [if_neg (show ¬ (false = true) by decide)] at H; exact H
  clear H
  have H := H1
  clear H1
  simp only [Option.some.injEq, Prod.mk.injEq] at H
  obtain ⟨rfl, rfl⟩ := H
  go_enter Try.func32, Try.ntmps32
  go_wp2_with (first | (go_at_call 78; (with_reducible refine (spec_biFew.calls k _ _ l0 false _ ?side1 ?side2 A2.out).mono ?_); (case side1 => exact ucz_ ((Kd.V_reads' HO0.out).2.2)); (case side2 => exact (Kd.V_reads' HO0.out).2.1); rintro e w' ⟨rfl, ⟨nd, rfl⟩⟩; (try first | exact ⟨rfl, _, World.drewN_drewN _ _ _⟩ | exact ⟨rfl, _, Eq.trans (World.drewN_drewN _ _ _) (congrArg (World.drewN _) (Nat.add_assoc _ _ _))⟩)))
  repeat (go_quiet (first | (go_at_call 78; (with_reducible refine (spec_biFew.calls k _ _ l0 false _ ?side1 ?side2 A2.out).mono ?_); (case side1 => exact ucz_ ((Kd.V_reads' HO0.out).2.2)); (case side2 => exact (Kd.V_reads' HO0.out).2.1); rintro e w' ⟨rfl, ⟨nd, rfl⟩⟩; (try first | exact ⟨rfl, _, World.drewN_drewN _ _ _⟩ | exact ⟨rfl, _, Eq.trans (World.drewN_drewN _ _ _) (congrArg (World.drewN _) (Nat.add_assoc _ _ _))⟩))); try go_wp2_with (first | (go_at_call 78; (with_reducible refine (spec_biFew.calls k _ _ l0 false _ ?side1 ?side2 A2.out).mono ?_); (case side1 => exact ucz_ ((Kd.V_reads' HO0.out).2.2)); (case side2 => exact (Kd.V_reads' HO0.out).2.1); rintro e w' ⟨rfl, ⟨nd, rfl⟩⟩; (try first | exact ⟨rfl, _, World.drewN_drewN _ _ _⟩ | exact ⟨rfl, _, Eq.trans (World.drewN_drewN _ _ _) (congrArg (World.drewN _) (Nat.add_assoc _ _ _))⟩))))
  go_ret2
  exact ⟨_, by first | rfl | (simp [errW_none, errW_some] <;> rfl) | (simp [*, errW_none, errW_some] <;> rfl), by first | exact Kd.S_nil _ _ _ _ _ | exact Kd.N_nil _ _ _ _ _ | exact Kd.V_nil _ _ _ _ _ | exact Kd.Q_nil _ _ _ _ _ | exact Kd.R_nil _ _ _ _ _, by exact ubz_ HB.out⟩

/-! ### spec_FewestTurns: function 34 -/
def spec_FewestTurns.f (k : Nat) (l0 : List Int) : Option (Int × Bool) := (spec_biFew.f k l0).bind fun t272 => (if t272 = true then ((spec_biFar.f k (l0.length : Int)).bind fun t273 => ((spec_biRank.f k l0).bind fun t276 => (if 0 ≤ t276 then (if t276 < (t273.length : Int) then (some (rd t273 t276, true)) else (none)) else (none)))) else (some (0, false)))
set_option maxHeartbeats 8000000 in
set_option maxRecDepth 100000 in
theorem spec_FewestTurns.calls (k : Nat) (A0 : Option Addr) (c0 : Nat) (l0 : List Int) (r1 : Int) (r2 : Bool) (w : World) (hr0 : Kd.C (Kd.int .i64) w A0 l0.length l0) (hc0 : l0.length ≤ c0) (h : spec_FewestTurns.f k l0 = some (r1, r2)) :
  Calls Try.prog 34 #[.slice A0 l0.length c0] w fun e w' => e = .returned (.tuple #[.int .i64 r1, .bool r2]) ∧ Below w.heap.size w w' := by
 have HR0 := Az_ hr0
 have HC0 := Az_ hc0
 clear hr0 hc0
 have HB := Az_ (Below.refl w.heap.size w)
 have H : ((spec_biFew.f k l0).bind fun t272 => (if t272 = true then ((spec_biFar.f k (l0.length : Int)).bind fun t273 => ((spec_biRank.f k l0).bind fun t276 => (if 0 ≤ t276 then (if t276 < (t273.length : Int) then (some (rd t273 t276, true)) else (none)) else (none)))) else (some (0, false)))) = some (r1, r2) := h
 clear h
 replace H := Option.bind_eq_some_iff.mp H
 obtain ⟨t272, A20, H⟩ := H
 replace H : (if t272 = true then ((spec_biFar.f k (l0.length : Int)).bind fun t273 => ((spec_biRank.f k l0).bind fun t276 => (if 0 ≤ t276 then (if t276 < (t273.length : Int) then (some (rd t273 t276, true)) else (none)) else (none)))) else (some (0, false))) = some (r1, r2) := H
 have A2 := Az_ A20
 clear A20
 by_cases c3 : t272 = true
 ·subst c3
  have H1 : ((spec_biFar.f k (l0.length : Int)).bind fun t273 => ((spec_biRank.f k l0).bind fun t276 => (if 0 ≤ t276 then (if t276 < (t273.length : Int) then (some (rd t273 t276, true)) else (none)) else (none)))) = some (r1, r2) := by rw [if_pos rfl] at H; exact H
  clear H
  have H := H1
  clear H1
  replace H := Option.bind_eq_some_iff.mp H
  obtain ⟨t273, A40, H⟩ := H
  replace H : ((spec_biRank.f k l0).bind fun t276 => (if 0 ≤ t276 then (if t276 < (t273.length : Int) then (some (rd t273 t276, true)) else (none)) else (none))) = some (r1, r2) := H
  have A4 := Az_ A40
  clear A40
  replace H := Option.bind_eq_some_iff.mp H
  obtain ⟨t276, A50, H⟩ := H
  replace H : (if 0 ≤ t276 then (if t276 < (t273.length : Int) then (some (rd t273 t276, true)) else (none)) else (none)) = some (r1, r2) := H
  have A5 := Az_ A50
  clear A50
  by_cases c6 : 0 ≤ t276
  ·rw [if_pos c6] at H
   have c6b0 := decide_eq_true c6
   clear c6
   by_cases c7 : t276 < (t273.length : Int)
   ·rw [if_pos c7] at H
    have c7b0 := decide_eq_true c7
    clear c7
    simp only [Option.some.injEq, Prod.mk.injEq] at H
    obtain ⟨rfl, rfl⟩ := H
    go_enter Try.func34, Try.ntmps34
    go_wp2_with (first | ((with_reducible refine gate_callee (f := 78) rfl ?_); refine goesL_ (some 5) rfl rfl Try.func78 (by kernel_rfl) rfl #[.slice A0 l0.length c0] rfl maz_ ?_; (with_reducible refine (spec_biFew.calls k _ _ l0 true _ ?side1 ?side2 A2.out).mono ?_); (case side1 => exact ucz_ (HR0.out)); (case side2 => first | exact HC0.out | (rw [List.length_take]; have := HC0.out; omega)); rintro e w' ⟨rfl, ⟨nd, rfl⟩⟩; refine ⟨_, rfl, ?_⟩) | ((with_reducible refine gate_callee (f := 79) rfl ?_); refine goesL_ (some 9) rfl rfl Try.func79 (by kernel_rfl) rfl #[.int .i64 (l0.length : Int)] rfl maz_ ?_; (with_reducible refine (spec_biFar.calls k (l0.length : Int) t273 _ A4.out).mono ?_); rintro e w8 ⟨v274, rfl, ho0, hb⟩; refine ⟨_, rfl, ?_⟩; have n0_ := Az_ (Kd.R_lower ho0 (below_size (ubz_ HB.out))); have n1_ := Az_ (btz_ (ubz_ HB.out) hb); clear HB; have HO275 := n0_; have HB := n1_; clear n0_ n1_; (try clear hb); (try clear hb2); (try clear hk); (try clear hi); (try clear ho0)) | ((with_reducible refine gate_callee (f := 80) rfl ?_); refine goesL_ (some 11) rfl rfl Try.func80 (by kernel_rfl) rfl #[.slice A0 l0.length c0] rfl maz_ ?_; (with_reducible refine (spec_biRank.calls k _ _ l0 t276 _ ?side1 ?side2 A5.out).mono ?_); (case side1 => exact ucz_ ((Kd.C_below HR0.out HB.out))); (case side2 => first | exact HC0.out | (rw [List.length_take]; have := HC0.out; omega)); rintro e w' ⟨rfl, ⟨nd, rfl⟩⟩; refine ⟨_, rfl, ?_⟩; obtain ⟨Ao9, co9, eo9⟩ := Kd.R_slice HO275.out; subst eo9; have p277 : 0 ≤ (t276 : Int) := of_decide_eq_true asz_; have q277 : t276 < (t273.length : Int) := of_decide_eq_true asz_; obtain ⟨ad277, e277, hx277_0⟩ := Kd.at_int (Kd.R_reads' HO275.out).2.2 t276 p277 q277; cases e277; replace p277 := eq_true p277; replace q277 := eq_true q277))
    go_ret2
    exact ⟨by first | rfl | (simp [errW_none, errW_some] <;> rfl) | (simp [*, errW_none, errW_some] <;> rfl), by exact ubz_ HB.out⟩
   ·rw [if_neg c7] at H
    exact absurd H (by simp)
  ·rw [if_neg c6] at H
   exact absurd H (by simp)
 ·replace c3 := Bool.eq_false_iff.mpr c3
  subst c3
  have H1 : (some (0, false)) = some (r1, r2) := by rw [if_neg (show ¬ (false = true) by decide)] at H; exact H
  clear H
  have H := H1
  clear H1
  simp only [Option.some.injEq, Prod.mk.injEq] at H
  obtain ⟨rfl, rfl⟩ := H
  go_enter Try.func34, Try.ntmps34
  go_wp2_with (first | ((with_reducible refine gate_callee (f := 78) rfl ?_); refine goesL_ (some 5) rfl rfl Try.func78 (by kernel_rfl) rfl #[.slice A0 l0.length c0] rfl maz_ ?_; (with_reducible refine (spec_biFew.calls k _ _ l0 false _ ?side1 ?side2 A2.out).mono ?_); (case side1 => exact ucz_ (HR0.out)); (case side2 => first | exact HC0.out | (rw [List.length_take]; have := HC0.out; omega)); rintro e w' ⟨rfl, ⟨nd, rfl⟩⟩; refine ⟨_, rfl, ?_⟩))
  go_ret2
  exact ⟨by first | rfl | (simp [errW_none, errW_some] <;> rfl) | (simp [*, errW_none, errW_some] <;> rfl), by exact ubz_ HB.out⟩

end Go.Proofs.Ytppbpefehpbejaa.P
end

section
namespace Go.Proofs.Ytppbpefehpbejaa.P
open Go.RowKit Go.Proofs.YtppbpefehpbejaaW.PrintWords Go.Proofs.YtppbpefehpbejaaW.PrintLast Go.Proofs.YtppbpefehpbejaaW.PrintMore
set_option linter.unusedVariables false
set_option linter.unusedSimpArgs false

def grow_Int.f (l0 : List Int) (a1 : Int) : Option (List Int) := if l0 = [] ∧ 0 < a1 ∧ a1 ≤ 17592186044416 then some [] else none
theorem info_growInt : (Try.prog.info? 3).map (fun i => (i.zero, i.size, i.bytes)) = some (some (.int .i64 0), 1, 8) := by kernel_rfl
set_option maxHeartbeats 8000000 in
set_option maxRecDepth 100000 in
theorem grow_Int.calls0 (a1 : Int) (r : List Int) (w : World) (h : grow_Int.f [] a1 = some r) :
    Calls Try.prog 106 #[.slice none 0 0, .int .i64 a1] w fun e w' => ∃ v0_ : Value, e = .returned (v0_) ∧ Kd.R (Kd.int .i64) 3 w' w.heap.size (fun _ => True) v0_ r ∧ Below w.heap.size w w' := by
  unfold grow_Int.f at h
  by_cases c2 : ([] : List Int) = [] ∧ 0 < a1 ∧ a1 ≤ 17592186044416
  · rw [if_pos c2] at h
    obtain rfl := Option.some.inj h
    have c3 := c2.2.1
    have LM := Aside0.mk c2.2
    have w1 := Aside0.mk (show wrap64 a1 = a1 by unfold wrap64; omega)
    have HB := Aside0.mk (Below.refl w.heap.size w)
    clear h c2
    have b1 : decide (a1 < 0) = false := decide_eq_false (by omega)
    have b2 : decide (a1 > 0) = true := decide_eq_true (by omega)
    have b3 : 0 < wrap64 a1 := by rw [w1.out]; exact c3
    go_enter Try.func106, Try.ntmps106
    go_wp2_with ((with_reducible refine gate_builtin (b := .append) (xs := #[.tmp 20, .tmp 21]) rfl ?_); at_builtin; refine Kd.R_append_zeros (Kd.int .i64) (w0 := w) w.heap.size rfl (.tmp 20) (.tmp 21) 24 3 3 (.int .i64 0) 8 rfl Try.underlying24 Try.underlying3 info_growInt rfl (by decide) (by decide) (.slice none 0 0) [] (0 : Int) (wrap64 a1) (fun _ => True) rfl rfl rfl (fun _ _ => trivial) (Kd.R_nil _ _ _ _ _) (by rw [w1.out]; have := LM.out; omega) HB.out (Nat.le_refl _) (by rw [w1.out]; have := LM.out; simp only [List.length_nil]; omega) ?_; intro v1 W1 ho hb _ _; obtain ⟨A1, cc, rfl⟩ := Kd.R_slice ho; have n0_ := Aside0.mk (Kd.R_take (m := 0) ho (Nat.zero_le _)); clear HB ho; have HO := n0_; have HB := Aside0.mk hb; clear hb n0_; rw [List.take_zero] at HO)
    go_ret
    exact ⟨_, rfl, by (with_reducible repeat (first | apply Kd.R_alloc | apply Kd.R_drewN | apply Kd.R_drew)); exact HO.out, by repeat (first | (with_reducible first | exact HB.out | apply below_alloc | apply pw_below_drewN | apply below_drew1) | exact HB.out)⟩
  · rw [if_neg c2] at h
    cases h
end Go.Proofs.Ytppbpefehpbejaa.P
end

section
namespace Go.Proofs.Ytppbpefehpbejaa.P
open Go.RowKit Go.Proofs.YtppbpefehpbejaaW.PrintWords Go.Proofs.YtppbpefehpbejaaW.PrintLast Go.Proofs.YtppbpefehpbejaaW.PrintMore
attribute [local go_sem] max2_int min2_int max_two min_two max_three min_three max_four min_four   -- for this text's walks alone
set_option linter.unusedVariables false
set_option linter.unusedSimpArgs false

/-! ### slices_Concat_int_int: function 82 -/
mutual
def slices_Concat_int_int.l0 : Nat → List (List Int) → Int → List (List Int) → Int → Int → Option (List Int)
 | 0, _, _, _, _, _ => none
 | k + 1, x0, x3, x9, x10, x11 => if x11 < x10 then (if 0 ≤ x11 then (if x11 < (x9.length : Int) then (if (wrap64 (x3 + ((rd_L2 x9 x11).length : Int))) < 0 then (none) else (slices_Concat_int_int.l0 k x0 (wrap64 (x3 + ((rd_L2 x9 x11).length : Int))) x9 x10 (wrap64 (x11 + 1)))) else (none)) else (none)) else ((grow_Int.f ([] : List Int) x3).bind fun t279 => (slices_Concat_int_int.l1 k t279 x0 (x0.length : Int) 0))
def slices_Concat_int_int.l1 : Nat → List Int → List (List Int) → Int → Int → Option (List Int)
 | 0, _, _, _, _ => none
 | k + 1, x6, x25, x26, x27 => if x27 < x26 then (if 0 ≤ x27 then (if x27 < (x25.length : Int) then (if x6.length + (rd_L2 x25 x27).length < 17592186044416 then (slices_Concat_int_int.l1 k (x6 ++ (rd_L2 x25 x27)) x25 x26 (wrap64 (x27 + 1))) else (none)) else (none)) else (none)) else (some x6)
end
def slices_Concat_int_int.f (k : Nat) (l0 : List (List Int)) : Option (List Int) := slices_Concat_int_int.l0 k l0 0 l0 (l0.length : Int) 0
set_option maxHeartbeats 8000000 in
set_option maxRecDepth 100000 in
theorem slices_Concat_int_int.calls (k : Nat) (A0 : Option Addr) (c0 : Nat) (l0 : List (List Int)) (r : List Int) (w : World) (hr0 : Kd.C (Kd.slice 3 (Kd.int .i64)) w A0 l0.length l0) (hc0 : l0.length ≤ c0) (h : slices_Concat_int_int.f k l0 = some r) :
  Calls Try.prog 82 #[.slice A0 l0.length c0] w fun e w' => ∃ v0_ : Value, e = .returned (v0_) ∧ Kd.R (Kd.int .i64) 3 w' w.heap.size (fun _ => True) v0_ r ∧ Below w.heap.size w w' := by
 have HR0 := Az_ hr0
 have HC0 := Az_ hc0
 clear hr0 hc0
 have HB := Az_ (Below.refl w.heap.size w)
 have H : (slices_Concat_int_int.l0 k l0 0 l0 (l0.length : Int) 0) = some r := h
 clear h
 have H' := Az_ H
 clear H
 go_enter Try.func82, Try.ntmps82
 go_wp2
 go_loopg [3, 11] k (fun kq v3 v11 w' => ∃ (x3_1 : Int) (x11_1 : Int), v3 = .int .i64 x3_1 ∧ v11 = .int .i64 x11_1 ∧ Aside0 (slices_Concat_int_int.l0 kq l0 x3_1 l0 (l0.length : Int) x11_1 = some r) ∧ Aside0 (kq ≤ k) ∧ Aside0 (Below w.heap.size w w'))
 case atStart => exact ⟨(0), (0), qaz_, qaz_, H', ⟨Nat.le_refl _⟩, ⟨by exact ubz_ HB.out⟩⟩
 case round =>
  clear H'
  obtain ⟨x3_1, x11_1, rfl, rfl, HA, HK1, HB⟩ := hrel
  cases gk with
  | zero => exact absurd HA.out (by simp [slices_Concat_int_int.l0])
  | succ k1 =>
   have H := HA.out
   clear HA
   simp only [slices_Concat_int_int.l0] at H
   by_cases c2 : x11_1 < (l0.length : Int)
   ·rw [if_pos c2] at H
    have c2b0 := decide_eq_true c2
    clear c2
    by_cases c3 : 0 ≤ x11_1
    ·rw [if_pos c3] at H
     have c3b0 := decide_eq_true c3
     clear c3
     by_cases c4 : x11_1 < (l0.length : Int)
     ·rw [if_pos c4] at H
      have c4b0 := decide_eq_true c4
      clear c4
      by_cases c5 : (wrap64 (x3_1 + ((rd_L2 l0 x11_1).length : Int))) < 0
      ·rw [if_pos c5] at H
       exact absurd H (by simp)
      ·rw [if_neg c5] at H
       have c5b0 := decide_eq_false c5
       clear c5
       have H' := Az_ H
       clear H
       have p278 : 0 ≤ (x11_1 : Int) := of_decide_eq_true asz_
       have q278 : x11_1 < (l0.length : Int) := of_decide_eq_true asz_
       obtain ⟨ad278, A278_0, c278_0, e278, hx278_0, hl278_0, hi278_0⟩ := at_L2 HR0.out x11_1 p278 q278
       cases e278
       replace hx278_0 := (HB.out.cell (World.block_lt_of_cell? w _ hx278_0)).trans hx278_0
       have HR278_0 := Az_ hi278_0
       have HC278_0 := Az_ hl278_0
       clear hi278_0 hl278_0
       replace p278 := eq_true p278
       replace q278 := eq_true q278
       go_wp2
       go_roundg k1
       case measure => have := HK1.out; omega
       case rel => exact ⟨(wrap64 (x3_1 + ((rd_L2 l0 x11_1).length : Int))), (wrap64 (x11_1 + 1)), qaz_, qaz_, H', ⟨by have := HK1.out; omega⟩, ⟨by exact ubz_ HB.out⟩⟩
     ·rw [if_neg c4] at H
      exact absurd H (by simp)
    ·rw [if_neg c3] at H
     exact absurd H (by simp)
   ·rw [if_neg c2] at H
    have c2b0 := decide_eq_false c2
    clear c2
    replace H := Option.bind_eq_some_iff.mp H
    obtain ⟨t279, A60, H⟩ := H
    replace H : (slices_Concat_int_int.l1 k1 t279 l0 (l0.length : Int) 0) = some r := H
    have A6 := Az_ A60
    clear A60
    have H' := Az_ H
    clear H
    go_wp2_with (first | ((with_reducible refine gate_callee (f := 106) rfl ?_); refine goesL_ (some 24) rfl rfl Try.func106 (by kernel_rfl) rfl #[.slice none 0 0, .int .i64 x3_1] rfl maz_ ?_; (refine (grow_Int.calls0 x3_1 t279 _ A6.out).mono ?_); rintro e w7 ⟨v280, rfl, ho0, hb⟩; refine ⟨_, rfl, ?_⟩; have n0_ := Az_ (Kd.R_lower ho0 (below_size (ubz_ HB.out))); have n1_ := Az_ (btz_ (ubz_ HB.out) hb); clear HB; have HO281 := n0_; have HB := n1_; clear n0_ n1_; (try clear hb); (try clear hb2); (try clear hk); (try clear hi); (try clear ho0)))
    go_loopg [6, 27] k1 (fun kq v6 v27 w' => ∃ (x6_2 : List Int) (x27_2 : Int), v27 = .int .i64 x27_2 ∧ Aside0 (slices_Concat_int_int.l1 kq x6_2 l0 (l0.length : Int) x27_2 = some r) ∧ Aside0 (kq ≤ k1) ∧ Aside0 (Kd.R (Kd.int .i64) 3 w' w.heap.size (fun _ => True) v6 x6_2) ∧ Aside0 (Below w.heap.size w w'))
    case atStart => exact ⟨(t279), (0), qaz_, H', ⟨Nat.le_refl _⟩, ⟨by (with_reducible repeat (first | apply raz_ | apply rnz_ | apply rdz_)); exact HO281.out⟩, ⟨by exact ubz_ HB.out⟩⟩
    case round =>
     clear H'
     (try clear c1); (try clear c2); (try clear c2b0); (try clear p2); (try clear q2); (try clear hx2); (try clear c3); (try clear c3b0); (try clear c4); (try clear c4b0); (try clear c5); (try clear c5b0); (try clear p6); (try clear hx278_0); (try clear p278); (try clear q278)
     obtain ⟨x6_2, x27_2, rfl, HA, HK2, HO_6, HB⟩ := hrel
     cases gk with
     | zero => exact absurd HA.out (by simp [slices_Concat_int_int.l1])
     | succ k2 =>
      have H := HA.out
      clear HA
      simp only [slices_Concat_int_int.l1] at H
      by_cases c8 : x27_2 < (l0.length : Int)
      ·rw [if_pos c8] at H
       have c8b0 := decide_eq_true c8
       clear c8
       by_cases c9 : 0 ≤ x27_2
       ·rw [if_pos c9] at H
        have c9b0 := decide_eq_true c9
        clear c9
        by_cases c10 : x27_2 < (l0.length : Int)
        ·rw [if_pos c10] at H
         have c10b0 := decide_eq_true c10
         clear c10
         by_cases c11 : x6_2.length + (rd_L2 l0 x27_2).length < 17592186044416
         ·rw [if_pos c11] at H
          have LMc11 := Az_ c11
          clear c11
          obtain ⟨y283, hy283⟩ : ∃ y_ : List Int, y_ = (x6_2 ++ (rd_L2 l0 x27_2)) := ⟨_, rfl⟩
          replace H : (slices_Concat_int_int.l1 k2 y283 l0 (l0.length : Int) (wrap64 (x27_2 + 1))) = some r := by first | (rw [hy283]; with_reducible exact H) | (have H2_ := (Option.bind_some _ _).symm.trans H; rw [hy283]; with_reducible exact H2_) | (have H2_ := (Option.bind_some _ _).symm.trans H; with_reducible exact H2_) | with_reducible exact H | (rw [hy283]; exact H) | exact H
          have Ny283 := Az_ hy283
          clear hy283
          have H' := Az_ H
          clear H
          have p282 : 0 ≤ (x27_2 : Int) := of_decide_eq_true asz_
          have q282 : x27_2 < (l0.length : Int) := of_decide_eq_true asz_
          obtain ⟨ad282, A282_0, c282_0, e282, hx282_0, hl282_0, hi282_0⟩ := at_L2 HR0.out x27_2 p282 q282
          cases e282
          replace hx282_0 := (HB.out.cell (World.block_lt_of_cell? w _ hx282_0)).trans hx282_0
          have HR282_0 := Az_ hi282_0
          have HC282_0 := Az_ hl282_0
          clear hi282_0 hl282_0
          replace p282 := eq_true p282
          replace q282 := eq_true q282
          go_wp2_with (first | ((with_reducible refine gate_builtin (b := .append) (xs := #[.tmp 31, .tmp 32]) rfl ?_); at_builtin; refine Kd.R_append_rows (Kd.int .i64) (w0 := w) w.heap.size rfl (.tmp 31) (.tmp 32) 24 3 (.int .i64 0) 8 rfl Try.underlying24 info3 rfl (by decide) (by omega) u6 x6_2 (rd_L2 l0 x27_2) _ _ _ (fun _ => True) (fun _ => False) rfl rfl ?aO ?aR (fun _ _ h => h) (fun _ h => h.elim) ?aF ?aB ?aS ?aL ?_; (case aR => repeat (first | exact (Kd.C_below HR282_0.out HB.out) | (with_reducible refine Kd.C_alloc ?_ _) | (with_reducible refine Kd.C_drewN ?_ _) | (with_reducible refine Kd.C_drew ?_))); (case aB => exact (ubz_ HB.out)); (case aF => exact (fun _ _ => trivial)); (case aO => exact (by exact urz_ HO_6.out)); (case aS => exact (below_size (ubz_ HB.out))); (case aL => have := LMc11.out; omega); intro v284 w12 ho hb hg hat; rw [← Ny283.out] at ho; have n0_ := Az_ (hb); have n1_ := Az_ (ho); clear HB; clear HO_6; have HB := n0_; have HO285 := n1_; clear n0_ n1_; clear ho hb hg hat))
          go_roundg k2
          case measure => have := HK1.out; have := HK2.out; omega
          case rel => exact ⟨(y283), (wrap64 (x27_2 + 1)), qaz_, H', ⟨by have := HK1.out; have := HK2.out; omega⟩, ⟨by (with_reducible repeat (first | apply raz_ | apply rnz_ | apply rdz_)); exact HO285.out⟩, ⟨by exact ubz_ HB.out⟩⟩
         ·rw [if_neg c11] at H
          exact absurd H (by simp)
        ·rw [if_neg c10] at H
         exact absurd H (by simp)
       ·rw [if_neg c9] at H
        exact absurd H (by simp)
      ·rw [if_neg c8] at H
       have c8b0 := decide_eq_false c8
       clear c8
       obtain rfl := Option.some.inj H
       go_wp2
       go_ret
       exact ⟨_, by first | rfl | (simp [errW_none, errW_some] <;> rfl) | (simp [*, errW_none, errW_some] <;> rfl), by (with_reducible repeat (first | apply raz_ | apply rnz_ | apply rdz_)); exact HO_6.out, by exact ubz_ HB.out⟩

/-! ### impl_BreaksOf: function 35 -/
def impl_BreaksOf.l0 : Nat → Int → Int → List Int → Int → Int → Option (Int × Bool)
 | 0, _, _, _, _, _ => none
 | k + 1, x4, x5, x17, x18, x19 => if x19 < x18 then (if 0 ≤ x19 then (if x19 < (x17.length : Int) then (if (rd x17 x19) = (wrap64 (x5 + 1)) then (impl_BreaksOf.l0 k x4 (rd x17 x19) x17 x18 (wrap64 (x19 + 1))) else (impl_BreaksOf.l0 k (wrap64 (x4 + 1)) (rd x17 x19) x17 x18 (wrap64 (x19 + 1)))) else (none)) else (none)) else (some (x4, true))
def impl_BreaksOf.f (k : Nat) (l0 : List Int) : Option (Int × Bool) := (impl_IsBinding.f k l0).bind fun t286 => (if t286 = true then ((slices_Concat_int_int.f k (([l0, (([wrap64 ((l0.length : Int) + 1)] : List Int))] : List (List Int)))).bind fun t293 => (impl_BreaksOf.l0 k 0 0 t293 (t293.length : Int) 0)) else (some (0, false)))
set_option maxHeartbeats 8000000 in
set_option maxRecDepth 100000 in
theorem impl_BreaksOf.calls (k : Nat) (P0_ : Nat → Prop) (A0 : Option Addr) (c0 : Nat) (l0 : List Int) (r1 : Int) (r2 : Bool) (w : World) (hs0 : Kd.V (Kd.int .i64) 3 w w.heap.size (fun k_ => P0_ k_) (.slice A0 l0.length c0) l0) (h : impl_BreaksOf.f k l0 = some (r1, r2)) :
  Calls Try.prog 35 #[.slice A0 l0.length c0] w fun e w' => e = .returned (.tuple #[.int .i64 r1, .bool r2]) ∧ Below w.heap.size w w' := by
 have HO0 := Az_ (show Kd.V (Kd.int .i64) 3 w w.heap.size (fun k_ => (P0_ k_ ∨ w.heap.size ≤ k_)) (.slice A0 l0.length c0) l0 from Kd.V_mono hs0 (fun k_ hk => .inl hk))
 have HB := Az_ (Below.refl w.heap.size w)
 have H : ((impl_IsBinding.f k l0).bind fun t286 => (if t286 = true then ((slices_Concat_int_int.f k (([l0, (([wrap64 ((l0.length : Int) + 1)] : List Int))] : List (List Int)))).bind fun t293 => (impl_BreaksOf.l0 k 0 0 t293 (t293.length : Int) 0)) else (some (0, false)))) = some (r1, r2) := h
 clear h
 replace H := Option.bind_eq_some_iff.mp H
 obtain ⟨t286, A20, H⟩ := H
 replace H : (if t286 = true then ((slices_Concat_int_int.f k (([l0, (([wrap64 ((l0.length : Int) + 1)] : List Int))] : List (List Int)))).bind fun t293 => (impl_BreaksOf.l0 k 0 0 t293 (t293.length : Int) 0)) else (some (0, false))) = some (r1, r2) := H
 have A2 := Az_ A20
 clear A20
 by_cases c3 : t286 = true
 ·subst c3
  have H1 : ((slices_Concat_int_int.f k (([l0, (([wrap64 ((l0.length : Int) + 1)] : List Int))] : List (List Int)))).bind fun t293 => (impl_BreaksOf.l0 k 0 0 t293 (t293.length : Int) 0)) = some (r1, r2) := by rw [if_pos rfl] at H; exact H
  clear H
  have H := H1
  clear H1
  obtain ⟨y287, hy287⟩ : ∃ y_ : List Int, y_ = (([wrap64 ((l0.length : Int) + 1)] : List Int)) := ⟨_, rfl⟩
  replace H : ((slices_Concat_int_int.f k (([l0, y287] : List (List Int)))).bind fun t293 => (impl_BreaksOf.l0 k 0 0 t293 (t293.length : Int) 0)) = some (r1, r2) := by first | (rw [hy287]; with_reducible exact H) | (have H2_ := (Option.bind_some _ _).symm.trans H; rw [hy287]; with_reducible exact H2_) | (have H2_ := (Option.bind_some _ _).symm.trans H; with_reducible exact H2_) | with_reducible exact H | (rw [hy287]; exact H) | exact H
  have Ny287 := Az_ hy287
  clear hy287
  obtain ⟨y290, hy290⟩ : ∃ y_ : List (List Int), y_ = (([l0, y287] : List (List Int))) := ⟨_, rfl⟩
  replace H : ((slices_Concat_int_int.f k y290).bind fun t293 => (impl_BreaksOf.l0 k 0 0 t293 (t293.length : Int) 0)) = some (r1, r2) := by first | (rw [hy290]; with_reducible exact H) | (have H2_ := (Option.bind_some _ _).symm.trans H; rw [hy290]; with_reducible exact H2_) | (have H2_ := (Option.bind_some _ _).symm.trans H; with_reducible exact H2_) | with_reducible exact H | (rw [hy290]; exact H) | exact H
  have Ny290 := Az_ hy290
  clear hy290
  replace H := Option.bind_eq_some_iff.mp H
  obtain ⟨t293, A40, H⟩ := H
  replace H : (impl_BreaksOf.l0 k 0 0 t293 (t293.length : Int) 0) = some (r1, r2) := H
  have A4 := Az_ A40
  clear A40
  have H' := Az_ H
  clear H
  go_enter Try.func35, Try.ntmps35
  go_wp2_with (first | ((with_reducible refine gate_callee (f := 42) rfl ?_); refine goesL_ (some 9) rfl rfl Try.func42 (by kernel_rfl) rfl #[.slice A0 l0.length c0] rfl maz_ ?_; (with_reducible refine (impl_IsBinding.calls k _ _ l0 true _ ?side1 ?side2 A2.out).mono ?_); (case side1 => exact ucz_ ((Kd.V_reads' HO0.out).2.2)); (case side2 => exact (Kd.V_reads' HO0.out).2.1); rintro e w5 ⟨rfl, hb⟩; refine ⟨_, rfl, ?_⟩; have n0_ := Az_ (Kd.V_below (by (with_reducible repeat (first | apply Kd.V_alloc | apply Kd.V_drewN | apply Kd.V_drew)); exact HO0.out) hb); have n1_ := Az_ (btz_ (ubz_ HB.out) hb); clear HO0; clear HB; have HO0 := n0_; have HB := n1_; clear n0_ n1_; (try clear hb); (try clear hb2); (try clear hk); (try clear hi)) | ((with_reducible refine gate_dst (N := 15) rfl ?_); refine Kd.R_lit (Kd.int .i64) _ 3 ?hg (N := 15) ?hd (xs := ([wrap64 ((l0.length : Int) + 1)] : List Int)) (inner := [.int .i64 (wrap64 ((l0.length : Int) + 1))]) (ok := fun _ => True) (okp := fun _ => True) ?hr ?hp (fun _ hk => hk) trivial (Below.refl _ _) (Nat.le_refl _) (by simp) ?_; (case hd => rfl); (case hg => rfl); (case hr => first | (go_simp; done) | (go_simp; rfl)); (case hp => exact (Reps.one (show Kd.M (Kd.int .i64) _ _ _ (wrap64 ((l0.length : Int) + 1)) [.int .i64 (wrap64 ((l0.length : Int) + 1))] from rfl) (Reps.none _ _))); intro v288 w6 ho7 hb hg_ hnew_; clear hg_ hnew_; (first | rw [← Ny287.out] at ho7 | (simp only [Int.reduceToNat] at ho7; rw [← Ny287.out] at ho7)); have n0_ := Az_ (Kd.V_elder' (by (with_reducible repeat (first | apply Kd.V_alloc | apply Kd.V_drewN | apply Kd.V_drew)); exact HO0.out) (Kd.R_base ho7) hb); have n1_ := Az_ (Kd.R_lower (Kd.R_newM (M := fun k_ => (w.heap.size ≤ k_)) ho7 (below_size (ubz_ HB.out)) (fun k_ h_ => h_)) (below_size (ubz_ HB.out))); have n2_ := Az_ (btz_ (ubz_ HB.out) hb); clear HO0; clear HB; have HO0 := n0_; have HO289 := n1_; have HB := n2_; clear n0_ n1_ n2_; clear hb ho7; obtain ⟨Ao8, co8, eo8⟩ := Kd.R_slice HO289.out; subst eo8) | ((with_reducible refine gate_dst (N := 16) rfl ?_); refine Kd.N_lit (Kd.slice 3 (Kd.int .i64)) _ 24 ?hg (N' := 16) ?hd (xs := ([l0, y287] : List (List Int))) (inner := [.slice A0 l0.length c0, .slice Ao8 y287.length co8]) (ok := (fun k_ => (P0_ k_ ∨ w.heap.size ≤ k_))) (okp := (fun k_ => (P0_ k_ ∨ w.heap.size ≤ k_))) ?hr ?hp (fun _ hk => hk) ((show ∀ k_, w6.heap.size ≤ k_ → (fun k_ => (P0_ k_ ∨ w.heap.size ≤ k_)) k_ from fun k_ hk => (.inr (Nat.le_trans (below_size (ubz_ HB.out)) hk))) _ (Nat.le_refl _)) (Below.refl _ _) (Nat.le_refl _) (by simp) ?_; (case hd => rfl); (case hg => rfl); (case hr => first | (go_simp; done) | (go_simp; rfl)); (case hp => exact (Reps.one (show Kd.FK (Kd.slice 3 (Kd.int .i64)) _ _ l0 [.slice A0 l0.length c0] from (Kd.FK_slice_mk (Kd.V_reads' (Kd.V_mono (ok' := (fun k_ => (P0_ k_ ∨ w.heap.size ≤ k_))) (HO0.out) (fun k_ hk => hk.1))).2.1 (Kd.V_F (Kd.V_mono (ok' := (fun k_ => (P0_ k_ ∨ w.heap.size ≤ k_))) (HO0.out) (fun k_ hk => hk.1))))) (Reps.one (show Kd.FK (Kd.slice 3 (Kd.int .i64)) _ _ y287 [.slice Ao8 y287.length co8] from (Kd.FK_slice_mk (Kd.R_reads' (Kd.R_mono (ok' := (fun k_ => (P0_ k_ ∨ w.heap.size ≤ k_))) (HO289.out) (fun k_ hk => (.inr (hk.1))))).2.1 (Kd.R_F (Kd.R_mono (ok' := (fun k_ => (P0_ k_ ∨ w.heap.size ≤ k_))) (HO289.out) (fun k_ hk => (.inr (hk.1))))))) (Reps.none _ _)))); intro v291 w9 ho10 hb hg_ hnew_; clear hg_ hnew_; (first | rw [← Ny290.out] at ho10 | (simp only [Int.reduceToNat] at ho10; rw [← Ny290.out] at ho10)); have n0_ := Az_ (Kd.V_elder' (by (with_reducible repeat (first | apply Kd.V_alloc | apply Kd.V_drewN | apply Kd.V_drew)); exact HO0.out) (Kd.N_base ho10) hb); have n1_ := Az_ (Kd.N_lower ho10 (below_size (ubz_ HB.out))); have n2_ := Az_ (btz_ (ubz_ HB.out) hb); clear HO0; clear HB; clear HO289; have HO0 := n0_; have HO292 := n1_; have HB := n2_; clear n0_ n1_ n2_; clear hb ho10; obtain ⟨Ao11, co11, eo11⟩ := Kd.N_slice HO292.out; subst eo11) | ((with_reducible refine gate_callee (f := 82) rfl ?_); refine goesL_ (some 17) rfl rfl Try.func82 (by kernel_rfl) rfl #[.slice Ao11 y290.length co11] rfl maz_ ?_; (with_reducible refine (slices_Concat_int_int.calls k _ _ y290 t293 _ ?side1 ?side2 A4.out).mono ?_); (case side1 => exact ucz_ ((Kd.N_reads' HO292.out).2.2)); (case side2 => exact (Kd.N_reads' HO292.out).2.1); rintro e w12 ⟨v294, rfl, ho0, hb⟩; refine ⟨_, rfl, ?_⟩; have n0_ := Az_ (Kd.V_elder' (by (with_reducible repeat (first | apply Kd.V_alloc | apply Kd.V_drewN | apply Kd.V_drew)); exact HO0.out) (Kd.R_base ho0) hb); have n1_ := Az_ (Kd.N_elder' (by (with_reducible repeat (first | apply Kd.N_alloc | apply Kd.N_drewN | apply Kd.N_drew)); exact HO292.out) (Kd.R_base ho0) hb); have n2_ := Az_ (Kd.R_lower (Kd.R_newM (M := fun k_ => (w.heap.size ≤ k_)) ho0 (below_size (ubz_ HB.out)) (fun k_ h_ => h_)) (below_size (ubz_ HB.out))); have n3_ := Az_ (btz_ (ubz_ HB.out) hb); clear HO0; clear HO292; clear HB; have HO0 := n0_; have HO292 := n1_; have HO295 := n2_; have HB := n3_; clear n0_ n1_ n2_ n3_; (try clear hb); (try clear hb2); (try clear hk); (try clear hi); (try clear ho0); obtain ⟨Ao13, co13, eo13⟩ := Kd.R_slice HO295.out; subst eo13))
  go_loopg [4, 5, 19] k (fun kq v4 v5 v19 w' => ∃ (x4_1 : Int) (x5_1 : Int) (x19_1 : Int), v4 = .int .i64 x4_1 ∧ v5 = .int .i64 x5_1 ∧ v19 = .int .i64 x19_1 ∧ Aside0 (impl_BreaksOf.l0 kq x4_1 x5_1 t293 (t293.length : Int) x19_1 = some (r1, r2)) ∧ Aside0 (kq ≤ k) ∧ Aside0 (Kd.R (Kd.int .i64) 3 w' w.heap.size (fun k_ => (w.heap.size ≤ k_)) (.slice Ao13 t293.length co13) t293) ∧ Aside0 (Below w.heap.size w w'))
  case atStart => exact ⟨(0), (0), (0), qaz_, qaz_, qaz_, H', ⟨Nat.le_refl _⟩, ⟨by (with_reducible repeat (first | apply raz_ | apply rnz_ | apply rdz_)); exact Kd.R_mono HO295.out (fun _ hk => hk.1)⟩, ⟨by exact ubz_ HB.out⟩⟩
  case round =>
   clear H'
   (try clear p2); (try clear c3); (try clear c4); (try clear p6); (try clear c8)
   obtain ⟨x4_1, x5_1, x19_1, rfl, rfl, rfl, HA, HK1, HO_17, HB⟩ := hrel
   cases gk with
   | zero => exact absurd HA.out (by simp [impl_BreaksOf.l0])
   | succ k1 =>
    have H := HA.out
    clear HA
    simp only [impl_BreaksOf.l0] at H
    by_cases c14 : x19_1 < (t293.length : Int)
    ·rw [if_pos c14] at H
     have c14b0 := decide_eq_true c14
     clear c14
     by_cases c15 : 0 ≤ x19_1
     ·rw [if_pos c15] at H
      have c15b0 := decide_eq_true c15
      clear c15
      by_cases c16 : x19_1 < (t293.length : Int)
      ·rw [if_pos c16] at H
       have c16b0 := decide_eq_true c16
       clear c16
       by_cases c17 : (rd t293 x19_1) = (wrap64 (x5_1 + 1))
       ·rw [if_pos c17] at H
        have c17b0 : ((rd t293 x19_1) == (wrap64 (x5_1 + 1))) = true := beq_iff_eq.mpr c17
        have c17b1 : ((rd t293 x19_1) != (wrap64 (x5_1 + 1))) = false := bne_eq_false_iff_eq.mpr c17
        clear c17
        have H' := Az_ H
        clear H
        have p296 : 0 ≤ (x19_1 : Int) := of_decide_eq_true asz_
        have q296 : x19_1 < (t293.length : Int) := of_decide_eq_true asz_
        obtain ⟨ad296, e296, hx296_0⟩ := Kd.at_int (Kd.R_reads' HO_17.out).2.2 x19_1 p296 q296
        cases e296
        replace p296 := eq_true p296
        replace q296 := eq_true q296
        go_wp2
        go_roundg k1
        case measure => have := HK1.out; omega
        case rel => exact ⟨(x4_1), (rd t293 x19_1), (wrap64 (x19_1 + 1)), qaz_, qaz_, qaz_, H', ⟨by have := HK1.out; omega⟩, ⟨by (with_reducible repeat (first | apply raz_ | apply rnz_ | apply rdz_)); exact HO_17.out⟩, ⟨by exact ubz_ HB.out⟩⟩
       ·rw [if_neg c17] at H
        have c17b0 : ((rd t293 x19_1) == (wrap64 (x5_1 + 1))) = false := beq_eq_false_iff_ne.mpr c17
        have c17b1 : ((rd t293 x19_1) != (wrap64 (x5_1 + 1))) = true := bne_iff_ne.mpr c17
        have H' := Az_ H
        clear H
        have p296 : 0 ≤ (x19_1 : Int) := of_decide_eq_true asz_
        have q296 : x19_1 < (t293.length : Int) := of_decide_eq_true asz_
        obtain ⟨ad296, e296, hx296_0⟩ := Kd.at_int (Kd.R_reads' HO_17.out).2.2 x19_1 p296 q296
        cases e296
        replace p296 := eq_true p296
        replace q296 := eq_true q296
        go_wp2
        go_roundg k1
        case measure => have := HK1.out; omega
        case rel => exact ⟨(wrap64 (x4_1 + 1)), (rd t293 x19_1), (wrap64 (x19_1 + 1)), qaz_, qaz_, qaz_, H', ⟨by have := HK1.out; omega⟩, ⟨by (with_reducible repeat (first | apply raz_ | apply rnz_ | apply rdz_)); exact HO_17.out⟩, ⟨by exact ubz_ HB.out⟩⟩
      ·rw [if_neg c16] at H
       exact absurd H (by simp)
     ·rw [if_neg c15] at H
      exact absurd H (by simp)
    ·rw [if_neg c14] at H
     have c14b0 := decide_eq_false c14
     clear c14
     simp only [Option.some.injEq, Prod.mk.injEq] at H
     obtain ⟨rfl, rfl⟩ := H
     go_wp2
     go_ret2
     exact ⟨by first | rfl | (simp [errW_none, errW_some] <;> rfl) | (simp [*, errW_none, errW_some] <;> rfl), by exact ubz_ HB.out⟩
 ·replace c3 := Bool.eq_false_iff.mpr c3
  subst c3
  have H1 : (some (0, false)) = some (r1, r2) := by rw [if_neg (show ¬ (false = true) by decide)] at H; exact H
  clear H
  have H := H1
  clear H1
  simp only [Option.some.injEq, Prod.mk.injEq] at H
  obtain ⟨rfl, rfl⟩ := H
  go_enter Try.func35, Try.ntmps35
  go_wp2_with (first | ((with_reducible refine gate_callee (f := 42) rfl ?_); refine goesL_ (some 9) rfl rfl Try.func42 (by kernel_rfl) rfl #[.slice A0 l0.length c0] rfl maz_ ?_; (with_reducible refine (impl_IsBinding.calls k _ _ l0 false _ ?side1 ?side2 A2.out).mono ?_); (case side1 => exact ucz_ ((Kd.V_reads' HO0.out).2.2)); (case side2 => exact (Kd.V_reads' HO0.out).2.1); rintro e w18 ⟨rfl, hb⟩; refine ⟨_, rfl, ?_⟩; have n0_ := Az_ (Kd.V_below (by (with_reducible repeat (first | apply Kd.V_alloc | apply Kd.V_drewN | apply Kd.V_drew)); exact HO0.out) hb); have n1_ := Az_ (btz_ (ubz_ HB.out) hb); clear HO0; clear HB; have HO0 := n0_; have HB := n1_; clear n0_ n1_; (try clear hb); (try clear hb2); (try clear hk); (try clear hi)))
  go_ret2
  exact ⟨by first | rfl | (simp [errW_none, errW_some] <;> rfl) | (simp [*, errW_none, errW_some] <;> rfl), by exact ubz_ HB.out⟩

end Go.Proofs.Ytppbpefehpbejaa.P
end

section
namespace Go.Proofs.Ytppbpefehpbejaa.P
open Go.RowKit Go.Proofs.YtppbpefehpbejaaW.PrintWords Go.Proofs.YtppbpefehpbejaaW.PrintLast Go.Proofs.YtppbpefehpbejaaW.PrintMore
attribute [local go_sem] max2_int min2_int max_two min_two max_three min_three max_four min_four   -- for this text's walks alone
set_option linter.unusedVariables false
set_option linter.unusedSimpArgs false

/-! ### spec_BreaksOf: function 36 -/
def spec_BreaksOf.l0 : Nat → Int → Int → List Int → Int → Int → Option (Int × Bool)
 | 0, _, _, _, _, _ => none
 | k + 1, x4, x5, x17, x18, x19 => if x19 < x18 then (if 0 ≤ x19 then (if x19 < (x17.length : Int) then (if (rd x17 x19) = (wrap64 (x5 + 1)) then (spec_BreaksOf.l0 k x4 (rd x17 x19) x17 x18 (wrap64 (x19 + 1))) else (spec_BreaksOf.l0 k (wrap64 (x4 + 1)) (rd x17 x19) x17 x18 (wrap64 (x19 + 1)))) else (none)) else (none)) else (some (x4, true))
def spec_BreaksOf.f (k : Nat) (l0 : List Int) : Option (Int × Bool) := (spec_biGood.f k l0).bind fun t297 => (if t297 = true then ((spec_l1Own.f l0).bind fun t298 => (if t298.length < 17592186044416 then ((some (t298 ++ [wrap64 ((l0.length : Int) + 1)] : List Int)).bind fun y301 => (spec_BreaksOf.l0 k 0 0 y301 (y301.length : Int) 0)) else (none))) else (some (0, false)))
set_option maxHeartbeats 8000000 in
set_option maxRecDepth 100000 in
theorem spec_BreaksOf.calls (k : Nat) (A0 : Option Addr) (c0 : Nat) (l0 : List Int) (r1 : Int) (r2 : Bool) (w : World) (hr0 : Kd.C (Kd.int .i64) w A0 l0.length l0) (hc0 : l0.length ≤ c0) (h : spec_BreaksOf.f k l0 = some (r1, r2)) :
  Calls Try.prog 36 #[.slice A0 l0.length c0] w fun e w' => e = .returned (.tuple #[.int .i64 r1, .bool r2]) ∧ Below w.heap.size w w' := by
 have HR0 := Az_ hr0
 have HC0 := Az_ hc0
 clear hr0 hc0
 have HB := Az_ (Below.refl w.heap.size w)
 have H : ((spec_biGood.f k l0).bind fun t297 => (if t297 = true then ((spec_l1Own.f l0).bind fun t298 => (if t298.length < 17592186044416 then ((some (t298 ++ [wrap64 ((l0.length : Int) + 1)] : List Int)).bind fun y301 => (spec_BreaksOf.l0 k 0 0 y301 (y301.length : Int) 0)) else (none))) else (some (0, false)))) = some (r1, r2) := h
 clear h
 replace H := Option.bind_eq_some_iff.mp H
 obtain ⟨t297, A20, H⟩ := H
 replace H : (if t297 = true then ((spec_l1Own.f l0).bind fun t298 => (if t298.length < 17592186044416 then ((some (t298 ++ [wrap64 ((l0.length : Int) + 1)] : List Int)).bind fun y301 => (spec_BreaksOf.l0 k 0 0 y301 (y301.length : Int) 0)) else (none))) else (some (0, false))) = some (r1, r2) := H
 have A2 := Az_ A20
 clear A20
 by_cases c3 : t297 = true
 ·subst c3
  have H1 : ((spec_l1Own.f l0).bind fun t298 => (if t298.length < 17592186044416 then ((some (t298 ++ [wrap64 ((l0.length : Int) + 1)] : List Int)).bind fun y301 => (spec_BreaksOf.l0 k 0 0 y301 (y301.length : Int) 0)) else (none))) = some (r1, r2) := by rw [if_pos rfl] at H; exact H
  clear H
  have H := H1
  clear H1
  replace H := Option.bind_eq_some_iff.mp H
  obtain ⟨t298, A40, H⟩ := H
  replace H : (if t298.length < 17592186044416 then ((some (t298 ++ [wrap64 ((l0.length : Int) + 1)] : List Int)).bind fun y301 => (spec_BreaksOf.l0 k 0 0 y301 (y301.length : Int) 0)) else (none)) = some (r1, r2) := H
  have A4 := Az_ A40
  clear A40
  by_cases c5 : t298.length < 17592186044416
  ·rw [if_pos c5] at H
   have LMc5 := Az_ c5
   clear c5
   obtain ⟨y301, hy301⟩ : ∃ y_ : List Int, y_ = (t298 ++ [wrap64 ((l0.length : Int) + 1)]) := ⟨_, rfl⟩
   replace H : (spec_BreaksOf.l0 k 0 0 y301 (y301.length : Int) 0) = some (r1, r2) := by first | (rw [hy301]; with_reducible exact H) | (have H2_ := (Option.bind_some _ _).symm.trans H; rw [hy301]; with_reducible exact H2_) | (have H2_ := (Option.bind_some _ _).symm.trans H; with_reducible exact H2_) | with_reducible exact H | (rw [hy301]; exact H) | exact H
   have Ny301 := Az_ hy301
   clear hy301
   have H' := Az_ H
   clear H
   go_enter Try.func36, Try.ntmps36
   go_wp2_with (first | ((with_reducible refine gate_callee (f := 83) rfl ?_); refine goesL_ (some 9) rfl rfl Try.func83 (by kernel_rfl) rfl #[.slice A0 l0.length c0] rfl maz_ ?_; (with_reducible refine (spec_biGood.calls k _ _ l0 true _ ?side1 ?side2 A2.out).mono ?_); (case side1 => exact ucz_ (HR0.out)); (case side2 => first | exact HC0.out | (rw [List.length_take]; have := HC0.out; omega)); rintro e w' ⟨rfl, ⟨nd, rfl⟩⟩; refine ⟨_, rfl, ?_⟩) | ((with_reducible refine gate_callee (f := 58) rfl ?_); refine goesL_ (some 12) rfl rfl Try.func58 (by kernel_rfl) rfl #[.slice A0 l0.length c0] rfl maz_ ?_; (with_reducible refine (spec_l1Own.calls _ _ l0 t298 _ ?side1 ?side2 A4.out).mono ?_); (case side1 => exact ucz_ (HR0.out)); (case side2 => exact HC0.out); rintro e w6 ⟨v299, rfl, ho0, hb⟩; refine ⟨_, rfl, ?_⟩; have n0_ := Az_ (Kd.R_lower ho0 (below_size (ubz_ HB.out))); have n1_ := Az_ (btz_ (ubz_ HB.out) hb); clear HB; have HO300 := n0_; have HB := n1_; clear n0_ n1_; (try clear hb); (try clear hb2); (try clear hk); (try clear hi); (try clear ho0)) | ((with_reducible refine gate_builtin (b := .append) (xs := #[.tmp 12, .tmp 16]) rfl ?_); at_builtin; refine Kd.R_append (Kd.int .i64) (w0 := w) w.heap.size rfl (.tmp 12) (.tmp 16) 24 3 (.int .i64 0) 8 rfl Try.underlying24 info3 rfl (by decide) (by omega) v299 t298 (wrap64 ((l0.length : Int) + 1)) [.int .i64 (wrap64 ((l0.length : Int) + 1))] (fun _ => True) (fun _ => False) rfl rfl ?aP (fun _ hk => hk.elim) ?aF ?aO ?aB ?aS ?aL ?_; (case aP => exact rfl); (case aB => exact (ubz_ HB.out)); (case aF => exact (fun _ _ => trivial)); (case aO => exact (by exact urz_ HO300.out)); (case aS => exact (below_size (ubz_ HB.out))); (case aL => have := LMc5.out; omega); intro v302 w7 ho hb hg hat; rw [← Ny301.out] at ho; have n0_ := Az_ (hb); have n1_ := Az_ (ho); clear HB; clear HO300; have HB := n0_; have HO303 := n1_; clear n0_ n1_; clear ho hb hg hat; obtain ⟨Ao8, co8, eo8⟩ := Kd.R_slice HO303.out; subst eo8))
   go_loopg [4, 5, 19] k (fun kq v4 v5 v19 w' => ∃ (x4_1 : Int) (x5_1 : Int) (x19_1 : Int), v4 = .int .i64 x4_1 ∧ v5 = .int .i64 x5_1 ∧ v19 = .int .i64 x19_1 ∧ Aside0 (spec_BreaksOf.l0 kq x4_1 x5_1 y301 (y301.length : Int) x19_1 = some (r1, r2)) ∧ Aside0 (kq ≤ k) ∧ Aside0 (Kd.R (Kd.int .i64) 3 w' w.heap.size (fun _ => True) (.slice Ao8 y301.length co8) y301) ∧ Aside0 (Below w.heap.size w w'))
   case atStart => exact ⟨(0), (0), (0), qaz_, qaz_, qaz_, H', ⟨Nat.le_refl _⟩, ⟨by (with_reducible repeat (first | apply raz_ | apply rnz_ | apply rdz_)); exact HO303.out⟩, ⟨by exact ubz_ HB.out⟩⟩
   case round =>
    clear H'
    (try clear p2); (try clear c3); (try clear c5); (try clear p6); (try clear c8)
    obtain ⟨x4_1, x5_1, x19_1, rfl, rfl, rfl, HA, HK1, HO_17, HB⟩ := hrel
    cases gk with
    | zero => exact absurd HA.out (by simp [spec_BreaksOf.l0])
    | succ k1 =>
     have H := HA.out
     clear HA
     simp only [spec_BreaksOf.l0] at H
     by_cases c9 : x19_1 < (y301.length : Int)
     ·rw [if_pos c9] at H
      have c9b0 := decide_eq_true c9
      clear c9
      by_cases c10 : 0 ≤ x19_1
      ·rw [if_pos c10] at H
       have c10b0 := decide_eq_true c10
       clear c10
       by_cases c11 : x19_1 < (y301.length : Int)
       ·rw [if_pos c11] at H
        have c11b0 := decide_eq_true c11
        clear c11
        by_cases c12 : (rd y301 x19_1) = (wrap64 (x5_1 + 1))
        ·rw [if_pos c12] at H
         have c12b0 : ((rd y301 x19_1) == (wrap64 (x5_1 + 1))) = true := beq_iff_eq.mpr c12
         have c12b1 : ((rd y301 x19_1) != (wrap64 (x5_1 + 1))) = false := bne_eq_false_iff_eq.mpr c12
         clear c12
         have H' := Az_ H
         clear H
         have p304 : 0 ≤ (x19_1 : Int) := of_decide_eq_true asz_
         have q304 : x19_1 < (y301.length : Int) := of_decide_eq_true asz_
         obtain ⟨ad304, e304, hx304_0⟩ := Kd.at_int (Kd.R_reads' HO_17.out).2.2 x19_1 p304 q304
         cases e304
         replace p304 := eq_true p304
         replace q304 := eq_true q304
         go_wp2
         go_roundg k1
         case measure => have := HK1.out; omega
         case rel => exact ⟨(x4_1), (rd y301 x19_1), (wrap64 (x19_1 + 1)), qaz_, qaz_, qaz_, H', ⟨by have := HK1.out; omega⟩, ⟨by (with_reducible repeat (first | apply raz_ | apply rnz_ | apply rdz_)); exact HO_17.out⟩, ⟨by exact ubz_ HB.out⟩⟩
        ·rw [if_neg c12] at H
         have c12b0 : ((rd y301 x19_1) == (wrap64 (x5_1 + 1))) = false := beq_eq_false_iff_ne.mpr c12
         have c12b1 : ((rd y301 x19_1) != (wrap64 (x5_1 + 1))) = true := bne_iff_ne.mpr c12
         have H' := Az_ H
         clear H
         have p304 : 0 ≤ (x19_1 : Int) := of_decide_eq_true asz_
         have q304 : x19_1 < (y301.length : Int) := of_decide_eq_true asz_
         obtain ⟨ad304, e304, hx304_0⟩ := Kd.at_int (Kd.R_reads' HO_17.out).2.2 x19_1 p304 q304
         cases e304
         replace p304 := eq_true p304
         replace q304 := eq_true q304
         go_wp2
         go_roundg k1
         case measure => have := HK1.out; omega
         case rel => exact ⟨(wrap64 (x4_1 + 1)), (rd y301 x19_1), (wrap64 (x19_1 + 1)), qaz_, qaz_, qaz_, H', ⟨by have := HK1.out; omega⟩, ⟨by (with_reducible repeat (first | apply raz_ | apply rnz_ | apply rdz_)); exact HO_17.out⟩, ⟨by exact ubz_ HB.out⟩⟩
       ·rw [if_neg c11] at H
        exact absurd H (by simp)
      ·rw [if_neg c10] at H
       exact absurd H (by simp)
     ·rw [if_neg c9] at H
      have c9b0 := decide_eq_false c9
      clear c9
      simp only [Option.some.injEq, Prod.mk.injEq] at H
      obtain ⟨rfl, rfl⟩ := H
      go_wp2
      go_ret2
      exact ⟨by first | rfl | (simp [errW_none, errW_some] <;> rfl) | (simp [*, errW_none, errW_some] <;> rfl), by exact ubz_ HB.out⟩
  ·rw [if_neg c5] at H
   exact absurd H (by simp)
 ·replace c3 := Bool.eq_false_iff.mpr c3
  subst c3
  have H1 : (some (0, false)) = some (r1, r2) := by rw [if_neg (show ¬ (false = true) by decide)] at H; exact H
  clear H
  have H := H1
  clear H1
  simp only [Option.some.injEq, Prod.mk.injEq] at H
  obtain ⟨rfl, rfl⟩ := H
  go_enter Try.func36, Try.ntmps36
  go_wp2_with (first | ((with_reducible refine gate_callee (f := 83) rfl ?_); refine goesL_ (some 9) rfl rfl Try.func83 (by kernel_rfl) rfl #[.slice A0 l0.length c0] rfl maz_ ?_; (with_reducible refine (spec_biGood.calls k _ _ l0 false _ ?side1 ?side2 A2.out).mono ?_); (case side1 => exact ucz_ (HR0.out)); (case side2 => first | exact HC0.out | (rw [List.length_take]; have := HC0.out; omega)); rintro e w' ⟨rfl, ⟨nd, rfl⟩⟩; refine ⟨_, rfl, ?_⟩))
  go_ret2
  exact ⟨by first | rfl | (simp [errW_none, errW_some] <;> rfl) | (simp [*, errW_none, errW_some] <;> rfl), by exact ubz_ HB.out⟩

end Go.Proofs.Ytppbpefehpbejaa.P
end

section
namespace Go.Proofs.Ytppbpefehpbejaa.P
open Go.RowKit Go.Proofs.YtppbpefehpbejaaW.PrintWords Go.Proofs.YtppbpefehpbejaaW.PrintLast Go.Proofs.YtppbpefehpbejaaW.PrintMore
attribute [local go_sem] max2_int min2_int max_two min_two max_three min_three max_four min_four   -- for this text's walks alone
set_option linter.unusedVariables false
set_option linter.unusedSimpArgs false

/-! ### impl_FewestCuts: function 37 -/
mutual
def impl_FewestCuts.l0 : Nat → List Int → List Int → Int → List Int → Int → Int → Option (Int × Bool)
 | 0, _, _, _, _, _, _ => none
 | k + 1, x0, x4, x5, x16, x17, x18 => if x18 < x17 then (if 0 ≤ x18 then (if x18 < (x16.length : Int) then (if (rd x16 x18) < 0 then (impl_FewestCuts.l0 k x0 x4 x5 x16 x17 (wrap64 (x18 + 1))) else (if x18 ≤ (x0.length : Int) then (impl_FewestCuts.l1 k x0 x4 x5 x18 (rd x16 x18) x16 x17 x18 (x0.take (x18 : Int).toNat) ((x0.take (x18 : Int).toNat).length : Int) 0) else (none))) else (none)) else (none)) else (some (wrap64 ((x0.length : Int) - x5), true))
def impl_FewestCuts.l1 : Nat → List Int → List Int → Int → Int → Int → List Int → Int → Int → List Int → Int → Int → Option (Int × Bool)
 | 0, _, _, _, _, _, _, _, _, _, _, _ => none
 | k + 1, x0, x4, x5, x6, x7, x16, x17, x18, x27, x28, x29 => if x29 < x28 then (if 0 ≤ x29 then (if x29 < (x27.length : Int) then (if (rd x27 x29) > 0 then (if (rd x27 x29) < x7 then (if 0 ≤ x6 then (if x6 < (x4.length : Int) then (if x29 < (x4.length : Int) then (impl_FewestCuts.l1 k x0 (x4.set (x6 : Int).toNat (mx (rd x4 x6) (rd x4 x29))) x5 x6 x7 x16 x17 x18 x27 x28 (wrap64 (x29 + 1))) else (none)) else (none)) else (none)) else (impl_FewestCuts.l1 k x0 x4 x5 x6 x7 x16 x17 x18 x27 x28 (wrap64 (x29 + 1)))) else (impl_FewestCuts.l1 k x0 x4 x5 x6 x7 x16 x17 x18 x27 x28 (wrap64 (x29 + 1)))) else (none)) else (none)) else (if 0 ≤ x6 then (if x6 < (x4.length : Int) then ((some (x4.set (x6 : Int).toNat (wrap64 ((rd x4 x6) + 1)) : List Int)).bind fun y316 => (impl_FewestCuts.l0 k x0 y316 (mx x5 (rd y316 x6)) x16 x17 (wrap64 (x18 + 1)))) else (none)) else (none))
end
def impl_FewestCuts.f (k : Nat) (l0 : List Int) : Option (Int × Bool) := (impl_IsBinding.f k l0).bind fun t305 => (if t305 = true then (if 0 ≤ (l0.length : Int) then (if ((l0.length : Int) : Int).toNat ≤ 35184372088832 then (impl_FewestCuts.l0 k l0 (List.replicate ((l0.length : Int) : Int).toNat 0) 0 l0 (l0.length : Int) 0) else (none)) else (none)) else (some (0, false)))
theorem impl_FewestCuts.mono_l : ∀ k, (∀ y0 y1 y2 y3 y4 y5, LeO (impl_FewestCuts.l0 k y0 y1 y2 y3 y4 y5) (impl_FewestCuts.l0 (k + 1) y0 y1 y2 y3 y4 y5)) ∧ (∀ y0 y1 y2 y3 y4 y5 y6 y7 y8 y9 y10, LeO (impl_FewestCuts.l1 k y0 y1 y2 y3 y4 y5 y6 y7 y8 y9 y10) (impl_FewestCuts.l1 (k + 1) y0 y1 y2 y3 y4 y5 y6 y7 y8 y9 y10))
 | 0 => ⟨fun _ _ _ _ _ _ r h => by simp [impl_FewestCuts.l0] at h, fun _ _ _ _ _ _ _ _ _ _ _ r h => by simp [impl_FewestCuts.l1] at h⟩
 | k + 1 => by
  obtain ⟨ih0, ih1⟩ := impl_FewestCuts.mono_l k
  refine ⟨?_, ?_⟩
  ·intro y0 y1 y2 y3 y4 y5
   unfold impl_FewestCuts.l0
   repeat' first
   | (with_reducible exact ih0 _ _ _ _ _ _)
   | (with_reducible exact ih1 _ _ _ _ _ _ _ _ _ _ _)
   | (with_reducible exact impl_IsBinding.mono _ _)
   | (with_reducible exact LeO.refl _)
   | (with_reducible exact LeO.none _)
   | (with_reducible refine LeO.ite ?_ ?_)
   | (with_reducible refine LeO.bind ?_ (fun _ => ?_))
  ·intro y0 y1 y2 y3 y4 y5 y6 y7 y8 y9 y10
   unfold impl_FewestCuts.l1
   repeat' first
   | (with_reducible exact ih0 _ _ _ _ _ _)
   | (with_reducible exact ih1 _ _ _ _ _ _ _ _ _ _ _)
   | (with_reducible exact impl_IsBinding.mono _ _)
   | (with_reducible exact LeO.refl _)
   | (with_reducible exact LeO.none _)
   | (with_reducible refine LeO.ite ?_ ?_)
   | (with_reducible refine LeO.bind ?_ (fun _ => ?_))
theorem impl_FewestCuts.mono : ∀ a0 k, LeO (impl_FewestCuts.f k a0) (impl_FewestCuts.f (k + 1) a0) := by
 intro a0 k
 obtain ⟨ih0, ih1⟩ := impl_FewestCuts.mono_l k
 unfold impl_FewestCuts.f
 repeat' first
   | (with_reducible exact ih0 _ _ _ _ _ _)
   | (with_reducible exact ih1 _ _ _ _ _ _ _ _ _ _ _)
   | (with_reducible exact impl_IsBinding.mono _ _)
   | (with_reducible exact LeO.refl _)
   | (with_reducible exact LeO.none _)
   | (with_reducible refine LeO.ite ?_ ?_)
   | (with_reducible refine LeO.bind ?_ (fun _ => ?_))
def impl_FewestCuts.T12 : Bool × List (List Nat × List Nat) := (true, [([], []), ([], []), ([], []), ([], []), ([2, 3], [2, 3]), ([4], [4]), ([], []), ([], []), ([6, 7], [6, 7]), ([8], [8]), ([5, 9], [5, 9]), ([0, 1, 0, 1, 2, 3, 4, 5, 6, 7, 8, 9, 10], [0, 1]), ([11, 10, 0, 1, 2, 3, 4, 5, 6, 7, 8, 9, 10], [10, 11])])
def impl_FewestCuts.B12 : List Nat := [0, 0, 0, 0, 12, 28, 0, 0, 192, 448, 1020, 2047, 4095]
theorem impl_FewestCuts.tab12 : rtab .any (opsOf Try.f37 12) = impl_FewestCuts.T12 := by kernel_rfl
theorem impl_FewestCuts.bits12 : waitsOk impl_FewestCuts.T12.2 impl_FewestCuts.B12 = true := by kernel_rfl
set_option maxHeartbeats 8000000 in
set_option maxRecDepth 100000 in
theorem impl_FewestCuts.calls (k : Nat) (A0 : Option Addr) (c0 : Nat) (l0 : List Int) (r1 : Int) (r2 : Bool) (w : World) (hr0 : Kd.C (Kd.int .i64) w A0 l0.length l0) (hc0 : l0.length ≤ c0) (h : impl_FewestCuts.f k l0 = some (r1, r2)) :
  Calls Try.prog 37 #[.slice A0 l0.length c0] w fun e w' => e = .returned (.tuple #[.int .i64 r1, .bool r2]) ∧ Below w.heap.size w w' := by
 have HR0 := Az_ hr0
 have HC0 := Az_ hc0
 clear hr0 hc0
 have HB := Az_ (Below.refl w.heap.size w)
 have H : ((impl_IsBinding.f k l0).bind fun t305 => (if t305 = true then (if 0 ≤ (l0.length : Int) then (if ((l0.length : Int) : Int).toNat ≤ 35184372088832 then (impl_FewestCuts.l0 k l0 (List.replicate ((l0.length : Int) : Int).toNat 0) 0 l0 (l0.length : Int) 0) else (none)) else (none)) else (some (0, false)))) = some (r1, r2) := h
 clear h
 replace H := Option.bind_eq_some_iff.mp H
 obtain ⟨t305, A20, H⟩ := H
 replace H : (if t305 = true then (if 0 ≤ (l0.length : Int) then (if ((l0.length : Int) : Int).toNat ≤ 35184372088832 then (impl_FewestCuts.l0 k l0 (List.replicate ((l0.length : Int) : Int).toNat 0) 0 l0 (l0.length : Int) 0) else (none)) else (none)) else (some (0, false))) = some (r1, r2) := H
 have A2 := Az_ A20
 clear A20
 by_cases c3 : t305 = true
 ·subst c3
  have H1 : (if 0 ≤ (l0.length : Int) then (if ((l0.length : Int) : Int).toNat ≤ 35184372088832 then (impl_FewestCuts.l0 k l0 (List.replicate ((l0.length : Int) : Int).toNat 0) 0 l0 (l0.length : Int) 0) else (none)) else (none)) = some (r1, r2) := by rw [if_pos rfl] at H; exact H
  clear H
  have H := H1
  clear H1
  by_cases c4 : 0 ≤ (l0.length : Int)
  ·rw [if_pos c4] at H
   have c4b0 := eq_true c4
   have c4b1 := decide_eq_true c4
   clear c4
   by_cases c5 : ((l0.length : Int) : Int).toNat ≤ 35184372088832
   ·rw [if_pos c5] at H
    have c5b0 := eq_true c5
    have c5b1 := decide_eq_true c5
    clear c5
    obtain ⟨y306, hy306⟩ : ∃ y_ : List Int, y_ = (List.replicate ((l0.length : Int) : Int).toNat 0) := ⟨_, rfl⟩
    replace H : (impl_FewestCuts.l0 k l0 y306 0 l0 (l0.length : Int) 0) = some (r1, r2) := by first | (rw [hy306]; with_reducible exact H) | (have H2_ := (Option.bind_some _ _).symm.trans H; rw [hy306]; with_reducible exact H2_) | (have H2_ := (Option.bind_some _ _).symm.trans H; with_reducible exact H2_) | with_reducible exact H | (rw [hy306]; exact H) | exact H
    have Ny306 := Az_ hy306
    clear hy306
    have H' := Az_ H
    clear H
    go_enter Try.func37, Try.ntmps37
    go_wp2_with (first | ((with_reducible refine gate_callee (f := 42) rfl ?_); refine goesL_ (some 11) rfl rfl Try.func42 (by kernel_rfl) rfl #[.slice A0 l0.length c0] rfl maz_ ?_; (with_reducible refine (impl_IsBinding.calls k _ _ l0 true _ ?side1 ?side2 A2.out).mono ?_); (case side1 => exact ucz_ (HR0.out)); (case side2 => exact HC0.out); rintro e w6 ⟨rfl, hb⟩; refine ⟨_, rfl, ?_⟩; have n0_ := Az_ (btz_ (ubz_ HB.out) hb); clear HB; have HB := n0_; clear n0_; (try clear hb); (try clear hb2); (try clear hk); (try clear hi)) | ((with_reducible refine gate_dst (N := 15) rfl ?_); refine Kd.R_make (Kd.int .i64) _ 3 rfl (N := 15) rfl 24 _ _ rfl (l0.length : Int) rfl rfl Try.underlying24 (.int .i64 0) 8 info3 rfl (by decide) (by omega) 0 (ok := fun _ => True) (okp := fun _ => True) rfl (fun _ hk => hk) trivial (of_decide_eq_true asz_) (Nat.le_trans (Nat.mul_le_mul_right _ (of_decide_eq_true asz_ : (l0.length : Int).toNat ≤ 35184372088832)) (by omega)) (Below.refl _ _) (Nat.le_refl _) ?_; intro v307 w7 ho8 hb hg_ hnew_; clear hg_ hnew_; (first | rw [← Ny306.out] at ho8 | (simp only [Int.reduceToNat] at ho8; rw [← Ny306.out] at ho8)); have n0_ := Az_ (Kd.R_lower ho8 (below_size (ubz_ HB.out))); have n1_ := Az_ (btz_ (ubz_ HB.out) hb); clear HB; have HO308 := n0_; have HB := n1_; clear n0_ n1_; clear hb ho8))
    go_loopg [5, 18] k (fun kq v5 v18 w' => ∃ (x4_1 : List Int) (x5_1 : Int) (x18_1 : Int), v5 = .int .i64 x5_1 ∧ v18 = .int .i64 x18_1 ∧ Aside0 (impl_FewestCuts.l0 kq l0 x4_1 x5_1 l0 (l0.length : Int) x18_1 = some (r1, r2)) ∧ Aside0 (kq ≤ k) ∧ Aside0 (Kd.R (Kd.int .i64) 3 w' w.heap.size (fun _ => True) v307 x4_1) ∧ Aside0 (Below w.heap.size w w'))
    case atStart => exact ⟨(y306), (0), (0), qaz_, qaz_, H', ⟨Nat.le_refl _⟩, ⟨by (with_reducible repeat (first | apply raz_ | apply rnz_ | apply rdz_)); exact HO308.out⟩, ⟨by exact ubz_ HB.out⟩⟩
    case round =>
     clear H'
     (try clear p2); (try clear c3); (try clear c4); (try clear c4b0); (try clear c4b1); (try clear c5); (try clear c5b0); (try clear c5b1)
     obtain ⟨x4_1, x5_1, x18_1, rfl, rfl, HA, HK1, HO_4, HB⟩ := hrel
     cases gk with
     | zero => exact absurd HA.out (by simp [impl_FewestCuts.l0])
     | succ k1 =>
      have H := HA.out
      clear HA
      simp only [impl_FewestCuts.l0] at H
      by_cases c9 : x18_1 < (l0.length : Int)
      ·rw [if_pos c9] at H
       have c9b0 := decide_eq_true c9
       clear c9
       by_cases c10 : 0 ≤ x18_1
       ·rw [if_pos c10] at H
        have c10b0 := decide_eq_true c10
        clear c10
        by_cases c11 : x18_1 < (l0.length : Int)
        ·rw [if_pos c11] at H
         have c11b0 := decide_eq_true c11
         clear c11
         by_cases c12 : (rd l0 x18_1) < 0
         ·rw [if_pos c12] at H
          have c12b0 := decide_eq_true c12
          clear c12
          have H' := Az_ H
          clear H
          have p309 : 0 ≤ (x18_1 : Int) := of_decide_eq_true asz_
          have q309 : x18_1 < (l0.length : Int) := of_decide_eq_true asz_
          obtain ⟨ad309, e309, hx309_0⟩ := Kd.at_int HR0.out x18_1 p309 q309
          cases e309
          replace hx309_0 := (HB.out.cell (World.block_lt_of_cell? w _ hx309_0)).trans hx309_0
          replace p309 := eq_true p309
          replace q309 := eq_true q309
          go_wp2
          go_roundg k1
          case measure => have := HK1.out; omega
          case rel => exact ⟨(x4_1), (x5_1), (wrap64 (x18_1 + 1)), qaz_, qaz_, H', ⟨by have := HK1.out; omega⟩, ⟨by (with_reducible repeat (first | apply raz_ | apply rnz_ | apply rdz_)); exact HO_4.out⟩, ⟨by exact ubz_ HB.out⟩⟩
         ·rw [if_neg c12] at H
          have c12b0 := decide_eq_false c12
          clear c12
          have c13b0 := eq_true (of_decide_eq_true asz_ : 0 ≤ x18_1)
          by_cases c14 : x18_1 ≤ (l0.length : Int)
          ·rw [if_pos c14] at H
           have c14b0 := eq_true c14
           have c14b1 := decide_eq_true c14
           have CL_l0_x18_1 := Az_ (show ((l0.take (x18_1 : Int).toNat).length : Int) = max x18_1 0 from by rw [List.length_take]; omega)
           clear c14
           have H' := Az_ H
           clear H
           have p309 : 0 ≤ (x18_1 : Int) := of_decide_eq_true asz_
           have q309 : x18_1 < (l0.length : Int) := of_decide_eq_true asz_
           obtain ⟨ad309, e309, hx309_0⟩ := Kd.at_int HR0.out x18_1 p309 q309
           cases e309
           replace hx309_0 := (HB.out.cell (World.block_lt_of_cell? w _ hx309_0)).trans hx309_0
           replace p309 := eq_true p309
           replace q309 := eq_true q309
           obtain ⟨i015, hi015, _, hsz15, _⟩ := info_parts info3
           obtain ⟨hcut15, hA15, hC15⟩ := print_take_of (P := Try.prog) (Value.int .i64) 0 24 3 .i64 Try.underlying24 hi015 hsz15 (some ad309) c0 l0 x18_1 (of_decide_eq_true asz_) (of_decide_eq_true asz_) HC0.out
           have HR310 := Az_ (Kd.C_of_reads (h1 := fun _ => rfl) (hA15 _ (Kd.reads_of_C HR0.out)))
           have HC310 := Az_ hC15
           clear hA15 hC15 hi015 hsz15
           go_wp2
           go_loopg [29] k1 (fun kq v29 w' => ∃ (x4_2 : List Int) (x29_2 : Int), v29 = .int .i64 x29_2 ∧ Aside0 (impl_FewestCuts.l1 kq l0 x4_2 x5_1 x18_1 (rd l0 x18_1) l0 (l0.length : Int) x18_1 (l0.take (x18_1 : Int).toNat) ((l0.take (x18_1 : Int).toNat).length : Int) x29_2 = some (r1, r2)) ∧ Aside0 (kq ≤ k1) ∧ Aside0 (Kd.R (Kd.int .i64) 3 w' w.heap.size (fun _ => True) v307 x4_2) ∧ Aside0 (Below w.heap.size w w'))
           case atStart => exact ⟨(x4_1), (0), qaz_, H', ⟨Nat.le_refl _⟩, ⟨by (with_reducible repeat (first | apply raz_ | apply rnz_ | apply rdz_)); exact HO_4.out⟩, ⟨by exact ubz_ HB.out⟩⟩
           case round =>
            clear H'
            (try clear c1); (try clear p2); (try clear c3); (try clear p3); (try clear q3); (try clear hx3); (try clear c4); (try clear c4b0); (try clear c4b1); (try clear c5); (try clear c5b0); (try clear c5b1); (try clear p6); (try clear c9); (try clear c9b0); (try clear c10); (try clear c10b0); (try clear c11); (try clear c11b0); (try clear c12); (try clear c12b0); (try clear c13); (try clear c13b0); (try clear c14); (try clear c14b0); (try clear c14b1); (try clear hx309_0); (try clear p2); (try clear p309); (try clear q309)
            obtain ⟨x4_2, x29_2, rfl, HA, HK2, HO_4, HB⟩ := hrel
            cases gk with
            | zero => exact absurd HA.out (by simp [impl_FewestCuts.l1])
            | succ k2 =>
             have H := HA.out
             clear HA
             simp only [impl_FewestCuts.l1] at H
             by_cases c16 : x29_2 < ((l0.take (x18_1 : Int).toNat).length : Int)
             ·rw [if_pos c16] at H
              have c16b0 := decide_eq_true c16
              have c16b9 : decide (x29_2 < max x18_1 0) = true := decide_eq_true (by have h1_ := c16; have h2_ := CL_l0_x18_1.out; omega)
              clear c16
              by_cases c17 : 0 ≤ x29_2
              ·rw [if_pos c17] at H
               have c17b0 := decide_eq_true c17
               clear c17
               by_cases c18 : x29_2 < ((l0.take (x18_1 : Int).toNat).length : Int)
               ·rw [if_pos c18] at H
                have c18b0 := decide_eq_true c18
                have c18b9 : decide (x29_2 < max x18_1 0) = true := decide_eq_true (by have h1_ := c18; have h2_ := CL_l0_x18_1.out; omega)
                clear c18
                by_cases c19 : (rd (l0.take (x18_1 : Int).toNat) x29_2) > 0
                ·rw [if_pos c19] at H
                 have c19b0 := decide_eq_true c19
                 clear c19
                 by_cases c20 : (rd (l0.take (x18_1 : Int).toNat) x29_2) < (rd l0 x18_1)
                 ·rw [if_pos c20] at H
                  have c20b0 := decide_eq_true c20
                  clear c20
                  by_cases c21 : 0 ≤ x18_1
                  ·rw [if_pos c21] at H
                   have c21b0 := decide_eq_true c21
                   clear c21
                   by_cases c22 : x18_1 < (x4_2.length : Int)
                   ·rw [if_pos c22] at H
                    have c22b0 := decide_eq_true c22
                    clear c22
                    by_cases c23 : x29_2 < (x4_2.length : Int)
                    ·rw [if_pos c23] at H
                     have c23b0 := decide_eq_true c23
                     clear c23
                     obtain ⟨ji24, hji24⟩ : ∃ j_ : Int, (mx (rd x4_2 x18_1) (rd x4_2 x29_2)) = j_ := ⟨_, rfl⟩
                     replace H : (impl_FewestCuts.l1 k2 l0 (x4_2.set (x18_1 : Int).toNat (ji24)) x5_1 x18_1 (rd l0 x18_1) l0 (l0.length : Int) x18_1 (l0.take (x18_1 : Int).toNat) ((l0.take (x18_1 : Int).toNat).length : Int) (wrap64 (x29_2 + 1))) = some (r1, r2) := by first | (rw [hji24] at H; exact H) | (simp only [hji24] at H ⊢; exact H)
                     have hji24_ : (if (rd x4_2 x18_1) < (rd x4_2 x29_2) then (rd x4_2 x29_2) else (rd x4_2 x18_1)) = ji24 := hji24
                     obtain ⟨y314, hy314⟩ : ∃ y_ : List Int, y_ = (x4_2.set (x18_1 : Int).toNat (ji24)) := ⟨_, rfl⟩
                     replace H : (impl_FewestCuts.l1 k2 l0 y314 x5_1 x18_1 (rd l0 x18_1) l0 (l0.length : Int) x18_1 (l0.take (x18_1 : Int).toNat) ((l0.take (x18_1 : Int).toNat).length : Int) (wrap64 (x29_2 + 1))) = some (r1, r2) := by first | (rw [hy314]; with_reducible exact H) | (have H2_ := (Option.bind_some _ _).symm.trans H; rw [hy314]; with_reducible exact H2_) | (have H2_ := (Option.bind_some _ _).symm.trans H; with_reducible exact H2_) | with_reducible exact H | (rw [hy314]; exact H) | exact H
                     have Ny314 := Az_ hy314
                     clear hy314
                     have H' := Az_ H
                     clear H
                     have p311 : 0 ≤ (x29_2 : Int) := of_decide_eq_true asz_
                     have q311 : x29_2 < ((l0.take (x18_1 : Int).toNat).length : Int) := of_decide_eq_true asz_
                     have q311x : (x29_2 < max x18_1 0) = True := eq_true (by have h1_ := q311; have h2_ := CL_l0_x18_1.out; omega)
                     obtain ⟨ad311, e311, hx311_0⟩ := Kd.at_int HR310.out x29_2 p311 q311
                     obtain rfl : ad309 = ad311 := (by injection e311)
                     replace hx311_0 := (HB.out.cell (World.block_lt_of_cell? w _ hx311_0)).trans hx311_0
                     replace p311 := eq_true p311
                     replace q311 := eq_true q311
                     try go_wp2
                     have n0_ := Az_ (rdz_ HO_4.out)
                     have n1_ := Az_ (bdz_ HB.out)
                     clear HO_4 HB
                     have HO_4 := n0_
                     have HB := n1_
                     clear n0_ n1_
                     obtain ⟨Ao27, co27, eo27⟩ := Kd.R_slice HO_4.out
                     (first | subst eo27 | (injection eo27 with f1_ f2_ f3_; have f4_ := f1_.symm; have f5_ := f3_.symm; clear f1_ f2_ f3_; subst f4_; subst f5_))
                     have p312 : 0 ≤ (x18_1 : Int) := of_decide_eq_true asz_
                     have q312 : x18_1 < (x4_2.length : Int) := of_decide_eq_true asz_
                     obtain ⟨ad312, e312, hx312_0⟩ := Kd.at_int (Kd.R_reads' HO_4.out).2.2 x18_1 p312 q312
                     cases e312
                     replace p312 := eq_true p312
                     replace q312 := eq_true q312
                     have p313 : 0 ≤ (x29_2 : Int) := of_decide_eq_true asz_
                     have q313 : x29_2 < (x4_2.length : Int) := of_decide_eq_true asz_
                     obtain ⟨ad313, e313, hx313_0⟩ := Kd.at_int (Kd.R_reads' HO_4.out).2.2 x29_2 p313 q313
                     obtain rfl : ad312 = ad313 := (by injection e313)
                     replace p313 := eq_true p313
                     replace q313 := eq_true q313
                     have p25 : 0 ≤ (x18_1 : Int) := of_decide_eq_true asz_
                     have q25 : (x18_1 : Int) < ((x4_2.length : Int) : Int) := of_decide_eq_true asz_
                     obtain ⟨go25, co25, eo25, gb25, gl25, cl25, HG25⟩ := Kd.R_form HO_4.out (by omega)
                     (first | cases eo25 | (injection eo25 with ea_ en_ ec_; (first | subst ea_ | (injection ea_ with ea_; subst ea_)); subst ec_; clear en_))
                     have GB25 := Az_ gb25
                     have GG25 := Az_ HG25
                     clear gb25 gl25 HG25
                     (first | simp only [add_plain] at hx312_0 | skip)
                     (first | simp only [add_plain] at hx313_0 | skip)
                     obtain ⟨hx25_0, hf25_0⟩ := Kd.R_celln 0 HO_4.out (x18_1 : Int) p25 q25
                     replace p25 := eq_true p25
                     replace q25 := eq_true q25
                     have HP28 := Kd.R_putn HO_4.out (x18_1 : Int) ji24
                     rw [← Ny314.out] at HP28
                     have HQ28 := Az_ HP28
                     clear HP28
                     refine start_ (n := 13) (S := fun w' => w'.cell? ⟨go25, (x18_1).toNat, none⟩ = some (.int .i64 (rd x4_2 x18_1)) ∧ w'.cell? ⟨go25, (x29_2).toNat, none⟩ = some (.int .i64 (rd x4_2 x29_2))) (ds := [12]) #[false, false, false, false, false, false, false, false, false, false, false, false, false] (by kernel_rfl) rfl rfl ⟨hx312_0, hx313_0⟩ (fun hHeld => ?_); refine with_tabW impl_FewestCuts.tab12 impl_FewestCuts.bits12 (fun HT_ HW_ => ?_)
                     generalize wr.drew = w26 at HO_4 HB GG25 HQ28 hf25_0 hx25_0 hx312_0 hx313_0 hHeld ⊢
                     refine pure_ (i := 0) (N := some 41) (v := ?_) (a' := ?_) #[true, false, false, false, false, false, false, false, false, false, false, false, false] rfl rfl (any_of HT_.out (by kernel_rfl)) (fun _ _ _ h => h) (Or.inl ⟨by rfl, ?_⟩) ?_ ?_
                     rotate_left
                     ·intro w'
                      go_simp
                      with_reducible rfl
                     rotate_left
                     ·simp only [Act.put, usz_, utz_, uvz_, i64_w, i32_w]
                      rfl
                     refine pure_ (i := 1) (N := some 42) (v := ?_) (a' := ?_) #[true, true, false, false, false, false, false, false, false, false, false, false, false] rfl rfl (any_of HT_.out (by kernel_rfl)) (fun _ _ _ h => h) (Or.inl ⟨by rfl, ?_⟩) ?_ ?_
                     rotate_left
                     ·intro w'
                      go_simp
                      with_reducible rfl
                     rotate_left
                     ·simp only [Act.put, usz_, utz_, uvz_, i64_w, i32_w]
                      rfl
                     refine pure_ (i := 2) (N := some 43) (v := ?_) (a' := ?_) #[true, true, true, false, false, false, false, false, false, false, false, false, false] rfl rfl (any_of HT_.out (by kernel_rfl)) (fun _ _ _ h => h) (Or.inl ⟨by rfl, ?_⟩) ?_ ?_
                     rotate_left
                     ·intro w'
                      go_simp
                      with_reducible rfl
                     rotate_left
                     ·simp only [Act.put, usz_, utz_, uvz_, i64_w, i32_w]
                      rfl
                     refine pure_ (i := 3) (N := some 44) (v := ?_) (a' := ?_) #[true, true, true, true, false, false, false, false, false, false, false, false, false] rfl rfl (any_of HT_.out (by kernel_rfl)) (fun _ _ _ h => h) (Or.inl ⟨by rfl, ?_⟩) ?_ ?_
                     rotate_left
                     ·intro w'
                      go_simp
                      with_reducible rfl
                     rotate_left
                     ·simp only [Act.put, usz_, utz_, uvz_, i64_w, i32_w]
                      rfl
                     refine pure_ (i := 4) (N := some 45) (v := ?_) (a' := ?_) #[true, true, true, true, true, false, false, false, false, false, false, false, false] rfl rfl (any_of HT_.out (by kernel_rfl)) (fun _ _ _ h => h) (Or.inl ⟨by rfl, ?_⟩) ?_ ?_
                     rotate_left
                     ·intro w'
                      go_simp
                      with_reducible rfl
                     rotate_left
                     ·simp only [Act.put, usz_, utz_, uvz_, i64_w, i32_w]
                      rfl
                     refine pure_ (i := 6) (N := some 47) (v := ?_) (a' := ?_) #[true, true, true, true, true, false, true, false, false, false, false, false, false] rfl rfl (any_of HT_.out (by kernel_rfl)) (fun _ _ _ h => h) (Or.inl ⟨by rfl, ?_⟩) ?_ ?_
                     rotate_left
                     ·intro w'
                      go_simp
                      with_reducible rfl
                     rotate_left
                     ·simp only [Act.put, usz_, utz_, uvz_, i64_w, i32_w]
                      rfl
                     refine pure_ (i := 7) (N := some 48) (v := ?_) (a' := ?_) #[true, true, true, true, true, false, true, true, false, false, false, false, false] rfl rfl (any_of HT_.out (by kernel_rfl)) (fun _ _ _ h => h) (Or.inl ⟨by rfl, ?_⟩) ?_ ?_
                     rotate_left
                     ·intro w'
                      go_simp
                      with_reducible rfl
                     rotate_left
                     ·simp only [Act.put, usz_, utz_, uvz_, i64_w, i32_w]
                      rfl
                     refine pure_ (i := 8) (N := some 49) (v := ?_) (a' := ?_) #[true, true, true, true, true, false, true, true, true, false, false, false, false] rfl rfl (any_of HT_.out (by kernel_rfl)) (fun _ _ _ h => h) (Or.inl ⟨by rfl, ?_⟩) ?_ ?_
                     rotate_left
                     ·intro w'
                      go_simp
                      with_reducible rfl
                     rotate_left
                     ·simp only [Act.put, usz_, utz_, uvz_, i64_w, i32_w]
                      rfl
                     refine take_ (i := 5) (N := some 46) (v := ?_) (a' := ?_) #[true, true, true, true, true, true, true, true, true, false, false, false, false] rfl rfl (take_ofW HT_.out HW_.out (by kernel_rfl)) (fun _ _ _ h => h) (Or.inl ⟨by rfl, ?_⟩) hHeld ?_ ?_
                     rotate_left
                     ·rintro w' ⟨s0, s1⟩
                      go_simp
                      with_reducible rfl
                     rotate_left
                     ·simp only [Act.put, usz_, utz_, uvz_, i64_w, i32_w]
                      rfl
                     refine take_ (i := 9) (N := some 50) (v := ?_) (a' := ?_) #[true, true, true, true, true, true, true, true, true, true, false, false, false] rfl rfl (take_ofW HT_.out HW_.out (by kernel_rfl)) (fun _ _ _ h => h) (Or.inl ⟨by rfl, ?_⟩) hHeld ?_ ?_
                     rotate_left
                     ·rintro w' ⟨s0, s1⟩
                      go_simp
                      with_reducible rfl
                     rotate_left
                     ·simp only [Act.put, usz_, utz_, uvz_, i64_w, i32_w]
                      rfl
                     refine pure_ (i := 10) (N := some 51) (v := ?_) (a' := ?_) #[true, true, true, true, true, true, true, true, true, true, true, false, false] rfl rfl (any_of HT_.out (by kernel_rfl)) (fun _ _ _ h => h) (Or.inl ⟨by rfl, ?_⟩) ?_ ?_
                     rotate_left
                     ·intro w'
                      go_simp
                      with_reducible rfl
                     rotate_left
                     ·simp only [Act.put, usz_, utz_, uvz_, i64_w, i32_w]
                      rfl
                     refine pure_ (i := 11) (N := some 52) (v := ?_) (a' := ?_) #[true, true, true, true, true, true, true, true, true, true, true, true, false] rfl rfl (any_of HT_.out (by kernel_rfl)) (fun _ _ _ h => h) (Or.inl ⟨by rfl, ?_⟩) ?_ ?_
                     rotate_left
                     ·intro w'
                      go_simp
                      with_reducible rfl
                     rotate_left
                     ·simp only [Act.put, usz_, utz_, uvz_, i64_w, i32_w]
                      rfl
                     refine last_ (i := 12) (N := none) #[true, true, true, true, true, true, true, true, true, true, true, true, true] rfl rfl (one_of HT_.out (by kernel_rfl)) (by decide) (fun K hK => ?_)
                     refine skip_ (w1 := ?_) (by rfl) rfl ?_ ?_
                     rotate_left
                     ·go_simp
                      rfl
                     refine hK.out _ _ ?_
                     clear hK K
                     refine done_ (done_of HT_.out (by kernel_rfl)) ?_
                     try go_wp2
                     go_roundg k2
                     case measure => have := HK1.out; have := HK2.out; omega
                     case rel => exact ⟨(y314), (wrap64 (x29_2 + 1)), qaz_, H', ⟨by have := HK1.out; have := HK2.out; omega⟩, ⟨by (with_reducible repeat (first | apply raz_ | apply rnz_ | apply rdz_)); exact HQ28.out⟩, ⟨by repeat (first | (with_reducible first | exact HB.out | apply baz_ | apply bnz_ | apply bdz_ | refine bsz_ ?_ GB25.out) | exact HB.out)⟩⟩
                    ·rw [if_neg c23] at H
                     exact absurd H (by simp)
                   ·rw [if_neg c22] at H
                    exact absurd H (by simp)
                  ·rw [if_neg c21] at H
                   exact absurd H (by simp)
                 ·rw [if_neg c20] at H
                  have c20b0 := decide_eq_false c20
                  clear c20
                  have H' := Az_ H
                  clear H
                  have p311 : 0 ≤ (x29_2 : Int) := of_decide_eq_true asz_
                  have q311 : x29_2 < ((l0.take (x18_1 : Int).toNat).length : Int) := of_decide_eq_true asz_
                  have q311x : (x29_2 < max x18_1 0) = True := eq_true (by have h1_ := q311; have h2_ := CL_l0_x18_1.out; omega)
                  obtain ⟨ad311, e311, hx311_0⟩ := Kd.at_int HR310.out x29_2 p311 q311
                  obtain rfl : ad309 = ad311 := (by injection e311)
                  replace hx311_0 := (HB.out.cell (World.block_lt_of_cell? w _ hx311_0)).trans hx311_0
                  replace p311 := eq_true p311
                  replace q311 := eq_true q311
                  go_wp2
                  go_roundg k2
                  case measure => have := HK1.out; have := HK2.out; omega
                  case rel => exact ⟨(x4_2), (wrap64 (x29_2 + 1)), qaz_, H', ⟨by have := HK1.out; have := HK2.out; omega⟩, ⟨by (with_reducible repeat (first | apply raz_ | apply rnz_ | apply rdz_)); exact HO_4.out⟩, ⟨by exact ubz_ HB.out⟩⟩
                ·rw [if_neg c19] at H
                 have c19b0 := decide_eq_false c19
                 clear c19
                 have H' := Az_ H
                 clear H
                 have p311 : 0 ≤ (x29_2 : Int) := of_decide_eq_true asz_
                 have q311 : x29_2 < ((l0.take (x18_1 : Int).toNat).length : Int) := of_decide_eq_true asz_
                 have q311x : (x29_2 < max x18_1 0) = True := eq_true (by have h1_ := q311; have h2_ := CL_l0_x18_1.out; omega)
                 obtain ⟨ad311, e311, hx311_0⟩ := Kd.at_int HR310.out x29_2 p311 q311
                 obtain rfl : ad309 = ad311 := (by injection e311)
                 replace hx311_0 := (HB.out.cell (World.block_lt_of_cell? w _ hx311_0)).trans hx311_0
                 replace p311 := eq_true p311
                 replace q311 := eq_true q311
                 go_wp2
                 go_roundg k2
                 case measure => have := HK1.out; have := HK2.out; omega
                 case rel => exact ⟨(x4_2), (wrap64 (x29_2 + 1)), qaz_, H', ⟨by have := HK1.out; have := HK2.out; omega⟩, ⟨by (with_reducible repeat (first | apply raz_ | apply rnz_ | apply rdz_)); exact HO_4.out⟩, ⟨by exact ubz_ HB.out⟩⟩
               ·rw [if_neg c18] at H
                exact absurd H (by simp)
              ·rw [if_neg c17] at H
               exact absurd H (by simp)
             ·rw [if_neg c16] at H
              have c16b0 := decide_eq_false c16
              have c16b9 : decide (x29_2 < max x18_1 0) = false := decide_eq_false (by have h1_ := c16; have h2_ := CL_l0_x18_1.out; omega)
              clear c16
              by_cases c29 : 0 ≤ x18_1
              ·rw [if_pos c29] at H
               have c29b0 := decide_eq_true c29
               clear c29
               by_cases c30 : x18_1 < (x4_2.length : Int)
               ·rw [if_pos c30] at H
                have c30b0 := decide_eq_true c30
                clear c30
                obtain ⟨y316, hy316⟩ : ∃ y_ : List Int, y_ = (x4_2.set (x18_1 : Int).toNat (wrap64 ((rd x4_2 x18_1) + 1))) := ⟨_, rfl⟩
                replace H : (impl_FewestCuts.l0 k2 l0 y316 (mx x5_1 (rd y316 x18_1)) l0 (l0.length : Int) (wrap64 (x18_1 + 1))) = some (r1, r2) := by first | (rw [hy316]; with_reducible exact H) | (have H2_ := (Option.bind_some _ _).symm.trans H; rw [hy316]; with_reducible exact H2_) | (have H2_ := (Option.bind_some _ _).symm.trans H; with_reducible exact H2_) | with_reducible exact H | (rw [hy316]; exact H) | exact H
                have Ny316 := Az_ hy316
                clear hy316
                obtain ⟨ji32, hji32⟩ : ∃ j_ : Int, (mx x5_1 (rd y316 x18_1)) = j_ := ⟨_, rfl⟩
                replace H : (impl_FewestCuts.l0 k2 l0 y316 ji32 l0 (l0.length : Int) (wrap64 (x18_1 + 1))) = some (r1, r2) := by first | (rw [hji32] at H; exact H) | (simp only [hji32] at H ⊢; exact H)
                have hji32_ : (if x5_1 < (rd y316 x18_1) then (rd y316 x18_1) else x5_1) = ji32 := hji32
                have H' := Az_ H
                clear H
                obtain ⟨Ao33, co33, eo33⟩ := Kd.R_slice HO_4.out
                subst eo33
                have p315 : 0 ≤ (x18_1 : Int) := of_decide_eq_true asz_
                have q315 : x18_1 < (x4_2.length : Int) := of_decide_eq_true asz_
                obtain ⟨ad315, e315, hx315_0⟩ := Kd.at_int (Kd.R_reads' HO_4.out).2.2 x18_1 p315 q315
                cases e315
                replace p315 := eq_true p315
                replace q315 := eq_true q315
                have p31 : 0 ≤ (x18_1 : Int) := of_decide_eq_true asz_
                have q31 : (x18_1 : Int) < ((x4_2.length : Int) : Int) := of_decide_eq_true asz_
                obtain ⟨go31, co31, eo31, gb31, gl31, cl31, HG31⟩ := Kd.R_form HO_4.out (by omega)
                (first | cases eo31 | (injection eo31 with ea_ en_ ec_; (first | subst ea_ | (injection ea_ with ea_; subst ea_)); subst ec_; clear en_))
                have GB31 := Az_ gb31
                have GG31 := Az_ HG31
                clear gb31 gl31 HG31
                (first | simp only [add_plain] at hx315_0 | skip)
                obtain ⟨hx31_0, hf31_0⟩ := Kd.R_celln 0 HO_4.out (x18_1 : Int) p31 q31
                replace p31 := eq_true p31
                replace q31 := eq_true q31
                have HP34 := Kd.R_putg HO_4.out (x18_1 : Int) (wrap64 ((rd x4_2 x18_1) + 1))
                go_wp2_with (first | ((with_reducible refine gate_store (t := 3) (p := 59) rfl ?_); refine store_event (t := 3) (p := 59) (v := ?vo_w35) (w1 := (wr.setCell ⟨go31, (x18_1 : Int).toNat, none⟩ (.int .i64 (wrap64 ((rd x4_2 x18_1) + 1))))) ?hg ?ho ?hn ?hr ?_; (case ho => rfl); (case hg => rfl); (case hn => rfl); (case hr => first | (go_simp; done) | (go_simp; rfl)); intro w35 hw; have hg : wr.grownBy w35 (some go31) := (by rw [hw]; exact HP34.2); have hp_ : Kd.R (Kd.int .i64) 3 w35 w.heap.size (fun _ => True) (.slice (some ⟨go31, 0, none⟩) x4_2.length co33) y316 := (by rw [hw, Ny316.out]; exact HP34.1); clear HP34; have n0_ := Az_ (hp_); have n1_ := Az_ ((by rw [hw]; exact bsz_ (HB.out) GB31.out : Below w.heap.size w w35)); clear HO_4; clear HB; have HO_4 := n0_; have HB := n1_; clear n0_ n1_; clear hg hw hp_; have p317 : 0 ≤ (x18_1 : Int) := of_decide_eq_true asz_; have q317 : x18_1 < (y316.length : Int) := (by have h_ : (x18_1 : Int) < ((x4_2.length : Int) : Int) := of_decide_eq_true asz_; first | (have e_ := (Kd.R_reads' HO_4.out).1; omega) | simpa only [Ny316.out, List.length_set] using h_); have ql317 : ((x18_1 : Int) < ((x4_2.length : Int) : Int)) = True := eq_true (of_decide_eq_true asz_); obtain ⟨ad317, e317, hx317_0⟩ := Kd.at_int (Kd.R_reads' HO_4.out).2.2 x18_1 p317 q317; obtain rfl : (⟨go31, 0, none⟩ : Addr) = ad317 := (by injection e317); (first | simp only [add_plain] at hx317_0 | simp only [add_at] at hx317_0 | simp only [Addr.add, Nat.zero_add] at hx317_0 | skip); replace p317 := eq_true p317; replace q317 := eq_true q317))
                go_roundg k2
                case measure => have := HK1.out; have := HK2.out; omega
                case rel => exact ⟨(y316), (ji32), (wrap64 (x18_1 + 1)), (by first | rfl | (simp; done) | (simp only [← hji32] <;> (first | rfl | simp)) | (simp [*]; done)), qaz_, H', ⟨by have := HK1.out; have := HK2.out; omega⟩, ⟨by (with_reducible repeat (first | apply raz_ | apply rnz_ | apply rdz_)); exact HO_4.out⟩, ⟨by exact ubz_ HB.out⟩⟩
               ·rw [if_neg c30] at H
                exact absurd H (by simp)
              ·rw [if_neg c29] at H
               exact absurd H (by simp)
          ·rw [if_neg c14] at H
           exact absurd H (by simp)
        ·rw [if_neg c11] at H
         exact absurd H (by simp)
       ·rw [if_neg c10] at H
        exact absurd H (by simp)
      ·rw [if_neg c9] at H
       have c9b0 := decide_eq_false c9
       clear c9
       simp only [Option.some.injEq, Prod.mk.injEq] at H
       obtain ⟨rfl, rfl⟩ := H
       go_wp2
       go_ret2
       exact ⟨by first | rfl | (simp [errW_none, errW_some] <;> rfl) | (simp [*, errW_none, errW_some] <;> rfl), by exact ubz_ HB.out⟩
   ·rw [if_neg c5] at H
    exact absurd H (by simp)
  ·rw [if_neg c4] at H
   exact absurd H (by simp)
 ·replace c3 := Bool.eq_false_iff.mpr c3
  subst c3
  have H1 : (some (0, false)) = some (r1, r2) := by rw [if_neg (show ¬ (false = true) by decide)] at H; exact H
  clear H
  have H := H1
  clear H1
  simp only [Option.some.injEq, Prod.mk.injEq] at H
  obtain ⟨rfl, rfl⟩ := H
  go_enter Try.func37, Try.ntmps37
  go_wp2_with (first | ((with_reducible refine gate_callee (f := 42) rfl ?_); refine goesL_ (some 11) rfl rfl Try.func42 (by kernel_rfl) rfl #[.slice A0 l0.length c0] rfl maz_ ?_; (with_reducible refine (impl_IsBinding.calls k _ _ l0 false _ ?side1 ?side2 A2.out).mono ?_); (case side1 => exact ucz_ (HR0.out)); (case side2 => exact HC0.out); rintro e w36 ⟨rfl, hb⟩; refine ⟨_, rfl, ?_⟩; have n0_ := Az_ (btz_ (ubz_ HB.out) hb); clear HB; have HB := n0_; clear n0_; (try clear hb); (try clear hb2); (try clear hk); (try clear hi)))
  go_ret2
  exact ⟨by first | rfl | (simp [errW_none, errW_some] <;> rfl) | (simp [*, errW_none, errW_some] <;> rfl), by exact ubz_ HB.out⟩

end Go.Proofs.Ytppbpefehpbejaa.P
end

section
namespace Go.Proofs.Ytppbpefehpbejaa.P
open Go.RowKit Go.Proofs.YtppbpefehpbejaaW.PrintWords Go.Proofs.YtppbpefehpbejaaW.PrintLast Go.Proofs.YtppbpefehpbejaaW.PrintMore
attribute [local go_sem] max2_int min2_int max_two min_two max_three min_three max_four min_four   -- for this text's walks alone
set_option linter.unusedVariables false
set_option linter.unusedSimpArgs false

/-! ### spec_l1Most: function 84 -/
def spec_l1Most.f (a0 : Int) (a1 : Int) : Option (Int) := if a0 > a1 then (some a0) else (some a1)
set_option maxHeartbeats 8000000 in
set_option maxRecDepth 100000 in
theorem spec_l1Most.calls (a0 : Int) (a1 : Int) (r : Int) (w : World) (h : spec_l1Most.f a0 a1 = some r) :
  Calls Try.prog 84 #[.int .i64 a0, .int .i64 a1] w fun e w' => e = .returned (.int .i64 r) ∧ Drawn0 w w' := by
 have H : (if a0 > a1 then (some a0) else (some a1)) = some r := h
 clear h
 by_cases c3 : a0 > a1
 ·rw [if_pos c3] at H
  have c3b0 := decide_eq_true c3
  clear c3
  obtain rfl := Option.some.inj H
  go_enter Try.func84, Try.ntmps84
  go_wp2
  go_ret
  exact ⟨by first | rfl | (simp; done) | (simp [*]; done), by repeat (first | exact Drawn0.refl _ | apply Drawn0.step)⟩
 ·rw [if_neg c3] at H
  have c3b0 := decide_eq_false c3
  clear c3
  obtain rfl := Option.some.inj H
  go_enter Try.func84, Try.ntmps84
  go_wp2
  go_ret
  exact ⟨by first | rfl | (simp; done) | (simp [*]; done), by repeat (first | exact Drawn0.refl _ | apply Drawn0.step)⟩

end Go.Proofs.Ytppbpefehpbejaa.P
end
