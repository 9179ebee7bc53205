/- Lean functions with the answers of the program's Go functions, and for each the proof that the Go code comes to these answers; no condition. -/
import Derived.Test.YtppbpefehpbejaaDoorZbr21
import Derived.Test.YtppbpefehpbejaaDoorZbr22
import Derived.Test.YtppbpefehpbejaaDoorZbr0
section
namespace Go.Proofs.YtppbpefehpbejaaDoor.P
open Go.RowKit Go.Proofs.YtppbpefehpbejaaDoorW.PrintWords Go.Proofs.YtppbpefehpbejaaDoorW.PrintLast Go.Proofs.YtppbpefehpbejaaDoorW.PrintMore
attribute [local go_sem] max2_int min2_int max_two min_two max_three min_three max_four min_four   -- for this text's walks alone
set_option linter.unusedVariables false
set_option linter.unusedSimpArgs false

/-! ### spec_biFar: function 143 -/
/-- Rows of whole numbers, and one element of them that is held. -/
def NEl (A : Option Addr) (l : List Int) (d : Kd (List Int)) (e : Nat) (w : World) (base : Nat) (ok : Nat → Prop) (v : Value) (xs : List (List Int)) : Prop := Kd.N d e w base ok v xs ∧ Kd.F (Kd.int .i64) w ok A l.length l
section
variable {A : Option Addr} {l : List Int} {d : Kd (List Int)} {e : Nat} {w w1 : World} {base : Nat} {ok ok' : Nat → Prop} {v u u1 v1 : Value} {xs : List (List Int)}
theorem NEl_mono (h : NEl A l d e w base ok v xs) (hok : ∀ k, ok k → ok' k) : NEl A l d e w base ok' v xs := ⟨Kd.N_mono h.1 hok, Kd.F_mono h.2 hok⟩
theorem NEl_alloc (h : NEl A l d e w base ok v xs) (o : Obj) : NEl A l d e (w.alloc o) base ok v xs := ⟨Kd.N_alloc h.1 o, Kd.F_alloc h.2 o⟩
theorem NEl_drew (h : NEl A l d e w base ok v xs) : NEl A l d e w.drew base ok v xs := ⟨Kd.N_drew h.1, Kd.F_drew h.2⟩
theorem NEl_drewN (h : NEl A l d e w base ok v xs) (m : Nat) : NEl A l d e (w.drewN m) base ok v xs := ⟨Kd.N_drewN h.1 m, Kd.F_drewN h.2 m⟩
theorem NEl_elder' (h : NEl A l d e w base ok v xs) (hbase : ∀ k, u.ownBlock = some k → w.heap.size ≤ k) (hb : Below w.heap.size w w1) : NEl A l d e w1 base (fun k => ok k ∧ some k ≠ u.ownBlock) v xs := ⟨Kd.N_elder' h.1 hbase hb, Kd.F_elder' h.2 hbase hb⟩
theorem NEl_after (h : NEl A l d e w base (fun k => ok k ∧ some k ≠ u.ownBlock) v xs) (hg : w.grownBy w1 u.ownBlock) (hat : u1.ownBlock = u.ownBlock ∨ ∃ b, u1.ownBlock = some b ∧ w.heap.size ≤ b) : NEl A l d e w1 base (fun k => ok k ∧ some k ≠ u1.ownBlock) v xs := ⟨Kd.N_after h.1 hg hat, Kd.F_after h.2 hg hat⟩
theorem NEl_afterv (h : NEl A l d e w base (fun k => ok k ∧ some k ≠ v.ownBlock) u xs) (hg : w.grownBy w1 v.ownBlock) (hat : v1.ownBlock = v.ownBlock ∨ ∃ b, v1.ownBlock = some b ∧ w.heap.size ≤ b) : NEl A l d e w1 base (fun k => ok k ∧ some k ≠ v1.ownBlock) u xs := NEl_after h hg hat
end
mutual
def spec_biFar.l0 : Nat → Int → List Int → Int → Int → Option (List Int)
 | 0, _, _, _, _ => none
 | k + 1, x0, x3, x20, x21 => if x21 < x20 then (if 0 ≤ x21 then (if x21 < (x3.length : Int) then (spec_biFar.l0 k x0 (x3.set (x21 : Int).toNat (-1)) x20 (wrap64 (x21 + 1))) else (none)) else (none)) else (spec_biFar.l1 k x0 x3 ([] : List Int) 1)
def spec_biFar.l1 : Nat → Int → List Int → List Int → Int → Option (List Int)
 | 0, _, _, _, _ => none
 | k + 1, x0, x3, x5, x6 => if x6 ≤ x0 then (if x5.length < 17592186044416 then (spec_biFar.l1 k x0 x3 (x5 ++ [x6]) (wrap64 (x6 + 1))) else (none)) else ((spec_biRank.f k x5).bind fun t428 => (if 0 ≤ t428 then (if t428 < (x3.length : Int) then (spec_biFar.l2 k x0 (x3.set (t428 : Int).toNat 0) (([x5] : List (List Int))) 1) else (none)) else (none)))
def spec_biFar.l2 : Nat → Int → List Int → List (List Int) → Int → Option (List Int)
 | 0, _, _, _, _ => none
 | k + 1, x0, x3, x7, x8 => if (x7.length : Int) > 0 then (spec_biFar.l3 k x0 x3 x8 ([] : List (List Int)) x7 (x7.length : Int) 0) else (some x3)
def spec_biFar.l3 : Nat → Int → List Int → Int → List (List Int) → List (List Int) → Int → Int → Option (List Int)
 | 0, _, _, _, _, _, _, _ => none
 | k + 1, x0, x3, x8, x9, x48, x49, x50 => if x50 < x49 then (if 0 ≤ x50 then (if x50 < (x48.length : Int) then (spec_biFar.l4 k x0 x3 x8 x9 (rd_L2 x48 x50) 0 x48 x49 x50) else (none)) else (none)) else (spec_biFar.l2 k x0 x3 x9 (wrap64 (x8 + 1)))
def spec_biFar.l4 : Nat → Int → List Int → Int → List (List Int) → List Int → Int → List (List Int) → Int → Int → Option (List Int)
 | 0, _, _, _, _, _, _, _, _, _ => none
 | k + 1, x0, x3, x8, x9, x11, x12, x48, x49, x50 => if x12 < x0 then (spec_biFar.l5 k x0 x3 x8 x9 x11 x12 x12 x48 x49 x50) else (spec_biFar.l3 k x0 x3 x8 x9 x48 x49 (wrap64 (x50 + 1)))
def spec_biFar.l5 : Nat → Int → List Int → Int → List (List Int) → List Int → Int → Int → List (List Int) → Int → Int → Option (List Int)
 | 0, _, _, _, _, _, _, _, _, _, _ => none
 | k + 1, x0, x3, x8, x9, x11, x12, x13, x48, x49, x50 => if x13 < x0 then ((spec_biTurn.f k x11 x12 x13).bind fun t431 => ((spec_biRank.f k t431).bind fun t434 => (if 0 ≤ t434 then (if t434 < (x3.length : Int) then (if (rd x3 t434) < 0 then (if x9.length < 5864062014805 then (spec_biFar.l5 k x0 (x3.set (t434 : Int).toNat x8) x8 (x9 ++ [t431]) x11 x12 (wrap64 (x13 + 1)) x48 x49 x50) else (none)) else (spec_biFar.l5 k x0 x3 x8 x9 x11 x12 (wrap64 (x13 + 1)) x48 x49 x50)) else (none)) else (none)))) else (spec_biFar.l4 k x0 x3 x8 x9 x11 (wrap64 (x12 + 1)) x48 x49 x50)
end
def spec_biFar.f (k : Nat) (a0 : Int) : Option (List Int) := (spec_biAll.f k a0).bind fun t417 => (if 0 ≤ t417 then (if (t417 : Int).toNat ≤ 35184372088832 then ((some (List.replicate (t417 : Int).toNat 0 : List Int)).bind fun y418 => (spec_biFar.l0 k a0 y418 (y418.length : Int) 0)) else (none)) else (none))
set_option maxHeartbeats 8000000 in
set_option maxRecDepth 100000 in
theorem spec_biFar.calls (k : Nat) (a0 : Int) (r : List Int) (w : World) (h : spec_biFar.f k a0 = some r) :
  Calls Tryd.prog 143 #[.int .i64 a0] w fun e w' => ∃ v0_ : Value, e = .returned (v0_) ∧ Kd.R (Kd.int .i64) 3 w' w.heap.size (fun _ => True) v0_ r ∧ Below w.heap.size w w' := by
 have HB := Az_ (Below.refl w.heap.size w)
 have H : ((spec_biAll.f k a0).bind fun t417 => (if 0 ≤ t417 then (if (t417 : Int).toNat ≤ 35184372088832 then ((some (List.replicate (t417 : Int).toNat 0 : List Int)).bind fun y418 => (spec_biFar.l0 k a0 y418 (y418.length : Int) 0)) else (none)) else (none))) = some r := h
 clear h
 replace H := bqz_ H; obtain ⟨t417, A2, H⟩ := H
 replace H : (if 0 ≤ t417 then (if (t417 : Int).toNat ≤ 35184372088832 then ((some (List.replicate (t417 : Int).toNat 0 : List Int)).bind fun y418 => (spec_biFar.l0 k a0 y418 (y418.length : Int) 0)) else (none)) else (none)) = some r := H
 by_cases c3 : 0 ≤ t417
 ·rw [if_pos c3] at H
  have c3b0 := eq_true c3
  have c3b1 := decide_eq_true c3
  clear c3
  by_cases c4 : (t417 : Int).toNat ≤ 35184372088832
  ·rw [if_pos c4] at H
   have c4b0 := eq_true c4
   have c4b1 := decide_eq_true c4
   clear c4
   obtain ⟨y418, hy418⟩ : ∃ y_ : List Int, y_ = (List.replicate (t417 : Int).toNat 0) := ⟨_, rfl⟩
   replace H : (spec_biFar.l0 k a0 y418 (y418.length : Int) 0) = some r := by first | (rw [hy418]; with_reducible exact H) | (have H2_ := (Option.bind_some _ _).symm.trans H; rw [hy418]; with_reducible exact H2_) | (have H2_ := (Option.bind_some _ _).symm.trans H; with_reducible exact H2_) | with_reducible exact H | (rw [hy418]; exact H) | exact H
   have Ny418 := Az_ hy418
   clear hy418
   have H' := Az_ H
   clear H
   go_enter Tryd.func143, Tryd.ntmps143
   go_wp2_with (first | ((with_reducible refine gate_callee (f := 140) rfl ?_); refine goesL_ (some 17) rfl rfl Tryd.func140 (by kernel_rfl) rfl #[.int .i64 a0] rfl maz_ ?_; (with_reducible refine (spec_biAll.calls k a0 t417 _ A2.out).mono ?_); rintro e w' ⟨rfl, ⟨nd, rfl⟩⟩; refine ⟨_, rfl, ?_⟩) | ((with_reducible refine gate_dst (N := 18) rfl ?_); refine Kd.R_make (Kd.int .i64) _ 3 rfl (N := 18) rfl 49 _ _ rfl t417 rfl rfl Tryd.underlying49 (.int .i64 0) 8 info3 rfl (by decide) (by omega) 0 (ok := fun _ => True) (okp := fun _ => True) rfl (fun _ hk => hk) trivial (of_decide_eq_true asz_) (Nat.le_trans (Nat.mul_le_mul_right _ (of_decide_eq_true asz_ : t417.toNat ≤ 35184372088832)) (by omega)) (Below.refl _ _) (Nat.le_refl _) ?_; intro v419 w5 ho6 hb hg_ hnew_; clear hg_ hnew_; (first | rw [← Ny418.out] at ho6 | (simp only [Int.reduceToNat] at ho6; rw [← Ny418.out] at ho6)); have HO420 := Az_ (Kd.R_lower ho6 (below_size (ubz_ HB.out))); replace HB := Az_ (btz_ (ubz_ HB.out) hb); clear hb ho6; obtain ⟨Ao7, co7, eo7⟩ := Kd.R_slice HO420.out; subst eo7))
   go_loopg [21] k (fun kq v21 w' => ∃ (x3_1 : List Int) (x21_1 : Int), v21 = .int .i64 x21_1 ∧ Aside0 (spec_biFar.l0 kq a0 x3_1 (y418.length : Int) x21_1 = some r) ∧ Aside0 (kq ≤ k) ∧ Aside0 (Kd.R (Kd.int .i64) 3 w' w.heap.size (fun _ => True) (.slice Ao7 y418.length co7) x3_1) ∧ Aside0 (Below w.heap.size w w'))
   case atStart => exact ⟨(y418), (0), qaz_, H', ⟨Nat.le_refl _⟩, ⟨by (with_reducible repeat (first | apply raz_ | apply rnz_ | apply rdz_)); exact HO420.out⟩, ⟨by exact ubz_ HB.out⟩⟩
   case round =>
    clear H'
    clear c3b0 c3b1 c4b0 c4b1
    obtain ⟨x3_1, x21_1, rfl, HA, HK1, HO_3, HB⟩ := hrel
    have hl3_1 := (Kd.R_reads' HO_3.out).1
    rw [hl3_1] at HO_3
    (try simp only [hl3_1])
    cases gk with
    | zero => exact absurd HA.out (by simp [spec_biFar.l0])
    | succ k1 =>
     have H := HA.out
     clear HA
     simp only [spec_biFar.l0] at H
     by_cases c8 : x21_1 < (y418.length : Int)
     ·rw [if_pos c8] at H
      have c8b0 := decide_eq_true c8
      clear c8
      by_cases c9 : 0 ≤ x21_1
      ·rw [if_pos c9] at H
       have c9b0 := decide_eq_true c9
       clear c9
       by_cases c10 : x21_1 < (x3_1.length : Int)
       ·rw [if_pos c10] at H
        have c10b0 := decide_eq_true c10
        clear c10
        obtain ⟨y421, hy421⟩ : ∃ y_ : List Int, y_ = (x3_1.set (x21_1 : Int).toNat (-1)) := ⟨_, rfl⟩
        replace H : (spec_biFar.l0 k1 a0 y421 (y418.length : Int) (wrap64 (x21_1 + 1))) = some r := by first | (rw [hy421]; with_reducible exact H) | (have H2_ := (Option.bind_some _ _).symm.trans H; rw [hy421]; with_reducible exact H2_) | (have H2_ := (Option.bind_some _ _).symm.trans H; with_reducible exact H2_) | with_reducible exact H | (rw [hy421]; exact H) | exact H
        have Ny421 := Az_ hy421
        clear hy421
        have H' := Az_ H
        clear H
        have p11 : 0 ≤ (x21_1 : Int) := of_decide_eq_true asz_
        have q11 : (x21_1 : Int) < ((x3_1.length : Int) : Int) := of_decide_eq_true asz_
        obtain ⟨go11, co11, eo11, gb11, gl11, cl11, HG11⟩ := Kd.R_form HO_3.out (by omega)
        (first | cases eo11 | (injection eo11 with ea_ en_ ec_; (first | subst ea_ | (injection ea_ with ea_; subst ea_)); subst ec_; clear en_))
        have GB11 := Az_ gb11
        have GG11 := Az_ HG11
        clear gb11 gl11 HG11
        obtain ⟨hx11_0, hf11_0⟩ := Kd.R_celln 0 HO_3.out (x21_1 : Int) p11 q11
        replace p11 := eq_true p11
        replace q11 := eq_true q11
        have HP12 := Kd.R_putg HO_3.out (x21_1 : Int) (-1)
        go_wp2_with (first | ((with_reducible refine gate_store (t := 3) (p := 26) rfl ?_); refine store_event (t := 3) (p := 26) (v := ?vo_w13) (w1 := (wr.setCell ⟨go11, (x21_1 : Int).toNat, none⟩ (.int .i64 (-1)))) ?hg ?ho ?hn ?hr ?_; (case ho => rfl); (case hg => rfl); (case hn => rfl); (case hr => first | (go_simp; done) | (go_simp; rfl)); intro w13 hw; have hg : wr.grownBy w13 (some go11) := (by rw [hw]; exact HP12.2); have hp_ : Kd.R (Kd.int .i64) 3 w13 w.heap.size (fun _ => True) (.slice (some ⟨go11, 0, none⟩) x3_1.length co7) y421 := (by rw [hw, Ny421.out]; exact HP12.1); clear HP12; replace HO_3 := Az_ (hp_); replace HB := Az_ ((by rw [hw]; exact bsz_ (HB.out) GB11.out : Below w.heap.size w w13)); clear hg hw hp_))
        (try simp only [← hl3_1])
        go_roundg k1
        case measure => have := HK1.out; omega
        case rel => exact ⟨(y421), (wrap64 (x21_1 + 1)), qaz_, H', ⟨by have := HK1.out; omega⟩, ⟨by (try simp only [hl3_1]); (with_reducible repeat (first | apply raz_ | apply rnz_ | apply rdz_)); exact HO_3.out⟩, ⟨by exact ubz_ HB.out⟩⟩
       ·rw [if_neg c10] at H
        exact absurd H (by simp)
      ·rw [if_neg c9] at H
       exact absurd H (by simp)
     ·rw [if_neg c8] at H
      have c8b0 := decide_eq_false c8
      (try rw [hl3_1] at c8b0)
      clear c8
      have H' := Az_ H
      clear H
      go_wp2
      go_loopg [5, 6] k1 (fun kq v5 v6 w' => ∃ (x5_2 : List Int) (x6_2 : Int), v6 = .int .i64 x6_2 ∧ Aside0 (spec_biFar.l1 kq a0 x3_1 x5_2 x6_2 = some r) ∧ Aside0 (kq ≤ k1) ∧ Aside0 (Kd.R (Kd.int .i64) 3 w' w.heap.size (fun k_ => some k_ ≠ (v5 : Value).ownBlock) (.slice Ao7 x3_1.length co7) x3_1) ∧ Aside0 (Kd.R (Kd.int .i64) 3 w' w.heap.size (fun k_ => some k_ ≠ ((.slice Ao7 x3_1.length co7) : Value).ownBlock) v5 x5_2) ∧ Aside0 (Below w.heap.size w w'))
      case atStart => exact ⟨(([] : List Int)), (1), qaz_, H', ⟨Nat.le_refl _⟩, ⟨by (try simp only [hl3_1]); (with_reducible repeat (first | apply raz_ | apply rnz_ | apply rdz_)); exact Kd.R_mono HO_3.out (fun _ hk => (by simp [Value.ownBlock]))⟩, ⟨by (try simp only [hl3_1]); first | exact Kd.R_nil _ _ _ _ _ | exact Kd.N_nil _ _ _ _ _ | exact Kd.V_nil _ _ _ _ _ | exact Kd.Q_nil _ _ _ _ _ | exact Kd.S_nil _ _ _ _ _⟩, ⟨by exact ubz_ HB.out⟩⟩
      case round =>
       clear H'
       clear c8b0
       obtain ⟨x5_2, x6_2, rfl, HA, HK2, HO_3, HO_5, HB⟩ := hrel
       cases gk with
       | zero => exact absurd HA.out (by simp [spec_biFar.l1])
       | succ k2 =>
        have H := HA.out
        clear HA
        simp only [spec_biFar.l1] at H
        by_cases c14 : x6_2 ≤ a0
        ·rw [if_pos c14] at H
         have c14b0 := decide_eq_true c14
         clear c14
         by_cases c15 : x5_2.length < 17592186044416
         ·rw [if_pos c15] at H
          have LMc15 := Az_ c15
          clear c15
          obtain ⟨y422, hy422⟩ : ∃ y_ : List Int, y_ = (x5_2 ++ [x6_2]) := ⟨_, rfl⟩
          replace H : (spec_biFar.l1 k2 a0 x3_1 y422 (wrap64 (x6_2 + 1))) = some r := by first | (rw [hy422]; with_reducible exact H) | (have H2_ := (Option.bind_some _ _).symm.trans H; rw [hy422]; with_reducible exact H2_) | (have H2_ := (Option.bind_some _ _).symm.trans H; with_reducible exact H2_) | with_reducible exact H | (rw [hy422]; exact H) | exact H
          have Ny422 := Az_ hy422
          clear hy422
          have H' := Az_ H
          clear H
          go_wp2_with (first | ((with_reducible refine gate_builtin (b := .append) (xs := #[.tmp 33, .tmp 35]) rfl ?_); at_builtin; refine Kd.R_append (Kd.int .i64) (w0 := w) w.heap.size rfl (.tmp 33) (.tmp 35) 49 3 (.int .i64 0) 8 rfl Tryd.underlying49 info3 rfl (by decide) (by omega) u5 x5_2 x6_2 [.int .i64 x6_2] (fun k_ => some k_ ≠ (.slice Ao7 x3_1.length co7 : Value).ownBlock) (fun _ => False) rfl rfl ?aP (fun _ hk => hk.elim) ?aF ?aO ?aB ?aS ?aL ?_; (case aP => exact rfl); (case aB => exact (ubz_ HB.out)); (case aF => exact (fun k_ hk => Kd.fresh' (Kd.R_lt (by exact urz_ HO_3.out)) k_ hk)); (case aO => exact (by exact urz_ HO_5.out)); (case aS => exact (below_size (ubz_ HB.out))); (case aL => have := LMc15.out; omega); intro v423 w16 ho hb hg hat; rw [← Ny422.out] at ho; replace HO_3 := Az_ (Kd.R_after (ok := (fun _ => True)) (by (with_reducible repeat (first | apply raz_ | apply rnz_ | apply rdz_)); exact Kd.R_mono HO_3.out (fun _ hk => ⟨trivial, hk⟩)) hg hat); replace HB := Az_ (hb); have HO424 := Az_ (ho); clear HO_5; clear ho hb hg hat))
          go_roundg k2
          case measure => have := HK1.out; have := HK2.out; omega
          case rel => exact ⟨(y422), (wrap64 (x6_2 + 1)), qaz_, H', ⟨by have := HK1.out; have := HK2.out; omega⟩, ⟨by (try simp only [hl3_1]); (with_reducible repeat (first | apply raz_ | apply rnz_ | apply rdz_)); exact Kd.R_mono HO_3.out (fun _ hk => hk.2)⟩, ⟨by (try simp only [hl3_1]); (with_reducible repeat (first | apply raz_ | apply rnz_ | apply rdz_)); exact HO424.out⟩, ⟨by exact ubz_ HB.out⟩⟩
         ·rw [if_neg c15] at H
          exact absurd H (by simp)
        ·rw [if_neg c14] at H
         have c14b0 := decide_eq_false c14
         clear c14
         obtain ⟨y425, hy425⟩ : ∃ y_ : List (List Int), y_ = (([x5_2] : List (List Int))) := ⟨_, rfl⟩
         replace H : ((spec_biRank.f k2 x5_2).bind fun t428 => (if 0 ≤ t428 then (if t428 < (x3_1.length : Int) then (spec_biFar.l2 k2 a0 (x3_1.set (t428 : Int).toNat 0) y425 1) else (none)) else (none))) = some r := by first | (rw [hy425]; with_reducible exact H) | (have H2_ := (Option.bind_some _ _).symm.trans H; rw [hy425]; with_reducible exact H2_) | (have H2_ := (Option.bind_some _ _).symm.trans H; with_reducible exact H2_) | with_reducible exact H | (rw [hy425]; exact H) | exact H
         have Ny425 := Az_ hy425
         clear hy425
         replace H := bqz_ H; obtain ⟨t428, A17, H⟩ := H
         replace H : (if 0 ≤ t428 then (if t428 < (x3_1.length : Int) then (spec_biFar.l2 k2 a0 (x3_1.set (t428 : Int).toNat 0) y425 1) else (none)) else (none)) = some r := H
         by_cases c18 : 0 ≤ t428
         ·rw [if_pos c18] at H
          have c18b0 := decide_eq_true c18
          clear c18
          by_cases c19 : t428 < (x3_1.length : Int)
          ·rw [if_pos c19] at H
           have c19b0 := decide_eq_true c19
           clear c19
           obtain ⟨y429, hy429⟩ : ∃ y_ : List Int, y_ = (x3_1.set (t428 : Int).toNat 0) := ⟨_, rfl⟩
           replace H : (spec_biFar.l2 k2 a0 y429 y425 1) = some r := by first | (rw [hy429]; with_reducible exact H) | (have H2_ := (Option.bind_some _ _).symm.trans H; rw [hy429]; with_reducible exact H2_) | (have H2_ := (Option.bind_some _ _).symm.trans H; with_reducible exact H2_) | with_reducible exact H | (rw [hy429]; exact H) | exact H
           have Ny429 := Az_ hy429
           clear hy429
           have H' := Az_ H
           clear H
           obtain ⟨Ao21, co21, eo21⟩ := Kd.R_slice HO_5.out
           subst eo21
           go_wp2_with (first | ((with_reducible refine gate_dst (N := 38) rfl ?_); refine Kd.N_lit (Kd.slice 3 (Kd.int .i64)) _ 49 ?hg (N' := 38) ?hd (xs := ([x5_2] : List (List Int))) (inner := [.slice Ao21 x5_2.length co21]) (ok := (fun k_ => some k_ ≠ (.slice Ao7 x3_1.length co7 : Value).ownBlock)) (okp := (fun k_ => some k_ ≠ (.slice Ao7 x3_1.length co7 : Value).ownBlock)) ?hr ?hp (fun _ hk => hk) ((show ∀ k_, wr.heap.size ≤ k_ → (fun k_ => some k_ ≠ (.slice Ao7 x3_1.length co7 : Value).ownBlock) k_ from fun k_ hk => Kd.fresh' (Kd.R_lt (by exact urz_ HO_3.out)) k_ hk) _ (Nat.le_refl _)) (Below.refl _ _) (Nat.le_refl _) (by simp) ?_; (case hd => rfl); (case hg => rfl); (case hr => first | (go_simp; done) | (go_simp; rfl)); (case hp => exact (Reps.one (show Kd.FK (Kd.slice 3 (Kd.int .i64)) _ _ x5_2 [.slice Ao21 x5_2.length co21] from (Kd.FK_slice_mk (Kd.R_reads' (Kd.R_mono (ok' := (fun k_ => some k_ ≠ (.slice Ao7 x3_1.length co7 : Value).ownBlock)) (HO_5.out) (fun k_ hk => hk))).2.1 (Kd.R_F (Kd.R_mono (ok' := (fun k_ => some k_ ≠ (.slice Ao7 x3_1.length co7 : Value).ownBlock)) (HO_5.out) (fun k_ hk => hk))))) (Reps.none _ _))); intro v426 w22 ho23 hb hg_ hnew_; clear hg_ hnew_; (first | rw [← Ny425.out] at ho23 | (simp only [Int.reduceToNat] at ho23; rw [← Ny425.out] at ho23)); have n0_ := Az_ (Kd.R_below (by exact urz_ HO_3.out) hb); have n1_ := Az_ (Kd.N_lower ho23 (below_size (ubz_ HB.out))); have n2_ := Az_ (btz_ (ubz_ HB.out) hb); clear HO_3; clear HB; have n9_ := Az_ (Kd.R_below HO_5.out hb); clear HO_5; have HO_5 := n9_; clear n9_; have HO_3 := n0_; have HO427 := n1_; have HB := n2_; clear n0_ n1_ n2_; clear hb ho23) | ((with_reducible refine gate_callee (f := 189) rfl ?_); refine goesL_ (some 41) rfl rfl Tryd.func189 (by kernel_rfl) rfl #[.slice Ao21 x5_2.length co21] rfl maz_ ?_; (with_reducible refine (spec_biRank.calls k2 _ _ x5_2 t428 _ ?side1 ?side2 A17.out).mono ?_); (case side1 => exact ucz_ ((Kd.R_reads' HO_5.out).2.2)); (case side2 => exact (Kd.R_reads' HO_5.out).2.1); rintro e w' ⟨rfl, ⟨nd, rfl⟩⟩; refine ⟨_, rfl, ?_⟩; (try (rw [drewN_self w22]; generalize hq_ : World.drewN w22 _ = w22; have n0_ : Aside0 (Kd.N (Kd.slice 3 (Kd.int .i64)) 49 w22 w.heap.size (fun k_ => some k_ ≠ (.slice Ao7 x3_1.length co7 : Value).ownBlock) v426 y425) := ⟨by rw [← hq_]; exact (by (with_reducible repeat (first | apply Kd.N_alloc | apply Kd.N_drewN | apply Kd.N_drew)); exact HO427.out)⟩; have n1_ : Aside0 (Kd.R (Kd.int .i64) 3 w22 w.heap.size (fun _ => True) (.slice Ao7 x3_1.length co7) x3_1) := ⟨by rw [← hq_]; exact (by (with_reducible repeat (first | apply raz_ | apply rnz_ | apply rdz_)); exact Kd.R_mono HO_3.out (fun _ hk => trivial))⟩; have n2_ : Aside0 (Below w.heap.size w w22) := ⟨by rw [← hq_]; exact (ubz_ HB.out)⟩; clear HO427 HO_3 HB hq_; have HO427 := n0_; have HO_3 := n1_; have HB := n2_; clear n0_ n1_ n2_)); have p20 : 0 ≤ (t428 : Int) := of_decide_eq_true asz_; have q20 : (t428 : Int) < ((x3_1.length : Int) : Int) := of_decide_eq_true asz_; obtain ⟨go20, co20, eo20, gb20, gl20, cl20, HG20⟩ := Kd.R_form HO_3.out (by omega); (first | cases eo20 | (injection eo20 with ea_ en_ ec_; (first | subst ea_ | (injection ea_ with ea_; subst ea_)); subst ec_; clear en_)); have GB20 := Az_ gb20; have GG20 := Az_ HG20; clear gb20 gl20 HG20; obtain ⟨hx20_0, hf20_0⟩ := Kd.R_celln 0 HO_3.out (t428 : Int) p20 q20; replace p20 := eq_true p20; replace q20 := eq_true q20; have n_ := Az_ (Kd.R_mono (ok' := (fun _ => True)) HO_3.out (fun k_ hk => trivial)); clear HO_3; have HO_3 := n_; clear n_; obtain ⟨hy24_, hz24_⟩ := Kd.R_celln 0 HO_3.out (t428 : Int) (of_decide_eq_true asz_) (of_decide_eq_true asz_); have HP24 := Kd.R_putg HO_3.out (t428 : Int) 0) | ((with_reducible refine gate_store (t := 3) (p := 42) rfl ?_); refine store_event (t := 3) (p := 42) (v := ?vo_w25) (w1 := (w22.setCell ⟨go20, (t428 : Int).toNat, none⟩ (.int .i64 0))) ?hg ?ho ?hn ?hr ?_; (case ho => rfl); (case hg => rfl); (case hn => rfl); (case hr => first | (go_simp; done) | (go_simp; rfl)); intro w25 hw; have hg : w22.grownBy w25 (some go20) := (by rw [hw]; exact HP24.2); have hp_ : Kd.R (Kd.int .i64) 3 w25 w.heap.size (fun _ => True) (.slice (some ⟨go20, 0, none⟩) x3_1.length co7) y429 := (by rw [hw, Ny429.out]; exact HP24.1); clear HP24; replace HO_3 := Az_ (hp_); replace HO427 := Az_ (Kd.N_afterv (v := (.slice (some ⟨go20, 0, none⟩) x3_1.length co7)) (v1 := (.slice (some ⟨go20, 0, none⟩) x3_1.length co7)) (ok := (fun _ => True)) (by (with_reducible repeat (first | apply Kd.N_alloc | apply Kd.N_drewN | apply Kd.N_drew)); exact Kd.N_mono HO427.out (fun _ hk => ⟨trivial, hk⟩)) hg (.inl rfl)); replace HB := Az_ ((by rw [hw]; exact bsz_ (HB.out) GB20.out : Below w.heap.size w w25)); clear hg hw hp_))
           go_loopg [7, 8] k2 (fun kq v7 v8 w' => ∃ (x3_3 : List Int) (x7_3 : List (List Int)) (x8_3 : Int), v8 = .int .i64 x8_3 ∧ Aside0 (spec_biFar.l2 kq a0 x3_3 x7_3 x8_3 = some r) ∧ Aside0 (kq ≤ k2) ∧ Aside0 (Kd.R (Kd.int .i64) 3 w' w.heap.size (fun _ => True) (.slice (some ⟨go20, 0, none⟩) x3_1.length co7) x3_3) ∧ Aside0 (Kd.N (Kd.slice 3 (Kd.int .i64)) 49 w' w.heap.size (fun k_ => some k_ ≠ ((.slice (some ⟨go20, 0, none⟩) x3_1.length co7) : Value).ownBlock) v7 x7_3) ∧ Aside0 (Below w.heap.size w w'))
           case atStart => exact ⟨(y429), (y425), (1), qaz_, H', ⟨Nat.le_refl _⟩, ⟨by (try simp only [hl3_1]); (with_reducible repeat (first | apply raz_ | apply rnz_ | apply rdz_)); exact HO_3.out⟩, ⟨by (try simp only [hl3_1]); (with_reducible repeat (first | apply Kd.N_alloc | apply Kd.N_drewN | apply Kd.N_drew)); exact Kd.N_mono HO427.out (fun _ hk => hk.2)⟩, ⟨by exact ubz_ HB.out⟩⟩
           case round =>
            clear H'
            clear c14b0 c18b0 c19b0 p20 q20 hx20_0
            obtain ⟨x3_3, x7_3, x8_3, rfl, HA, HK3, HO_3, HO_7, HB⟩ := hrel
            have hl3_3 := (Kd.R_reads' HO_3.out).1
            rw [hl3_3] at HO_3
            (try simp only [hl3_3])
            (try simp only [hl3_3] at HO_7)
            cases gk with
            | zero => exact absurd HA.out (by simp [spec_biFar.l2])
            | succ k3 =>
             have H := HA.out
             clear HA
             simp only [spec_biFar.l2] at H
             by_cases c26 : (x7_3.length : Int) > 0
             ·rw [if_pos c26] at H
              have c26b0 := decide_eq_true c26
              have c26b1 : decide (0 < x7_3.length) = true := decide_eq_true (by omega)
              clear c26
              have H' := Az_ H
              clear H
              obtain ⟨Ao27, co27, eo27⟩ := Kd.N_slice HO_7.out
              subst eo27
              go_wp2
              go_loopg [9, 50] k3 (fun kq v9 v50 w' => ∃ (x3_4 : List Int) (x9_4 : List (List Int)) (x50_4 : Int), v50 = .int .i64 x50_4 ∧ Aside0 (spec_biFar.l3 kq a0 x3_4 x8_3 x9_4 x7_3 (x7_3.length : Int) x50_4 = some r) ∧ Aside0 (kq ≤ k3) ∧ Aside0 (Kd.R (Kd.int .i64) 3 w' w.heap.size (fun _ => True) (.slice (some ⟨go20, 0, none⟩) x3_3.length co7) x3_4) ∧ Aside0 (Kd.N (Kd.slice 3 (Kd.int .i64)) 49 w' w.heap.size (fun k_ => some k_ ≠ ((.slice (some ⟨go20, 0, none⟩) x3_3.length co7) : Value).ownBlock ∧ some k_ ≠ ((.slice Ao27 x7_3.length co27) : Value).ownBlock) v9 x9_4) ∧ Aside0 (Kd.N (Kd.slice 3 (Kd.int .i64)) 49 w' w.heap.size (fun k_ => some k_ ≠ ((.slice (some ⟨go20, 0, none⟩) x3_3.length co7) : Value).ownBlock ∧ some k_ ≠ (v9 : Value).ownBlock) (.slice Ao27 x7_3.length co27) x7_3) ∧ Aside0 (Below w.heap.size w w'))
              case atStart => exact ⟨(x3_3), (([] : List (List Int))), (0), qaz_, H', ⟨Nat.le_refl _⟩, ⟨by (try simp only [hl3_1]); (try simp only [hl3_3]); (with_reducible repeat (first | apply raz_ | apply rnz_ | apply rdz_)); exact HO_3.out⟩, ⟨by (try simp only [hl3_1]); (try simp only [hl3_3]); first | exact Kd.S_nil _ _ _ _ _ | exact Kd.N_nil _ _ _ _ _ | exact Kd.V_nil _ _ _ _ _ | exact Kd.Q_nil _ _ _ _ _ | exact Kd.R_nil _ _ _ _ _⟩, ⟨by (try simp only [hl3_1]); (try simp only [hl3_3]); (with_reducible repeat (first | apply Kd.N_alloc | apply Kd.N_drewN | apply Kd.N_drew)); exact Kd.N_mono HO_7.out (fun _ hk => ⟨hk, (by simp [Value.ownBlock])⟩)⟩, ⟨by exact ubz_ HB.out⟩⟩
              case round =>
               clear H'
               clear c26b0 c26b1
               obtain ⟨x3_4, x9_4, x50_4, rfl, HA, HK4, HO_3, HO_9, HO_48, HB⟩ := hrel
               have hl3_4 := (Kd.R_reads' HO_3.out).1
               rw [hl3_4] at HO_3
               (try simp only [hl3_4])
               (try simp only [hl3_4] at HO_9)
               (try simp only [hl3_4] at HO_48)
               cases gk with
               | zero => exact absurd HA.out (by simp [spec_biFar.l3])
               | succ k4 =>
                have H := HA.out
                clear HA
                simp only [spec_biFar.l3] at H
                by_cases c28 : x50_4 < (x7_3.length : Int)
                ·rw [if_pos c28] at H
                 have c28b0 := decide_eq_true c28
                 clear c28
                 by_cases c29 : 0 ≤ x50_4
                 ·rw [if_pos c29] at H
                  have c29b0 := decide_eq_true c29
                  clear c29
                  by_cases c30 : x50_4 < (x7_3.length : Int)
                  ·rw [if_pos c30] at H
                   have c30b0 := decide_eq_true c30
                   clear c30
                   have H' := Az_ H
                   clear H
                   have p430 : 0 ≤ (x50_4 : Int) := of_decide_eq_true asz_
                   have q430 : x50_4 < (x7_3.length : Int) := of_decide_eq_true asz_
                   obtain ⟨ad430, A430_0, c430_0, e430, hx430_0, hl430_0, hi430_0⟩ := at_L2 (Kd.N_reads' HO_48.out).2.2 x50_4 p430 q430
                   cases e430
                   obtain ⟨ce430, hce430, hMe430, hcc430⟩ := Kd.N_get HO_48.out [] x50_4 p430 (by first | exact q430 | exact of_decide_eq_true asz_ | (have e_ := (Kd.N_reads' HO_48.out).1; omega))
                   obtain ⟨ua430_0, uc430_0, rfl, ul430_0, ge430_0⟩ := Kd.FK_slice_open hMe430
                   have hv430_0 := hcc430 0 _ rfl
                   rw [Nat.add_zero, show ((Kd.slice 3 (Kd.int .i64))).sz = 1 from rfl, Nat.mul_one] at hv430_0
                   replace hv430_0 := Option.some.inj (hv430_0.symm.trans hx430_0)
                   injection hv430_0 with hva_ hvn_ hvc_
                   rw [hva_] at ge430_0
                   rw [hvc_] at ul430_0
                   have HL430_0 := Az_ (show Kd.V (Kd.int .i64) 3 _ w.heap.size _ _ (rd_L2 x7_3 x50_4) from Kd.V_mk ul430_0 ge430_0)
                   clear hva_ hvn_ hvc_ ge430_0 ul430_0 hcc430 hce430
                   have HR430_0 := Az_ hi430_0
                   have HC430_0 := Az_ hl430_0
                   clear hi430_0 hl430_0
                   replace p430 := eq_true p430
                   replace q430 := eq_true q430
                   go_wp2
                   go_loopg [9, 12] k4 (fun kq v9 v12 w' => ∃ (x3_5 : List Int) (x9_5 : List (List Int)) (x12_5 : Int), v12 = .int .i64 x12_5 ∧ Aside0 (spec_biFar.l4 kq a0 x3_5 x8_3 x9_5 (rd_L2 x7_3 x50_4) x12_5 x7_3 (x7_3.length : Int) x50_4 = some r) ∧ Aside0 (kq ≤ k4) ∧ Aside0 (Kd.R (Kd.int .i64) 3 w' w.heap.size (fun _ => True) (.slice (some ⟨go20, 0, none⟩) x3_4.length co7) x3_5) ∧ Aside0 (Kd.N (Kd.slice 3 (Kd.int .i64)) 49 w' w.heap.size (fun k_ => some k_ ≠ ((.slice (some ⟨go20, 0, none⟩) x3_4.length co7) : Value).ownBlock ∧ some k_ ≠ ((.slice (some ad430) x7_3.length co27) : Value).ownBlock) v9 x9_5) ∧ Aside0 (NEl A430_0 (rd_L2 x7_3 x50_4) (Kd.slice 3 (Kd.int .i64)) 49 w' w.heap.size (fun k_ => some k_ ≠ ((.slice (some ⟨go20, 0, none⟩) x3_4.length co7) : Value).ownBlock ∧ some k_ ≠ (v9 : Value).ownBlock) (.slice (some ad430) x7_3.length co27) x7_3) ∧ Aside0 (Below w.heap.size w w'))
                   case atStart => exact ⟨(x3_4), (x9_4), (0), qaz_, H', ⟨Nat.le_refl _⟩, ⟨by (try simp only [hl3_1]); (try simp only [hl3_3]); (try simp only [hl3_4]); (with_reducible repeat (first | apply raz_ | apply rnz_ | apply rdz_)); exact HO_3.out⟩, ⟨by (try simp only [hl3_1]); (try simp only [hl3_3]); (try simp only [hl3_4]); (with_reducible repeat (first | apply Kd.N_alloc | apply Kd.N_drewN | apply Kd.N_drew)); exact HO_9.out⟩, ⟨by (try simp only [hl3_1]); (try simp only [hl3_3]); (try simp only [hl3_4]); exact And.intro HO_48.out (Kd.F_mono (Kd.V_F HL430_0.out) (fun _ h_ => h_.1))⟩, ⟨by exact ubz_ HB.out⟩⟩
                   case round =>
                    clear H'
                    clear c28b0 c29b0 c30b0 hx430_0 p430 q430
                    obtain ⟨x3_5, x9_5, x12_5, rfl, HA, HK5, HO_3, HO_9, HO_48, HB⟩ := hrel
                    have hl3_5 := (Kd.R_reads' HO_3.out).1
                    rw [hl3_5] at HO_3
                    (try simp only [hl3_5])
                    (try simp only [hl3_5] at HO_9)
                    (try simp only [hl3_5] at HO_48)
                    cases gk with
                    | zero => exact absurd HA.out (by simp [spec_biFar.l4])
                    | succ k5 =>
                     have H := HA.out
                     clear HA
                     simp only [spec_biFar.l4] at H
                     by_cases c31 : x12_5 < a0
                     ·rw [if_pos c31] at H
                      have c31b0 := decide_eq_true c31
                      clear c31
                      have H' := Az_ H
                      clear H
                      go_wp2
                      go_loopg [9, 13] k5 (fun kq v9 v13 w' => ∃ (x3_6 : List Int) (x9_6 : List (List Int)) (x13_6 : Int), v13 = .int .i64 x13_6 ∧ Aside0 (spec_biFar.l5 kq a0 x3_6 x8_3 x9_6 (rd_L2 x7_3 x50_4) x12_5 x13_6 x7_3 (x7_3.length : Int) x50_4 = some r) ∧ Aside0 (kq ≤ k5) ∧ Aside0 (Kd.R (Kd.int .i64) 3 w' w.heap.size (fun _ => True) (.slice (some ⟨go20, 0, none⟩) x3_5.length co7) x3_6) ∧ Aside0 (Kd.N (Kd.slice 3 (Kd.int .i64)) 49 w' w.heap.size (fun k_ => some k_ ≠ ((.slice (some ⟨go20, 0, none⟩) x3_5.length co7) : Value).ownBlock ∧ some k_ ≠ ((.slice (some ad430) x7_3.length co27) : Value).ownBlock) v9 x9_6) ∧ Aside0 (NEl A430_0 (rd_L2 x7_3 x50_4) (Kd.slice 3 (Kd.int .i64)) 49 w' w.heap.size (fun k_ => some k_ ≠ ((.slice (some ⟨go20, 0, none⟩) x3_5.length co7) : Value).ownBlock ∧ some k_ ≠ (v9 : Value).ownBlock) (.slice (some ad430) x7_3.length co27) x7_3) ∧ Aside0 (Below w.heap.size w w'))
                      case atStart => exact ⟨(x3_5), (x9_5), (x12_5), qaz_, H', ⟨Nat.le_refl _⟩, ⟨by (try simp only [hl3_1]); (try simp only [hl3_3]); (try simp only [hl3_4]); (try simp only [hl3_5]); (with_reducible repeat (first | apply raz_ | apply rnz_ | apply rdz_)); exact HO_3.out⟩, ⟨by (try simp only [hl3_1]); (try simp only [hl3_3]); (try simp only [hl3_4]); (try simp only [hl3_5]); (with_reducible repeat (first | apply Kd.N_alloc | apply Kd.N_drewN | apply Kd.N_drew)); exact HO_9.out⟩, ⟨by (try simp only [hl3_1]); (try simp only [hl3_3]); (try simp only [hl3_4]); (try simp only [hl3_5]); (with_reducible repeat (first | apply NEl_alloc | apply NEl_drewN | apply NEl_drew)); exact HO_48.out⟩, ⟨by exact ubz_ HB.out⟩⟩
                      case round =>
                       clear H'
                       clear c31b0
                       obtain ⟨x3_6, x9_6, x13_6, rfl, HA, HK6, HO_3, HO_9, HO_48, HB⟩ := hrel
                       have hl3_6 := (Kd.R_reads' HO_3.out).1
                       rw [hl3_6] at HO_3
                       (try simp only [hl3_6])
                       (try simp only [hl3_6] at HO_9)
                       (try simp only [hl3_6] at HO_48)
                       cases gk with
                       | zero => exact absurd HA.out (by simp [spec_biFar.l5])
                       | succ k6 =>
                        have H := HA.out
                        clear HA
                        simp only [spec_biFar.l5] at H
                        by_cases c32 : x13_6 < a0
                        ·rw [if_pos c32] at H
                         have c32b0 := decide_eq_true c32
                         clear c32
                         replace H := bqz_ H; obtain ⟨t431, A33, H⟩ := H
                         replace H := bqz_ H; obtain ⟨t434, A34, H⟩ := H
                         replace H : (if 0 ≤ t434 then (if t434 < (x3_6.length : Int) then (if (rd x3_6 t434) < 0 then (if x9_6.length < 5864062014805 then (spec_biFar.l5 k6 a0 (x3_6.set (t434 : Int).toNat x8_3) x8_3 (x9_6 ++ [t431]) (rd_L2 x7_3 x50_4) x12_5 (wrap64 (x13_6 + 1)) x7_3 (x7_3.length : Int) x50_4) else (none)) else (spec_biFar.l5 k6 a0 x3_6 x8_3 x9_6 (rd_L2 x7_3 x50_4) x12_5 (wrap64 (x13_6 + 1)) x7_3 (x7_3.length : Int) x50_4)) else (none)) else (none)) = some r := H
                         by_cases c35 : 0 ≤ t434
                         ·rw [if_pos c35] at H
                          have c35b0 := decide_eq_true c35
                          clear c35
                          by_cases c36 : t434 < (x3_6.length : Int)
                          ·rw [if_pos c36] at H
                           have c36b0 := decide_eq_true c36
                           clear c36
                           by_cases c37 : (rd x3_6 t434) < 0
                           ·rw [if_pos c37] at H
                            have c37b0 := decide_eq_true c37
                            clear c37
                            obtain ⟨y436, hy436⟩ : ∃ y_ : List Int, y_ = (x3_6.set (t434 : Int).toNat x8_3) := ⟨_, rfl⟩
                            replace H : (if x9_6.length < 5864062014805 then (spec_biFar.l5 k6 a0 y436 x8_3 (x9_6 ++ [t431]) (rd_L2 x7_3 x50_4) x12_5 (wrap64 (x13_6 + 1)) x7_3 (x7_3.length : Int) x50_4) else (none)) = some r := by first | (rw [hy436]; with_reducible exact H) | (have H2_ := (Option.bind_some _ _).symm.trans H; rw [hy436]; with_reducible exact H2_) | (have H2_ := (Option.bind_some _ _).symm.trans H; with_reducible exact H2_) | with_reducible exact H | (rw [hy436]; exact H) | exact H
                            have Ny436 := Az_ hy436
                            clear hy436
                            by_cases c39 : x9_6.length < 5864062014805
                            ·rw [if_pos c39] at H
                             have LMc39 := Az_ c39
                             clear c39
                             obtain ⟨y437, hy437⟩ : ∃ y_ : List (List Int), y_ = (x9_6 ++ [t431]) := ⟨_, rfl⟩
                             replace H : (spec_biFar.l5 k6 a0 y436 x8_3 y437 (rd_L2 x7_3 x50_4) x12_5 (wrap64 (x13_6 + 1)) x7_3 (x7_3.length : Int) x50_4) = some r := by first | (rw [hy437]; with_reducible exact H) | (have H2_ := (Option.bind_some _ _).symm.trans H; rw [hy437]; with_reducible exact H2_) | (have H2_ := (Option.bind_some _ _).symm.trans H; with_reducible exact H2_) | with_reducible exact H | (rw [hy437]; exact H) | exact H
                             have Ny437 := Az_ hy437
                             clear hy437
                             have H' := Az_ H
                             clear H
                             go_wp2_with (first | ((with_reducible refine gate_callee (f := 190) rfl ?_); refine goesL_ (some 68) rfl rfl Tryd.func190 (by kernel_rfl) rfl #[.slice A430_0 (rd_L2 x7_3 x50_4).length c430_0, .int .i64 x12_5, .int .i64 x13_6] rfl maz_ ?_; (with_reducible refine (spec_biTurn.calls k6 _ _ (rd_L2 x7_3 x50_4) x12_5 x13_6 t431 _ ?side1 ?side2 A33.out).mono ?_); (case side1 => exact ucz_ ((Kd.F_now HO_48.out.2))); (case side2 => exact HC430_0.out); rintro e w40 ⟨v432, rfl, ho0, hb⟩; refine ⟨_, rfl, ?_⟩; replace HO_9 := Az_ (Kd.N_elder' (by (with_reducible repeat (first | apply Kd.N_alloc | apply Kd.N_drewN | apply Kd.N_drew)); exact HO_9.out) (Kd.R_base ho0) hb); replace HO_48 := Az_ (NEl_elder' (by (with_reducible repeat (first | apply NEl_alloc | apply NEl_drewN | apply NEl_drew)); exact HO_48.out) (Kd.R_base ho0) hb); have HO433 := Az_ (Kd.R_lower (Kd.R_new' ho0 (Kd.R_lt (by exact urz_ HO_3.out))) (below_size (ubz_ HB.out))); replace HO_3 := Az_ (rez_ (by exact urz_ HO_3.out) (Kd.R_base ho0) hb); replace HB := Az_ (btz_ (ubz_ HB.out) hb); (try clear hb); (try clear ho0); obtain ⟨Ao41, co41, eo41⟩ := Kd.R_slice HO433.out; subst eo41) | ((with_reducible refine gate_callee (f := 189) rfl ?_); refine goesL_ (some 70) rfl rfl Tryd.func189 (by kernel_rfl) rfl #[.slice Ao41 t431.length co41] rfl maz_ ?_; (with_reducible refine (spec_biRank.calls k6 _ _ t431 t434 _ ?side1 ?side2 A34.out).mono ?_); (case side1 => exact ucz_ ((Kd.R_reads' HO433.out).2.2)); (case side2 => exact (Kd.R_reads' HO433.out).2.1); rintro e w' ⟨rfl, ⟨nd, rfl⟩⟩; refine ⟨_, rfl, ?_⟩; (try (rw [drewN_self w40]; generalize hq_ : World.drewN w40 _ = w40; have n0_ : Aside0 (Kd.R (Kd.int .i64) 3 w40 w.heap.size (fun k_ => some k_ ≠ (.slice (some ⟨go20, 0, none⟩) x3_6.length co7 : Value).ownBlock) (.slice Ao41 t431.length co41) t431) := ⟨by rw [← hq_]; exact (by (with_reducible repeat (first | apply raz_ | apply rnz_ | apply rdz_)); exact Kd.R_mono HO433.out (fun _ hk => hk.2))⟩; have n1_ : Aside0 (Kd.R (Kd.int .i64) 3 w40 w.heap.size (fun k_ => some k_ ≠ (.slice Ao41 t431.length co41 : Value).ownBlock) (.slice (some ⟨go20, 0, none⟩) x3_6.length co7) x3_6) := ⟨by rw [← hq_]; exact (by (with_reducible repeat (first | apply raz_ | apply rnz_ | apply rdz_)); exact Kd.R_mono HO_3.out (fun _ hk => hk.2))⟩; have n2_ : Aside0 (NEl A430_0 (rd_L2 x7_3 x50_4) (Kd.slice 3 (Kd.int .i64)) 49 w40 w.heap.size (fun k_ => some k_ ≠ (.slice Ao41 t431.length co41 : Value).ownBlock ∧ some k_ ≠ (.slice (some ⟨go20, 0, none⟩) x3_6.length co7 : Value).ownBlock ∧ some k_ ≠ (u9 : Value).ownBlock) (.slice (some ad430) x7_3.length co27) x7_3) := ⟨by rw [← hq_]; exact (by (with_reducible repeat (first | apply NEl_alloc | apply NEl_drewN | apply NEl_drew)); exact NEl_mono HO_48.out (fun _ hk => ⟨hk.2, ⟨hk.1.1, hk.1.2⟩⟩))⟩; have n3_ : Aside0 (Kd.N (Kd.slice 3 (Kd.int .i64)) 49 w40 w.heap.size (fun k_ => some k_ ≠ (.slice Ao41 t431.length co41 : Value).ownBlock ∧ some k_ ≠ (.slice (some ⟨go20, 0, none⟩) x3_6.length co7 : Value).ownBlock ∧ some k_ ≠ (.slice (some ad430) x7_3.length co27 : Value).ownBlock) u9 x9_6) := ⟨by rw [← hq_]; exact (by (with_reducible repeat (first | apply Kd.N_alloc | apply Kd.N_drewN | apply Kd.N_drew)); exact Kd.N_mono HO_9.out (fun _ hk => ⟨hk.2, ⟨hk.1.1, hk.1.2⟩⟩))⟩; have n4_ : Aside0 (Below w.heap.size w w40) := ⟨by rw [← hq_]; exact (ubz_ HB.out)⟩; clear HO433 HO_3 HO_48 HO_9 HB hq_; have HO433 := n0_; have HO_3 := n1_; have HO_48 := n2_; have HO_9 := n3_; have HB := n4_; clear n0_ n1_ n2_ n3_ n4_)); have p435 : 0 ≤ (t434 : Int) := of_decide_eq_true asz_; have q435 : t434 < (x3_6.length : Int) := of_decide_eq_true asz_; obtain ⟨ad435, e435, hx435_0⟩ := Kd.at_int (Kd.R_reads' HO_3.out).2.2 t434 p435 q435; obtain rfl : (⟨go20, 0, none⟩ : Addr) = ad435 := (by injection e435); (first | simp only [add_plain] at hx435_0 | simp only [add_at] at hx435_0 | simp only [Addr.add, Nat.zero_add] at hx435_0 | skip); replace p435 := eq_true p435; replace q435 := eq_true q435; have p38 : 0 ≤ (t434 : Int) := of_decide_eq_true asz_; have q38 : (t434 : Int) < ((x3_6.length : Int) : Int) := of_decide_eq_true asz_; obtain ⟨hx38_0, hf38_0⟩ := Kd.R_celln 0 HO_3.out (t434 : Int) p38 q38; replace p38 := eq_true p38; replace q38 := eq_true q38; have n_ := Az_ (Kd.R_mono (ok' := (fun k_ => some k_ ≠ (.slice Ao41 t431.length co41 : Value).ownBlock)) HO_3.out (fun k_ hk => by first | exact hk.2 | ((repeat' apply And.intro) <;> first | exact hk | exact hk.1 | exact hk.2 | exact hk.1.1 | exact hk.1.2 | exact hk.2.1 | exact hk.2.2 | exact hk.1.1.1 | exact hk.1.1.2 | exact hk.1.2.1 | exact hk.1.2.2 | exact hk.2.1.1 | exact hk.2.1.2 | exact hk.2.2.1 | exact hk.2.2.2 | exact hk.1.1.1.1 | exact hk.1.1.1.2 | exact hk.1.1.2.1 | exact hk.1.1.2.2 | exact hk.1.2.1.1 | exact hk.1.2.1.2 | exact hk.1.2.2.1 | exact hk.1.2.2.2 | exact hk.2.1.1.1 | exact hk.2.1.1.2 | exact hk.2.1.2.1 | exact hk.2.1.2.2 | exact hk.2.2.1.1 | exact hk.2.2.1.2 | exact hk.2.2.2.1 | exact hk.2.2.2.2))); clear HO_3; have HO_3 := n_; clear n_; obtain ⟨hy42_, hz42_⟩ := Kd.R_celln 0 HO_3.out (t434 : Int) (of_decide_eq_true asz_) (of_decide_eq_true asz_); have HP42 := Kd.R_putg HO_3.out (t434 : Int) x8_3) | ((with_reducible refine gate_store (t := 3) (p := 79) rfl ?_); refine store_event (t := 3) (p := 79) (v := ?vo_w43) (w1 := (w40.setCell ⟨go20, (t434 : Int).toNat, none⟩ (.int .i64 x8_3))) ?hg ?ho ?hn ?hr ?_; (case ho => rfl); (case hg => rfl); (case hn => rfl); (case hr => first | (go_simp; done) | (go_simp; rfl)); intro w43 hw; have hg : w40.grownBy w43 (some go20) := (by rw [hw]; exact HP42.2); have hp_ : Kd.R (Kd.int .i64) 3 w43 w.heap.size (fun k_ => some k_ ≠ (.slice Ao41 t431.length co41 : Value).ownBlock) (.slice (some ⟨go20, 0, none⟩) x3_6.length co7) y436 := (by rw [hw, Ny436.out]; exact HP42.1); clear HP42; replace HO_3 := Az_ (hp_); replace HO_9 := Az_ (Kd.N_afterv (v := (.slice (some ⟨go20, 0, none⟩) x3_6.length co7)) (v1 := (.slice (some ⟨go20, 0, none⟩) x3_6.length co7)) (ok := (fun k_ => some k_ ≠ (.slice (some ad430) x7_3.length co27 : Value).ownBlock ∧ some k_ ≠ (.slice Ao41 t431.length co41 : Value).ownBlock)) (by (with_reducible repeat (first | apply Kd.N_alloc | apply Kd.N_drewN | apply Kd.N_drew)); exact Kd.N_mono HO_9.out (fun _ hk => by first | exact ⟨⟨hk.1.2, hk.2⟩, hk.1.1⟩ | ((repeat' apply And.intro) <;> first | exact hk | exact hk.1 | exact hk.2 | exact hk.1.1 | exact hk.1.2 | exact hk.2.1 | exact hk.2.2 | exact hk.1.1.1 | exact hk.1.1.2 | exact hk.1.2.1 | exact hk.1.2.2 | exact hk.2.1.1 | exact hk.2.1.2 | exact hk.2.2.1 | exact hk.2.2.2 | exact hk.1.1.1.1 | exact hk.1.1.1.2 | exact hk.1.1.2.1 | exact hk.1.1.2.2 | exact hk.1.2.1.1 | exact hk.1.2.1.2 | exact hk.1.2.2.1 | exact hk.1.2.2.2 | exact hk.2.1.1.1 | exact hk.2.1.1.2 | exact hk.2.1.2.1 | exact hk.2.1.2.2 | exact hk.2.2.1.1 | exact hk.2.2.1.2 | exact hk.2.2.2.1 | exact hk.2.2.2.2))) hg (.inl rfl)); replace HO_48 := Az_ (NEl_afterv (v := (.slice (some ⟨go20, 0, none⟩) x3_6.length co7)) (v1 := (.slice (some ⟨go20, 0, none⟩) x3_6.length co7)) (ok := (fun k_ => some k_ ≠ (u9 : Value).ownBlock ∧ some k_ ≠ (.slice Ao41 t431.length co41 : Value).ownBlock)) (by (with_reducible repeat (first | apply NEl_alloc | apply NEl_drewN | apply NEl_drew)); exact NEl_mono HO_48.out (fun _ hk => by first | exact ⟨⟨hk.1.2, hk.2⟩, hk.1.1⟩ | ((repeat' apply And.intro) <;> first | exact hk | exact hk.1 | exact hk.2 | exact hk.1.1 | exact hk.1.2 | exact hk.2.1 | exact hk.2.2 | exact hk.1.1.1 | exact hk.1.1.2 | exact hk.1.2.1 | exact hk.1.2.2 | exact hk.2.1.1 | exact hk.2.1.2 | exact hk.2.2.1 | exact hk.2.2.2 | exact hk.1.1.1.1 | exact hk.1.1.1.2 | exact hk.1.1.2.1 | exact hk.1.1.2.2 | exact hk.1.2.1.1 | exact hk.1.2.1.2 | exact hk.1.2.2.1 | exact hk.1.2.2.2 | exact hk.2.1.1.1 | exact hk.2.1.1.2 | exact hk.2.1.2.1 | exact hk.2.1.2.2 | exact hk.2.2.1.1 | exact hk.2.2.1.2 | exact hk.2.2.2.1 | exact hk.2.2.2.2))) hg (.inl rfl)); replace HO433 := Az_ (Kd.R_after (v := (.slice (some ⟨go20, 0, none⟩) x3_6.length co7)) (v1 := (.slice (some ⟨go20, 0, none⟩) x3_6.length co7)) (ok := (fun _ => True)) (by (with_reducible repeat (first | apply raz_ | apply rnz_ | apply rdz_)); first | exact HO433.out | exact Kd.R_mono HO433.out (fun _ hk => by first | exact hk | ((repeat' apply And.intro) <;> first | exact trivial | exact hk | exact hk.1 | exact hk.2 | exact hk.1.1 | exact hk.1.2 | exact hk.2.1 | exact hk.2.2 | exact hk.1.1.1 | exact hk.1.1.2 | exact hk.1.2.1 | exact hk.1.2.2 | exact hk.2.1.1 | exact hk.2.1.2 | exact hk.2.2.1 | exact hk.2.2.2 | exact hk.1.1.1.1 | exact hk.1.1.1.2 | exact hk.1.1.2.1 | exact hk.1.1.2.2 | exact hk.1.2.1.1 | exact hk.1.2.1.2 | exact hk.1.2.2.1 | exact hk.1.2.2.2 | exact hk.2.1.1.1 | exact hk.2.1.1.2 | exact hk.2.1.2.1 | exact hk.2.1.2.2 | exact hk.2.2.1.1 | exact hk.2.2.1.2 | exact hk.2.2.2.1 | exact hk.2.2.2.2))) hg (.inl rfl)); replace HB := Az_ ((by rw [hw]; exact bsz_ (HB.out) GB20.out : Below w.heap.size w w43)); clear hg hw hp_) | ((with_reducible refine gate_builtin (b := .append) (xs := #[.tmp 80, .tmp 82]) rfl ?_); at_builtin; refine Kd.N_append (Kd.slice 3 (Kd.int .i64)) (w0 := w) w.heap.size rfl (.tmp 80) (.tmp 82) 172 49 (.slice none 0 0) 24 rfl Tryd.underlying172 info49 rfl (by decide) (by omega) u9 x9_6 t431 [.slice Ao41 t431.length co41] (fun k_ => some k_ ≠ (.slice (some ⟨go20, 0, none⟩) x3_6.length co7 : Value).ownBlock ∧ some k_ ≠ (.slice (some ad430) x7_3.length co27 : Value).ownBlock) (fun k_ => ((fun k_ => some k_ ≠ (.slice (some ⟨go20, 0, none⟩) x3_6.length co7 : Value).ownBlock ∧ some k_ ≠ (.slice (some ad430) x7_3.length co27 : Value).ownBlock)) k_ ∧ some k_ ≠ (u9 : Value).ownBlock) rfl rfl ?aP (fun _ hk => by first | exact hk | ((repeat' apply And.intro) <;> first | exact hk | exact hk.1 | exact hk.2 | exact hk.1.1 | exact hk.1.2 | exact hk.2.1 | exact hk.2.2 | exact hk.1.1.1 | exact hk.1.1.2 | exact hk.1.2.1 | exact hk.1.2.2 | exact hk.2.1.1 | exact hk.2.1.2 | exact hk.2.2.1 | exact hk.2.2.2 | exact hk.1.1.1.1 | exact hk.1.1.1.2 | exact hk.1.1.2.1 | exact hk.1.1.2.2 | exact hk.1.2.1.1 | exact hk.1.2.1.2 | exact hk.1.2.2.1 | exact hk.1.2.2.2 | exact hk.2.1.1.1 | exact hk.2.1.1.2 | exact hk.2.1.2.1 | exact hk.2.1.2.2 | exact hk.2.2.1.1 | exact hk.2.2.1.2 | exact hk.2.2.2.1 | exact hk.2.2.2.2)) ?aF ?aO ?aB ?aS ?aL ?_; (case aP => exact (Kd.FK_slice_mk (Kd.R_reads' (Kd.R_mono (ok' := (fun k_ => ((fun k_ => some k_ ≠ (.slice (some ⟨go20, 0, none⟩) x3_6.length co7 : Value).ownBlock ∧ some k_ ≠ (.slice (some ad430) x7_3.length co27 : Value).ownBlock)) k_ ∧ some k_ ≠ (u9 : Value).ownBlock)) (Kd.R_apart' (Kd.R_apart' (HO433.out) (Kd.N_typed HO_48.out.1) (by decide)) (Kd.N_typed HO_9.out) (by decide)) (fun k_ hk => by first | exact ⟨⟨hk.1.1.2, hk.1.2⟩, hk.2⟩ | ((repeat' apply And.intro) <;> first | exact hk | exact hk.1 | exact hk.2 | exact hk.1.1 | exact hk.1.2 | exact hk.2.1 | exact hk.2.2 | exact hk.1.1.1 | exact hk.1.1.2 | exact hk.1.2.1 | exact hk.1.2.2 | exact hk.2.1.1 | exact hk.2.1.2 | exact hk.2.2.1 | exact hk.2.2.2 | exact hk.1.1.1.1 | exact hk.1.1.1.2 | exact hk.1.1.2.1 | exact hk.1.1.2.2 | exact hk.1.2.1.1 | exact hk.1.2.1.2 | exact hk.1.2.2.1 | exact hk.1.2.2.2 | exact hk.2.1.1.1 | exact hk.2.1.1.2 | exact hk.2.1.2.1 | exact hk.2.1.2.2 | exact hk.2.2.1.1 | exact hk.2.2.1.2 | exact hk.2.2.2.1 | exact hk.2.2.2.2)))).2.1 (Kd.R_F (Kd.R_mono (ok' := (fun k_ => ((fun k_ => some k_ ≠ (.slice (some ⟨go20, 0, none⟩) x3_6.length co7 : Value).ownBlock ∧ some k_ ≠ (.slice (some ad430) x7_3.length co27 : Value).ownBlock)) k_ ∧ some k_ ≠ (u9 : Value).ownBlock)) (Kd.R_apart' (Kd.R_apart' (HO433.out) (Kd.N_typed HO_48.out.1) (by decide)) (Kd.N_typed HO_9.out) (by decide)) (fun k_ hk => by first | exact ⟨⟨hk.1.1.2, hk.1.2⟩, hk.2⟩ | ((repeat' apply And.intro) <;> first | exact hk | exact hk.1 | exact hk.2 | exact hk.1.1 | exact hk.1.2 | exact hk.2.1 | exact hk.2.2 | exact hk.1.1.1 | exact hk.1.1.2 | exact hk.1.2.1 | exact hk.1.2.2 | exact hk.2.1.1 | exact hk.2.1.2 | exact hk.2.2.1 | exact hk.2.2.2 | exact hk.1.1.1.1 | exact hk.1.1.1.2 | exact hk.1.1.2.1 | exact hk.1.1.2.2 | exact hk.1.2.1.1 | exact hk.1.2.1.2 | exact hk.1.2.2.1 | exact hk.1.2.2.2 | exact hk.2.1.1.1 | exact hk.2.1.1.2 | exact hk.2.1.2.1 | exact hk.2.1.2.2 | exact hk.2.2.1.1 | exact hk.2.2.1.2 | exact hk.2.2.2.1 | exact hk.2.2.2.2)))))); (case aB => exact (ubz_ HB.out)); (case aF => exact (fun k_ hk => ⟨Kd.fresh' (Kd.R_lt (by (with_reducible repeat (first | apply raz_ | apply rnz_ | apply rdz_)); first | exact HO_3.out | exact Kd.R_mono HO_3.out (fun _ hk => by first | exact hk | ((repeat' apply And.intro) <;> first | exact trivial | exact hk | exact hk.1 | exact hk.2 | exact hk.1.1 | exact hk.1.2 | exact hk.2.1 | exact hk.2.2 | exact hk.1.1.1 | exact hk.1.1.2 | exact hk.1.2.1 | exact hk.1.2.2 | exact hk.2.1.1 | exact hk.2.1.2 | exact hk.2.2.1 | exact hk.2.2.2 | exact hk.1.1.1.1 | exact hk.1.1.1.2 | exact hk.1.1.2.1 | exact hk.1.1.2.2 | exact hk.1.2.1.1 | exact hk.1.2.1.2 | exact hk.1.2.2.1 | exact hk.1.2.2.2 | exact hk.2.1.1.1 | exact hk.2.1.1.2 | exact hk.2.1.2.1 | exact hk.2.1.2.2 | exact hk.2.2.1.1 | exact hk.2.2.1.2 | exact hk.2.2.2.1 | exact hk.2.2.2.2)))) k_ hk, Kd.fresh' (Kd.N_lt (by (with_reducible repeat (first | apply Kd.N_alloc | apply Kd.N_drewN | apply Kd.N_drew)); exact HO_48.out.1)) k_ hk⟩)); (case aO => exact (by (with_reducible repeat (first | apply Kd.N_alloc | apply Kd.N_drewN | apply Kd.N_drew)); exact Kd.N_mono HO_9.out (fun _ hk => by first | exact ⟨hk.2, hk.1.1⟩ | ((repeat' apply And.intro) <;> first | exact hk | exact hk.1 | exact hk.2 | exact hk.1.1 | exact hk.1.2 | exact hk.2.1 | exact hk.2.2 | exact hk.1.1.1 | exact hk.1.1.2 | exact hk.1.2.1 | exact hk.1.2.2 | exact hk.2.1.1 | exact hk.2.1.2 | exact hk.2.2.1 | exact hk.2.2.2 | exact hk.1.1.1.1 | exact hk.1.1.1.2 | exact hk.1.1.2.1 | exact hk.1.1.2.2 | exact hk.1.2.1.1 | exact hk.1.2.1.2 | exact hk.1.2.2.1 | exact hk.1.2.2.2 | exact hk.2.1.1.1 | exact hk.2.1.1.2 | exact hk.2.1.2.1 | exact hk.2.1.2.2 | exact hk.2.2.1.1 | exact hk.2.2.1.2 | exact hk.2.2.2.1 | exact hk.2.2.2.2)))); (case aS => exact (below_size (ubz_ HB.out))); (case aL => have := LMc39.out; omega); intro v438 w44 ho hb hg hat; rw [← Ny437.out] at ho; replace HO_3 := Az_ (Kd.R_over' (by (with_reducible repeat (first | apply raz_ | apply rnz_ | apply rdz_)); first | exact HO_3.out | exact Kd.R_mono HO_3.out (fun _ hk => by first | exact hk | ((repeat' apply And.intro) <;> first | exact trivial | exact hk | exact hk.1 | exact hk.2 | exact hk.1.1 | exact hk.1.2 | exact hk.2.1 | exact hk.2.2 | exact hk.1.1.1 | exact hk.1.1.2 | exact hk.1.2.1 | exact hk.1.2.2 | exact hk.2.1.1 | exact hk.2.1.2 | exact hk.2.2.1 | exact hk.2.2.2 | exact hk.1.1.1.1 | exact hk.1.1.1.2 | exact hk.1.1.2.1 | exact hk.1.1.2.2 | exact hk.1.2.1.1 | exact hk.1.2.1.2 | exact hk.1.2.2.1 | exact hk.1.2.2.2 | exact hk.2.1.1.1 | exact hk.2.1.1.2 | exact hk.2.1.2.1 | exact hk.2.1.2.2 | exact hk.2.2.1.1 | exact hk.2.2.1.2 | exact hk.2.2.2.1 | exact hk.2.2.2.2))) (Kd.N_typed (by (with_reducible repeat (first | apply Kd.N_alloc | apply Kd.N_drewN | apply Kd.N_drew)); first | exact HO_9.out | exact Kd.N_mono HO_9.out (fun _ hk => by first | exact hk | ((repeat' apply And.intro) <;> first | exact trivial | exact hk | exact hk.1 | exact hk.2 | exact hk.1.1 | exact hk.1.2 | exact hk.2.1 | exact hk.2.2 | exact hk.1.1.1 | exact hk.1.1.2 | exact hk.1.2.1 | exact hk.1.2.2 | exact hk.2.1.1 | exact hk.2.1.2 | exact hk.2.2.1 | exact hk.2.2.2 | exact hk.1.1.1.1 | exact hk.1.1.1.2 | exact hk.1.1.2.1 | exact hk.1.1.2.2 | exact hk.1.2.1.1 | exact hk.1.2.1.2 | exact hk.1.2.2.1 | exact hk.1.2.2.2 | exact hk.2.1.1.1 | exact hk.2.1.1.2 | exact hk.2.1.2.1 | exact hk.2.1.2.2 | exact hk.2.2.1.1 | exact hk.2.2.1.2 | exact hk.2.2.2.1 | exact hk.2.2.2.2)))) (by decide) hg); replace HO_48 := Az_ (NEl_afterv (ok := (fun k_ => some k_ ≠ (.slice (some ⟨go20, 0, none⟩) x3_6.length co7 : Value).ownBlock ∧ some k_ ≠ (.slice Ao41 t431.length co41 : Value).ownBlock)) (by (with_reducible repeat (first | apply NEl_alloc | apply NEl_drewN | apply NEl_drew)); exact NEl_mono HO_48.out (fun _ hk => by first | exact ⟨⟨hk.2, hk.1.2⟩, hk.1.1⟩ | ((repeat' apply And.intro) <;> first | exact hk | exact hk.1 | exact hk.2 | exact hk.1.1 | exact hk.1.2 | exact hk.2.1 | exact hk.2.2 | exact hk.1.1.1 | exact hk.1.1.2 | exact hk.1.2.1 | exact hk.1.2.2 | exact hk.2.1.1 | exact hk.2.1.2 | exact hk.2.2.1 | exact hk.2.2.2 | exact hk.1.1.1.1 | exact hk.1.1.1.2 | exact hk.1.1.2.1 | exact hk.1.1.2.2 | exact hk.1.2.1.1 | exact hk.1.2.1.2 | exact hk.1.2.2.1 | exact hk.1.2.2.2 | exact hk.2.1.1.1 | exact hk.2.1.1.2 | exact hk.2.1.2.1 | exact hk.2.1.2.2 | exact hk.2.2.1.1 | exact hk.2.2.1.2 | exact hk.2.2.2.1 | exact hk.2.2.2.2))) hg hat); replace HB := Az_ (hb); have HO439 := Az_ (ho); clear HO_9 HO433; clear ho hb hg hat))
                             (try simp only [← hl3_6])
                             go_roundg k6
                             case measure => have := HK1.out; have := HK2.out; have := HK3.out; have := HK4.out; have := HK5.out; have := HK6.out; omega
                             case rel => exact ⟨(y436), (y437), (wrap64 (x13_6 + 1)), qaz_, H', ⟨by have := HK1.out; have := HK2.out; have := HK3.out; have := HK4.out; have := HK5.out; have := HK6.out; omega⟩, ⟨by (try simp only [hl3_1]); (try simp only [hl3_3]); (try simp only [hl3_4]); (try simp only [hl3_5]); (try simp only [hl3_6]); (with_reducible repeat (first | apply raz_ | apply rnz_ | apply rdz_)); exact Kd.R_mono HO_3.out (fun _ hk => trivial)⟩, ⟨by (try simp only [hl3_1]); (try simp only [hl3_3]); (try simp only [hl3_4]); (try simp only [hl3_5]); (try simp only [hl3_6]); (with_reducible repeat (first | apply Kd.N_alloc | apply Kd.N_drewN | apply Kd.N_drew)); exact HO439.out⟩, ⟨by (try simp only [hl3_1]); (try simp only [hl3_3]); (try simp only [hl3_4]); (try simp only [hl3_5]); (try simp only [hl3_6]); (with_reducible repeat (first | apply NEl_alloc | apply NEl_drewN | apply NEl_drew)); exact NEl_mono HO_48.out (fun _ hk => ⟨hk.1.1, hk.2⟩)⟩, ⟨by exact ubz_ HB.out⟩⟩
                            ·rw [if_neg c39] at H
                             exact absurd H (by simp)
                           ·rw [if_neg c37] at H
                            have c37b0 := decide_eq_false c37
                            clear c37
                            have H' := Az_ H
                            clear H
                            go_wp2_with (first | ((with_reducible refine gate_callee (f := 190) rfl ?_); refine goesL_ (some 68) rfl rfl Tryd.func190 (by kernel_rfl) rfl #[.slice A430_0 (rd_L2 x7_3 x50_4).length c430_0, .int .i64 x12_5, .int .i64 x13_6] rfl maz_ ?_; (with_reducible refine (spec_biTurn.calls k6 _ _ (rd_L2 x7_3 x50_4) x12_5 x13_6 t431 _ ?side1 ?side2 A33.out).mono ?_); (case side1 => exact ucz_ ((Kd.F_now HO_48.out.2))); (case side2 => exact HC430_0.out); rintro e w45 ⟨v432, rfl, ho0, hb⟩; refine ⟨_, rfl, ?_⟩; replace HO_9 := Az_ (Kd.N_elder' (by (with_reducible repeat (first | apply Kd.N_alloc | apply Kd.N_drewN | apply Kd.N_drew)); exact HO_9.out) (Kd.R_base ho0) hb); replace HO_48 := Az_ (NEl_elder' (by (with_reducible repeat (first | apply NEl_alloc | apply NEl_drewN | apply NEl_drew)); exact HO_48.out) (Kd.R_base ho0) hb); have HO433 := Az_ (Kd.R_lower (Kd.R_new' ho0 (Kd.R_lt (by exact urz_ HO_3.out))) (below_size (ubz_ HB.out))); replace HO_3 := Az_ (rez_ (by exact urz_ HO_3.out) (Kd.R_base ho0) hb); replace HB := Az_ (btz_ (ubz_ HB.out) hb); (try clear hb); (try clear ho0); obtain ⟨Ao46, co46, eo46⟩ := Kd.R_slice HO433.out; subst eo46) | ((with_reducible refine gate_callee (f := 189) rfl ?_); refine goesL_ (some 70) rfl rfl Tryd.func189 (by kernel_rfl) rfl #[.slice Ao46 t431.length co46] rfl maz_ ?_; (with_reducible refine (spec_biRank.calls k6 _ _ t431 t434 _ ?side1 ?side2 A34.out).mono ?_); (case side1 => exact ucz_ ((Kd.R_reads' HO433.out).2.2)); (case side2 => exact (Kd.R_reads' HO433.out).2.1); rintro e w' ⟨rfl, ⟨nd, rfl⟩⟩; refine ⟨_, rfl, ?_⟩; have p435 : 0 ≤ (t434 : Int) := of_decide_eq_true asz_; have q435 : t434 < (x3_6.length : Int) := of_decide_eq_true asz_; obtain ⟨ad435, e435, hx435_0⟩ := Kd.at_int (Kd.R_reads' HO_3.out).2.2 t434 p435 q435; obtain rfl : (⟨go20, 0, none⟩ : Addr) = ad435 := (by injection e435); (first | simp only [add_plain] at hx435_0 | simp only [add_at] at hx435_0 | simp only [Addr.add, Nat.zero_add] at hx435_0 | skip); replace p435 := eq_true p435; replace q435 := eq_true q435))
                            (try simp only [← hl3_6])
                            go_roundg k6
                            case measure => have := HK1.out; have := HK2.out; have := HK3.out; have := HK4.out; have := HK5.out; have := HK6.out; omega
                            case rel => exact ⟨(x3_6), (x9_6), (wrap64 (x13_6 + 1)), qaz_, H', ⟨by have := HK1.out; have := HK2.out; have := HK3.out; have := HK4.out; have := HK5.out; have := HK6.out; omega⟩, ⟨by (try simp only [hl3_1]); (try simp only [hl3_3]); (try simp only [hl3_4]); (try simp only [hl3_5]); (try simp only [hl3_6]); (with_reducible repeat (first | apply raz_ | apply rnz_ | apply rdz_)); exact Kd.R_mono HO_3.out (fun _ hk => trivial)⟩, ⟨by (try simp only [hl3_1]); (try simp only [hl3_3]); (try simp only [hl3_4]); (try simp only [hl3_5]); (try simp only [hl3_6]); (with_reducible repeat (first | apply Kd.N_alloc | apply Kd.N_drewN | apply Kd.N_drew)); exact Kd.N_mono HO_9.out (fun _ hk => ⟨hk.1.1, hk.1.2⟩)⟩, ⟨by (try simp only [hl3_1]); (try simp only [hl3_3]); (try simp only [hl3_4]); (try simp only [hl3_5]); (try simp only [hl3_6]); (with_reducible repeat (first | apply NEl_alloc | apply NEl_drewN | apply NEl_drew)); exact NEl_mono HO_48.out (fun _ hk => ⟨hk.1.1, hk.1.2⟩)⟩, ⟨by exact ubz_ HB.out⟩⟩
                          ·rw [if_neg c36] at H
                           exact absurd H (by simp)
                         ·rw [if_neg c35] at H
                          exact absurd H (by simp)
                        ·rw [if_neg c32] at H
                         have c32b0 := decide_eq_false c32
                         clear c32
                         have H' := Az_ H
                         clear H
                         go_wp2
                         (try simp only [← hl3_5, ← hl3_6])
                         go_roundg k6
                         case measure => have := HK1.out; have := HK2.out; have := HK3.out; have := HK4.out; have := HK5.out; have := HK6.out; omega
                         case rel => exact ⟨(x3_6), (x9_6), (wrap64 (x12_5 + 1)), qaz_, H', ⟨by have := HK1.out; have := HK2.out; have := HK3.out; have := HK4.out; have := HK5.out; have := HK6.out; omega⟩, ⟨by (try simp only [hl3_1]); (try simp only [hl3_3]); (try simp only [hl3_4]); (try simp only [hl3_5]); (try simp only [hl3_6]); (with_reducible repeat (first | apply raz_ | apply rnz_ | apply rdz_)); exact HO_3.out⟩, ⟨by (try simp only [hl3_1]); (try simp only [hl3_3]); (try simp only [hl3_4]); (try simp only [hl3_5]); (try simp only [hl3_6]); (with_reducible repeat (first | apply Kd.N_alloc | apply Kd.N_drewN | apply Kd.N_drew)); exact HO_9.out⟩, ⟨by (try simp only [hl3_1]); (try simp only [hl3_3]); (try simp only [hl3_4]); (try simp only [hl3_5]); (try simp only [hl3_6]); (with_reducible repeat (first | apply NEl_alloc | apply NEl_drewN | apply NEl_drew)); exact HO_48.out⟩, ⟨by exact ubz_ HB.out⟩⟩
                     ·rw [if_neg c31] at H
                      have c31b0 := decide_eq_false c31
                      clear c31
                      have H' := Az_ H
                      clear H
                      go_wp2
                      (try simp only [← hl3_4, ← hl3_5])
                      go_roundg k5
                      case measure => have := HK1.out; have := HK2.out; have := HK3.out; have := HK4.out; have := HK5.out; omega
                      case rel => exact ⟨(x3_5), (x9_5), (wrap64 (x50_4 + 1)), qaz_, H', ⟨by have := HK1.out; have := HK2.out; have := HK3.out; have := HK4.out; have := HK5.out; omega⟩, ⟨by (try simp only [hl3_1]); (try simp only [hl3_3]); (try simp only [hl3_4]); (try simp only [hl3_5]); (with_reducible repeat (first | apply raz_ | apply rnz_ | apply rdz_)); exact HO_3.out⟩, ⟨by (try simp only [hl3_1]); (try simp only [hl3_3]); (try simp only [hl3_4]); (try simp only [hl3_5]); (with_reducible repeat (first | apply Kd.N_alloc | apply Kd.N_drewN | apply Kd.N_drew)); exact HO_9.out⟩, ⟨by (try simp only [hl3_1]); (try simp only [hl3_3]); (try simp only [hl3_4]); (try simp only [hl3_5]); exact HO_48.out.1⟩, ⟨by exact ubz_ HB.out⟩⟩
                  ·rw [if_neg c30] at H
                   exact absurd H (by simp)
                 ·rw [if_neg c29] at H
                  exact absurd H (by simp)
                ·rw [if_neg c28] at H
                 have c28b0 := decide_eq_false c28
                 clear c28
                 have H' := Az_ H
                 clear H
                 go_wp2
                 (try simp only [← hl3_3, ← hl3_4])
                 go_roundg k4
                 case measure => have := HK1.out; have := HK2.out; have := HK3.out; have := HK4.out; omega
                 case rel => exact ⟨(x3_4), (x9_4), (wrap64 (x8_3 + 1)), qaz_, H', ⟨by have := HK1.out; have := HK2.out; have := HK3.out; have := HK4.out; omega⟩, ⟨by (try simp only [hl3_1]); (try simp only [hl3_3]); (try simp only [hl3_4]); (with_reducible repeat (first | apply raz_ | apply rnz_ | apply rdz_)); exact HO_3.out⟩, ⟨by (try simp only [hl3_1]); (try simp only [hl3_3]); (try simp only [hl3_4]); (with_reducible repeat (first | apply Kd.N_alloc | apply Kd.N_drewN | apply Kd.N_drew)); exact Kd.N_mono HO_9.out (fun _ hk => hk.1)⟩, ⟨by exact ubz_ HB.out⟩⟩
             ·rw [if_neg c26] at H
              have c26b0 := decide_eq_false c26
              have c26b1 : decide (0 < x7_3.length) = false := decide_eq_false (by omega)
              clear c26
              obtain rfl := Option.some.inj H
              obtain ⟨Ao47, co47, eo47⟩ := Kd.N_slice HO_7.out
              subst eo47
              go_wp2
              go_ret
              exact ⟨_, by first | rfl | (simp [errW_none, errW_some] <;> rfl) | (simp [*, errW_none, errW_some] <;> rfl), by (with_reducible repeat (first | apply raz_ | apply rnz_ | apply rdz_)); exact HO_3.out, by exact ubz_ HB.out⟩
          ·rw [if_neg c19] at H
           exact absurd H (by simp)
         ·rw [if_neg c18] at H
          exact absurd H (by simp)
  ·rw [if_neg c4] at H
   exact absurd H (by simp)
 ·rw [if_neg c3] at H
  exact absurd H (by simp)

end Go.Proofs.YtppbpefehpbejaaDoor.P
end

section
namespace Go.Proofs.YtppbpefehpbejaaDoor.P
open Go.RowKit Go.Proofs.YtppbpefehpbejaaDoorW.PrintWords Go.Proofs.YtppbpefehpbejaaDoorW.PrintLast Go.Proofs.YtppbpefehpbejaaDoorW.PrintMore
attribute [local go_sem] max2_int min2_int max_two min_two max_three min_three max_four min_four   -- for this text's walks alone
set_option linter.unusedVariables false
set_option linter.unusedSimpArgs false

/-! ### spec_CountByTurns: function 58 -/
mutual
def spec_CountByTurns.j0 : Nat → Int → Int → Bool → Option (Int × Bool)
 | 0, _, _, _ => none
 | k + 1, x0, x1, x15 => if x15 = true then (some (0, false)) else ((spec_biFar.f k x0).bind fun t441 => (spec_CountByTurns.l0 k x1 0 t441 (t441.length : Int) 0))
def spec_CountByTurns.l0 : Nat → Int → Int → List Int → Int → Int → Option (Int × Bool)
 | 0, _, _, _, _, _ => none
 | k + 1, x1, x6, x17, x18, x19 => if x19 < x18 then (if 0 ≤ x19 then (if x19 < (x17.length : Int) then (if (rd x17 x19) = x1 then (spec_CountByTurns.l0 k x1 (wrap64 (x6 + 1)) x17 x18 (wrap64 (x19 + 1))) else (spec_CountByTurns.l0 k x1 x6 x17 x18 (wrap64 (x19 + 1)))) else (none)) else (none)) else (some (x6, true))
end
def spec_CountByTurns.f (k : Nat) (a0 : Int) (a1 : Int) : Option (Int × Bool) := (spec_l1In.f a0 1 5).bind fun t440 => (if t440 = true then (spec_CountByTurns.j0 k a0 a1 (decide (a1 < 0))) else (spec_CountByTurns.j0 k a0 a1 true))
set_option maxHeartbeats 8000000 in
set_option maxRecDepth 100000 in
theorem spec_CountByTurns.calls (k : Nat) (a0 : Int) (a1 : Int) (r1 : Int) (r2 : Bool) (w : World) (h : spec_CountByTurns.f k a0 a1 = some (r1, r2)) :
  Calls Tryd.prog 58 #[.int .i64 a0, .int .i64 a1] w fun e w' => e = .returned (.tuple #[.int .i64 r1, .bool r2]) ∧ Below w.heap.size w w' := by
 have HB := Az_ (Below.refl w.heap.size w)
 have H : ((spec_l1In.f a0 1 5).bind fun t440 => (if t440 = true then (j0 k a0 a1 (decide (a1 < 0))) else (j0 k a0 a1 true))) = some (r1, r2) := h
 clear h
 have HC3 := Az_ H
 clear H
 go_enter Tryd.func58, Tryd.ntmps58
 go_upto_region 1 with (fail)
 go_cut [15] (fun v15 wc => ∃ (kq : Nat) (x15_2 : Bool), v15 = .bool x15_2 ∧ Aside0 (j0 kq a0 a1 x15_2 = some (r1, r2)) ∧ Aside0 (kq ≤ k) ∧ Aside0 (Below w.heap.size w wc))
 case first =>
  have H := HC3.out
  clear HC3
  replace H := bqz_ H; obtain ⟨t440, A4, H⟩ := H
  replace H : (if t440 = true then (j0 k a0 a1 (decide (a1 < 0))) else (j0 k a0 a1 true)) = some (r1, r2) := H
  by_cases c5 : t440 = true
  ·subst c5
   rw [if_pos rfl] at H
   have H' := Az_ H
   clear H
   go_wp2_with (first | ((with_reducible refine gate_callee (f := 101) rfl ?_); refine goesL_ (some 10) rfl rfl Tryd.func101 (by kernel_rfl) rfl #[.int .i64 a0, .int .i64 1, .int .i64 5] rfl maz_ ?_; (with_reducible refine (spec_l1In.calls a0 1 5 true _ A4.out).mono ?_); rintro e w' ⟨rfl, ⟨nd, rfl⟩⟩; refine ⟨_, rfl, ?_⟩))
   go_meet
   case rel => exact ⟨_, (decide (a1 < 0)), qaz_, H', ⟨by first | omega | exact Nat.le_refl _⟩, ⟨by exact ubz_ HB.out⟩⟩
  ·replace c5 := Bool.eq_false_iff.mpr c5
   subst c5
   rw [if_neg nfz_] at H
   have H' := Az_ H
   clear H
   go_wp2_with (first | ((with_reducible refine gate_callee (f := 101) rfl ?_); refine goesL_ (some 10) rfl rfl Tryd.func101 (by kernel_rfl) rfl #[.int .i64 a0, .int .i64 1, .int .i64 5] rfl maz_ ?_; (with_reducible refine (spec_l1In.calls a0 1 5 false _ A4.out).mono ?_); rintro e w' ⟨rfl, ⟨nd, rfl⟩⟩; refine ⟨_, rfl, ?_⟩))
   go_meet
   case rel => exact ⟨_, (true), qaz_, H', ⟨by first | omega | exact Nat.le_refl _⟩, ⟨by exact ubz_ HB.out⟩⟩
 case rest =>
  clear HC3
  obtain ⟨kq, x15_2, rfl, HA, HJ2, HB⟩ := hcut
  cases kq with
  | zero => exact absurd HA.out (by simp [j0])
  | succ kj2 =>
   have H := HA.out
   clear HA
   simp only [j0] at H
   by_cases c6 : x15_2 = true
   ·subst c6
    rw [if_pos rfl] at H
    simp only [Option.some.injEq, Prod.mk.injEq] at H
    obtain ⟨rfl, rfl⟩ := H
    go_wp2
    go_ret2
    exact ⟨by first | rfl | (simp [errW_none, errW_some] <;> rfl) | (simp [*, errW_none, errW_some] <;> rfl), by exact ubz_ HB.out⟩
   ·replace c6 := Bool.eq_false_iff.mpr c6
    subst c6
    rw [if_neg nfz_] at H
    replace H := bqz_ H; obtain ⟨t441, A7, H⟩ := H
    replace H : (spec_CountByTurns.l0 kj2 a1 0 t441 (t441.length : Int) 0) = some (r1, r2) := H
    have H' := Az_ H
    clear H
    go_wp2_with (first | ((with_reducible refine gate_callee (f := 143) rfl ?_); refine goesL_ (some 17) rfl rfl Tryd.func143 (by kernel_rfl) rfl #[.int .i64 a0] rfl maz_ ?_; (with_reducible refine (spec_biFar.calls kj2 a0 t441 _ A7.out).mono ?_); rintro e w8 ⟨v442, rfl, ho0, hb⟩; refine ⟨_, rfl, ?_⟩; have HO443 := Az_ (Kd.R_lower ho0 (below_size (ubz_ HB.out))); replace HB := Az_ (btz_ (ubz_ HB.out) hb); (try clear hb); (try clear ho0); obtain ⟨Ao9, co9, eo9⟩ := Kd.R_slice HO443.out; subst eo9))
    go_loopg [6, 19] kj2 (fun kq v6 v19 w' => ∃ (x6_2 : Int) (x19_2 : Int), v6 = .int .i64 x6_2 ∧ v19 = .int .i64 x19_2 ∧ Aside0 (spec_CountByTurns.l0 kq a1 x6_2 t441 (t441.length : Int) x19_2 = some (r1, r2)) ∧ Aside0 (kq ≤ kj2) ∧ Aside0 (Kd.R (Kd.int .i64) 3 w' w.heap.size (fun _ => True) (.slice Ao9 t441.length co9) t441) ∧ Aside0 (Below w.heap.size w w'))
    case atStart => exact ⟨(0), (0), qaz_, qaz_, H', ⟨Nat.le_refl _⟩, ⟨by (with_reducible repeat (first | apply raz_ | apply rnz_ | apply rdz_)); exact HO443.out⟩, ⟨by exact ubz_ HB.out⟩⟩
    case round =>
     clear H'
     obtain ⟨x6_2, x19_2, rfl, rfl, HA, HK2, HO_17, HB⟩ := hrel
     cases gk with
     | zero => exact absurd HA.out (by simp [spec_CountByTurns.l0])
     | succ k2 =>
      have H := HA.out
      clear HA
      simp only [spec_CountByTurns.l0] at H
      by_cases c10 : x19_2 < (t441.length : Int)
      ·rw [if_pos c10] at H
       have c10b0 := decide_eq_true c10
       clear c10
       by_cases c11 : 0 ≤ x19_2
       ·rw [if_pos c11] at H
        have c11b0 := decide_eq_true c11
        clear c11
        by_cases c12 : x19_2 < (t441.length : Int)
        ·rw [if_pos c12] at H
         have c12b0 := decide_eq_true c12
         clear c12
         by_cases c13 : (rd t441 x19_2) = a1
         ·rw [if_pos c13] at H
          have c13b0 : ((rd t441 x19_2) == a1) = true := beq_iff_eq.mpr c13
          have c13b1 : ((rd t441 x19_2) != a1) = false := bne_eq_false_iff_eq.mpr c13
          clear c13
          have H' := Az_ H
          clear H
          have p444 : 0 ≤ (x19_2 : Int) := of_decide_eq_true asz_
          have q444 : x19_2 < (t441.length : Int) := of_decide_eq_true asz_
          obtain ⟨ad444, e444, hx444_0⟩ := Kd.at_int (Kd.R_reads' HO_17.out).2.2 x19_2 p444 q444
          cases e444
          replace p444 := eq_true p444
          replace q444 := eq_true q444
          go_wp2
          go_roundg k2
          case measure => have := HJ2.out; have := HK2.out; omega
          case rel => exact ⟨(wrap64 (x6_2 + 1)), (wrap64 (x19_2 + 1)), qaz_, qaz_, H', ⟨by have := HJ2.out; have := HK2.out; omega⟩, ⟨by (with_reducible repeat (first | apply raz_ | apply rnz_ | apply rdz_)); exact HO_17.out⟩, ⟨by exact ubz_ HB.out⟩⟩
         ·rw [if_neg c13] at H
          have c13b0 : ((rd t441 x19_2) == a1) = false := beq_eq_false_iff_ne.mpr c13
          have c13b1 : ((rd t441 x19_2) != a1) = true := bne_iff_ne.mpr c13
          have H' := Az_ H
          clear H
          have p444 : 0 ≤ (x19_2 : Int) := of_decide_eq_true asz_
          have q444 : x19_2 < (t441.length : Int) := of_decide_eq_true asz_
          obtain ⟨ad444, e444, hx444_0⟩ := Kd.at_int (Kd.R_reads' HO_17.out).2.2 x19_2 p444 q444
          cases e444
          replace p444 := eq_true p444
          replace q444 := eq_true q444
          go_wp2
          go_roundg k2
          case measure => have := HJ2.out; have := HK2.out; omega
          case rel => exact ⟨(x6_2), (wrap64 (x19_2 + 1)), qaz_, qaz_, H', ⟨by have := HJ2.out; have := HK2.out; omega⟩, ⟨by (with_reducible repeat (first | apply raz_ | apply rnz_ | apply rdz_)); exact HO_17.out⟩, ⟨by exact ubz_ HB.out⟩⟩
        ·rw [if_neg c12] at H
         exact absurd H (by simp)
       ·rw [if_neg c11] at H
        exact absurd H (by simp)
      ·rw [if_neg c10] at H
       have c10b0 := decide_eq_false c10
       clear c10
       simp only [Option.some.injEq, Prod.mk.injEq] at H
       obtain ⟨rfl, rfl⟩ := H
       go_wp2
       go_ret2
       exact ⟨by first | rfl | (simp [errW_none, errW_some] <;> rfl) | (simp [*, errW_none, errW_some] <;> rfl), by exact ubz_ HB.out⟩

/-! ### spec_DrawFarthestBinding: function 59 -/
def spec_DrawFarthestBinding.f (l0 : List Int) : Option (Int) := (spec_l1Cur_among.f l0 0 0 (([1, 2, 3, 4, 4, 6, 0, (-1)] : List Int))).bind fun bt449 => (some bt449.1)
set_option maxHeartbeats 8000000 in
set_option maxRecDepth 100000 in
theorem spec_DrawFarthestBinding.calls (A0 : Option Addr) (c0 : Nat) (l0 : List Int) (r : Int) (w : World) (hr0 : Kd.C (Kd.int .u8) w A0 l0.length l0) (hc0 : l0.length ≤ c0) (h : spec_DrawFarthestBinding.f l0 = some r) :
  Calls Tryd.prog 59 #[.slice A0 l0.length c0] w fun e w' => e = .returned (.int .i64 r) ∧ Below w.heap.size w w' := by
 have hu111 := Tryd.underlying111
 have HR0 := Az_ hr0
 have HC0 := Az_ hc0
 clear hr0 hc0
 have HB := Az_ (Below.refl w.heap.size w)
 have H : ((spec_l1Cur_among.f l0 0 0 (([1, 2, 3, 4, 4, 6, 0, (-1)] : List Int))).bind fun bt449 => (some bt449.1)) = some r := h
 clear h
 obtain ⟨y446, hy446⟩ : ∃ y_ : List Int, y_ = (([1, 2, 3, 4, 4, 6, 0, (-1)] : List Int)) := ⟨_, rfl⟩
 replace H : ((spec_l1Cur_among.f l0 0 0 y446).bind fun bt449 => (some bt449.1)) = some r := by first | (rw [hy446]; with_reducible exact H) | (have H2_ := (Option.bind_some _ _).symm.trans H; rw [hy446]; with_reducible exact H2_) | (have H2_ := (Option.bind_some _ _).symm.trans H; with_reducible exact H2_) | with_reducible exact H | (rw [hy446]; exact H) | exact H
 have Ny446 := Az_ hy446
 clear hy446
 replace H := bqz_ H; obtain ⟨⟨t449, t450, t451⟩, A2, H⟩ := H
 replace H : (some t449) = some r := H
 obtain rfl := Option.some.inj H
 go_enter Tryd.func59, Tryd.ntmps59
 go_wp2_with (first | ((with_reducible refine gate_dst (N := 6) rfl ?_); refine box_event ?hg (N := 6) ?hd (cs := #[.slice A0 l0.length c0, .int .i64 0, .int .u64 0]) (t := 111) ?hr ?_; (case hd => rfl); (case hg => rfl); (case hr => first | (go_simp; done) | (go_simp; rfl)); intro gb445 hg w3 hbox hb; have BK445 := Az_ (hbox); have GW445 := Az_ ((by rw [hg]; exact (below_size (ubz_ HB.out)) : w.heap.size ≤ gb445)); have GE445 := Az_ ((by rw [hg]; exact (below_size (ubz_ HB.out)) : w.heap.size ≤ gb445)); replace HB := Az_ (btz_ (ubz_ HB.out) hb); clear hb hbox hg) | ((with_reducible refine gate_dst (N := 8) rfl ?_); refine Kd.R_lit (Kd.int .i64) _ 3 ?hg (N := 8) ?hd (xs := ([1, 2, 3, 4, 4, 6, 0, (-1)] : List Int)) (inner := [.int .i64 1, .int .i64 2, .int .i64 3, .int .i64 4, .int .i64 4, .int .i64 6, .int .i64 0, .int .i64 (-1)]) (ok := fun _ => True) (okp := fun _ => True) ?hr ?hp (fun _ hk => hk) trivial (Below.refl _ _) (Nat.le_refl _) (by simp) ?_; (case hd => rfl); (case hg => rfl); (case hr => first | (go_simp; done) | (go_simp; rfl)); (case hp => exact (Reps.one (show Kd.M (Kd.int .i64) _ _ _ 1 [.int .i64 1] from rfl) (Reps.one (show Kd.M (Kd.int .i64) _ _ _ 2 [.int .i64 2] from rfl) (Reps.one (show Kd.M (Kd.int .i64) _ _ _ 3 [.int .i64 3] from rfl) (Reps.one (show Kd.M (Kd.int .i64) _ _ _ 4 [.int .i64 4] from rfl) (Reps.one (show Kd.M (Kd.int .i64) _ _ _ 4 [.int .i64 4] from rfl) (Reps.one (show Kd.M (Kd.int .i64) _ _ _ 6 [.int .i64 6] from rfl) (Reps.one (show Kd.M (Kd.int .i64) _ _ _ 0 [.int .i64 0] from rfl) (Reps.one (show Kd.M (Kd.int .i64) _ _ _ (-1) [.int .i64 (-1)] from rfl) (Reps.none _ _)))))))))); intro v447 w4 ho5 hb hg_ hnew_; clear hg_ hnew_; (first | rw [← Ny446.out] at ho5 | (simp only [Int.reduceToNat] at ho5; rw [← Ny446.out] at ho5)); have n0_ := Az_ (Kd.R_lower ho5 (below_size (by repeat (first | (with_reducible first | exact HB.out | apply baz_ | apply bnz_ | apply bdz_ | refine ubsz_ ?_ (by assumption)) | exact HB.out)))); have n2_ := Az_ (btz_ (by repeat (first | (with_reducible first | exact HB.out | apply baz_ | apply bnz_ | apply bdz_ | refine ubsz_ ?_ (by assumption)) | exact HB.out)) hb); clear HB; have HO448 := n0_; replace BK445 := Az_ (ukbz_ BK445.out hb); have HB := n2_; clear n0_ n2_; clear hb ho5; obtain ⟨Ao6, co6, eo6⟩ := Kd.R_slice HO448.out; subst eo6) | ((with_reducible refine gate_callee (f := 94) rfl ?_); refine goesL_ (some 9) rfl rfl Tryd.func94 (by kernel_rfl) rfl #[.pointer (some ⟨gb445, 0, none⟩), .slice Ao6 y446.length co6] rfl maz_ ?_; have HI445 := Az_ (show IsS111 w w4 gb445 l0 0 0 from ⟨_, _, BK445.out, GE445.out, HR0.out⟩); (with_reducible refine (spec_l1Cur_among.calls gb445 l0 0 0 _ _ y446 t449 t450 t451 w _ ?side1 ?side2 ?side3 ?side4 ?side5 A2.out).mono ?_); (case side1 => repeat (first | (with_reducible first | exact HI445.out | apply IsS111.alloc | apply IsS111.drewN | apply IsS111.drew | apply IsS111.set_1 | apply IsS111.set_2) | exact HI445.out)); (case side2 => repeat (first | (with_reducible first | exact HB.out | apply baz_ | apply bnz_ | apply bdz_ | refine bsz_ ?_ (IsS111.ge HI445.out)) | exact HB.out)); (case side3 => exact ucz_ ((Kd.R_reads' HO448.out).2.2)); (case side4 => exact (Kd.R_reads' HO448.out).2.1); (case side5 => exact far_slice (IsS111.own_ne HI445.out HO448.out (by decide))); rintro e w7 ⟨rfl, hi, hb, hk⟩; refine ⟨_, rfl, ?_⟩; replace HO448 := Az_ (Kd.R_mono (Kd.R_keep (IsS111.apart (show IsS111 w _ gb445 l0 0 0 from by repeat (first | (with_reducible first | exact HI445.out | apply IsS111.alloc | apply IsS111.drewN | apply IsS111.drew | apply IsS111.set_1 | apply IsS111.set_2) | exact HI445.out)) (by exact urz_ HO448.out) (by decide)) hk (fun _ h => h.2)) (fun _ h => h.1)); replace HB := Az_ (hb); replace HI445 := Az_ (hi); (try clear hb); (try clear hk); (try clear hi)))
 go_ret
 exact ⟨by first | rfl | (simp [errW_none, errW_some] <;> rfl) | (simp [*, errW_none, errW_some] <;> rfl), by repeat (first | (with_reducible first | exact HB.out | apply baz_ | apply bnz_ | apply bdz_ | refine bsz_ ?_ (IsS111.ge HI445.out)) | exact HB.out)⟩

/-! ### cmp_isNaN_int: function 205 -/
def cmp_isNaN_int.f (a0 : Int) : Option (Bool) := some (a0 != a0)
set_option maxHeartbeats 8000000 in
set_option maxRecDepth 100000 in
theorem cmp_isNaN_int.calls (a0 : Int) (r : Bool) (w : World) (h : cmp_isNaN_int.f a0 = some r) :
  Calls Tryd.prog 205 #[.int .i64 a0] w fun e w' => e = .returned (.bool r) ∧ Drawn0 w w' := by
 have H : (some (a0 != a0)) = some r := h
 clear h
 obtain rfl := Option.some.inj H
 go_enter Tryd.func205, Tryd.ntmps205
 go_wp2
 go_ret
 exact ⟨by first | rfl | (simp; done) | (simp [*]; done), by repeat (first | exact Drawn0.refl _ | apply Drawn0.step)⟩

/-! ### cmp_Compare_int: function 191 -/
def cmp_Compare_int.f (a0 : Int) (a1 : Int) : Option (Int) := (cmp_isNaN_int.f a0).bind fun t452 => ((cmp_isNaN_int.f a1).bind fun t453 => (if t452 = true then (if t453 = true then (some 0) else (some (-1))) else (if t453 = true then (some 1) else (if a0 < a1 then (some (-1)) else (if a0 > a1 then (some 1) else (some 0))))))
set_option maxHeartbeats 8000000 in
set_option maxRecDepth 100000 in
theorem cmp_Compare_int.calls (a0 : Int) (a1 : Int) (r : Int) (w : World) (h : cmp_Compare_int.f a0 a1 = some r) :
  Calls Tryd.prog 191 #[.int .i64 a0, .int .i64 a1] w fun e w' => e = .returned (.int .i64 r) ∧ Drawn0 w w' := by
 have H : ((cmp_isNaN_int.f a0).bind fun t452 => ((cmp_isNaN_int.f a1).bind fun t453 => (if t452 = true then (if t453 = true then (some 0) else (some (-1))) else (if t453 = true then (some 1) else (if a0 < a1 then (some (-1)) else (if a0 > a1 then (some 1) else (some 0))))))) = some r := h
 clear h
 replace H := bqz_ H; obtain ⟨t452, A3, H⟩ := H
 replace H := bqz_ H; obtain ⟨t453, A4, H⟩ := H
 replace H : (if t452 = true then (if t453 = true then (some 0) else (some (-1))) else (if t453 = true then (some 1) else (if a0 < a1 then (some (-1)) else (if a0 > a1 then (some 1) else (some 0))))) = some r := H
 by_cases c5 : t452 = true
 ·subst c5
  rw [if_pos rfl] at H
  by_cases c6 : t453 = true
  ·subst c6
   rw [if_pos rfl] at H
   obtain rfl := Option.some.inj H
   go_enter Tryd.func191, Tryd.ntmps191
   go_wp2_with (first | ((with_reducible refine gate_callee (f := 205) rfl ?_); refine goesL_ (some 8) rfl rfl Tryd.func205 (by kernel_rfl) rfl #[.int .i64 a0] rfl maz_ ?_; (with_reducible refine (cmp_isNaN_int.calls a0 true _ A3.out).mono ?_); rintro e w' ⟨rfl, ⟨nd, rfl⟩⟩; refine ⟨_, rfl, ?_⟩) | ((with_reducible refine gate_callee (f := 205) rfl ?_); refine goesL_ (some 10) rfl rfl Tryd.func205 (by kernel_rfl) rfl #[.int .i64 a1] rfl maz_ ?_; (with_reducible refine (cmp_isNaN_int.calls a1 true _ A4.out).mono ?_); rintro e w' ⟨rfl, ⟨nd, rfl⟩⟩; refine ⟨_, rfl, ?_⟩))
   go_ret
   exact ⟨by first | rfl | (simp; done) | (simp [*]; done), by repeat (first | exact Drawn0.refl _ | apply Drawn0.step)⟩
  ·replace c6 := Bool.eq_false_iff.mpr c6
   subst c6
   rw [if_neg nfz_] at H
   obtain rfl := Option.some.inj H
   go_enter Tryd.func191, Tryd.ntmps191
   go_wp2_with (first | ((with_reducible refine gate_callee (f := 205) rfl ?_); refine goesL_ (some 8) rfl rfl Tryd.func205 (by kernel_rfl) rfl #[.int .i64 a0] rfl maz_ ?_; (with_reducible refine (cmp_isNaN_int.calls a0 true _ A3.out).mono ?_); rintro e w' ⟨rfl, ⟨nd, rfl⟩⟩; refine ⟨_, rfl, ?_⟩) | ((with_reducible refine gate_callee (f := 205) rfl ?_); refine goesL_ (some 10) rfl rfl Tryd.func205 (by kernel_rfl) rfl #[.int .i64 a1] rfl maz_ ?_; (with_reducible refine (cmp_isNaN_int.calls a1 false _ A4.out).mono ?_); rintro e w' ⟨rfl, ⟨nd, rfl⟩⟩; refine ⟨_, rfl, ?_⟩))
   go_ret
   exact ⟨by first | rfl | (simp; done) | (simp [*]; done), by repeat (first | exact Drawn0.refl _ | apply Drawn0.step)⟩
 ·replace c5 := Bool.eq_false_iff.mpr c5
  subst c5
  rw [if_neg nfz_] at H
  by_cases c7 : t453 = true
  ·subst c7
   rw [if_pos rfl] at H
   obtain rfl := Option.some.inj H
   go_enter Tryd.func191, Tryd.ntmps191
   go_wp2_with (first | ((with_reducible refine gate_callee (f := 205) rfl ?_); refine goesL_ (some 8) rfl rfl Tryd.func205 (by kernel_rfl) rfl #[.int .i64 a0] rfl maz_ ?_; (with_reducible refine (cmp_isNaN_int.calls a0 false _ A3.out).mono ?_); rintro e w' ⟨rfl, ⟨nd, rfl⟩⟩; refine ⟨_, rfl, ?_⟩) | ((with_reducible refine gate_callee (f := 205) rfl ?_); refine goesL_ (some 10) rfl rfl Tryd.func205 (by kernel_rfl) rfl #[.int .i64 a1] rfl maz_ ?_; (with_reducible refine (cmp_isNaN_int.calls a1 true _ A4.out).mono ?_); rintro e w' ⟨rfl, ⟨nd, rfl⟩⟩; refine ⟨_, rfl, ?_⟩))
   go_ret
   exact ⟨by first | rfl | (simp; done) | (simp [*]; done), by repeat (first | exact Drawn0.refl _ | apply Drawn0.step)⟩
  ·replace c7 := Bool.eq_false_iff.mpr c7
   subst c7
   rw [if_neg nfz_] at H
   by_cases c8 : a0 < a1
   ·rw [if_pos c8] at H
    have c8b0 := decide_eq_true c8
    clear c8
    obtain rfl := Option.some.inj H
    go_enter Tryd.func191, Tryd.ntmps191
    go_wp2_with (first | ((with_reducible refine gate_callee (f := 205) rfl ?_); refine goesL_ (some 8) rfl rfl Tryd.func205 (by kernel_rfl) rfl #[.int .i64 a0] rfl maz_ ?_; (with_reducible refine (cmp_isNaN_int.calls a0 false _ A3.out).mono ?_); rintro e w' ⟨rfl, ⟨nd, rfl⟩⟩; refine ⟨_, rfl, ?_⟩) | ((with_reducible refine gate_callee (f := 205) rfl ?_); refine goesL_ (some 10) rfl rfl Tryd.func205 (by kernel_rfl) rfl #[.int .i64 a1] rfl maz_ ?_; (with_reducible refine (cmp_isNaN_int.calls a1 false _ A4.out).mono ?_); rintro e w' ⟨rfl, ⟨nd, rfl⟩⟩; refine ⟨_, rfl, ?_⟩))
    go_ret
    exact ⟨by first | rfl | (simp; done) | (simp [*]; done), by repeat (first | exact Drawn0.refl _ | apply Drawn0.step)⟩
   ·rw [if_neg c8] at H
    have c8b0 := decide_eq_false c8
    clear c8
    by_cases c9 : a0 > a1
    ·rw [if_pos c9] at H
     have c9b0 := decide_eq_true c9
     clear c9
     obtain rfl := Option.some.inj H
     go_enter Tryd.func191, Tryd.ntmps191
     go_wp2_with (first | ((with_reducible refine gate_callee (f := 205) rfl ?_); refine goesL_ (some 8) rfl rfl Tryd.func205 (by kernel_rfl) rfl #[.int .i64 a0] rfl maz_ ?_; (with_reducible refine (cmp_isNaN_int.calls a0 false _ A3.out).mono ?_); rintro e w' ⟨rfl, ⟨nd, rfl⟩⟩; refine ⟨_, rfl, ?_⟩) | ((with_reducible refine gate_callee (f := 205) rfl ?_); refine goesL_ (some 10) rfl rfl Tryd.func205 (by kernel_rfl) rfl #[.int .i64 a1] rfl maz_ ?_; (with_reducible refine (cmp_isNaN_int.calls a1 false _ A4.out).mono ?_); rintro e w' ⟨rfl, ⟨nd, rfl⟩⟩; refine ⟨_, rfl, ?_⟩))
     go_ret
     exact ⟨by first | rfl | (simp; done) | (simp [*]; done), by repeat (first | exact Drawn0.refl _ | apply Drawn0.step)⟩
    ·rw [if_neg c9] at H
     have c9b0 := decide_eq_false c9
     clear c9
     obtain rfl := Option.some.inj H
     go_enter Tryd.func191, Tryd.ntmps191
     go_wp2_with (first | ((with_reducible refine gate_callee (f := 205) rfl ?_); refine goesL_ (some 8) rfl rfl Tryd.func205 (by kernel_rfl) rfl #[.int .i64 a0] rfl maz_ ?_; (with_reducible refine (cmp_isNaN_int.calls a0 false _ A3.out).mono ?_); rintro e w' ⟨rfl, ⟨nd, rfl⟩⟩; refine ⟨_, rfl, ?_⟩) | ((with_reducible refine gate_callee (f := 205) rfl ?_); refine goesL_ (some 10) rfl rfl Tryd.func205 (by kernel_rfl) rfl #[.int .i64 a1] rfl maz_ ?_; (with_reducible refine (cmp_isNaN_int.calls a1 false _ A4.out).mono ?_); rintro e w' ⟨rfl, ⟨nd, rfl⟩⟩; refine ⟨_, rfl, ?_⟩))
     go_ret
     exact ⟨by first | rfl | (simp; done) | (simp [*]; done), by repeat (first | exact Drawn0.refl _ | apply Drawn0.step)⟩

end Go.Proofs.YtppbpefehpbejaaDoor.P
end

section
namespace Go.Proofs.YtppbpefehpbejaaDoor.P
open Go.RowKit Go.Proofs.YtppbpefehpbejaaDoorW.PrintWords Go.Proofs.YtppbpefehpbejaaDoorW.PrintLast Go.Proofs.YtppbpefehpbejaaDoorW.PrintMore
attribute [local go_sem] max2_int min2_int max_two min_two max_three min_three max_four min_four   -- for this text's walks alone
set_option linter.unusedVariables false
set_option linter.unusedSimpArgs false

/-! ### slices_Compare_int_int: function 144 -/
def slices_Compare_int_int.l0 : Nat → List Int → List Int → List Int → Int → Int → Option (Int)
 | 0, _, _, _, _, _ => none
 | k + 1, x0, x1, x9, x10, x11 => if x11 < x10 then (if 0 ≤ x11 then (if x11 < (x9.length : Int) then (if x11 ≥ (x1.length : Int) then (some 1) else (if x11 < (x1.length : Int) then ((cmp_Compare_int.f (rd x9 x11) (rd x1 x11)).bind fun t456 => (if t456 = 0 then (slices_Compare_int_int.l0 k x0 x1 x9 x10 (wrap64 (x11 + 1))) else (some t456))) else (none))) else (none)) else (none)) else (if (x0.length : Int) < (x1.length : Int) then (some (-1)) else (some 0))
def slices_Compare_int_int.f (k : Nat) (l0 : List Int) (l1 : List Int) : Option (Int) := slices_Compare_int_int.l0 k l0 l1 l0 (l0.length : Int) 0
set_option maxHeartbeats 8000000 in
set_option maxRecDepth 100000 in
theorem slices_Compare_int_int.calls (k : Nat) (A0 : Option Addr) (c0 : Nat) (l0 : List Int) (A1 : Option Addr) (c1 : Nat) (l1 : List Int) (r : Int) (w : World) (hr0 : Kd.C (Kd.int .i64) w A0 l0.length l0) (hc0 : l0.length ≤ c0) (hr1 : Kd.C (Kd.int .i64) w A1 l1.length l1) (hc1 : l1.length ≤ c1) (h : slices_Compare_int_int.f k l0 l1 = some r) :
  Calls Tryd.prog 144 #[.slice A0 l0.length c0, .slice A1 l1.length c1] w fun e w' => e = .returned (.int .i64 r) ∧ Drawn0 w w' := by
 have HR0 := Az_ hr0
 have HC0 := Az_ hc0
 clear hr0 hc0
 have HR1 := Az_ hr1
 have HC1 := Az_ hc1
 clear hr1 hc1
 have H : (slices_Compare_int_int.l0 k l0 l1 l0 (l0.length : Int) 0) = some r := h
 clear h
 have H' := Az_ H
 clear H
 go_enter Tryd.func144, Tryd.ntmps144
 go_wp2
 go_loopg [11] k (fun kq v11 w' => ∃ (x11_1 : Int), v11 = .int .i64 x11_1 ∧ Aside0 (slices_Compare_int_int.l0 kq l0 l1 l0 (l0.length : Int) x11_1 = some r) ∧ Aside0 (kq ≤ k) ∧ Drawn0 w w')
 case atStart => exact ⟨(0), qaz_, H', ⟨Nat.le_refl _⟩, by repeat (first | exact Drawn0.refl _ | apply Drawn0.step)⟩
 case round =>
  clear H'
  obtain ⟨x11_1, rfl, HA, HK1, ⟨m1, rfl⟩⟩ := hrel
  cases gk with
  | zero => exact absurd HA.out (by simp [slices_Compare_int_int.l0])
  | succ k1 =>
   have H := HA.out
   clear HA
   simp only [slices_Compare_int_int.l0] at H
   by_cases c3 : x11_1 < (l0.length : Int)
   ·rw [if_pos c3] at H
    have c3b0 := decide_eq_true c3
    clear c3
    by_cases c4 : 0 ≤ x11_1
    ·rw [if_pos c4] at H
     have c4b0 := decide_eq_true c4
     clear c4
     by_cases c5 : x11_1 < (l0.length : Int)
     ·rw [if_pos c5] at H
      have c5b0 := decide_eq_true c5
      clear c5
      by_cases c6 : x11_1 ≥ (l1.length : Int)
      ·rw [if_pos c6] at H
       have c6b0 := decide_eq_true c6
       clear c6
       obtain rfl := Option.some.inj H
       have p454 : 0 ≤ (x11_1 : Int) := of_decide_eq_true asz_
       have q454 : x11_1 < (l0.length : Int) := of_decide_eq_true asz_
       obtain ⟨ad454, e454, hx454_0⟩ := Kd.at_int HR0.out x11_1 p454 q454
       cases e454
       replace p454 := eq_true p454
       replace q454 := eq_true q454
       go_wp2
       go_ret
       exact ⟨by first | rfl | (simp; done) | (simp [*]; done), by repeat (first | exact Drawn0.refl _ | apply Drawn0.step)⟩
      ·rw [if_neg c6] at H
       have c6b0 := decide_eq_false c6
       clear c6
       by_cases c7 : x11_1 < (l1.length : Int)
       ·rw [if_pos c7] at H
        have c7b0 := decide_eq_true c7
        clear c7
        replace H := bqz_ H; obtain ⟨t456, A8, H⟩ := H
        replace H : (if t456 = 0 then (slices_Compare_int_int.l0 k1 l0 l1 l0 (l0.length : Int) (wrap64 (x11_1 + 1))) else (some t456)) = some r := H
        by_cases c9 : t456 = 0
        ·rw [if_pos c9] at H
         have c9b0 : (t456 == 0) = true := beq_iff_eq.mpr c9
         have c9b1 : (t456 != 0) = false := bne_eq_false_iff_eq.mpr c9
         clear c9
         have H' := Az_ H
         clear H
         have p454 : 0 ≤ (x11_1 : Int) := of_decide_eq_true asz_
         have q454 : x11_1 < (l0.length : Int) := of_decide_eq_true asz_
         obtain ⟨ad454, e454, hx454_0⟩ := Kd.at_int HR0.out x11_1 p454 q454
         cases e454
         replace p454 := eq_true p454
         replace q454 := eq_true q454
         have p455 : 0 ≤ (x11_1 : Int) := of_decide_eq_true asz_
         have q455 : x11_1 < (l1.length : Int) := of_decide_eq_true asz_
         obtain ⟨ad455, e455, hx455_0⟩ := Kd.at_int HR1.out x11_1 p455 q455
         cases e455
         replace p455 := eq_true p455
         replace q455 := eq_true q455
         go_wp2_with (first | ((with_reducible refine gate_callee (f := 191) rfl ?_); refine goesL_ (some 26) rfl rfl Tryd.func191 (by kernel_rfl) rfl #[.int .i64 (rd l0 x11_1), .int .i64 (rd l1 x11_1)] rfl maz_ ?_; (with_reducible refine (cmp_Compare_int.calls (rd l0 x11_1) (rd l1 x11_1) t456 _ A8.out).mono ?_); rintro e w' ⟨rfl, ⟨nd, rfl⟩⟩; refine ⟨_, rfl, ?_⟩))
         go_roundg k1
         case measure => have := HK1.out; omega
         case rel => exact ⟨(wrap64 (x11_1 + 1)), qaz_, H', ⟨by have := HK1.out; omega⟩, by repeat (first | exact Drawn0.refl _ | apply Drawn0.step)⟩
        ·rw [if_neg c9] at H
         have c9b0 : (t456 == 0) = false := beq_eq_false_iff_ne.mpr c9
         have c9b1 : (t456 != 0) = true := bne_iff_ne.mpr c9
         obtain rfl := Option.some.inj H
         have p454 : 0 ≤ (x11_1 : Int) := of_decide_eq_true asz_
         have q454 : x11_1 < (l0.length : Int) := of_decide_eq_true asz_
         obtain ⟨ad454, e454, hx454_0⟩ := Kd.at_int HR0.out x11_1 p454 q454
         cases e454
         replace p454 := eq_true p454
         replace q454 := eq_true q454
         have p455 : 0 ≤ (x11_1 : Int) := of_decide_eq_true asz_
         have q455 : x11_1 < (l1.length : Int) := of_decide_eq_true asz_
         obtain ⟨ad455, e455, hx455_0⟩ := Kd.at_int HR1.out x11_1 p455 q455
         cases e455
         replace p455 := eq_true p455
         replace q455 := eq_true q455
         go_wp2_with (first | ((with_reducible refine gate_callee (f := 191) rfl ?_); refine goesL_ (some 26) rfl rfl Tryd.func191 (by kernel_rfl) rfl #[.int .i64 (rd l0 x11_1), .int .i64 (rd l1 x11_1)] rfl maz_ ?_; (with_reducible refine (cmp_Compare_int.calls (rd l0 x11_1) (rd l1 x11_1) t456 _ A8.out).mono ?_); rintro e w' ⟨rfl, ⟨nd, rfl⟩⟩; refine ⟨_, rfl, ?_⟩))
         go_ret
         exact ⟨by first | rfl | (simp; done) | (simp [*]; done), by repeat (first | exact Drawn0.refl _ | apply Drawn0.step)⟩
       ·rw [if_neg c7] at H
        exact absurd H (by simp)
     ·rw [if_neg c5] at H
      exact absurd H (by simp)
    ·rw [if_neg c4] at H
     exact absurd H (by simp)
   ·rw [if_neg c3] at H
    have c3b0 := decide_eq_false c3
    clear c3
    by_cases c10 : (l0.length : Int) < (l1.length : Int)
    ·rw [if_pos c10] at H
     have c10b0 := decide_eq_true c10
     have c10b1 : decide (l0.length < l1.length) = true := decide_eq_true (Int.ofNat_lt.mp c10)
     clear c10
     obtain rfl := Option.some.inj H
     go_wp2
     go_ret
     exact ⟨by first | rfl | (simp; done) | (simp [*]; done), by repeat (first | exact Drawn0.refl _ | apply Drawn0.step)⟩
    ·rw [if_neg c10] at H
     have c10b0 := decide_eq_false c10
     have c10b1 : decide (l0.length < l1.length) = false := decide_eq_false (fun h => c10 (Int.ofNat_lt.mpr h))
     clear c10
     obtain rfl := Option.some.inj H
     go_wp2
     go_ret
     exact ⟨by first | rfl | (simp; done) | (simp [*]; done), by repeat (first | exact Drawn0.refl _ | apply Drawn0.step)⟩

/-! ### spec_FarthestBinding: function 61 -/
def spec_FarthestBinding.l0 : Nat → Int → Int → Int → List Int → Int → Int → Option (List Int × Int × Bool)
 | 0, _, _, _, _, _, _ => none
 | k + 1, x0, x5, x6, x13, x14, x15 => if x15 < x14 then (if 0 ≤ x15 then (if x15 < (x13.length : Int) then (if (rd x13 x15) > x6 then (spec_FarthestBinding.l0 k x0 x15 (rd x13 x15) x13 x14 (wrap64 (x15 + 1))) else (spec_FarthestBinding.l0 k x0 x5 x6 x13 x14 (wrap64 (x15 + 1)))) else (none)) else (none)) else ((spec_biOf.f k x0 x5).bind fun t462 => (some (t462, x6, true)))
def spec_FarthestBinding.f (k : Nat) (a0 : Int) : Option (List Int × Int × Bool) := (spec_l1In.f a0 1 5).bind fun t457 => (if t457 = true then ((spec_biFar.f k a0).bind fun t458 => (spec_FarthestBinding.l0 k a0 0 (-1) t458 (t458.length : Int) 0)) else (some (([] : List Int), 0, false)))
set_option maxHeartbeats 8000000 in
set_option maxRecDepth 100000 in
theorem spec_FarthestBinding.calls (k : Nat) (a0 : Int) (r1 : List Int) (r2 : Int) (r3 : Bool) (w : World) (h : spec_FarthestBinding.f k a0 = some (r1, r2, r3)) :
  Calls Tryd.prog 61 #[.int .i64 a0] w fun e w' => ∃ v0_ : Value, e = .returned (.tuple #[v0_, .int .i64 r2, .bool r3]) ∧ Kd.R (Kd.int .i64) 3 w' w.heap.size (fun _ => True) v0_ r1 ∧ Below w.heap.size w w' := by
 have HB := Az_ (Below.refl w.heap.size w)
 have H : ((spec_l1In.f a0 1 5).bind fun t457 => (if t457 = true then ((spec_biFar.f k a0).bind fun t458 => (spec_FarthestBinding.l0 k a0 0 (-1) t458 (t458.length : Int) 0)) else (some (([] : List Int), 0, false)))) = some (r1, r2, r3) := h
 clear h
 replace H := bqz_ H; obtain ⟨t457, A2, H⟩ := H
 replace H : (if t457 = true then ((spec_biFar.f k a0).bind fun t458 => (spec_FarthestBinding.l0 k a0 0 (-1) t458 (t458.length : Int) 0)) else (some (([] : List Int), 0, false))) = some (r1, r2, r3) := H
 by_cases c3 : t457 = true
 ·subst c3
  rw [if_pos rfl] at H
  replace H := bqz_ H; obtain ⟨t458, A4, H⟩ := H
  replace H : (spec_FarthestBinding.l0 k a0 0 (-1) t458 (t458.length : Int) 0) = some (r1, r2, r3) := H
  have H' := Az_ H
  clear H
  go_enter Tryd.func61, Tryd.ntmps61
  go_wp2_with (first | ((with_reducible refine gate_callee (f := 101) rfl ?_); refine goesL_ (some 10) rfl rfl Tryd.func101 (by kernel_rfl) rfl #[.int .i64 a0, .int .i64 1, .int .i64 5] rfl maz_ ?_; (with_reducible refine (spec_l1In.calls a0 1 5 true _ A2.out).mono ?_); rintro e w' ⟨rfl, ⟨nd, rfl⟩⟩; refine ⟨_, rfl, ?_⟩) | ((with_reducible refine gate_callee (f := 143) rfl ?_); refine goesL_ (some 13) rfl rfl Tryd.func143 (by kernel_rfl) rfl #[.int .i64 a0] rfl maz_ ?_; (with_reducible refine (spec_biFar.calls k a0 t458 _ A4.out).mono ?_); rintro e w5 ⟨v459, rfl, ho0, hb⟩; refine ⟨_, rfl, ?_⟩; have HO460 := Az_ (Kd.R_lower ho0 (below_size (ubz_ HB.out))); replace HB := Az_ (btz_ (ubz_ HB.out) hb); (try clear hb); (try clear ho0); obtain ⟨Ao6, co6, eo6⟩ := Kd.R_slice HO460.out; subst eo6))
  go_loopg [5, 6, 15] k (fun kq v5 v6 v15 w' => ∃ (x5_1 : Int) (x6_1 : Int) (x15_1 : Int), v5 = .int .i64 x5_1 ∧ v6 = .int .i64 x6_1 ∧ v15 = .int .i64 x15_1 ∧ Aside0 (spec_FarthestBinding.l0 kq a0 x5_1 x6_1 t458 (t458.length : Int) x15_1 = some (r1, r2, r3)) ∧ Aside0 (kq ≤ k) ∧ Aside0 (Kd.R (Kd.int .i64) 3 w' w.heap.size (fun _ => True) (.slice Ao6 t458.length co6) t458) ∧ Aside0 (Below w.heap.size w w'))
  case atStart => exact ⟨(0), ((-1)), (0), qaz_, qaz_, qaz_, H', ⟨Nat.le_refl _⟩, ⟨by (with_reducible repeat (first | apply raz_ | apply rnz_ | apply rdz_)); exact HO460.out⟩, ⟨by exact ubz_ HB.out⟩⟩
  case round =>
   clear H'
   obtain ⟨x5_1, x6_1, x15_1, rfl, rfl, rfl, HA, HK1, HO_13, HB⟩ := hrel
   cases gk with
   | zero => exact absurd HA.out (by simp [spec_FarthestBinding.l0])
   | succ k1 =>
    have H := HA.out
    clear HA
    simp only [spec_FarthestBinding.l0] at H
    by_cases c7 : x15_1 < (t458.length : Int)
    ·rw [if_pos c7] at H
     have c7b0 := decide_eq_true c7
     clear c7
     by_cases c8 : 0 ≤ x15_1
     ·rw [if_pos c8] at H
      have c8b0 := decide_eq_true c8
      clear c8
      by_cases c9 : x15_1 < (t458.length : Int)
      ·rw [if_pos c9] at H
       have c9b0 := decide_eq_true c9
       clear c9
       by_cases c10 : (rd t458 x15_1) > x6_1
       ·rw [if_pos c10] at H
        have c10b0 := decide_eq_true c10
        clear c10
        have H' := Az_ H
        clear H
        have p461 : 0 ≤ (x15_1 : Int) := of_decide_eq_true asz_
        have q461 : x15_1 < (t458.length : Int) := of_decide_eq_true asz_
        obtain ⟨ad461, e461, hx461_0⟩ := Kd.at_int (Kd.R_reads' HO_13.out).2.2 x15_1 p461 q461
        cases e461
        replace p461 := eq_true p461
        replace q461 := eq_true q461
        go_wp2
        go_roundg k1
        case measure => have := HK1.out; omega
        case rel => exact ⟨(x15_1), (rd t458 x15_1), (wrap64 (x15_1 + 1)), qaz_, qaz_, qaz_, H', ⟨by have := HK1.out; omega⟩, ⟨by (with_reducible repeat (first | apply raz_ | apply rnz_ | apply rdz_)); exact HO_13.out⟩, ⟨by exact ubz_ HB.out⟩⟩
       ·rw [if_neg c10] at H
        have c10b0 := decide_eq_false c10
        clear c10
        have H' := Az_ H
        clear H
        have p461 : 0 ≤ (x15_1 : Int) := of_decide_eq_true asz_
        have q461 : x15_1 < (t458.length : Int) := of_decide_eq_true asz_
        obtain ⟨ad461, e461, hx461_0⟩ := Kd.at_int (Kd.R_reads' HO_13.out).2.2 x15_1 p461 q461
        cases e461
        replace p461 := eq_true p461
        replace q461 := eq_true q461
        go_wp2
        go_roundg k1
        case measure => have := HK1.out; omega
        case rel => exact ⟨(x5_1), (x6_1), (wrap64 (x15_1 + 1)), qaz_, qaz_, qaz_, H', ⟨by have := HK1.out; omega⟩, ⟨by (with_reducible repeat (first | apply raz_ | apply rnz_ | apply rdz_)); exact HO_13.out⟩, ⟨by exact ubz_ HB.out⟩⟩
      ·rw [if_neg c9] at H
       exact absurd H (by simp)
     ·rw [if_neg c8] at H
      exact absurd H (by simp)
    ·rw [if_neg c7] at H
     have c7b0 := decide_eq_false c7
     clear c7
     replace H := bqz_ H; obtain ⟨t462, A11, H⟩ := H
     replace H : (some (t462, x6_1, true)) = some (r1, r2, r3) := H
     simp only [Option.some.injEq, Prod.mk.injEq] at H
     obtain ⟨rfl, rfl, rfl⟩ := H
     go_wp2_with (first | ((with_reducible refine gate_callee (f := 141) rfl ?_); refine goesL_ (some 28) rfl rfl Tryd.func141 (by kernel_rfl) rfl #[.int .i64 a0, .int .i64 x5_1] rfl maz_ ?_; (with_reducible refine (spec_biOf.calls k1 a0 x5_1 t462 _ A11.out).mono ?_); rintro e w12 ⟨v463, rfl, ho0, hb⟩; refine ⟨_, rfl, ?_⟩; have HO464 := Az_ (Kd.R_lower (Kd.R_new' ho0 (Kd.R_lt (by exact urz_ HO_13.out))) (below_size (ubz_ HB.out))); replace HO_13 := Az_ (rez_ (by exact urz_ HO_13.out) (Kd.R_base ho0) hb); replace HB := Az_ (btz_ (ubz_ HB.out) hb); (try clear hb); (try clear ho0)))
     go_ret3
     exact ⟨_, by first | rfl | (simp [errW_none, errW_some] <;> rfl) | (simp [*, errW_none, errW_some] <;> rfl), by (with_reducible repeat (first | apply raz_ | apply rnz_ | apply rdz_)); exact Kd.R_mono HO464.out (fun _ hk => trivial), by exact ubz_ HB.out⟩
 ·replace c3 := Bool.eq_false_iff.mpr c3
  subst c3
  rw [if_neg nfz_] at H
  simp only [Option.some.injEq, Prod.mk.injEq] at H
  obtain ⟨rfl, rfl, rfl⟩ := H
  go_enter Tryd.func61, Tryd.ntmps61
  go_wp2_with (first | ((with_reducible refine gate_callee (f := 101) rfl ?_); refine goesL_ (some 10) rfl rfl Tryd.func101 (by kernel_rfl) rfl #[.int .i64 a0, .int .i64 1, .int .i64 5] rfl maz_ ?_; (with_reducible refine (spec_l1In.calls a0 1 5 false _ A2.out).mono ?_); rintro e w' ⟨rfl, ⟨nd, rfl⟩⟩; refine ⟨_, rfl, ?_⟩))
  go_ret3
  exact ⟨_, by first | rfl | (simp [errW_none, errW_some] <;> rfl) | (simp [*, errW_none, errW_some] <;> rfl), by first | exact Kd.R_nil _ _ _ _ _ | exact Kd.N_nil _ _ _ _ _ | exact Kd.V_nil _ _ _ _ _ | exact Kd.Q_nil _ _ _ _ _ | exact Kd.S_nil _ _ _ _ _, by exact ubz_ HB.out⟩

end Go.Proofs.YtppbpefehpbejaaDoor.P
end

section
namespace Go.Proofs.YtppbpefehpbejaaDoor.P
open Go.RowKit Go.Proofs.YtppbpefehpbejaaDoorW.PrintWords Go.Proofs.YtppbpefehpbejaaDoorW.PrintLast Go.Proofs.YtppbpefehpbejaaDoorW.PrintMore
attribute [local go_sem] max2_int min2_int max_two min_two max_three min_three max_four min_four   -- for this text's walks alone
set_option linter.unusedVariables false
set_option linter.unusedSimpArgs false

/-! ### spec_l1Cur_spoilt: function 146 -/
mutual
def spec_l1Cur_spoilt.l0 : Nat → ByteArray → ByteArray → Int → List Int → Int → Int → Option (ByteArray × Int × Int)
 | 0, _, _, _, _, _, _ => none
 | k + 1, x1, x2, x7, x1000, x1001, x1002 => if x7 > 0 then (spec_l1Cur_spoilt.j1 k x1 x2 x7 (decide ((x1.size : Int) > 0)) x1000 x1001 x1002) else (spec_l1Cur_spoilt.j1 k x1 x2 x7 false x1000 x1001 x1002)
def spec_l1Cur_spoilt.j1 : Nat → ByteArray → ByteArray → Int → Bool → List Int → Int → Int → Option (ByteArray × Int × Int)
 | 0, _, _, _, _, _, _, _ => none
 | k + 1, x1, x2, x7, x19, x1000, x1001, x1002 => if x19 = true then ((spec_l1Cur_pick.f x1000 x1001 x1002 (x1.size : Int)).bind fun bt468 => ((spec_l1Cur_pick.f x1000 bt468.2.1 bt468.2.2 (x2.size : Int)).bind fun bt471 => (if 0 ≤ bt471.1 then (if bt471.1 < (x2.size : Int) then ((some (([bt x2 bt471.1] : List Int) : List Int)).bind fun y474 => ((spec_l1Cur_pick.f x1000 bt471.2.1 bt471.2.2 3).bind fun bt477 => (if bt477.1 = 0 then (if 0 ≤ bt468.1 then (if bt468.1 ≤ (x1.size : Int) then (if (x1.extract 0 (bt468.1 : Int).toNat).size + (strOfNums y474).size ≤ 9223372036854775807 then (if ((x1.extract 0 (bt468.1 : Int).toNat) ++ (strOfNums y474)).size + (x1.extract (bt468.1 : Int).toNat x1.size).size ≤ 9223372036854775807 then (spec_l1Cur_spoilt.l0 k (((x1.extract 0 (bt468.1 : Int).toNat) ++ (strOfNums y474)) ++ (x1.extract (bt468.1 : Int).toNat x1.size)) x2 (wrap64 (x7 - 1)) x1000 bt477.2.1 bt477.2.2) else (none)) else (none)) else (none)) else (none)) else (if bt477.1 = 1 then (if 0 ≤ bt468.1 then (if bt468.1 ≤ (x1.size : Int) then (if (x1.extract 0 (bt468.1 : Int).toNat).size + (strOfNums y474).size ≤ 9223372036854775807 then (if 0 ≤ (wrap64 (bt468.1 + 1)) then (if (wrap64 (bt468.1 + 1)) ≤ (x1.size : Int) then (if ((x1.extract 0 (bt468.1 : Int).toNat) ++ (strOfNums y474)).size + (x1.extract ((wrap64 (bt468.1 + 1)) : Int).toNat x1.size).size ≤ 9223372036854775807 then (spec_l1Cur_spoilt.l0 k (((x1.extract 0 (bt468.1 : Int).toNat) ++ (strOfNums y474)) ++ (x1.extract ((wrap64 (bt468.1 + 1)) : Int).toNat x1.size)) x2 (wrap64 (x7 - 1)) x1000 bt477.2.1 bt477.2.2) else (none)) else (none)) else (none)) else (none)) else (none)) else (none)) else (if 0 ≤ bt468.1 then (if bt468.1 ≤ (x1.size : Int) then (if 0 ≤ (wrap64 (bt468.1 + 1)) then (if (wrap64 (bt468.1 + 1)) ≤ (x1.size : Int) then (if (x1.extract 0 (bt468.1 : Int).toNat).size + (x1.extract ((wrap64 (bt468.1 + 1)) : Int).toNat x1.size).size ≤ 9223372036854775807 then (spec_l1Cur_spoilt.l0 k ((x1.extract 0 (bt468.1 : Int).toNat) ++ (x1.extract ((wrap64 (bt468.1 + 1)) : Int).toNat x1.size)) x2 (wrap64 (x7 - 1)) x1000 bt477.2.1 bt477.2.2) else (none)) else (none)) else (none)) else (none)) else (none)))))) else (none)) else (none)))) else (some (x1, x1001, x1002))
end
def spec_l1Cur_spoilt.f (k : Nat) (s0_0 : List Int) (s0_1 : Int) (s0_2 : Int) (a1 : ByteArray) (a2 : ByteArray) : Option (ByteArray × Int × Int) := (spec_l1Cur_pick.f s0_0 s0_1 s0_2 2).bind fun bt465 => (spec_l1Cur_spoilt.l0 k a1 a2 (wrap64 (1 + bt465.1)) s0_0 bt465.2.1 bt465.2.2)
set_option maxHeartbeats 8000000 in
set_option maxRecDepth 100000 in
theorem spec_l1Cur_spoilt.calls (k : Nat) (g : Nat) (s0_0 : List Int) (s0_1 : Int) (s0_2 : Int) (a1 : ByteArray) (a2 : ByteArray) (r1 : ByteArray) (r2 : Int) (r3 : Int) (w0 w : World) (hI : IsS111 w0 w g s0_0 s0_1 s0_2) (hB : Below w0.heap.size w0 w) (h : spec_l1Cur_spoilt.f k s0_0 s0_1 s0_2 a1 a2 = some (r1, r2, r3)) :
  Calls Tryd.prog 146 #[.pointer (some ⟨g, 0, none⟩), .string a1, .string a2] w fun e w' => e = .returned (.string r1) ∧ IsS111 w0 w' g s0_0 r2 r3 ∧ Below w0.heap.size w0 w' ∧ KeepBut w w' g none := by
 have HI0 := Az_ hI
 have HK := Az_ (KeepBut.refl w g none)
 have HL := Az_ hB.size
 clear hI
 have HW0 := Az_ hB.size
 have HB := Az_ hB
 clear hB
 have H : ((spec_l1Cur_pick.f s0_0 s0_1 s0_2 2).bind fun bt465 => (spec_l1Cur_spoilt.l0 k a1 a2 (wrap64 (1 + bt465.1)) s0_0 bt465.2.1 bt465.2.2)) = some (r1, r2, r3) := h
 clear h
 replace H := bqz_ H; obtain ⟨⟨t465, t466, t467⟩, A4, H⟩ := H
 replace H : (spec_l1Cur_spoilt.l0 k a1 a2 (wrap64 (1 + t465)) s0_0 t466 t467) = some (r1, r2, r3) := H
 have H' := Az_ H
 clear H
 go_enter Tryd.func146, Tryd.ntmps146
 go_wp2_with (first | (go_at_call 96; (with_reducible refine (spec_l1Cur_pick.calls g s0_0 s0_1 s0_2 2 t465 t466 t467 w0 _ ?side1 ?side2 A4.out).mono ?_); (case side1 => repeat (first | (with_reducible first | exact HI0.out | apply IsS111.alloc | apply IsS111.drewN | apply IsS111.drew | apply IsS111.set_1 | apply IsS111.set_2) | exact HI0.out)); (case side2 => repeat (first | (with_reducible first | exact HB.out | apply baz_ | apply bnz_ | apply bdz_ | refine bsz_ ?_ (IsS111.ge HI0.out)) | exact HB.out)); rintro e w5 ⟨rfl, hi, hb, hk⟩; replace HK := Az_ (KeepBut.trans (by repeat (first | (with_reducible first | exact HK.out | apply KeepBut.set_ | apply keep_drewN | apply keep_drew | apply keep_alloc) | exact HK.out)) hk (.inl rfl)); replace HB := Az_ (hb); replace HI0 := Az_ (hi); (try clear hb); (try clear hk); (try clear hi)))
 go_loopg [1, 7] k (fun kq v1 v7 w' => ∃ (x1_1 : ByteArray) (x7_1 : Int) (x1001_1 : Int) (x1002_1 : Int), v1 = .string x1_1 ∧ v7 = .int .i64 x7_1 ∧ Aside0 (spec_l1Cur_spoilt.l0 kq x1_1 a2 x7_1 s0_0 x1001_1 x1002_1 = some (r1, r2, r3)) ∧ Aside0 (kq ≤ k) ∧ Aside0 (IsS111 w0 w' g s0_0 x1001_1 x1002_1) ∧ Aside0 (KeepBut w w' g none) ∧ Aside0 (Below w0.heap.size w0 w'))
 case atStart => exact ⟨(a1), (wrap64 (1 + t465)), (t466), (t467), qaz_, qaz_, H', ⟨Nat.le_refl _⟩, ⟨by repeat (first | (with_reducible first | exact HI0.out | apply IsS111.alloc | apply IsS111.drewN | apply IsS111.drew | apply IsS111.set_1 | apply IsS111.set_2) | exact HI0.out)⟩, ⟨by repeat (first | (with_reducible first | exact HK.out | apply KeepBut.set_ | apply keep_drewN | apply keep_drew | apply keep_alloc) | exact HK.out)⟩, ⟨by repeat (first | (with_reducible first | exact HB.out | apply baz_ | apply bnz_ | apply bdz_ | refine bsz_ ?_ (IsS111.ge HI0.out)) | exact HB.out)⟩⟩
 case round =>
  clear H'
  obtain ⟨x1_1, x7_1, x1001_1, x1002_1, rfl, rfl, HA, HK1, HI0, HK, HB⟩ := hrel
  cases gk with
  | zero => exact absurd HA.out (by simp [spec_l1Cur_spoilt.l0])
  | succ k1 =>
   have H := HA.out
   clear HA
   simp only [spec_l1Cur_spoilt.l0] at H
   have HC6 := Az_ H
   clear H
   go_upto_region 2 with (fail)
   go_cut [19] (fun v19 wc => ∃ (kq : Nat) (x19_5 : Bool), v19 = .bool x19_5 ∧ Aside0 (j1 kq x1_1 a2 x7_1 x19_5 s0_0 x1001_1 x1002_1 = some (r1, r2, r3)) ∧ Aside0 (kq ≤ k1) ∧ Aside0 (IsS111 w0 wc g s0_0 x1001_1 x1002_1) ∧ Aside0 (KeepBut w wc g none) ∧ Aside0 (Below w0.heap.size w0 wc))
   case first =>
    have H := HC6.out
    clear HC6
    by_cases c7 : x7_1 > 0
    ·rw [if_pos c7] at H
     have c7b0 := decide_eq_true c7
     clear c7
     (first | rw [c7b0] | (simp only [i64_w, i32_w]; rw [c7b0]) | skip)
     have H' := Az_ H
     clear H
     go_wp2
     go_meet
     case rel => exact ⟨_, (decide ((x1_1.size : Int) > 0)), qaz_, H', ⟨by have := HK1.out; first | omega | exact Nat.le_refl _⟩, ⟨by repeat (first | (with_reducible first | exact HI0.out | apply IsS111.alloc | apply IsS111.drewN | apply IsS111.drew | apply IsS111.set_1 | apply IsS111.set_2) | exact HI0.out)⟩, ⟨by repeat (first | (with_reducible first | exact HK.out | apply KeepBut.set_ | apply keep_drewN | apply keep_drew | apply keep_alloc) | exact HK.out)⟩, ⟨by repeat (first | (with_reducible first | exact HB.out | apply baz_ | apply bnz_ | apply bdz_ | refine bsz_ ?_ (IsS111.ge HI0.out)) | exact HB.out)⟩⟩
    ·rw [if_neg c7] at H
     have c7b0 := decide_eq_false c7
     clear c7
     (first | rw [c7b0] | (simp only [i64_w, i32_w]; rw [c7b0]) | skip)
     have H' := Az_ H
     clear H
     go_wp2
     go_meet
     case rel => exact ⟨_, (false), qaz_, H', ⟨by have := HK1.out; first | omega | exact Nat.le_refl _⟩, ⟨by repeat (first | (with_reducible first | exact HI0.out | apply IsS111.alloc | apply IsS111.drewN | apply IsS111.drew | apply IsS111.set_1 | apply IsS111.set_2) | exact HI0.out)⟩, ⟨by repeat (first | (with_reducible first | exact HK.out | apply KeepBut.set_ | apply keep_drewN | apply keep_drew | apply keep_alloc) | exact HK.out)⟩, ⟨by repeat (first | (with_reducible first | exact HB.out | apply baz_ | apply bnz_ | apply bdz_ | refine bsz_ ?_ (IsS111.ge HI0.out)) | exact HB.out)⟩⟩
   case rest =>
    clear HC6
    obtain ⟨kq, x19_5, rfl, HA, HJ5, HI0, HK, HB⟩ := hcut
    cases kq with
    | zero => exact absurd HA.out (by simp [j1])
    | succ kj5 =>
     have H := HA.out
     clear HA
     simp only [j1] at H
     by_cases c8 : x19_5 = true
     ·subst c8
      rw [if_pos rfl] at H
      replace H := bqz_ H; obtain ⟨⟨t468, t469, t470⟩, A9, H⟩ := H
      replace H := bqz_ H; obtain ⟨⟨t471, t472, t473⟩, A10, H⟩ := H
      replace H : (if 0 ≤ t471 then (if t471 < (a2.size : Int) then ((some (([bt a2 t471] : List Int) : List Int)).bind fun y474 => ((spec_l1Cur_pick.f s0_0 t472 t473 3).bind fun bt477 => (if bt477.1 = 0 then (if 0 ≤ t468 then (if t468 ≤ (x1_1.size : Int) then (if (x1_1.extract 0 (t468 : Int).toNat).size + (strOfNums y474).size ≤ 9223372036854775807 then (if ((x1_1.extract 0 (t468 : Int).toNat) ++ (strOfNums y474)).size + (x1_1.extract (t468 : Int).toNat x1_1.size).size ≤ 9223372036854775807 then (spec_l1Cur_spoilt.l0 kj5 (((x1_1.extract 0 (t468 : Int).toNat) ++ (strOfNums y474)) ++ (x1_1.extract (t468 : Int).toNat x1_1.size)) a2 (wrap64 (x7_1 - 1)) s0_0 bt477.2.1 bt477.2.2) else (none)) else (none)) else (none)) else (none)) else (if bt477.1 = 1 then (if 0 ≤ t468 then (if t468 ≤ (x1_1.size : Int) then (if (x1_1.extract 0 (t468 : Int).toNat).size + (strOfNums y474).size ≤ 9223372036854775807 then (if 0 ≤ (wrap64 (t468 + 1)) then (if (wrap64 (t468 + 1)) ≤ (x1_1.size : Int) then (if ((x1_1.extract 0 (t468 : Int).toNat) ++ (strOfNums y474)).size + (x1_1.extract ((wrap64 (t468 + 1)) : Int).toNat x1_1.size).size ≤ 9223372036854775807 then (spec_l1Cur_spoilt.l0 kj5 (((x1_1.extract 0 (t468 : Int).toNat) ++ (strOfNums y474)) ++ (x1_1.extract ((wrap64 (t468 + 1)) : Int).toNat x1_1.size)) a2 (wrap64 (x7_1 - 1)) s0_0 bt477.2.1 bt477.2.2) else (none)) else (none)) else (none)) else (none)) else (none)) else (none)) else (if 0 ≤ t468 then (if t468 ≤ (x1_1.size : Int) then (if 0 ≤ (wrap64 (t468 + 1)) then (if (wrap64 (t468 + 1)) ≤ (x1_1.size : Int) then (if (x1_1.extract 0 (t468 : Int).toNat).size + (x1_1.extract ((wrap64 (t468 + 1)) : Int).toNat x1_1.size).size ≤ 9223372036854775807 then (spec_l1Cur_spoilt.l0 kj5 ((x1_1.extract 0 (t468 : Int).toNat) ++ (x1_1.extract ((wrap64 (t468 + 1)) : Int).toNat x1_1.size)) a2 (wrap64 (x7_1 - 1)) s0_0 bt477.2.1 bt477.2.2) else (none)) else (none)) else (none)) else (none)) else (none)))))) else (none)) else (none)) = some (r1, r2, r3) := H
      by_cases c11 : 0 ≤ t471
      ·rw [if_pos c11] at H
       have c11b0 := decide_eq_true c11
       clear c11
       by_cases c12 : t471 < (a2.size : Int)
       ·rw [if_pos c12] at H
        have c12b0 := decide_eq_true c12
        clear c12
        obtain ⟨y474, hy474⟩ : ∃ y_ : List Int, y_ = (([bt a2 t471] : List Int)) := ⟨_, rfl⟩
        replace H : ((spec_l1Cur_pick.f s0_0 t472 t473 3).bind fun bt477 => (if bt477.1 = 0 then (if 0 ≤ t468 then (if t468 ≤ (x1_1.size : Int) then (if (x1_1.extract 0 (t468 : Int).toNat).size + (strOfNums y474).size ≤ 9223372036854775807 then (if ((x1_1.extract 0 (t468 : Int).toNat) ++ (strOfNums y474)).size + (x1_1.extract (t468 : Int).toNat x1_1.size).size ≤ 9223372036854775807 then (spec_l1Cur_spoilt.l0 kj5 (((x1_1.extract 0 (t468 : Int).toNat) ++ (strOfNums y474)) ++ (x1_1.extract (t468 : Int).toNat x1_1.size)) a2 (wrap64 (x7_1 - 1)) s0_0 bt477.2.1 bt477.2.2) else (none)) else (none)) else (none)) else (none)) else (if bt477.1 = 1 then (if 0 ≤ t468 then (if t468 ≤ (x1_1.size : Int) then (if (x1_1.extract 0 (t468 : Int).toNat).size + (strOfNums y474).size ≤ 9223372036854775807 then (if 0 ≤ (wrap64 (t468 + 1)) then (if (wrap64 (t468 + 1)) ≤ (x1_1.size : Int) then (if ((x1_1.extract 0 (t468 : Int).toNat) ++ (strOfNums y474)).size + (x1_1.extract ((wrap64 (t468 + 1)) : Int).toNat x1_1.size).size ≤ 9223372036854775807 then (spec_l1Cur_spoilt.l0 kj5 (((x1_1.extract 0 (t468 : Int).toNat) ++ (strOfNums y474)) ++ (x1_1.extract ((wrap64 (t468 + 1)) : Int).toNat x1_1.size)) a2 (wrap64 (x7_1 - 1)) s0_0 bt477.2.1 bt477.2.2) else (none)) else (none)) else (none)) else (none)) else (none)) else (none)) else (if 0 ≤ t468 then (if t468 ≤ (x1_1.size : Int) then (if 0 ≤ (wrap64 (t468 + 1)) then (if (wrap64 (t468 + 1)) ≤ (x1_1.size : Int) then (if (x1_1.extract 0 (t468 : Int).toNat).size + (x1_1.extract ((wrap64 (t468 + 1)) : Int).toNat x1_1.size).size ≤ 9223372036854775807 then (spec_l1Cur_spoilt.l0 kj5 ((x1_1.extract 0 (t468 : Int).toNat) ++ (x1_1.extract ((wrap64 (t468 + 1)) : Int).toNat x1_1.size)) a2 (wrap64 (x7_1 - 1)) s0_0 bt477.2.1 bt477.2.2) else (none)) else (none)) else (none)) else (none)) else (none))))) = some (r1, r2, r3) := by first | (rw [hy474]; with_reducible exact H) | (have H2_ := (Option.bind_some _ _).symm.trans H; rw [hy474]; with_reducible exact H2_) | (have H2_ := (Option.bind_some _ _).symm.trans H; with_reducible exact H2_) | with_reducible exact H | (rw [hy474]; exact H) | exact H
        have Ny474 := Az_ hy474
        clear hy474
        replace H := bqz_ H; obtain ⟨⟨t477, t478, t479⟩, A14, H⟩ := H
        replace H : (if t477 = 0 then (if 0 ≤ t468 then (if t468 ≤ (x1_1.size : Int) then (if (x1_1.extract 0 (t468 : Int).toNat).size + (strOfNums y474).size ≤ 9223372036854775807 then (if ((x1_1.extract 0 (t468 : Int).toNat) ++ (strOfNums y474)).size + (x1_1.extract (t468 : Int).toNat x1_1.size).size ≤ 9223372036854775807 then (spec_l1Cur_spoilt.l0 kj5 (((x1_1.extract 0 (t468 : Int).toNat) ++ (strOfNums y474)) ++ (x1_1.extract (t468 : Int).toNat x1_1.size)) a2 (wrap64 (x7_1 - 1)) s0_0 t478 t479) else (none)) else (none)) else (none)) else (none)) else (if t477 = 1 then (if 0 ≤ t468 then (if t468 ≤ (x1_1.size : Int) then (if (x1_1.extract 0 (t468 : Int).toNat).size + (strOfNums y474).size ≤ 9223372036854775807 then (if 0 ≤ (wrap64 (t468 + 1)) then (if (wrap64 (t468 + 1)) ≤ (x1_1.size : Int) then (if ((x1_1.extract 0 (t468 : Int).toNat) ++ (strOfNums y474)).size + (x1_1.extract ((wrap64 (t468 + 1)) : Int).toNat x1_1.size).size ≤ 9223372036854775807 then (spec_l1Cur_spoilt.l0 kj5 (((x1_1.extract 0 (t468 : Int).toNat) ++ (strOfNums y474)) ++ (x1_1.extract ((wrap64 (t468 + 1)) : Int).toNat x1_1.size)) a2 (wrap64 (x7_1 - 1)) s0_0 t478 t479) else (none)) else (none)) else (none)) else (none)) else (none)) else (none)) else (if 0 ≤ t468 then (if t468 ≤ (x1_1.size : Int) then (if 0 ≤ (wrap64 (t468 + 1)) then (if (wrap64 (t468 + 1)) ≤ (x1_1.size : Int) then (if (x1_1.extract 0 (t468 : Int).toNat).size + (x1_1.extract ((wrap64 (t468 + 1)) : Int).toNat x1_1.size).size ≤ 9223372036854775807 then (spec_l1Cur_spoilt.l0 kj5 ((x1_1.extract 0 (t468 : Int).toNat) ++ (x1_1.extract ((wrap64 (t468 + 1)) : Int).toNat x1_1.size)) a2 (wrap64 (x7_1 - 1)) s0_0 t478 t479) else (none)) else (none)) else (none)) else (none)) else (none)))) = some (r1, r2, r3) := H
        by_cases c15 : t477 = 0
        ·rw [if_pos c15] at H
         have c15b0 : (t477 == 0) = true := beq_iff_eq.mpr c15
         have c15b1 : (t477 != 0) = false := bne_eq_false_iff_eq.mpr c15
         clear c15
         by_cases c16 : 0 ≤ t468
         ·rw [if_pos c16] at H
          have c16b0 := eq_true c16
          have c16b1 := decide_eq_true c16
          clear c16
          by_cases c17 : t468 ≤ (x1_1.size : Int)
          ·rw [if_pos c17] at H
           have c17b0 := eq_true c17
           have c17b1 := decide_eq_true c17
           clear c17
           by_cases c18 : (x1_1.extract 0 (t468 : Int).toNat).size + (strOfNums y474).size ≤ 9223372036854775807
           ·rw [if_pos c18] at H
            have c18b0 := eq_true c18
            have c18b1 := decide_eq_true c18
            try have c18b2 : (9223372036854775807 < (x1_1.extract 0 (t468 : Int).toNat).size + (strOfNums y474).size) = False := eq_false (Nat.not_lt.2 c18)
            have c19b0 := eq_true (of_decide_eq_true asz_ : 0 ≤ t468)
            have c20b0 := eq_true (of_decide_eq_true asz_ : t468 ≤ (x1_1.size : Int))
            by_cases c21 : ((x1_1.extract 0 (t468 : Int).toNat) ++ (strOfNums y474)).size + (x1_1.extract (t468 : Int).toNat x1_1.size).size ≤ 9223372036854775807
            ·rw [if_pos c21] at H
             have c21b0 := eq_true c21
             have c21b1 := decide_eq_true c21
             try have c21b2 : (9223372036854775807 < ((x1_1.extract 0 (t468 : Int).toNat) ++ (strOfNums y474)).size + (x1_1.extract (t468 : Int).toNat x1_1.size).size) = False := eq_false (Nat.not_lt.2 c21)
             have H' := Az_ H
             clear H
             go_wp2_with (first | (go_at_call 96; (with_reducible refine (spec_l1Cur_pick.calls g s0_0 x1001_1 x1002_1 (x1_1.size : Int) t468 t469 t470 w0 _ ?side1 ?side2 A9.out).mono ?_); (case side1 => repeat (first | (with_reducible first | exact HI0.out | apply IsS111.alloc | apply IsS111.drewN | apply IsS111.drew | apply IsS111.set_1 | apply IsS111.set_2) | exact HI0.out)); (case side2 => repeat (first | (with_reducible first | exact HB.out | apply baz_ | apply bnz_ | apply bdz_ | refine bsz_ ?_ (IsS111.ge HI0.out)) | exact HB.out)); rintro e w22 ⟨rfl, hi, hb, hk⟩; replace HK := Az_ (KeepBut.trans (by repeat (first | (with_reducible first | exact HK.out | apply KeepBut.set_ | apply keep_drewN | apply keep_drew | apply keep_alloc) | exact HK.out)) hk (.inl rfl)); replace HB := Az_ (hb); replace HI0 := Az_ (hi); (try clear hb); (try clear hk); (try clear hi)) | (go_at_call 96; (with_reducible refine (spec_l1Cur_pick.calls g s0_0 t469 t470 (a2.size : Int) t471 t472 t473 w0 _ ?side1 ?side2 A10.out).mono ?_); (case side1 => repeat (first | (with_reducible first | exact HI0.out | apply IsS111.alloc | apply IsS111.drewN | apply IsS111.drew | apply IsS111.set_1 | apply IsS111.set_2) | exact HI0.out)); (case side2 => repeat (first | (with_reducible first | exact HB.out | apply baz_ | apply bnz_ | apply bdz_ | refine bsz_ ?_ (IsS111.ge HI0.out)) | exact HB.out)); rintro e w23 ⟨rfl, hi, hb, hk⟩; replace HK := Az_ (KeepBut.trans (by repeat (first | (with_reducible first | exact HK.out | apply KeepBut.set_ | apply keep_drewN | apply keep_drew | apply keep_alloc) | exact HK.out)) hk (.inl rfl)); replace HB := Az_ (hb); replace HI0 := Az_ (hi); (try clear hb); (try clear hk); (try clear hi); have p13 : 0 ≤ (t471 : Int) := of_decide_eq_true asz_; have q13 : t471 < (a2.size : Int) := of_decide_eq_true asz_; have hx13 := bt_at a2 t471; replace p13 := eq_true p13; replace q13 := eq_true q13) | ((with_reducible refine gate_dst (N := 32) rfl ?_); (try (refine gate_guard (by rfl) ?_; dsimp only)); refine Kd.R_lit (Kd.int .u8) _ 5 ?hg (N := 32) ?hd (xs := ([bt a2 t471] : List Int)) (inner := [.int .u8 (bt a2 t471)]) (ok := fun _ => True) (okp := fun _ => True) ?hr ?hp (fun _ hk => hk) trivial (Below.refl _ _) (Nat.le_refl _) (by simp) ?_; (case hd => rfl); (case hg => rfl); (case hr => first | (go_simp; done) | (go_simp; rfl)); (case hp => exact (Reps.one (show Kd.M (Kd.int .u8) _ _ _ (bt a2 t471) [.int .u8 (bt a2 t471)] from rfl) (Reps.none _ _))); intro v475 w24 ho25 hb hg_ hnew_; clear hg_ hnew_; (first | rw [← Ny474.out] at ho25 | (simp only [Int.reduceToNat] at ho25; rw [← Ny474.out] at ho25)); have HO476 := Az_ (Kd.R_lower ho25 (keep_size (w := w) (g := g) (row := none) (by repeat (first | (with_reducible first | exact HK.out | apply KeepBut.set_ | apply keep_drewN | apply keep_drew | apply keep_alloc) | exact HK.out)))); replace HK := Az_ (KeepBut.trans (by repeat (first | (with_reducible first | exact HK.out | apply KeepBut.set_ | apply keep_drewN | apply keep_drew | apply keep_alloc) | exact HK.out)) (KeepBut.of_below hb g none) (.inl rfl)); replace HB := Az_ (btz_ (by repeat (first | (with_reducible first | exact HB.out | apply baz_ | apply bnz_ | apply bdz_ | refine bsz_ ?_ (IsS111.ge HI0.out)) | exact HB.out)) hb); replace HI0 := Az_ (IsS111.below (by repeat (first | (with_reducible first | exact HI0.out | apply IsS111.alloc | apply IsS111.drewN | apply IsS111.drew | apply IsS111.set_1 | apply IsS111.set_2) | exact HI0.out)) hb); clear hb ho25; have hcv26 := own_string (P := Tryd.prog) Tryd.underlying22 Tryd.underlying5 Tryd.underlying9 (Kd.own_of_R HO476.out)) | (go_at_call 96; (with_reducible refine (spec_l1Cur_pick.calls g s0_0 t472 t473 3 t477 t478 t479 w0 _ ?side1 ?side2 A14.out).mono ?_); (case side1 => repeat (first | (with_reducible first | exact HI0.out | apply IsS111.alloc | apply IsS111.drewN | apply IsS111.drew | apply IsS111.set_1 | apply IsS111.set_2) | exact HI0.out)); (case side2 => repeat (first | (with_reducible first | exact HB.out | apply baz_ | apply bnz_ | apply bdz_ | refine bsz_ ?_ (IsS111.ge HI0.out)) | exact HB.out)); rintro e w27 ⟨rfl, hi, hb, hk⟩; replace HO476 := Az_ (Kd.R_mono (Kd.R_keep (IsS111.apart (show IsS111 w0 _ g s0_0 t472 t473 from by repeat (first | (with_reducible first | exact HI0.out | apply IsS111.alloc | apply IsS111.drewN | apply IsS111.drew | apply IsS111.set_1 | apply IsS111.set_2) | exact HI0.out)) (by exact urz_ HO476.out) (by decide)) hk (fun _ h => h.2)) (fun _ h => h.1)); replace HK := Az_ (KeepBut.trans (by repeat (first | (with_reducible first | exact HK.out | apply KeepBut.set_ | apply keep_drewN | apply keep_drew | apply keep_alloc) | exact HK.out)) hk (.inl rfl)); replace HB := Az_ (hb); replace HI0 := Az_ (hi); (try clear hb); (try clear hk); (try clear hi)))
             repeat (go_quiet (first | (go_at_call 96; (with_reducible refine (spec_l1Cur_pick.calls g s0_0 x1001_1 x1002_1 (x1_1.size : Int) t468 t469 t470 w0 _ ?side1 ?side2 A9.out).mono ?_); (case side1 => repeat (first | (with_reducible first | exact HI0.out | apply IsS111.alloc | apply IsS111.drewN | apply IsS111.drew | apply IsS111.set_1 | apply IsS111.set_2) | exact HI0.out)); (case side2 => repeat (first | (with_reducible first | exact HB.out | apply baz_ | apply bnz_ | apply bdz_ | refine bsz_ ?_ (IsS111.ge HI0.out)) | exact HB.out)); rintro e w22 ⟨rfl, hi, hb, hk⟩; replace HK := Az_ (KeepBut.trans (by repeat (first | (with_reducible first | exact HK.out | apply KeepBut.set_ | apply keep_drewN | apply keep_drew | apply keep_alloc) | exact HK.out)) hk (.inl rfl)); replace HB := Az_ (hb); replace HI0 := Az_ (hi)) | (go_at_call 96; (with_reducible refine (spec_l1Cur_pick.calls g s0_0 t469 t470 (a2.size : Int) t471 t472 t473 w0 _ ?side1 ?side2 A10.out).mono ?_); (case side1 => repeat (first | (with_reducible first | exact HI0.out | apply IsS111.alloc | apply IsS111.drewN | apply IsS111.drew | apply IsS111.set_1 | apply IsS111.set_2) | exact HI0.out)); (case side2 => repeat (first | (with_reducible first | exact HB.out | apply baz_ | apply bnz_ | apply bdz_ | refine bsz_ ?_ (IsS111.ge HI0.out)) | exact HB.out)); rintro e w23 ⟨rfl, hi, hb, hk⟩; replace HK := Az_ (KeepBut.trans (by repeat (first | (with_reducible first | exact HK.out | apply KeepBut.set_ | apply keep_drewN | apply keep_drew | apply keep_alloc) | exact HK.out)) hk (.inl rfl)); replace HB := Az_ (hb); replace HI0 := Az_ (hi); have p13 : 0 ≤ (t471 : Int) := of_decide_eq_true asz_; have q13 : t471 < (a2.size : Int) := of_decide_eq_true asz_; have hx13 := bt_at a2 t471; replace p13 := eq_true p13; replace q13 := eq_true q13) | ((with_reducible refine gate_dst (N := 32) rfl ?_); (try (refine gate_guard (by rfl) ?_; dsimp only)); refine Kd.R_lit (Kd.int .u8) _ 5 ?hg (N := 32) ?hd (xs := ([bt a2 t471] : List Int)) (inner := [.int .u8 (bt a2 t471)]) (ok := fun _ => True) (okp := fun _ => True) ?hr ?hp (fun _ hk => hk) trivial (Below.refl _ _) (Nat.le_refl _) (by simp) ?_; (case hd => rfl); (case hg => rfl); (case hr => first | (go_simp; done) | (go_simp; rfl)); (case hp => exact (Reps.one (show Kd.M (Kd.int .u8) _ _ _ (bt a2 t471) [.int .u8 (bt a2 t471)] from rfl) (Reps.none _ _))); intro v475 w24 ho25 hb hg_ hnew_; clear hg_ hnew_; (first | rw [← Ny474.out] at ho25 | (simp only [Int.reduceToNat] at ho25; rw [← Ny474.out] at ho25)); have HO476 := Az_ (Kd.R_lower ho25 (keep_size (w := w) (g := g) (row := none) (by repeat (first | (with_reducible first | exact HK.out | apply KeepBut.set_ | apply keep_drewN | apply keep_drew | apply keep_alloc) | exact HK.out)))); replace HK := Az_ (KeepBut.trans (by repeat (first | (with_reducible first | exact HK.out | apply KeepBut.set_ | apply keep_drewN | apply keep_drew | apply keep_alloc) | exact HK.out)) (KeepBut.of_below hb g none) (.inl rfl)); replace HB := Az_ (btz_ (by repeat (first | (with_reducible first | exact HB.out | apply baz_ | apply bnz_ | apply bdz_ | refine bsz_ ?_ (IsS111.ge HI0.out)) | exact HB.out)) hb); replace HI0 := Az_ (IsS111.below (by repeat (first | (with_reducible first | exact HI0.out | apply IsS111.alloc | apply IsS111.drewN | apply IsS111.drew | apply IsS111.set_1 | apply IsS111.set_2) | exact HI0.out)) hb); clear hb ho25; have hcv26 := own_string (P := Tryd.prog) Tryd.underlying22 Tryd.underlying5 Tryd.underlying9 (Kd.own_of_R HO476.out)) | (go_at_call 96; (with_reducible refine (spec_l1Cur_pick.calls g s0_0 t472 t473 3 t477 t478 t479 w0 _ ?side1 ?side2 A14.out).mono ?_); (case side1 => repeat (first | (with_reducible first | exact HI0.out | apply IsS111.alloc | apply IsS111.drewN | apply IsS111.drew | apply IsS111.set_1 | apply IsS111.set_2) | exact HI0.out)); (case side2 => repeat (first | (with_reducible first | exact HB.out | apply baz_ | apply bnz_ | apply bdz_ | refine bsz_ ?_ (IsS111.ge HI0.out)) | exact HB.out)); rintro e w27 ⟨rfl, hi, hb, hk⟩; replace HO476 := Az_ (Kd.R_mono (Kd.R_keep (IsS111.apart (show IsS111 w0 _ g s0_0 t472 t473 from by repeat (first | (with_reducible first | exact HI0.out | apply IsS111.alloc | apply IsS111.drewN | apply IsS111.drew | apply IsS111.set_1 | apply IsS111.set_2) | exact HI0.out)) (by exact urz_ HO476.out) (by decide)) hk (fun _ h => h.2)) (fun _ h => h.1)); replace HK := Az_ (KeepBut.trans (by repeat (first | (with_reducible first | exact HK.out | apply KeepBut.set_ | apply keep_drewN | apply keep_drew | apply keep_alloc) | exact HK.out)) hk (.inl rfl)); replace HB := Az_ (hb); replace HI0 := Az_ (hi))); try go_wp2_with (first | (go_at_call 96; (with_reducible refine (spec_l1Cur_pick.calls g s0_0 x1001_1 x1002_1 (x1_1.size : Int) t468 t469 t470 w0 _ ?side1 ?side2 A9.out).mono ?_); (case side1 => repeat (first | (with_reducible first | exact HI0.out | apply IsS111.alloc | apply IsS111.drewN | apply IsS111.drew | apply IsS111.set_1 | apply IsS111.set_2) | exact HI0.out)); (case side2 => repeat (first | (with_reducible first | exact HB.out | apply baz_ | apply bnz_ | apply bdz_ | refine bsz_ ?_ (IsS111.ge HI0.out)) | exact HB.out)); rintro e w22 ⟨rfl, hi, hb, hk⟩; replace HK := Az_ (KeepBut.trans (by repeat (first | (with_reducible first | exact HK.out | apply KeepBut.set_ | apply keep_drewN | apply keep_drew | apply keep_alloc) | exact HK.out)) hk (.inl rfl)); replace HB := Az_ (hb); replace HI0 := Az_ (hi)) | (go_at_call 96; (with_reducible refine (spec_l1Cur_pick.calls g s0_0 t469 t470 (a2.size : Int) t471 t472 t473 w0 _ ?side1 ?side2 A10.out).mono ?_); (case side1 => repeat (first | (with_reducible first | exact HI0.out | apply IsS111.alloc | apply IsS111.drewN | apply IsS111.drew | apply IsS111.set_1 | apply IsS111.set_2) | exact HI0.out)); (case side2 => repeat (first | (with_reducible first | exact HB.out | apply baz_ | apply bnz_ | apply bdz_ | refine bsz_ ?_ (IsS111.ge HI0.out)) | exact HB.out)); rintro e w23 ⟨rfl, hi, hb, hk⟩; replace HK := Az_ (KeepBut.trans (by repeat (first | (with_reducible first | exact HK.out | apply KeepBut.set_ | apply keep_drewN | apply keep_drew | apply keep_alloc) | exact HK.out)) hk (.inl rfl)); replace HB := Az_ (hb); replace HI0 := Az_ (hi); have p13 : 0 ≤ (t471 : Int) := of_decide_eq_true asz_; have q13 : t471 < (a2.size : Int) := of_decide_eq_true asz_; have hx13 := bt_at a2 t471; replace p13 := eq_true p13; replace q13 := eq_true q13) | ((with_reducible refine gate_dst (N := 32) rfl ?_); (try (refine gate_guard (by rfl) ?_; dsimp only)); refine Kd.R_lit (Kd.int .u8) _ 5 ?hg (N := 32) ?hd (xs := ([bt a2 t471] : List Int)) (inner := [.int .u8 (bt a2 t471)]) (ok := fun _ => True) (okp := fun _ => True) ?hr ?hp (fun _ hk => hk) trivial (Below.refl _ _) (Nat.le_refl _) (by simp) ?_; (case hd => rfl); (case hg => rfl); (case hr => first | (go_simp; done) | (go_simp; rfl)); (case hp => exact (Reps.one (show Kd.M (Kd.int .u8) _ _ _ (bt a2 t471) [.int .u8 (bt a2 t471)] from rfl) (Reps.none _ _))); intro v475 w24 ho25 hb hg_ hnew_; clear hg_ hnew_; (first | rw [← Ny474.out] at ho25 | (simp only [Int.reduceToNat] at ho25; rw [← Ny474.out] at ho25)); have HO476 := Az_ (Kd.R_lower ho25 (keep_size (w := w) (g := g) (row := none) (by repeat (first | (with_reducible first | exact HK.out | apply KeepBut.set_ | apply keep_drewN | apply keep_drew | apply keep_alloc) | exact HK.out)))); replace HK := Az_ (KeepBut.trans (by repeat (first | (with_reducible first | exact HK.out | apply KeepBut.set_ | apply keep_drewN | apply keep_drew | apply keep_alloc) | exact HK.out)) (KeepBut.of_below hb g none) (.inl rfl)); replace HB := Az_ (btz_ (by repeat (first | (with_reducible first | exact HB.out | apply baz_ | apply bnz_ | apply bdz_ | refine bsz_ ?_ (IsS111.ge HI0.out)) | exact HB.out)) hb); replace HI0 := Az_ (IsS111.below (by repeat (first | (with_reducible first | exact HI0.out | apply IsS111.alloc | apply IsS111.drewN | apply IsS111.drew | apply IsS111.set_1 | apply IsS111.set_2) | exact HI0.out)) hb); clear hb ho25; have hcv26 := own_string (P := Tryd.prog) Tryd.underlying22 Tryd.underlying5 Tryd.underlying9 (Kd.own_of_R HO476.out)) | (go_at_call 96; (with_reducible refine (spec_l1Cur_pick.calls g s0_0 t472 t473 3 t477 t478 t479 w0 _ ?side1 ?side2 A14.out).mono ?_); (case side1 => repeat (first | (with_reducible first | exact HI0.out | apply IsS111.alloc | apply IsS111.drewN | apply IsS111.drew | apply IsS111.set_1 | apply IsS111.set_2) | exact HI0.out)); (case side2 => repeat (first | (with_reducible first | exact HB.out | apply baz_ | apply bnz_ | apply bdz_ | refine bsz_ ?_ (IsS111.ge HI0.out)) | exact HB.out)); rintro e w27 ⟨rfl, hi, hb, hk⟩; replace HO476 := Az_ (Kd.R_mono (Kd.R_keep (IsS111.apart (show IsS111 w0 _ g s0_0 t472 t473 from by repeat (first | (with_reducible first | exact HI0.out | apply IsS111.alloc | apply IsS111.drewN | apply IsS111.drew | apply IsS111.set_1 | apply IsS111.set_2) | exact HI0.out)) (by exact urz_ HO476.out) (by decide)) hk (fun _ h => h.2)) (fun _ h => h.1)); replace HK := Az_ (KeepBut.trans (by repeat (first | (with_reducible first | exact HK.out | apply KeepBut.set_ | apply keep_drewN | apply keep_drew | apply keep_alloc) | exact HK.out)) hk (.inl rfl)); replace HB := Az_ (hb); replace HI0 := Az_ (hi))))
             go_roundg kj5
             case measure => have := HK1.out; have := HJ5.out; omega
             case rel => exact ⟨(((x1_1.extract 0 (t468 : Int).toNat) ++ (strOfNums y474)) ++ (x1_1.extract (t468 : Int).toNat x1_1.size)), (wrap64 (x7_1 - 1)), (t478), (t479), qaz_, qaz_, H', ⟨by have := HK1.out; have := HJ5.out; omega⟩, ⟨by repeat (first | (with_reducible first | exact HI0.out | apply IsS111.alloc | apply IsS111.drewN | apply IsS111.drew | apply IsS111.set_1 | apply IsS111.set_2) | exact HI0.out)⟩, ⟨by repeat (first | (with_reducible first | exact HK.out | apply KeepBut.set_ | apply keep_drewN | apply keep_drew | apply keep_alloc) | exact HK.out)⟩, ⟨by repeat (first | (with_reducible first | exact HB.out | apply baz_ | apply bnz_ | apply bdz_ | refine bsz_ ?_ (IsS111.ge HI0.out)) | exact HB.out)⟩⟩
            ·rw [if_neg c21] at H
             exact absurd H (by simp)
           ·rw [if_neg c18] at H
            exact absurd H (by simp)
          ·rw [if_neg c17] at H
           exact absurd H (by simp)
         ·rw [if_neg c16] at H
          exact absurd H (by simp)
        ·rw [if_neg c15] at H
         have c15b0 : (t477 == 0) = false := beq_eq_false_iff_ne.mpr c15
         have c15b1 : (t477 != 0) = true := bne_iff_ne.mpr c15
         by_cases c28 : t477 = 1
         ·rw [if_pos c28] at H
          have c28b0 : (t477 == 1) = true := beq_iff_eq.mpr c28
          have c28b1 : (t477 != 1) = false := bne_eq_false_iff_eq.mpr c28
          clear c28
          by_cases c29 : 0 ≤ t468
          ·rw [if_pos c29] at H
           have c29b0 := eq_true c29
           have c29b1 := decide_eq_true c29
           clear c29
           by_cases c30 : t468 ≤ (x1_1.size : Int)
           ·rw [if_pos c30] at H
            have c30b0 := eq_true c30
            have c30b1 := decide_eq_true c30
            clear c30
            by_cases c31 : (x1_1.extract 0 (t468 : Int).toNat).size + (strOfNums y474).size ≤ 9223372036854775807
            ·rw [if_pos c31] at H
             have c31b0 := eq_true c31
             have c31b1 := decide_eq_true c31
             try have c31b2 : (9223372036854775807 < (x1_1.extract 0 (t468 : Int).toNat).size + (strOfNums y474).size) = False := eq_false (Nat.not_lt.2 c31)
             obtain ⟨ji32, hji32⟩ : ∃ j_ : Int, (wrap64 (t468 + 1)) = j_ := ⟨_, rfl⟩
             replace H : (if 0 ≤ (ji32) then (if (ji32) ≤ (x1_1.size : Int) then (if ((x1_1.extract 0 (t468 : Int).toNat) ++ (strOfNums y474)).size + (x1_1.extract ((ji32) : Int).toNat x1_1.size).size ≤ 9223372036854775807 then (spec_l1Cur_spoilt.l0 kj5 (((x1_1.extract 0 (t468 : Int).toNat) ++ (strOfNums y474)) ++ (x1_1.extract ((ji32) : Int).toNat x1_1.size)) a2 (wrap64 (x7_1 - 1)) s0_0 t478 t479) else (none)) else (none)) else (none)) = some (r1, r2, r3) := by first | (rw [hji32] at H; exact H) | (simp only [hji32] at H ⊢; exact H)
             (try rw [hji32] at A9)
             (try rw [hji32] at A10)
             (try rw [hji32] at A14)
             have hji32w : (IntKind.i64.wrap (t468 + 1)) = ji32 := (i64_w _).trans hji32
             by_cases c33 : 0 ≤ (ji32)
             ·rw [if_pos c33] at H
              have c33b0 := eq_true c33
              have c33b1 := decide_eq_true c33
              clear c33
              by_cases c34 : (ji32) ≤ (x1_1.size : Int)
              ·rw [if_pos c34] at H
               have c34b0 := eq_true c34
               have c34b1 := decide_eq_true c34
               clear c34
               by_cases c35 : ((x1_1.extract 0 (t468 : Int).toNat) ++ (strOfNums y474)).size + (x1_1.extract ((ji32) : Int).toNat x1_1.size).size ≤ 9223372036854775807
               ·rw [if_pos c35] at H
                have c35b0 := eq_true c35
                have c35b1 := decide_eq_true c35
                try have c35b2 : (9223372036854775807 < ((x1_1.extract 0 (t468 : Int).toNat) ++ (strOfNums y474)).size + (x1_1.extract ((ji32) : Int).toNat x1_1.size).size) = False := eq_false (Nat.not_lt.2 c35)
                have H' := Az_ H
                clear H
                go_wp2_with (first | (go_at_call 96; (with_reducible refine (spec_l1Cur_pick.calls g s0_0 x1001_1 x1002_1 (x1_1.size : Int) t468 t469 t470 w0 _ ?side1 ?side2 A9.out).mono ?_); (case side1 => repeat (first | (with_reducible first | exact HI0.out | apply IsS111.alloc | apply IsS111.drewN | apply IsS111.drew | apply IsS111.set_1 | apply IsS111.set_2) | exact HI0.out)); (case side2 => repeat (first | (with_reducible first | exact HB.out | apply baz_ | apply bnz_ | apply bdz_ | refine bsz_ ?_ (IsS111.ge HI0.out)) | exact HB.out)); rintro e w36 ⟨rfl, hi, hb, hk⟩; replace HK := Az_ (KeepBut.trans (by repeat (first | (with_reducible first | exact HK.out | apply KeepBut.set_ | apply keep_drewN | apply keep_drew | apply keep_alloc) | exact HK.out)) hk (.inl rfl)); replace HB := Az_ (hb); replace HI0 := Az_ (hi); (try clear hb); (try clear hk); (try clear hi)) | (go_at_call 96; (with_reducible refine (spec_l1Cur_pick.calls g s0_0 t469 t470 (a2.size : Int) t471 t472 t473 w0 _ ?side1 ?side2 A10.out).mono ?_); (case side1 => repeat (first | (with_reducible first | exact HI0.out | apply IsS111.alloc | apply IsS111.drewN | apply IsS111.drew | apply IsS111.set_1 | apply IsS111.set_2) | exact HI0.out)); (case side2 => repeat (first | (with_reducible first | exact HB.out | apply baz_ | apply bnz_ | apply bdz_ | refine bsz_ ?_ (IsS111.ge HI0.out)) | exact HB.out)); rintro e w37 ⟨rfl, hi, hb, hk⟩; replace HK := Az_ (KeepBut.trans (by repeat (first | (with_reducible first | exact HK.out | apply KeepBut.set_ | apply keep_drewN | apply keep_drew | apply keep_alloc) | exact HK.out)) hk (.inl rfl)); replace HB := Az_ (hb); replace HI0 := Az_ (hi); (try clear hb); (try clear hk); (try clear hi); have p13 : 0 ≤ (t471 : Int) := of_decide_eq_true asz_; have q13 : t471 < (a2.size : Int) := of_decide_eq_true asz_; have hx13 := bt_at a2 t471; replace p13 := eq_true p13; replace q13 := eq_true q13) | ((with_reducible refine gate_dst (N := 32) rfl ?_); (try (refine gate_guard (by rfl) ?_; dsimp only)); refine Kd.R_lit (Kd.int .u8) _ 5 ?hg (N := 32) ?hd (xs := ([bt a2 t471] : List Int)) (inner := [.int .u8 (bt a2 t471)]) (ok := fun _ => True) (okp := fun _ => True) ?hr ?hp (fun _ hk => hk) trivial (Below.refl _ _) (Nat.le_refl _) (by simp) ?_; (case hd => rfl); (case hg => rfl); (case hr => first | (go_simp; done) | (go_simp; rfl)); (case hp => exact (Reps.one (show Kd.M (Kd.int .u8) _ _ _ (bt a2 t471) [.int .u8 (bt a2 t471)] from rfl) (Reps.none _ _))); intro v475 w38 ho39 hb hg_ hnew_; clear hg_ hnew_; (first | rw [← Ny474.out] at ho39 | (simp only [Int.reduceToNat] at ho39; rw [← Ny474.out] at ho39)); have HO476 := Az_ (Kd.R_lower ho39 (keep_size (w := w) (g := g) (row := none) (by repeat (first | (with_reducible first | exact HK.out | apply KeepBut.set_ | apply keep_drewN | apply keep_drew | apply keep_alloc) | exact HK.out)))); replace HK := Az_ (KeepBut.trans (by repeat (first | (with_reducible first | exact HK.out | apply KeepBut.set_ | apply keep_drewN | apply keep_drew | apply keep_alloc) | exact HK.out)) (KeepBut.of_below hb g none) (.inl rfl)); replace HB := Az_ (btz_ (by repeat (first | (with_reducible first | exact HB.out | apply baz_ | apply bnz_ | apply bdz_ | refine bsz_ ?_ (IsS111.ge HI0.out)) | exact HB.out)) hb); replace HI0 := Az_ (IsS111.below (by repeat (first | (with_reducible first | exact HI0.out | apply IsS111.alloc | apply IsS111.drewN | apply IsS111.drew | apply IsS111.set_1 | apply IsS111.set_2) | exact HI0.out)) hb); clear hb ho39; have hcv40 := own_string (P := Tryd.prog) Tryd.underlying22 Tryd.underlying5 Tryd.underlying9 (Kd.own_of_R HO476.out)) | (go_at_call 96; (with_reducible refine (spec_l1Cur_pick.calls g s0_0 t472 t473 3 t477 t478 t479 w0 _ ?side1 ?side2 A14.out).mono ?_); (case side1 => repeat (first | (with_reducible first | exact HI0.out | apply IsS111.alloc | apply IsS111.drewN | apply IsS111.drew | apply IsS111.set_1 | apply IsS111.set_2) | exact HI0.out)); (case side2 => repeat (first | (with_reducible first | exact HB.out | apply baz_ | apply bnz_ | apply bdz_ | refine bsz_ ?_ (IsS111.ge HI0.out)) | exact HB.out)); rintro e w41 ⟨rfl, hi, hb, hk⟩; replace HO476 := Az_ (Kd.R_mono (Kd.R_keep (IsS111.apart (show IsS111 w0 _ g s0_0 t472 t473 from by repeat (first | (with_reducible first | exact HI0.out | apply IsS111.alloc | apply IsS111.drewN | apply IsS111.drew | apply IsS111.set_1 | apply IsS111.set_2) | exact HI0.out)) (by exact urz_ HO476.out) (by decide)) hk (fun _ h => h.2)) (fun _ h => h.1)); replace HK := Az_ (KeepBut.trans (by repeat (first | (with_reducible first | exact HK.out | apply KeepBut.set_ | apply keep_drewN | apply keep_drew | apply keep_alloc) | exact HK.out)) hk (.inl rfl)); replace HB := Az_ (hb); replace HI0 := Az_ (hi); (try clear hb); (try clear hk); (try clear hi)))
                repeat (go_quiet (first | (go_at_call 96; (with_reducible refine (spec_l1Cur_pick.calls g s0_0 x1001_1 x1002_1 (x1_1.size : Int) t468 t469 t470 w0 _ ?side1 ?side2 A9.out).mono ?_); (case side1 => repeat (first | (with_reducible first | exact HI0.out | apply IsS111.alloc | apply IsS111.drewN | apply IsS111.drew | apply IsS111.set_1 | apply IsS111.set_2) | exact HI0.out)); (case side2 => repeat (first | (with_reducible first | exact HB.out | apply baz_ | apply bnz_ | apply bdz_ | refine bsz_ ?_ (IsS111.ge HI0.out)) | exact HB.out)); rintro e w36 ⟨rfl, hi, hb, hk⟩; replace HK := Az_ (KeepBut.trans (by repeat (first | (with_reducible first | exact HK.out | apply KeepBut.set_ | apply keep_drewN | apply keep_drew | apply keep_alloc) | exact HK.out)) hk (.inl rfl)); replace HB := Az_ (hb); replace HI0 := Az_ (hi)) | (go_at_call 96; (with_reducible refine (spec_l1Cur_pick.calls g s0_0 t469 t470 (a2.size : Int) t471 t472 t473 w0 _ ?side1 ?side2 A10.out).mono ?_); (case side1 => repeat (first | (with_reducible first | exact HI0.out | apply IsS111.alloc | apply IsS111.drewN | apply IsS111.drew | apply IsS111.set_1 | apply IsS111.set_2) | exact HI0.out)); (case side2 => repeat (first | (with_reducible first | exact HB.out | apply baz_ | apply bnz_ | apply bdz_ | refine bsz_ ?_ (IsS111.ge HI0.out)) | exact HB.out)); rintro e w37 ⟨rfl, hi, hb, hk⟩; replace HK := Az_ (KeepBut.trans (by repeat (first | (with_reducible first | exact HK.out | apply KeepBut.set_ | apply keep_drewN | apply keep_drew | apply keep_alloc) | exact HK.out)) hk (.inl rfl)); replace HB := Az_ (hb); replace HI0 := Az_ (hi); have p13 : 0 ≤ (t471 : Int) := of_decide_eq_true asz_; have q13 : t471 < (a2.size : Int) := of_decide_eq_true asz_; have hx13 := bt_at a2 t471; replace p13 := eq_true p13; replace q13 := eq_true q13) | ((with_reducible refine gate_dst (N := 32) rfl ?_); (try (refine gate_guard (by rfl) ?_; dsimp only)); refine Kd.R_lit (Kd.int .u8) _ 5 ?hg (N := 32) ?hd (xs := ([bt a2 t471] : List Int)) (inner := [.int .u8 (bt a2 t471)]) (ok := fun _ => True) (okp := fun _ => True) ?hr ?hp (fun _ hk => hk) trivial (Below.refl _ _) (Nat.le_refl _) (by simp) ?_; (case hd => rfl); (case hg => rfl); (case hr => first | (go_simp; done) | (go_simp; rfl)); (case hp => exact (Reps.one (show Kd.M (Kd.int .u8) _ _ _ (bt a2 t471) [.int .u8 (bt a2 t471)] from rfl) (Reps.none _ _))); intro v475 w38 ho39 hb hg_ hnew_; clear hg_ hnew_; (first | rw [← Ny474.out] at ho39 | (simp only [Int.reduceToNat] at ho39; rw [← Ny474.out] at ho39)); have HO476 := Az_ (Kd.R_lower ho39 (keep_size (w := w) (g := g) (row := none) (by repeat (first | (with_reducible first | exact HK.out | apply KeepBut.set_ | apply keep_drewN | apply keep_drew | apply keep_alloc) | exact HK.out)))); replace HK := Az_ (KeepBut.trans (by repeat (first | (with_reducible first | exact HK.out | apply KeepBut.set_ | apply keep_drewN | apply keep_drew | apply keep_alloc) | exact HK.out)) (KeepBut.of_below hb g none) (.inl rfl)); replace HB := Az_ (btz_ (by repeat (first | (with_reducible first | exact HB.out | apply baz_ | apply bnz_ | apply bdz_ | refine bsz_ ?_ (IsS111.ge HI0.out)) | exact HB.out)) hb); replace HI0 := Az_ (IsS111.below (by repeat (first | (with_reducible first | exact HI0.out | apply IsS111.alloc | apply IsS111.drewN | apply IsS111.drew | apply IsS111.set_1 | apply IsS111.set_2) | exact HI0.out)) hb); clear hb ho39; have hcv40 := own_string (P := Tryd.prog) Tryd.underlying22 Tryd.underlying5 Tryd.underlying9 (Kd.own_of_R HO476.out)) | (go_at_call 96; (with_reducible refine (spec_l1Cur_pick.calls g s0_0 t472 t473 3 t477 t478 t479 w0 _ ?side1 ?side2 A14.out).mono ?_); (case side1 => repeat (first | (with_reducible first | exact HI0.out | apply IsS111.alloc | apply IsS111.drewN | apply IsS111.drew | apply IsS111.set_1 | apply IsS111.set_2) | exact HI0.out)); (case side2 => repeat (first | (with_reducible first | exact HB.out | apply baz_ | apply bnz_ | apply bdz_ | refine bsz_ ?_ (IsS111.ge HI0.out)) | exact HB.out)); rintro e w41 ⟨rfl, hi, hb, hk⟩; replace HO476 := Az_ (Kd.R_mono (Kd.R_keep (IsS111.apart (show IsS111 w0 _ g s0_0 t472 t473 from by repeat (first | (with_reducible first | exact HI0.out | apply IsS111.alloc | apply IsS111.drewN | apply IsS111.drew | apply IsS111.set_1 | apply IsS111.set_2) | exact HI0.out)) (by exact urz_ HO476.out) (by decide)) hk (fun _ h => h.2)) (fun _ h => h.1)); replace HK := Az_ (KeepBut.trans (by repeat (first | (with_reducible first | exact HK.out | apply KeepBut.set_ | apply keep_drewN | apply keep_drew | apply keep_alloc) | exact HK.out)) hk (.inl rfl)); replace HB := Az_ (hb); replace HI0 := Az_ (hi))); try go_wp2_with (first | (go_at_call 96; (with_reducible refine (spec_l1Cur_pick.calls g s0_0 x1001_1 x1002_1 (x1_1.size : Int) t468 t469 t470 w0 _ ?side1 ?side2 A9.out).mono ?_); (case side1 => repeat (first | (with_reducible first | exact HI0.out | apply IsS111.alloc | apply IsS111.drewN | apply IsS111.drew | apply IsS111.set_1 | apply IsS111.set_2) | exact HI0.out)); (case side2 => repeat (first | (with_reducible first | exact HB.out | apply baz_ | apply bnz_ | apply bdz_ | refine bsz_ ?_ (IsS111.ge HI0.out)) | exact HB.out)); rintro e w36 ⟨rfl, hi, hb, hk⟩; replace HK := Az_ (KeepBut.trans (by repeat (first | (with_reducible first | exact HK.out | apply KeepBut.set_ | apply keep_drewN | apply keep_drew | apply keep_alloc) | exact HK.out)) hk (.inl rfl)); replace HB := Az_ (hb); replace HI0 := Az_ (hi)) | (go_at_call 96; (with_reducible refine (spec_l1Cur_pick.calls g s0_0 t469 t470 (a2.size : Int) t471 t472 t473 w0 _ ?side1 ?side2 A10.out).mono ?_); (case side1 => repeat (first | (with_reducible first | exact HI0.out | apply IsS111.alloc | apply IsS111.drewN | apply IsS111.drew | apply IsS111.set_1 | apply IsS111.set_2) | exact HI0.out)); (case side2 => repeat (first | (with_reducible first | exact HB.out | apply baz_ | apply bnz_ | apply bdz_ | refine bsz_ ?_ (IsS111.ge HI0.out)) | exact HB.out)); rintro e w37 ⟨rfl, hi, hb, hk⟩; replace HK := Az_ (KeepBut.trans (by repeat (first | (with_reducible first | exact HK.out | apply KeepBut.set_ | apply keep_drewN | apply keep_drew | apply keep_alloc) | exact HK.out)) hk (.inl rfl)); replace HB := Az_ (hb); replace HI0 := Az_ (hi); have p13 : 0 ≤ (t471 : Int) := of_decide_eq_true asz_; have q13 : t471 < (a2.size : Int) := of_decide_eq_true asz_; have hx13 := bt_at a2 t471; replace p13 := eq_true p13; replace q13 := eq_true q13) | ((with_reducible refine gate_dst (N := 32) rfl ?_); (try (refine gate_guard (by rfl) ?_; dsimp only)); refine Kd.R_lit (Kd.int .u8) _ 5 ?hg (N := 32) ?hd (xs := ([bt a2 t471] : List Int)) (inner := [.int .u8 (bt a2 t471)]) (ok := fun _ => True) (okp := fun _ => True) ?hr ?hp (fun _ hk => hk) trivial (Below.refl _ _) (Nat.le_refl _) (by simp) ?_; (case hd => rfl); (case hg => rfl); (case hr => first | (go_simp; done) | (go_simp; rfl)); (case hp => exact (Reps.one (show Kd.M (Kd.int .u8) _ _ _ (bt a2 t471) [.int .u8 (bt a2 t471)] from rfl) (Reps.none _ _))); intro v475 w38 ho39 hb hg_ hnew_; clear hg_ hnew_; (first | rw [← Ny474.out] at ho39 | (simp only [Int.reduceToNat] at ho39; rw [← Ny474.out] at ho39)); have HO476 := Az_ (Kd.R_lower ho39 (keep_size (w := w) (g := g) (row := none) (by repeat (first | (with_reducible first | exact HK.out | apply KeepBut.set_ | apply keep_drewN | apply keep_drew | apply keep_alloc) | exact HK.out)))); replace HK := Az_ (KeepBut.trans (by repeat (first | (with_reducible first | exact HK.out | apply KeepBut.set_ | apply keep_drewN | apply keep_drew | apply keep_alloc) | exact HK.out)) (KeepBut.of_below hb g none) (.inl rfl)); replace HB := Az_ (btz_ (by repeat (first | (with_reducible first | exact HB.out | apply baz_ | apply bnz_ | apply bdz_ | refine bsz_ ?_ (IsS111.ge HI0.out)) | exact HB.out)) hb); replace HI0 := Az_ (IsS111.below (by repeat (first | (with_reducible first | exact HI0.out | apply IsS111.alloc | apply IsS111.drewN | apply IsS111.drew | apply IsS111.set_1 | apply IsS111.set_2) | exact HI0.out)) hb); clear hb ho39; have hcv40 := own_string (P := Tryd.prog) Tryd.underlying22 Tryd.underlying5 Tryd.underlying9 (Kd.own_of_R HO476.out)) | (go_at_call 96; (with_reducible refine (spec_l1Cur_pick.calls g s0_0 t472 t473 3 t477 t478 t479 w0 _ ?side1 ?side2 A14.out).mono ?_); (case side1 => repeat (first | (with_reducible first | exact HI0.out | apply IsS111.alloc | apply IsS111.drewN | apply IsS111.drew | apply IsS111.set_1 | apply IsS111.set_2) | exact HI0.out)); (case side2 => repeat (first | (with_reducible first | exact HB.out | apply baz_ | apply bnz_ | apply bdz_ | refine bsz_ ?_ (IsS111.ge HI0.out)) | exact HB.out)); rintro e w41 ⟨rfl, hi, hb, hk⟩; replace HO476 := Az_ (Kd.R_mono (Kd.R_keep (IsS111.apart (show IsS111 w0 _ g s0_0 t472 t473 from by repeat (first | (with_reducible first | exact HI0.out | apply IsS111.alloc | apply IsS111.drewN | apply IsS111.drew | apply IsS111.set_1 | apply IsS111.set_2) | exact HI0.out)) (by exact urz_ HO476.out) (by decide)) hk (fun _ h => h.2)) (fun _ h => h.1)); replace HK := Az_ (KeepBut.trans (by repeat (first | (with_reducible first | exact HK.out | apply KeepBut.set_ | apply keep_drewN | apply keep_drew | apply keep_alloc) | exact HK.out)) hk (.inl rfl)); replace HB := Az_ (hb); replace HI0 := Az_ (hi))))
                go_roundg kj5
                case measure => have := HK1.out; have := HJ5.out; omega
                case rel => exact ⟨(((x1_1.extract 0 (t468 : Int).toNat) ++ (strOfNums y474)) ++ (x1_1.extract ((ji32) : Int).toNat x1_1.size)), (wrap64 (x7_1 - 1)), (t478), (t479), (by first | rfl | (simp; done) | (simp only [← hji32] <;> (first | rfl | simp)) | (simp [*]; done)), qaz_, H', ⟨by have := HK1.out; have := HJ5.out; omega⟩, ⟨by repeat (first | (with_reducible first | exact HI0.out | apply IsS111.alloc | apply IsS111.drewN | apply IsS111.drew | apply IsS111.set_1 | apply IsS111.set_2) | exact HI0.out)⟩, ⟨by repeat (first | (with_reducible first | exact HK.out | apply KeepBut.set_ | apply keep_drewN | apply keep_drew | apply keep_alloc) | exact HK.out)⟩, ⟨by repeat (first | (with_reducible first | exact HB.out | apply baz_ | apply bnz_ | apply bdz_ | refine bsz_ ?_ (IsS111.ge HI0.out)) | exact HB.out)⟩⟩
               ·rw [if_neg c35] at H
                exact absurd H (by simp)
              ·rw [if_neg c34] at H
               exact absurd H (by simp)
             ·rw [if_neg c33] at H
              exact absurd H (by simp)
            ·rw [if_neg c31] at H
             exact absurd H (by simp)
           ·rw [if_neg c30] at H
            exact absurd H (by simp)
          ·rw [if_neg c29] at H
           exact absurd H (by simp)
         ·rw [if_neg c28] at H
          have c28b0 : (t477 == 1) = false := beq_eq_false_iff_ne.mpr c28
          have c28b1 : (t477 != 1) = true := bne_iff_ne.mpr c28
          by_cases c42 : 0 ≤ t468
          ·rw [if_pos c42] at H
           have c42b0 := eq_true c42
           have c42b1 := decide_eq_true c42
           clear c42
           by_cases c43 : t468 ≤ (x1_1.size : Int)
           ·rw [if_pos c43] at H
            have c43b0 := eq_true c43
            have c43b1 := decide_eq_true c43
            clear c43
            obtain ⟨ji44, hji44⟩ : ∃ j_ : Int, (wrap64 (t468 + 1)) = j_ := ⟨_, rfl⟩
            replace H : (if 0 ≤ (ji44) then (if (ji44) ≤ (x1_1.size : Int) then (if (x1_1.extract 0 (t468 : Int).toNat).size + (x1_1.extract ((ji44) : Int).toNat x1_1.size).size ≤ 9223372036854775807 then (spec_l1Cur_spoilt.l0 kj5 ((x1_1.extract 0 (t468 : Int).toNat) ++ (x1_1.extract ((ji44) : Int).toNat x1_1.size)) a2 (wrap64 (x7_1 - 1)) s0_0 t478 t479) else (none)) else (none)) else (none)) = some (r1, r2, r3) := by first | (rw [hji44] at H; exact H) | (simp only [hji44] at H ⊢; exact H)
            (try rw [hji44] at A9)
            (try rw [hji44] at A10)
            (try rw [hji44] at A14)
            have hji44w : (IntKind.i64.wrap (t468 + 1)) = ji44 := (i64_w _).trans hji44
            by_cases c45 : 0 ≤ (ji44)
            ·rw [if_pos c45] at H
             have c45b0 := eq_true c45
             have c45b1 := decide_eq_true c45
             clear c45
             by_cases c46 : (ji44) ≤ (x1_1.size : Int)
             ·rw [if_pos c46] at H
              have c46b0 := eq_true c46
              have c46b1 := decide_eq_true c46
              clear c46
              by_cases c47 : (x1_1.extract 0 (t468 : Int).toNat).size + (x1_1.extract ((ji44) : Int).toNat x1_1.size).size ≤ 9223372036854775807
              ·rw [if_pos c47] at H
               have c47b0 := eq_true c47
               have c47b1 := decide_eq_true c47
               try have c47b2 : (9223372036854775807 < (x1_1.extract 0 (t468 : Int).toNat).size + (x1_1.extract ((ji44) : Int).toNat x1_1.size).size) = False := eq_false (Nat.not_lt.2 c47)
               have H' := Az_ H
               clear H
               go_wp2_with (first | (go_at_call 96; (with_reducible refine (spec_l1Cur_pick.calls g s0_0 x1001_1 x1002_1 (x1_1.size : Int) t468 t469 t470 w0 _ ?side1 ?side2 A9.out).mono ?_); (case side1 => repeat (first | (with_reducible first | exact HI0.out | apply IsS111.alloc | apply IsS111.drewN | apply IsS111.drew | apply IsS111.set_1 | apply IsS111.set_2) | exact HI0.out)); (case side2 => repeat (first | (with_reducible first | exact HB.out | apply baz_ | apply bnz_ | apply bdz_ | refine bsz_ ?_ (IsS111.ge HI0.out)) | exact HB.out)); rintro e w48 ⟨rfl, hi, hb, hk⟩; replace HK := Az_ (KeepBut.trans (by repeat (first | (with_reducible first | exact HK.out | apply KeepBut.set_ | apply keep_drewN | apply keep_drew | apply keep_alloc) | exact HK.out)) hk (.inl rfl)); replace HB := Az_ (hb); replace HI0 := Az_ (hi); (try clear hb); (try clear hk); (try clear hi)) | (go_at_call 96; (with_reducible refine (spec_l1Cur_pick.calls g s0_0 t469 t470 (a2.size : Int) t471 t472 t473 w0 _ ?side1 ?side2 A10.out).mono ?_); (case side1 => repeat (first | (with_reducible first | exact HI0.out | apply IsS111.alloc | apply IsS111.drewN | apply IsS111.drew | apply IsS111.set_1 | apply IsS111.set_2) | exact HI0.out)); (case side2 => repeat (first | (with_reducible first | exact HB.out | apply baz_ | apply bnz_ | apply bdz_ | refine bsz_ ?_ (IsS111.ge HI0.out)) | exact HB.out)); rintro e w49 ⟨rfl, hi, hb, hk⟩; replace HK := Az_ (KeepBut.trans (by repeat (first | (with_reducible first | exact HK.out | apply KeepBut.set_ | apply keep_drewN | apply keep_drew | apply keep_alloc) | exact HK.out)) hk (.inl rfl)); replace HB := Az_ (hb); replace HI0 := Az_ (hi); (try clear hb); (try clear hk); (try clear hi); have p13 : 0 ≤ (t471 : Int) := of_decide_eq_true asz_; have q13 : t471 < (a2.size : Int) := of_decide_eq_true asz_; have hx13 := bt_at a2 t471; replace p13 := eq_true p13; replace q13 := eq_true q13) | ((with_reducible refine gate_dst (N := 32) rfl ?_); (try (refine gate_guard (by rfl) ?_; dsimp only)); refine Kd.R_lit (Kd.int .u8) _ 5 ?hg (N := 32) ?hd (xs := ([bt a2 t471] : List Int)) (inner := [.int .u8 (bt a2 t471)]) (ok := fun _ => True) (okp := fun _ => True) ?hr ?hp (fun _ hk => hk) trivial (Below.refl _ _) (Nat.le_refl _) (by simp) ?_; (case hd => rfl); (case hg => rfl); (case hr => first | (go_simp; done) | (go_simp; rfl)); (case hp => exact (Reps.one (show Kd.M (Kd.int .u8) _ _ _ (bt a2 t471) [.int .u8 (bt a2 t471)] from rfl) (Reps.none _ _))); intro v475 w50 ho51 hb hg_ hnew_; clear hg_ hnew_; (first | rw [← Ny474.out] at ho51 | (simp only [Int.reduceToNat] at ho51; rw [← Ny474.out] at ho51)); have HO476 := Az_ (Kd.R_lower ho51 (keep_size (w := w) (g := g) (row := none) (by repeat (first | (with_reducible first | exact HK.out | apply KeepBut.set_ | apply keep_drewN | apply keep_drew | apply keep_alloc) | exact HK.out)))); replace HK := Az_ (KeepBut.trans (by repeat (first | (with_reducible first | exact HK.out | apply KeepBut.set_ | apply keep_drewN | apply keep_drew | apply keep_alloc) | exact HK.out)) (KeepBut.of_below hb g none) (.inl rfl)); replace HB := Az_ (btz_ (by repeat (first | (with_reducible first | exact HB.out | apply baz_ | apply bnz_ | apply bdz_ | refine bsz_ ?_ (IsS111.ge HI0.out)) | exact HB.out)) hb); replace HI0 := Az_ (IsS111.below (by repeat (first | (with_reducible first | exact HI0.out | apply IsS111.alloc | apply IsS111.drewN | apply IsS111.drew | apply IsS111.set_1 | apply IsS111.set_2) | exact HI0.out)) hb); clear hb ho51; have hcv52 := own_string (P := Tryd.prog) Tryd.underlying22 Tryd.underlying5 Tryd.underlying9 (Kd.own_of_R HO476.out)) | (go_at_call 96; (with_reducible refine (spec_l1Cur_pick.calls g s0_0 t472 t473 3 t477 t478 t479 w0 _ ?side1 ?side2 A14.out).mono ?_); (case side1 => repeat (first | (with_reducible first | exact HI0.out | apply IsS111.alloc | apply IsS111.drewN | apply IsS111.drew | apply IsS111.set_1 | apply IsS111.set_2) | exact HI0.out)); (case side2 => repeat (first | (with_reducible first | exact HB.out | apply baz_ | apply bnz_ | apply bdz_ | refine bsz_ ?_ (IsS111.ge HI0.out)) | exact HB.out)); rintro e w53 ⟨rfl, hi, hb, hk⟩; replace HO476 := Az_ (Kd.R_mono (Kd.R_keep (IsS111.apart (show IsS111 w0 _ g s0_0 t472 t473 from by repeat (first | (with_reducible first | exact HI0.out | apply IsS111.alloc | apply IsS111.drewN | apply IsS111.drew | apply IsS111.set_1 | apply IsS111.set_2) | exact HI0.out)) (by exact urz_ HO476.out) (by decide)) hk (fun _ h => h.2)) (fun _ h => h.1)); replace HK := Az_ (KeepBut.trans (by repeat (first | (with_reducible first | exact HK.out | apply KeepBut.set_ | apply keep_drewN | apply keep_drew | apply keep_alloc) | exact HK.out)) hk (.inl rfl)); replace HB := Az_ (hb); replace HI0 := Az_ (hi); (try clear hb); (try clear hk); (try clear hi)))
               repeat (go_quiet (first | (go_at_call 96; (with_reducible refine (spec_l1Cur_pick.calls g s0_0 x1001_1 x1002_1 (x1_1.size : Int) t468 t469 t470 w0 _ ?side1 ?side2 A9.out).mono ?_); (case side1 => repeat (first | (with_reducible first | exact HI0.out | apply IsS111.alloc | apply IsS111.drewN | apply IsS111.drew | apply IsS111.set_1 | apply IsS111.set_2) | exact HI0.out)); (case side2 => repeat (first | (with_reducible first | exact HB.out | apply baz_ | apply bnz_ | apply bdz_ | refine bsz_ ?_ (IsS111.ge HI0.out)) | exact HB.out)); rintro e w48 ⟨rfl, hi, hb, hk⟩; replace HK := Az_ (KeepBut.trans (by repeat (first | (with_reducible first | exact HK.out | apply KeepBut.set_ | apply keep_drewN | apply keep_drew | apply keep_alloc) | exact HK.out)) hk (.inl rfl)); replace HB := Az_ (hb); replace HI0 := Az_ (hi)) | (go_at_call 96; (with_reducible refine (spec_l1Cur_pick.calls g s0_0 t469 t470 (a2.size : Int) t471 t472 t473 w0 _ ?side1 ?side2 A10.out).mono ?_); (case side1 => repeat (first | (with_reducible first | exact HI0.out | apply IsS111.alloc | apply IsS111.drewN | apply IsS111.drew | apply IsS111.set_1 | apply IsS111.set_2) | exact HI0.out)); (case side2 => repeat (first | (with_reducible first | exact HB.out | apply baz_ | apply bnz_ | apply bdz_ | refine bsz_ ?_ (IsS111.ge HI0.out)) | exact HB.out)); rintro e w49 ⟨rfl, hi, hb, hk⟩; replace HK := Az_ (KeepBut.trans (by repeat (first | (with_reducible first | exact HK.out | apply KeepBut.set_ | apply keep_drewN | apply keep_drew | apply keep_alloc) | exact HK.out)) hk (.inl rfl)); replace HB := Az_ (hb); replace HI0 := Az_ (hi); have p13 : 0 ≤ (t471 : Int) := of_decide_eq_true asz_; have q13 : t471 < (a2.size : Int) := of_decide_eq_true asz_; have hx13 := bt_at a2 t471; replace p13 := eq_true p13; replace q13 := eq_true q13) | ((with_reducible refine gate_dst (N := 32) rfl ?_); (try (refine gate_guard (by rfl) ?_; dsimp only)); refine Kd.R_lit (Kd.int .u8) _ 5 ?hg (N := 32) ?hd (xs := ([bt a2 t471] : List Int)) (inner := [.int .u8 (bt a2 t471)]) (ok := fun _ => True) (okp := fun _ => True) ?hr ?hp (fun _ hk => hk) trivial (Below.refl _ _) (Nat.le_refl _) (by simp) ?_; (case hd => rfl); (case hg => rfl); (case hr => first | (go_simp; done) | (go_simp; rfl)); (case hp => exact (Reps.one (show Kd.M (Kd.int .u8) _ _ _ (bt a2 t471) [.int .u8 (bt a2 t471)] from rfl) (Reps.none _ _))); intro v475 w50 ho51 hb hg_ hnew_; clear hg_ hnew_; (first | rw [← Ny474.out] at ho51 | (simp only [Int.reduceToNat] at ho51; rw [← Ny474.out] at ho51)); have HO476 := Az_ (Kd.R_lower ho51 (keep_size (w := w) (g := g) (row := none) (by repeat (first | (with_reducible first | exact HK.out | apply KeepBut.set_ | apply keep_drewN | apply keep_drew | apply keep_alloc) | exact HK.out)))); replace HK := Az_ (KeepBut.trans (by repeat (first | (with_reducible first | exact HK.out | apply KeepBut.set_ | apply keep_drewN | apply keep_drew | apply keep_alloc) | exact HK.out)) (KeepBut.of_below hb g none) (.inl rfl)); replace HB := Az_ (btz_ (by repeat (first | (with_reducible first | exact HB.out | apply baz_ | apply bnz_ | apply bdz_ | refine bsz_ ?_ (IsS111.ge HI0.out)) | exact HB.out)) hb); replace HI0 := Az_ (IsS111.below (by repeat (first | (with_reducible first | exact HI0.out | apply IsS111.alloc | apply IsS111.drewN | apply IsS111.drew | apply IsS111.set_1 | apply IsS111.set_2) | exact HI0.out)) hb); clear hb ho51; have hcv52 := own_string (P := Tryd.prog) Tryd.underlying22 Tryd.underlying5 Tryd.underlying9 (Kd.own_of_R HO476.out)) | (go_at_call 96; (with_reducible refine (spec_l1Cur_pick.calls g s0_0 t472 t473 3 t477 t478 t479 w0 _ ?side1 ?side2 A14.out).mono ?_); (case side1 => repeat (first | (with_reducible first | exact HI0.out | apply IsS111.alloc | apply IsS111.drewN | apply IsS111.drew | apply IsS111.set_1 | apply IsS111.set_2) | exact HI0.out)); (case side2 => repeat (first | (with_reducible first | exact HB.out | apply baz_ | apply bnz_ | apply bdz_ | refine bsz_ ?_ (IsS111.ge HI0.out)) | exact HB.out)); rintro e w53 ⟨rfl, hi, hb, hk⟩; replace HO476 := Az_ (Kd.R_mono (Kd.R_keep (IsS111.apart (show IsS111 w0 _ g s0_0 t472 t473 from by repeat (first | (with_reducible first | exact HI0.out | apply IsS111.alloc | apply IsS111.drewN | apply IsS111.drew | apply IsS111.set_1 | apply IsS111.set_2) | exact HI0.out)) (by exact urz_ HO476.out) (by decide)) hk (fun _ h => h.2)) (fun _ h => h.1)); replace HK := Az_ (KeepBut.trans (by repeat (first | (with_reducible first | exact HK.out | apply KeepBut.set_ | apply keep_drewN | apply keep_drew | apply keep_alloc) | exact HK.out)) hk (.inl rfl)); replace HB := Az_ (hb); replace HI0 := Az_ (hi))); try go_wp2_with (first | (go_at_call 96; (with_reducible refine (spec_l1Cur_pick.calls g s0_0 x1001_1 x1002_1 (x1_1.size : Int) t468 t469 t470 w0 _ ?side1 ?side2 A9.out).mono ?_); (case side1 => repeat (first | (with_reducible first | exact HI0.out | apply IsS111.alloc | apply IsS111.drewN | apply IsS111.drew | apply IsS111.set_1 | apply IsS111.set_2) | exact HI0.out)); (case side2 => repeat (first | (with_reducible first | exact HB.out | apply baz_ | apply bnz_ | apply bdz_ | refine bsz_ ?_ (IsS111.ge HI0.out)) | exact HB.out)); rintro e w48 ⟨rfl, hi, hb, hk⟩; replace HK := Az_ (KeepBut.trans (by repeat (first | (with_reducible first | exact HK.out | apply KeepBut.set_ | apply keep_drewN | apply keep_drew | apply keep_alloc) | exact HK.out)) hk (.inl rfl)); replace HB := Az_ (hb); replace HI0 := Az_ (hi)) | (go_at_call 96; (with_reducible refine (spec_l1Cur_pick.calls g s0_0 t469 t470 (a2.size : Int) t471 t472 t473 w0 _ ?side1 ?side2 A10.out).mono ?_); (case side1 => repeat (first | (with_reducible first | exact HI0.out | apply IsS111.alloc | apply IsS111.drewN | apply IsS111.drew | apply IsS111.set_1 | apply IsS111.set_2) | exact HI0.out)); (case side2 => repeat (first | (with_reducible first | exact HB.out | apply baz_ | apply bnz_ | apply bdz_ | refine bsz_ ?_ (IsS111.ge HI0.out)) | exact HB.out)); rintro e w49 ⟨rfl, hi, hb, hk⟩; replace HK := Az_ (KeepBut.trans (by repeat (first | (with_reducible first | exact HK.out | apply KeepBut.set_ | apply keep_drewN | apply keep_drew | apply keep_alloc) | exact HK.out)) hk (.inl rfl)); replace HB := Az_ (hb); replace HI0 := Az_ (hi); have p13 : 0 ≤ (t471 : Int) := of_decide_eq_true asz_; have q13 : t471 < (a2.size : Int) := of_decide_eq_true asz_; have hx13 := bt_at a2 t471; replace p13 := eq_true p13; replace q13 := eq_true q13) | ((with_reducible refine gate_dst (N := 32) rfl ?_); (try (refine gate_guard (by rfl) ?_; dsimp only)); refine Kd.R_lit (Kd.int .u8) _ 5 ?hg (N := 32) ?hd (xs := ([bt a2 t471] : List Int)) (inner := [.int .u8 (bt a2 t471)]) (ok := fun _ => True) (okp := fun _ => True) ?hr ?hp (fun _ hk => hk) trivial (Below.refl _ _) (Nat.le_refl _) (by simp) ?_; (case hd => rfl); (case hg => rfl); (case hr => first | (go_simp; done) | (go_simp; rfl)); (case hp => exact (Reps.one (show Kd.M (Kd.int .u8) _ _ _ (bt a2 t471) [.int .u8 (bt a2 t471)] from rfl) (Reps.none _ _))); intro v475 w50 ho51 hb hg_ hnew_; clear hg_ hnew_; (first | rw [← Ny474.out] at ho51 | (simp only [Int.reduceToNat] at ho51; rw [← Ny474.out] at ho51)); have HO476 := Az_ (Kd.R_lower ho51 (keep_size (w := w) (g := g) (row := none) (by repeat (first | (with_reducible first | exact HK.out | apply KeepBut.set_ | apply keep_drewN | apply keep_drew | apply keep_alloc) | exact HK.out)))); replace HK := Az_ (KeepBut.trans (by repeat (first | (with_reducible first | exact HK.out | apply KeepBut.set_ | apply keep_drewN | apply keep_drew | apply keep_alloc) | exact HK.out)) (KeepBut.of_below hb g none) (.inl rfl)); replace HB := Az_ (btz_ (by repeat (first | (with_reducible first | exact HB.out | apply baz_ | apply bnz_ | apply bdz_ | refine bsz_ ?_ (IsS111.ge HI0.out)) | exact HB.out)) hb); replace HI0 := Az_ (IsS111.below (by repeat (first | (with_reducible first | exact HI0.out | apply IsS111.alloc | apply IsS111.drewN | apply IsS111.drew | apply IsS111.set_1 | apply IsS111.set_2) | exact HI0.out)) hb); clear hb ho51; have hcv52 := own_string (P := Tryd.prog) Tryd.underlying22 Tryd.underlying5 Tryd.underlying9 (Kd.own_of_R HO476.out)) | (go_at_call 96; (with_reducible refine (spec_l1Cur_pick.calls g s0_0 t472 t473 3 t477 t478 t479 w0 _ ?side1 ?side2 A14.out).mono ?_); (case side1 => repeat (first | (with_reducible first | exact HI0.out | apply IsS111.alloc | apply IsS111.drewN | apply IsS111.drew | apply IsS111.set_1 | apply IsS111.set_2) | exact HI0.out)); (case side2 => repeat (first | (with_reducible first | exact HB.out | apply baz_ | apply bnz_ | apply bdz_ | refine bsz_ ?_ (IsS111.ge HI0.out)) | exact HB.out)); rintro e w53 ⟨rfl, hi, hb, hk⟩; replace HO476 := Az_ (Kd.R_mono (Kd.R_keep (IsS111.apart (show IsS111 w0 _ g s0_0 t472 t473 from by repeat (first | (with_reducible first | exact HI0.out | apply IsS111.alloc | apply IsS111.drewN | apply IsS111.drew | apply IsS111.set_1 | apply IsS111.set_2) | exact HI0.out)) (by exact urz_ HO476.out) (by decide)) hk (fun _ h => h.2)) (fun _ h => h.1)); replace HK := Az_ (KeepBut.trans (by repeat (first | (with_reducible first | exact HK.out | apply KeepBut.set_ | apply keep_drewN | apply keep_drew | apply keep_alloc) | exact HK.out)) hk (.inl rfl)); replace HB := Az_ (hb); replace HI0 := Az_ (hi))))
               go_roundg kj5
               case measure => have := HK1.out; have := HJ5.out; omega
               case rel => exact ⟨((x1_1.extract 0 (t468 : Int).toNat) ++ (x1_1.extract ((ji44) : Int).toNat x1_1.size)), (wrap64 (x7_1 - 1)), (t478), (t479), (by first | rfl | (simp; done) | (simp only [← hji44] <;> (first | rfl | simp)) | (simp [*]; done)), qaz_, H', ⟨by have := HK1.out; have := HJ5.out; omega⟩, ⟨by repeat (first | (with_reducible first | exact HI0.out | apply IsS111.alloc | apply IsS111.drewN | apply IsS111.drew | apply IsS111.set_1 | apply IsS111.set_2) | exact HI0.out)⟩, ⟨by repeat (first | (with_reducible first | exact HK.out | apply KeepBut.set_ | apply keep_drewN | apply keep_drew | apply keep_alloc) | exact HK.out)⟩, ⟨by repeat (first | (with_reducible first | exact HB.out | apply baz_ | apply bnz_ | apply bdz_ | refine bsz_ ?_ (IsS111.ge HI0.out)) | exact HB.out)⟩⟩
              ·rw [if_neg c47] at H
               exact absurd H (by simp)
             ·rw [if_neg c46] at H
              exact absurd H (by simp)
            ·rw [if_neg c45] at H
             exact absurd H (by simp)
           ·rw [if_neg c43] at H
            exact absurd H (by simp)
          ·rw [if_neg c42] at H
           exact absurd H (by simp)
       ·rw [if_neg c12] at H
        exact absurd H (by simp)
      ·rw [if_neg c11] at H
       exact absurd H (by simp)
     ·replace c8 := Bool.eq_false_iff.mpr c8
      subst c8
      rw [if_neg nfz_] at H
      simp only [Option.some.injEq, Prod.mk.injEq] at H
      obtain ⟨rfl, rfl, rfl⟩ := H
      go_wp2
      go_ret
      exact ⟨by first | rfl | (simp [errW_none, errW_some] <;> rfl) | (simp [*, errW_none, errW_some] <;> rfl), by repeat (first | (with_reducible first | exact HI0.out | apply IsS111.alloc | apply IsS111.drewN | apply IsS111.drew | apply IsS111.set_1 | apply IsS111.set_2) | exact HI0.out), by repeat (first | (with_reducible first | exact HB.out | apply baz_ | apply bnz_ | apply bdz_ | refine bsz_ ?_ (IsS111.ge HI0.out)) | exact HB.out), by repeat (first | (with_reducible first | exact HK.out | apply KeepBut.set_ | apply keep_drewN | apply keep_drew | apply keep_alloc) | exact HK.out)⟩

/-! ### spec_DrawParseBinding: function 62 -/
def spec_DrawParseBinding.f (k : Nat) (l0 : List Int) : Option (ByteArray) := (spec_l1Cur_sureBinding.f k l0 0 0 4).bind fun bt481 => ((spec_biText.f k bt481.1).bind fun t486 => ((spec_l1Cur_one.f l0 bt481.2.1 bt481.2.2 3).bind fun bt487 => (if bt487.1 = true then ((spec_l1Cur_spoilt.f k l0 bt487.2.1 bt487.2.2 t486 (⟨#[48, 49, 50, 51, 43, 45, 120]⟩ : ByteArray)).bind fun bt490 => (some bt490.1)) else (some t486))))
set_option maxHeartbeats 8000000 in
set_option maxRecDepth 100000 in
theorem spec_DrawParseBinding.calls (k : Nat) (A0 : Option Addr) (c0 : Nat) (l0 : List Int) (r : ByteArray) (w : World) (hr0 : Kd.C (Kd.int .u8) w A0 l0.length l0) (hc0 : l0.length ≤ c0) (h : spec_DrawParseBinding.f k l0 = some r) :
  Calls Tryd.prog 62 #[.slice A0 l0.length c0] w fun e w' => e = .returned (.string r) ∧ Below w.heap.size w w' := by
 have hu111 := Tryd.underlying111
 have HR0 := Az_ hr0
 have HC0 := Az_ hc0
 clear hr0 hc0
 have HB := Az_ (Below.refl w.heap.size w)
 have H : ((spec_l1Cur_sureBinding.f k l0 0 0 4).bind fun bt481 => ((spec_biText.f k bt481.1).bind fun t486 => ((spec_l1Cur_one.f l0 bt481.2.1 bt481.2.2 3).bind fun bt487 => (if bt487.1 = true then ((spec_l1Cur_spoilt.f k l0 bt487.2.1 bt487.2.2 t486 (⟨#[48, 49, 50, 51, 43, 45, 120]⟩ : ByteArray)).bind fun bt490 => (some bt490.1)) else (some t486))))) = some r := h
 clear h
 replace H := bqz_ H; obtain ⟨⟨t481, t484, t485⟩, A2, H⟩ := H
 replace H := bqz_ H; obtain ⟨t486, A3, H⟩ := H
 replace H := bqz_ H; obtain ⟨⟨t487, t488, t489⟩, A4, H⟩ := H
 replace H : (if t487 = true then ((spec_l1Cur_spoilt.f k l0 t488 t489 t486 (⟨#[48, 49, 50, 51, 43, 45, 120]⟩ : ByteArray)).bind fun bt490 => (some bt490.1)) else (some t486)) = some r := H
 by_cases c5 : t487 = true
 ·subst c5
  rw [if_pos rfl] at H
  replace H := bqz_ H; obtain ⟨⟨t490, t491, t492⟩, A6, H⟩ := H
  replace H : (some t490) = some r := H
  obtain rfl := Option.some.inj H
  go_enter Tryd.func62, Tryd.ntmps62
  go_wp2_with (first | ((with_reducible refine gate_dst (N := 7) rfl ?_); refine box_event ?hg (N := 7) ?hd (cs := #[.slice A0 l0.length c0, .int .i64 0, .int .u64 0]) (t := 111) ?hr ?_; (case hd => rfl); (case hg => rfl); (case hr => first | (go_simp; done) | (go_simp; rfl)); intro gb480 hg w7 hbox hb; have BK480 := Az_ (hbox); have GW480 := Az_ ((by rw [hg]; exact (below_size (ubz_ HB.out)) : w.heap.size ≤ gb480)); have GE480 := Az_ ((by rw [hg]; exact (below_size (ubz_ HB.out)) : w.heap.size ≤ gb480)); replace HB := Az_ (btz_ (ubz_ HB.out) hb); clear hb hbox hg) | ((with_reducible refine gate_callee (f := 145) rfl ?_); refine goesL_ (some 9) rfl rfl Tryd.func145 (by kernel_rfl) rfl #[.pointer (some ⟨gb480, 0, none⟩), .int .i64 4] rfl maz_ ?_; have HI480 := Az_ (show IsS111 w w7 gb480 l0 0 0 from ⟨_, _, BK480.out, GE480.out, HR0.out⟩); (with_reducible refine (spec_l1Cur_sureBinding.calls k gb480 l0 0 0 4 t481 t484 t485 w _ ?side1 ?side2 A2.out).mono ?_); (case side1 => repeat (first | (with_reducible first | exact HI480.out | apply IsS111.alloc | apply IsS111.drewN | apply IsS111.drew | apply IsS111.set_1 | apply IsS111.set_2) | exact HI480.out)); (case side2 => repeat (first | (with_reducible first | exact HB.out | apply baz_ | apply bnz_ | apply bdz_ | refine bsz_ ?_ (IsS111.ge HI480.out)) | exact HB.out)); rintro e w8 ⟨v482, rfl, ho0, hi, hb, hk⟩; refine ⟨_, rfl, ?_⟩; have HO483 := Az_ (Kd.R_lower ho0 (below_size (by repeat (first | (with_reducible first | exact HB.out | apply baz_ | apply bnz_ | apply bdz_ | refine bsz_ ?_ (IsS111.ge HI480.out)) | exact HB.out)))); replace HB := Az_ (hb); replace HI480 := Az_ (hi); (try clear hb); (try clear hk); (try clear hi); (try clear ho0); obtain ⟨Ao9, co9, eo9⟩ := Kd.R_slice HO483.out; subst eo9) | ((with_reducible refine gate_callee (f := 126) rfl ?_); refine goesL_ (some 10) rfl rfl Tryd.func126 (by kernel_rfl) rfl #[.slice Ao9 t481.length co9] rfl maz_ ?_; (with_reducible refine (spec_biText.calls k _ _ t481 t486 _ ?side1 ?side2 A3.out).mono ?_); (case side1 => exact ucz_ ((Kd.R_reads' HO483.out).2.2)); (case side2 => exact (Kd.R_reads' HO483.out).2.1); rintro e w10 ⟨rfl, hb⟩; refine ⟨_, rfl, ?_⟩; replace HO483 := Az_ (Kd.R_below (by exact urz_ HO483.out) hb); replace HB := Az_ (btz_ (by repeat (first | (with_reducible first | exact HB.out | apply baz_ | apply bnz_ | apply bdz_ | refine bsz_ ?_ (IsS111.ge HI480.out)) | exact HB.out)) hb); replace HI480 := Az_ (IsS111.below (by repeat (first | (with_reducible first | exact HI480.out | apply IsS111.alloc | apply IsS111.drewN | apply IsS111.drew | apply IsS111.set_1 | apply IsS111.set_2) | exact HI480.out)) hb); (try clear hb); (try clear hk); (try clear hi)) | ((with_reducible refine gate_callee (f := 93) rfl ?_); refine goesL_ (some 12) rfl rfl Tryd.func93 (by kernel_rfl) rfl #[.pointer (some ⟨gb480, 0, none⟩), .int .i64 3] rfl maz_ ?_; (with_reducible refine (spec_l1Cur_one.calls gb480 l0 t484 t485 3 true t488 t489 w _ ?side1 ?side2 A4.out).mono ?_); (case side1 => repeat (first | (with_reducible first | exact HI480.out | apply IsS111.alloc | apply IsS111.drewN | apply IsS111.drew | apply IsS111.set_1 | apply IsS111.set_2) | exact HI480.out)); (case side2 => repeat (first | (with_reducible first | exact HB.out | apply baz_ | apply bnz_ | apply bdz_ | refine bsz_ ?_ (IsS111.ge HI480.out)) | exact HB.out)); rintro e w11 ⟨rfl, hi, hb, hk⟩; refine ⟨_, rfl, ?_⟩; replace HO483 := Az_ (Kd.R_mono (Kd.R_keep (IsS111.apart (show IsS111 w _ gb480 l0 t484 t485 from by repeat (first | (with_reducible first | exact HI480.out | apply IsS111.alloc | apply IsS111.drewN | apply IsS111.drew | apply IsS111.set_1 | apply IsS111.set_2) | exact HI480.out)) (by exact urz_ HO483.out) (by decide)) hk (fun _ h => h.2)) (fun _ h => h.1)); replace HB := Az_ (hb); replace HI480 := Az_ (hi); (try clear hb); (try clear hk); (try clear hi)) | ((with_reducible refine gate_callee (f := 146) rfl ?_); refine goesL_ (some 15) rfl rfl Tryd.func146 (by kernel_rfl) rfl #[.pointer (some ⟨gb480, 0, none⟩), .string t486, .string (⟨#[48, 49, 50, 51, 43, 45, 120]⟩ : ByteArray)] rfl maz_ ?_; (with_reducible refine (spec_l1Cur_spoilt.calls k gb480 l0 t488 t489 t486 (⟨#[48, 49, 50, 51, 43, 45, 120]⟩ : ByteArray) t490 t491 t492 w _ ?side1 ?side2 A6.out).mono ?_); (case side1 => repeat (first | (with_reducible first | exact HI480.out | apply IsS111.alloc | apply IsS111.drewN | apply IsS111.drew | apply IsS111.set_1 | apply IsS111.set_2) | exact HI480.out)); (case side2 => repeat (first | (with_reducible first | exact HB.out | apply baz_ | apply bnz_ | apply bdz_ | refine bsz_ ?_ (IsS111.ge HI480.out)) | exact HB.out)); rintro e w12 ⟨rfl, hi, hb, hk⟩; refine ⟨_, rfl, ?_⟩; replace HO483 := Az_ (Kd.R_mono (Kd.R_keep (IsS111.apart (show IsS111 w _ gb480 l0 t488 t489 from by repeat (first | (with_reducible first | exact HI480.out | apply IsS111.alloc | apply IsS111.drewN | apply IsS111.drew | apply IsS111.set_1 | apply IsS111.set_2) | exact HI480.out)) (by exact urz_ HO483.out) (by decide)) hk (fun _ h => h.2)) (fun _ h => h.1)); replace HB := Az_ (hb); replace HI480 := Az_ (hi); (try clear hb); (try clear hk); (try clear hi)))
  go_ret
  exact ⟨by first | rfl | (simp [errW_none, errW_some] <;> rfl) | (simp [*, errW_none, errW_some] <;> rfl), by repeat (first | (with_reducible first | exact HB.out | apply baz_ | apply bnz_ | apply bdz_ | refine bsz_ ?_ (IsS111.ge HI480.out)) | exact HB.out)⟩
 ·replace c5 := Bool.eq_false_iff.mpr c5
  subst c5
  rw [if_neg nfz_] at H
  obtain rfl := Option.some.inj H
  go_enter Tryd.func62, Tryd.ntmps62
  go_wp2_with (first | ((with_reducible refine gate_dst (N := 7) rfl ?_); refine box_event ?hg (N := 7) ?hd (cs := #[.slice A0 l0.length c0, .int .i64 0, .int .u64 0]) (t := 111) ?hr ?_; (case hd => rfl); (case hg => rfl); (case hr => first | (go_simp; done) | (go_simp; rfl)); intro gb480 hg w13 hbox hb; have BK480 := Az_ (hbox); have GW480 := Az_ ((by rw [hg]; exact (below_size (ubz_ HB.out)) : w.heap.size ≤ gb480)); have GE480 := Az_ ((by rw [hg]; exact (below_size (ubz_ HB.out)) : w.heap.size ≤ gb480)); replace HB := Az_ (btz_ (ubz_ HB.out) hb); clear hb hbox hg) | ((with_reducible refine gate_callee (f := 145) rfl ?_); refine goesL_ (some 9) rfl rfl Tryd.func145 (by kernel_rfl) rfl #[.pointer (some ⟨gb480, 0, none⟩), .int .i64 4] rfl maz_ ?_; have HI480 := Az_ (show IsS111 w w13 gb480 l0 0 0 from ⟨_, _, BK480.out, GE480.out, HR0.out⟩); (with_reducible refine (spec_l1Cur_sureBinding.calls k gb480 l0 0 0 4 t481 t484 t485 w _ ?side1 ?side2 A2.out).mono ?_); (case side1 => repeat (first | (with_reducible first | exact HI480.out | apply IsS111.alloc | apply IsS111.drewN | apply IsS111.drew | apply IsS111.set_1 | apply IsS111.set_2) | exact HI480.out)); (case side2 => repeat (first | (with_reducible first | exact HB.out | apply baz_ | apply bnz_ | apply bdz_ | refine bsz_ ?_ (IsS111.ge HI480.out)) | exact HB.out)); rintro e w14 ⟨v482, rfl, ho0, hi, hb, hk⟩; refine ⟨_, rfl, ?_⟩; have HO483 := Az_ (Kd.R_lower ho0 (below_size (by repeat (first | (with_reducible first | exact HB.out | apply baz_ | apply bnz_ | apply bdz_ | refine bsz_ ?_ (IsS111.ge HI480.out)) | exact HB.out)))); replace HB := Az_ (hb); replace HI480 := Az_ (hi); (try clear hb); (try clear hk); (try clear hi); (try clear ho0); obtain ⟨Ao15, co15, eo15⟩ := Kd.R_slice HO483.out; subst eo15) | ((with_reducible refine gate_callee (f := 126) rfl ?_); refine goesL_ (some 10) rfl rfl Tryd.func126 (by kernel_rfl) rfl #[.slice Ao15 t481.length co15] rfl maz_ ?_; (with_reducible refine (spec_biText.calls k _ _ t481 t486 _ ?side1 ?side2 A3.out).mono ?_); (case side1 => exact ucz_ ((Kd.R_reads' HO483.out).2.2)); (case side2 => exact (Kd.R_reads' HO483.out).2.1); rintro e w16 ⟨rfl, hb⟩; refine ⟨_, rfl, ?_⟩; replace HO483 := Az_ (Kd.R_below (by exact urz_ HO483.out) hb); replace HB := Az_ (btz_ (by repeat (first | (with_reducible first | exact HB.out | apply baz_ | apply bnz_ | apply bdz_ | refine bsz_ ?_ (IsS111.ge HI480.out)) | exact HB.out)) hb); replace HI480 := Az_ (IsS111.below (by repeat (first | (with_reducible first | exact HI480.out | apply IsS111.alloc | apply IsS111.drewN | apply IsS111.drew | apply IsS111.set_1 | apply IsS111.set_2) | exact HI480.out)) hb); (try clear hb); (try clear hk); (try clear hi)) | ((with_reducible refine gate_callee (f := 93) rfl ?_); refine goesL_ (some 12) rfl rfl Tryd.func93 (by kernel_rfl) rfl #[.pointer (some ⟨gb480, 0, none⟩), .int .i64 3] rfl maz_ ?_; (with_reducible refine (spec_l1Cur_one.calls gb480 l0 t484 t485 3 false t488 t489 w _ ?side1 ?side2 A4.out).mono ?_); (case side1 => repeat (first | (with_reducible first | exact HI480.out | apply IsS111.alloc | apply IsS111.drewN | apply IsS111.drew | apply IsS111.set_1 | apply IsS111.set_2) | exact HI480.out)); (case side2 => repeat (first | (with_reducible first | exact HB.out | apply baz_ | apply bnz_ | apply bdz_ | refine bsz_ ?_ (IsS111.ge HI480.out)) | exact HB.out)); rintro e w17 ⟨rfl, hi, hb, hk⟩; refine ⟨_, rfl, ?_⟩; replace HO483 := Az_ (Kd.R_mono (Kd.R_keep (IsS111.apart (show IsS111 w _ gb480 l0 t484 t485 from by repeat (first | (with_reducible first | exact HI480.out | apply IsS111.alloc | apply IsS111.drewN | apply IsS111.drew | apply IsS111.set_1 | apply IsS111.set_2) | exact HI480.out)) (by exact urz_ HO483.out) (by decide)) hk (fun _ h => h.2)) (fun _ h => h.1)); replace HB := Az_ (hb); replace HI480 := Az_ (hi); (try clear hb); (try clear hk); (try clear hi)))
  go_ret
  exact ⟨by first | rfl | (simp [errW_none, errW_some] <;> rfl) | (simp [*, errW_none, errW_some] <;> rfl), by repeat (first | (with_reducible first | exact HB.out | apply baz_ | apply bnz_ | apply bdz_ | refine bsz_ ?_ (IsS111.ge HI480.out)) | exact HB.out)⟩

end Go.Proofs.YtppbpefehpbejaaDoor.P
end

section
namespace Go.Proofs.YtppbpefehpbejaaDoor.P
open Go.RowKit Go.Proofs.YtppbpefehpbejaaDoorW.PrintWords Go.Proofs.YtppbpefehpbejaaDoorW.PrintLast Go.Proofs.YtppbpefehpbejaaDoorW.PrintMore
attribute [local go_sem] max2_int min2_int max_two min_two max_three min_three max_four min_four   -- for this text's walks alone
set_option linter.unusedVariables false
set_option linter.unusedSimpArgs false

/-! ### spec_l1Read: function 192 -/
mutual
def spec_l1Read.j0 : Nat → ByteArray → Bool → Option (Int)
 | 0, _, _ => none
 | k + 1, x0, x18 => if x18 = true then (some (-1)) else (spec_l1Read.l0 k x0 0 0)
def spec_l1Read.l0 : Nat → ByteArray → Int → Int → Option (Int)
 | 0, _, _, _ => none
 | k + 1, x0, x3, x4 => if x4 < (x0.size : Int) then (if 0 ≤ x4 then (if (bt x0 x4) < 48 then (some (-1)) else (if (bt x0 x4) > 57 then (some (-1)) else (spec_l1Read.l0 k x0 (wrap64 ((wrap64 (10 * x3)) + (((bt x0 x4) - 48) % 256))) (wrap64 (x4 + 1))))) else (none)) else (some x3)
end
def spec_l1Read.f (k : Nat) (a0 : ByteArray) : Option (Int) := (spec_l1In.f (a0.size : Int) 1 6).bind fun t493 => (if t493 = true then (if 0 < (a0.size : Int) then (if (bt a0 0) = 48 then (spec_l1Read.j0 k a0 (decide ((a0.size : Int) > 1))) else (spec_l1Read.j0 k a0 false)) else (none)) else (spec_l1Read.j0 k a0 true))
set_option maxHeartbeats 8000000 in
set_option maxRecDepth 100000 in
theorem spec_l1Read.calls (k : Nat) (a0 : ByteArray) (r : Int) (w : World) (h : spec_l1Read.f k a0 = some r) :
  Calls Tryd.prog 192 #[.string a0] w fun e w' => e = .returned (.int .i64 r) ∧ Drawn0 w w' := by
 have H : ((spec_l1In.f (a0.size : Int) 1 6).bind fun t493 => (if t493 = true then (if 0 < (a0.size : Int) then (if (bt a0 0) = 48 then (j0 k a0 (decide ((a0.size : Int) > 1))) else (j0 k a0 false)) else (none)) else (j0 k a0 true))) = some r := h
 clear h
 have HC2 := Az_ H
 clear H
 go_enter Tryd.func192, Tryd.ntmps192
 go_upto_region 1 with (fail)
 go_cut [18] (fun v18 wc => ∃ (kq : Nat) (x18_1 : Bool), v18 = .bool x18_1 ∧ Aside0 (j0 kq a0 x18_1 = some r) ∧ Aside0 (kq ≤ k) ∧ Drawn0 w wc)
 case first =>
  have H := HC2.out
  clear HC2
  replace H := bqz_ H; obtain ⟨t493, A3, H⟩ := H
  replace H : (if t493 = true then (if 0 < (a0.size : Int) then (if (bt a0 0) = 48 then (j0 k a0 (decide ((a0.size : Int) > 1))) else (j0 k a0 false)) else (none)) else (j0 k a0 true)) = some r := H
  by_cases c4 : t493 = true
  ·subst c4
   rw [if_pos rfl] at H
   by_cases c5 : 0 < (a0.size : Int)
   ·rw [if_pos c5] at H
    have c5b0 := decide_eq_true c5
    have c5b1 : decide (0 < a0.size) = true := decide_eq_true (by omega)
    clear c5
    (first | rw [c5b0] | (simp only [i64_w, i32_w]; rw [c5b0]) | skip)
    by_cases c7 : (bt a0 0) = 48
    ·rw [if_pos c7] at H
     have c7b0 : ((bt a0 0) == 48) = true := beq_iff_eq.mpr c7
     have c7b1 : ((bt a0 0) != 48) = false := bne_eq_false_iff_eq.mpr c7
     clear c7
     have H' := Az_ H
     clear H
     go_wp2_with (first | ((with_reducible refine gate_callee (f := 101) rfl ?_); refine goesL_ (some 7) rfl rfl Tryd.func101 (by kernel_rfl) rfl #[.int .i64 (a0.size : Int), .int .i64 1, .int .i64 6] rfl maz_ ?_; (with_reducible refine (spec_l1In.calls (a0.size : Int) 1 6 true _ A3.out).mono ?_); rintro e w' ⟨rfl, ⟨nd, rfl⟩⟩; refine ⟨_, rfl, ?_⟩; have p6 : 0 ≤ (0 : Int) := (by omega); have q6 : 0 < a0.size := (by have : (0 : Int) < (a0.size : Int) := of_decide_eq_true asz_; omega); have hx6 : ∀ h : 0 < a0.size, ((a0[0]'h).toNat : Int) = bt a0 0 := bt_at a0 0; clear p6; have qi6 : (0 < (a0.size : Int)) = True := eq_true (of_decide_eq_true asz_); replace q6 := eq_true q6))
     go_meet
     case rel => exact ⟨_, (decide ((a0.size : Int) > 1)), qaz_, H', ⟨by first | omega | exact Nat.le_refl _⟩, by repeat (first | exact Drawn0.refl _ | apply Drawn0.step)⟩
    ·rw [if_neg c7] at H
     have c7b0 : ((bt a0 0) == 48) = false := beq_eq_false_iff_ne.mpr c7
     have c7b1 : ((bt a0 0) != 48) = true := bne_iff_ne.mpr c7
     have H' := Az_ H
     clear H
     go_wp2_with (first | ((with_reducible refine gate_callee (f := 101) rfl ?_); refine goesL_ (some 7) rfl rfl Tryd.func101 (by kernel_rfl) rfl #[.int .i64 (a0.size : Int), .int .i64 1, .int .i64 6] rfl maz_ ?_; (with_reducible refine (spec_l1In.calls (a0.size : Int) 1 6 true _ A3.out).mono ?_); rintro e w' ⟨rfl, ⟨nd, rfl⟩⟩; refine ⟨_, rfl, ?_⟩; have p6 : 0 ≤ (0 : Int) := (by omega); have q6 : 0 < a0.size := (by have : (0 : Int) < (a0.size : Int) := of_decide_eq_true asz_; omega); have hx6 : ∀ h : 0 < a0.size, ((a0[0]'h).toNat : Int) = bt a0 0 := bt_at a0 0; clear p6; have qi6 : (0 < (a0.size : Int)) = True := eq_true (of_decide_eq_true asz_); replace q6 := eq_true q6))
     go_meet
     case rel => exact ⟨_, (false), qaz_, H', ⟨by first | omega | exact Nat.le_refl _⟩, by repeat (first | exact Drawn0.refl _ | apply Drawn0.step)⟩
   ·rw [if_neg c5] at H
    exact absurd H (by simp)
  ·replace c4 := Bool.eq_false_iff.mpr c4
   subst c4
   rw [if_neg nfz_] at H
   have H' := Az_ H
   clear H
   go_wp2_with (first | ((with_reducible refine gate_callee (f := 101) rfl ?_); refine goesL_ (some 7) rfl rfl Tryd.func101 (by kernel_rfl) rfl #[.int .i64 (a0.size : Int), .int .i64 1, .int .i64 6] rfl maz_ ?_; (with_reducible refine (spec_l1In.calls (a0.size : Int) 1 6 false _ A3.out).mono ?_); rintro e w' ⟨rfl, ⟨nd, rfl⟩⟩; refine ⟨_, rfl, ?_⟩))
   go_meet
   case rel => exact ⟨_, (true), qaz_, H', ⟨by first | omega | exact Nat.le_refl _⟩, by repeat (first | exact Drawn0.refl _ | apply Drawn0.step)⟩
 case rest =>
  clear HC2
  obtain ⟨kq, x18_1, rfl, HA, HJ1, ⟨mc1, rfl⟩⟩ := hcut
  cases kq with
  | zero => exact absurd HA.out (by simp [j0])
  | succ kj1 =>
   have H := HA.out
   clear HA
   simp only [j0] at H
   by_cases c8 : x18_1 = true
   ·subst c8
    rw [if_pos rfl] at H
    obtain rfl := Option.some.inj H
    go_wp2
    go_ret
    exact ⟨by first | rfl | (simp; done) | (simp [*]; done), by repeat (first | exact Drawn0.refl _ | apply Drawn0.step)⟩
   ·replace c8 := Bool.eq_false_iff.mpr c8
    subst c8
    rw [if_neg nfz_] at H
    have H' := Az_ H
    clear H
    go_wp2
    go_loopg [3, 4] kj1 (fun kq v3 v4 w' => ∃ (x3_2 : Int) (x4_2 : Int), v3 = .int .i64 x3_2 ∧ v4 = .int .i64 x4_2 ∧ Aside0 (spec_l1Read.l0 kq a0 x3_2 x4_2 = some r) ∧ Aside0 (kq ≤ kj1) ∧ Drawn0 w w')
    case atStart => exact ⟨(0), (0), qaz_, qaz_, H', ⟨Nat.le_refl _⟩, by repeat (first | exact Drawn0.refl _ | apply Drawn0.step)⟩
    case round =>
     clear H'
     obtain ⟨x3_2, x4_2, rfl, rfl, HA, HK2, ⟨m2, rfl⟩⟩ := hrel
     cases gk with
     | zero => exact absurd HA.out (by simp [spec_l1Read.l0])
     | succ k2 =>
      have H := HA.out
      clear HA
      simp only [spec_l1Read.l0] at H
      by_cases c9 : x4_2 < (a0.size : Int)
      ·rw [if_pos c9] at H
       have c9b0 := decide_eq_true c9
       clear c9
       by_cases c10 : 0 ≤ x4_2
       ·rw [if_pos c10] at H
        have c10b0 := decide_eq_true c10
        clear c10
        by_cases c12 : (bt a0 x4_2) < 48
        ·rw [if_pos c12] at H
         have c12b0 := decide_eq_true c12
         clear c12
         obtain rfl := Option.some.inj H
         have p11 : 0 ≤ (x4_2 : Int) := of_decide_eq_true asz_
         have q11 : x4_2 < (a0.size : Int) := of_decide_eq_true asz_
         have hx11 := bt_at a0 x4_2
         replace p11 := eq_true p11
         replace q11 := eq_true q11
         go_wp2
         go_ret
         exact ⟨by first | rfl | (simp; done) | (simp [*]; done), by repeat (first | exact Drawn0.refl _ | apply Drawn0.step)⟩
        ·rw [if_neg c12] at H
         have c12b0 := decide_eq_false c12
         clear c12
         by_cases c14 : (bt a0 x4_2) > 57
         ·rw [if_pos c14] at H
          have c14b0 := decide_eq_true c14
          clear c14
          obtain rfl := Option.some.inj H
          have p11 : 0 ≤ (x4_2 : Int) := of_decide_eq_true asz_
          have q11 : x4_2 < (a0.size : Int) := of_decide_eq_true asz_
          have hx11 := bt_at a0 x4_2
          replace p11 := eq_true p11
          replace q11 := eq_true q11
          have p13 : 0 ≤ (x4_2 : Int) := of_decide_eq_true asz_
          have q13 : x4_2 < (a0.size : Int) := of_decide_eq_true asz_
          have hx13 := bt_at a0 x4_2
          replace p13 := eq_true p13
          replace q13 := eq_true q13
          go_wp2
          go_ret
          exact ⟨by first | rfl | (simp; done) | (simp [*]; done), by repeat (first | exact Drawn0.refl _ | apply Drawn0.step)⟩
         ·rw [if_neg c14] at H
          have c14b0 := decide_eq_false c14
          clear c14
          have H' := Az_ H
          clear H
          have p11 : 0 ≤ (x4_2 : Int) := of_decide_eq_true asz_
          have q11 : x4_2 < (a0.size : Int) := of_decide_eq_true asz_
          have hx11 := bt_at a0 x4_2
          replace p11 := eq_true p11
          replace q11 := eq_true q11
          have p13 : 0 ≤ (x4_2 : Int) := of_decide_eq_true asz_
          have q13 : x4_2 < (a0.size : Int) := of_decide_eq_true asz_
          have hx13 := bt_at a0 x4_2
          replace p13 := eq_true p13
          replace q13 := eq_true q13
          have p15 : 0 ≤ (x4_2 : Int) := of_decide_eq_true asz_
          have q15 : x4_2 < (a0.size : Int) := of_decide_eq_true asz_
          have hx15 := bt_at a0 x4_2
          replace p15 := eq_true p15
          replace q15 := eq_true q15
          go_wp2
          go_roundg k2
          case measure => have := HJ1.out; have := HK2.out; omega
          case rel => exact ⟨(wrap64 ((wrap64 (10 * x3_2)) + (((bt a0 x4_2) - 48) % 256))), (wrap64 (x4_2 + 1)), qaz_, qaz_, H', ⟨by have := HJ1.out; have := HK2.out; omega⟩, by repeat (first | exact Drawn0.refl _ | apply Drawn0.step)⟩
       ·rw [if_neg c10] at H
        exact absurd H (by simp)
      ·rw [if_neg c9] at H
       have c9b0 := decide_eq_false c9
       clear c9
       obtain rfl := Option.some.inj H
       go_wp2
       go_ret
       exact ⟨by first | rfl | (simp; done) | (simp [*]; done), by repeat (first | exact Drawn0.refl _ | apply Drawn0.step)⟩

end Go.Proofs.YtppbpefehpbejaaDoor.P
end

section
namespace Go.Proofs.YtppbpefehpbejaaDoor.P
open Go.RowKit Go.Proofs.YtppbpefehpbejaaDoorW.PrintWords Go.Proofs.YtppbpefehpbejaaDoorW.PrintLast Go.Proofs.YtppbpefehpbejaaDoorW.PrintMore
attribute [local go_sem] max2_int min2_int max_two min_two max_three min_three max_four min_four   -- for this text's walks alone
set_option linter.unusedVariables false
set_option linter.unusedSimpArgs false

/-! ### spec_biParse: function 147 -/
mutual
def spec_biParse.j0 : Nat → ByteArray → Bool → Option (List Int × Bool)
 | 0, _, _ => none
 | k + 1, x0, x15 => if x15 = true then (some (([] : List Int), false)) else (spec_biParse.l0 k x0 ([] : List Int) 0)
def spec_biParse.l0 : Nat → ByteArray → List Int → Int → Option (List Int × Bool)
 | 0, _, _, _ => none
 | k + 1, x0, x4, x5 => if x5 < (x0.size : Int) then (if 0 ≤ (wrap64 (x5 + 1)) then (if (wrap64 (x5 + 1)) ≤ (wrap64 (x5 + 2)) then (if (wrap64 (x5 + 2)) ≤ (x0.size : Int) then ((spec_l1Read.f k (x0.extract ((wrap64 (x5 + 1)) : Int).toNat ((wrap64 (x5 + 2)) : Int).toNat)).bind fun t494 => (if 0 ≤ x5 then (if (bt x0 x5) = 43 then (if x4.length < 17592186044416 then (spec_biParse.l0 k x0 (x4 ++ [t494]) (wrap64 (x5 + 2))) else (none)) else (if (bt x0 x5) = 45 then (if x4.length < 17592186044416 then (spec_biParse.l0 k x0 (x4 ++ [wrap64 (-t494)]) (wrap64 (x5 + 2))) else (none)) else (some (([] : List Int), false)))) else (none))) else (none)) else (none)) else (none)) else ((spec_biGood.f k x4).bind fun t501 => (if t501 = true then ((spec_biText.f k x4).bind fun t502 => (if t502.toList = x0.toList then (some (x4, true)) else (some (([] : List Int), false)))) else (some (([] : List Int), false))))
end
def spec_biParse.f (k : Nat) (a0 : ByteArray) : Option (List Int × Bool) := if ((a0.size : Int) % 2) = 1 then (spec_biParse.j0 k a0 true) else (spec_biParse.j0 k a0 (decide ((a0.size : Int) > 16)))
set_option maxHeartbeats 8000000 in
set_option maxRecDepth 100000 in
theorem spec_biParse.calls (k : Nat) (a0 : ByteArray) (r1 : List Int) (r2 : Bool) (w : World) (h : spec_biParse.f k a0 = some (r1, r2)) :
  Calls Tryd.prog 147 #[.string a0] w fun e w' => ∃ v0_ : Value, e = .returned (.tuple #[v0_, .bool r2]) ∧ Kd.R (Kd.int .i64) 3 w' w.heap.size (fun _ => True) v0_ r1 ∧ Below w.heap.size w w' := by
 have HB := Az_ (Below.refl w.heap.size w)
 have H : (if ((a0.size : Int) % 2) = 1 then (j0 k a0 true) else (j0 k a0 (decide ((a0.size : Int) > 16)))) = some (r1, r2) := h
 clear h
 have HC2 := Az_ H
 clear H
 go_enter Tryd.func147, Tryd.ntmps147
 go_upto_region 1 with (fail)
 go_cut [15] (fun v15 wc => ∃ (kq : Nat) (x15_1 : Bool), v15 = .bool x15_1 ∧ Aside0 (j0 kq a0 x15_1 = some (r1, r2)) ∧ Aside0 (kq ≤ k) ∧ Aside0 (Below w.heap.size w wc))
 case first =>
  have H := HC2.out
  clear HC2
  by_cases c3 : ((a0.size : Int) % 2) = 1
  ·rw [if_pos c3] at H
   have c3b0 : (((a0.size : Int) % 2) == 1) = true := beq_iff_eq.mpr c3
   have c3b1 : (((a0.size : Int) % 2) != 1) = false := bne_eq_false_iff_eq.mpr c3
   clear c3
   (first | rw [c3b0] | (simp only [i64_w, i32_w]; rw [c3b0]) | skip)
   have H' := Az_ H
   clear H
   go_wp2
   go_meet
   case rel => exact ⟨_, (true), qaz_, H', ⟨by first | omega | exact Nat.le_refl _⟩, ⟨by exact ubz_ HB.out⟩⟩
  ·rw [if_neg c3] at H
   have c3b0 : (((a0.size : Int) % 2) == 1) = false := beq_eq_false_iff_ne.mpr c3
   have c3b1 : (((a0.size : Int) % 2) != 1) = true := bne_iff_ne.mpr c3
   (first | rw [c3b0] | (simp only [i64_w, i32_w]; rw [c3b0]) | skip)
   have H' := Az_ H
   clear H
   go_wp2
   go_meet
   case rel => exact ⟨_, (decide ((a0.size : Int) > 16)), qaz_, H', ⟨by first | omega | exact Nat.le_refl _⟩, ⟨by exact ubz_ HB.out⟩⟩
 case rest =>
  clear HC2
  obtain ⟨kq, x15_1, rfl, HA, HJ1, HB⟩ := hcut
  cases kq with
  | zero => exact absurd HA.out (by simp [j0])
  | succ kj1 =>
   have H := HA.out
   clear HA
   simp only [j0] at H
   by_cases c4 : x15_1 = true
   ·subst c4
    rw [if_pos rfl] at H
    simp only [Option.some.injEq, Prod.mk.injEq] at H
    obtain ⟨rfl, rfl⟩ := H
    go_wp2
    go_ret2
    exact ⟨_, by first | rfl | (simp [errW_none, errW_some] <;> rfl) | (simp [*, errW_none, errW_some] <;> rfl), by first | exact Kd.R_nil _ _ _ _ _ | exact Kd.N_nil _ _ _ _ _ | exact Kd.V_nil _ _ _ _ _ | exact Kd.Q_nil _ _ _ _ _ | exact Kd.S_nil _ _ _ _ _, by exact ubz_ HB.out⟩
   ·replace c4 := Bool.eq_false_iff.mpr c4
    subst c4
    rw [if_neg nfz_] at H
    have H' := Az_ H
    clear H
    go_wp2
    go_loopg [4, 5] kj1 (fun kq v4 v5 w' => ∃ (x4_2 : List Int) (x5_2 : Int), v5 = .int .i64 x5_2 ∧ Aside0 (spec_biParse.l0 kq a0 x4_2 x5_2 = some (r1, r2)) ∧ Aside0 (kq ≤ kj1) ∧ Aside0 (Kd.R (Kd.int .i64) 3 w' w.heap.size (fun _ => True) v4 x4_2) ∧ Aside0 (Below w.heap.size w w'))
    case atStart => exact ⟨(([] : List Int)), (0), qaz_, H', ⟨Nat.le_refl _⟩, ⟨by first | exact Kd.R_nil _ _ _ _ _ | exact Kd.N_nil _ _ _ _ _ | exact Kd.V_nil _ _ _ _ _ | exact Kd.Q_nil _ _ _ _ _ | exact Kd.S_nil _ _ _ _ _⟩, ⟨by exact ubz_ HB.out⟩⟩
    case round =>
     clear H'
     obtain ⟨x4_2, x5_2, rfl, HA, HK2, HO_4, HB⟩ := hrel
     cases gk with
     | zero => exact absurd HA.out (by simp [spec_biParse.l0])
     | succ k2 =>
      have H := HA.out
      clear HA
      simp only [spec_biParse.l0] at H
      by_cases c5 : x5_2 < (a0.size : Int)
      ·rw [if_pos c5] at H
       have c5b0 := decide_eq_true c5
       clear c5
       obtain ⟨ji6, hji6⟩ : ∃ j_ : Int, (wrap64 (x5_2 + 1)) = j_ := ⟨_, rfl⟩
       replace H : (if 0 ≤ (ji6) then (if (ji6) ≤ (wrap64 (x5_2 + 2)) then (if (wrap64 (x5_2 + 2)) ≤ (a0.size : Int) then ((spec_l1Read.f k2 (a0.extract ((ji6) : Int).toNat ((wrap64 (x5_2 + 2)) : Int).toNat)).bind fun t494 => (if 0 ≤ x5_2 then (if (bt a0 x5_2) = 43 then (if x4_2.length < 17592186044416 then (spec_biParse.l0 k2 a0 (x4_2 ++ [t494]) (wrap64 (x5_2 + 2))) else (none)) else (if (bt a0 x5_2) = 45 then (if x4_2.length < 17592186044416 then (spec_biParse.l0 k2 a0 (x4_2 ++ [wrap64 (-t494)]) (wrap64 (x5_2 + 2))) else (none)) else (some (([] : List Int), false)))) else (none))) else (none)) else (none)) else (none)) = some (r1, r2) := by first | (rw [hji6] at H; exact H) | (simp only [hji6] at H ⊢; exact H)
       have hji6w : (IntKind.i64.wrap (x5_2 + 1)) = ji6 := (i64_w _).trans hji6
       by_cases c7 : 0 ≤ (ji6)
       ·rw [if_pos c7] at H
        have c7b0 := eq_true c7
        have c7b1 := decide_eq_true c7
        clear c7
        by_cases c8 : (ji6) ≤ (wrap64 (x5_2 + 2))
        ·rw [if_pos c8] at H
         have c8b0 := eq_true c8
         have c8b1 := decide_eq_true c8
         by_cases c9 : (wrap64 (x5_2 + 2)) ≤ (a0.size : Int)
         ·rw [if_pos c9] at H
          have c9b0 := eq_true c9
          have c9b1 := decide_eq_true c9
          replace H := bqz_ H; obtain ⟨t494, A10, H⟩ := H
          replace H : (if 0 ≤ x5_2 then (if (bt a0 x5_2) = 43 then (if x4_2.length < 17592186044416 then (spec_biParse.l0 k2 a0 (x4_2 ++ [t494]) (wrap64 (x5_2 + 2))) else (none)) else (if (bt a0 x5_2) = 45 then (if x4_2.length < 17592186044416 then (spec_biParse.l0 k2 a0 (x4_2 ++ [wrap64 (-t494)]) (wrap64 (x5_2 + 2))) else (none)) else (some (([] : List Int), false)))) else (none)) = some (r1, r2) := H
          by_cases c11 : 0 ≤ x5_2
          ·rw [if_pos c11] at H
           have c11b0 := decide_eq_true c11
           clear c11
           by_cases c13 : (bt a0 x5_2) = 43
           ·rw [if_pos c13] at H
            have c13b0 : ((bt a0 x5_2) == 43) = true := beq_iff_eq.mpr c13
            have c13b1 : ((bt a0 x5_2) != 43) = false := bne_eq_false_iff_eq.mpr c13
            clear c13
            by_cases c14 : x4_2.length < 17592186044416
            ·rw [if_pos c14] at H
             have LMc14 := Az_ c14
             clear c14
             obtain ⟨y495, hy495⟩ : ∃ y_ : List Int, y_ = (x4_2 ++ [t494]) := ⟨_, rfl⟩
             replace H : (spec_biParse.l0 k2 a0 y495 (wrap64 (x5_2 + 2))) = some (r1, r2) := by first | (rw [hy495]; with_reducible exact H) | (have H2_ := (Option.bind_some _ _).symm.trans H; rw [hy495]; with_reducible exact H2_) | (have H2_ := (Option.bind_some _ _).symm.trans H; with_reducible exact H2_) | with_reducible exact H | (rw [hy495]; exact H) | exact H
             have Ny495 := Az_ hy495
             clear hy495
             have H' := Az_ H
             clear H
             go_wp2_with (first | ((with_reducible refine gate_callee (f := 192) rfl ?_); refine goesL_ (some 28) rfl rfl Tryd.func192 (by kernel_rfl) rfl #[.string (a0.extract ((ji6) : Int).toNat ((wrap64 (x5_2 + 2)) : Int).toNat)] rfl (by (try simp only [List.map_toArray, List.map_cons, List.map_nil]); first | done | (simp only [hji6]; rfl) | rfl | (simp only [List.length_drop, List.length_take]; rfl)) ?_; (with_reducible refine (spec_l1Read.calls k2 (a0.extract ((ji6) : Int).toNat ((wrap64 (x5_2 + 2)) : Int).toNat) t494 _ A10.out).mono ?_); rintro e w' ⟨rfl, ⟨nd, rfl⟩⟩; refine ⟨_, rfl, ?_⟩; have p12 : 0 ≤ (x5_2 : Int) := of_decide_eq_true asz_; have q12 : x5_2 < (a0.size : Int) := of_decide_eq_true asz_; have hx12 := bt_at a0 x5_2; replace p12 := eq_true p12; replace q12 := eq_true q12) | ((with_reducible refine gate_builtin (b := .append) (xs := #[.tmp 38, .tmp 40]) rfl ?_); (try (refine gate_guard (by rfl) ?_; dsimp only)); at_builtin; refine Kd.R_append (Kd.int .i64) (w0 := w) w.heap.size rfl (.tmp 38) (.tmp 40) 49 3 (.int .i64 0) 8 rfl Tryd.underlying49 info3 rfl (by decide) (by omega) u4 x4_2 t494 [.int .i64 t494] (fun _ => True) (fun _ => False) rfl rfl ?aP (fun _ hk => hk.elim) ?aF ?aO ?aB ?aS ?aL ?_; (case aP => exact rfl); (case aB => exact (ubz_ HB.out)); (case aF => exact (fun _ _ => trivial)); (case aO => exact (by exact urz_ HO_4.out)); (case aS => exact (below_size (ubz_ HB.out))); (case aL => have := LMc14.out; omega); intro v496 w15 ho hb hg hat; rw [← Ny495.out] at ho; replace HB := Az_ (hb); have HO497 := Az_ (ho); clear HO_4; clear ho hb hg hat))
             go_roundg k2
             case measure => have := HJ1.out; have := HK2.out; omega
             case rel => exact ⟨(y495), (wrap64 (x5_2 + 2)), qaz_, H', ⟨by have := HJ1.out; have := HK2.out; omega⟩, ⟨by (with_reducible repeat (first | apply raz_ | apply rnz_ | apply rdz_)); exact HO497.out⟩, ⟨by exact ubz_ HB.out⟩⟩
            ·rw [if_neg c14] at H
             exact absurd H (by simp)
           ·rw [if_neg c13] at H
            have c13b0 : ((bt a0 x5_2) == 43) = false := beq_eq_false_iff_ne.mpr c13
            have c13b1 : ((bt a0 x5_2) != 43) = true := bne_iff_ne.mpr c13
            by_cases c16 : (bt a0 x5_2) = 45
            ·rw [if_pos c16] at H
             have c16b0 : ((bt a0 x5_2) == 45) = true := beq_iff_eq.mpr c16
             have c16b1 : ((bt a0 x5_2) != 45) = false := bne_eq_false_iff_eq.mpr c16
             clear c16
             by_cases c17 : x4_2.length < 17592186044416
             ·rw [if_pos c17] at H
              have LMc17 := Az_ c17
              clear c17
              obtain ⟨y498, hy498⟩ : ∃ y_ : List Int, y_ = (x4_2 ++ [wrap64 (-t494)]) := ⟨_, rfl⟩
              replace H : (spec_biParse.l0 k2 a0 y498 (wrap64 (x5_2 + 2))) = some (r1, r2) := by first | (rw [hy498]; with_reducible exact H) | (have H2_ := (Option.bind_some _ _).symm.trans H; rw [hy498]; with_reducible exact H2_) | (have H2_ := (Option.bind_some _ _).symm.trans H; with_reducible exact H2_) | with_reducible exact H | (rw [hy498]; exact H) | exact H
              have Ny498 := Az_ hy498
              clear hy498
              have H' := Az_ H
              clear H
              go_wp2_with (first | ((with_reducible refine gate_callee (f := 192) rfl ?_); refine goesL_ (some 28) rfl rfl Tryd.func192 (by kernel_rfl) rfl #[.string (a0.extract ((ji6) : Int).toNat ((wrap64 (x5_2 + 2)) : Int).toNat)] rfl (by (try simp only [List.map_toArray, List.map_cons, List.map_nil]); first | done | (simp only [hji6]; rfl) | rfl | (simp only [List.length_drop, List.length_take]; rfl)) ?_; (with_reducible refine (spec_l1Read.calls k2 (a0.extract ((ji6) : Int).toNat ((wrap64 (x5_2 + 2)) : Int).toNat) t494 _ A10.out).mono ?_); rintro e w' ⟨rfl, ⟨nd, rfl⟩⟩; refine ⟨_, rfl, ?_⟩; have p12 : 0 ≤ (x5_2 : Int) := of_decide_eq_true asz_; have q12 : x5_2 < (a0.size : Int) := of_decide_eq_true asz_; have hx12 := bt_at a0 x5_2; replace p12 := eq_true p12; replace q12 := eq_true q12) | ((with_reducible refine gate_builtin (b := .append) (xs := #[.tmp 38, .tmp 40]) rfl ?_); (try (refine gate_guard (by rfl) ?_; dsimp only)); at_builtin; refine Kd.R_append (Kd.int .i64) (w0 := w) w.heap.size rfl (.tmp 38) (.tmp 40) 49 3 (.int .i64 0) 8 rfl Tryd.underlying49 info3 rfl (by decide) (by omega) u4 x4_2 (wrap64 (-t494)) [.int .i64 (wrap64 (-t494))] (fun _ => True) (fun _ => False) rfl rfl ?aP (fun _ hk => hk.elim) ?aF ?aO ?aB ?aS ?aL ?_; (case aP => exact rfl); (case aB => exact (ubz_ HB.out)); (case aF => exact (fun _ _ => trivial)); (case aO => exact (by exact urz_ HO_4.out)); (case aS => exact (below_size (ubz_ HB.out))); (case aL => have := LMc17.out; omega); intro v499 w18 ho hb hg hat; rw [← Ny498.out] at ho; replace HB := Az_ (hb); have HO500 := Az_ (ho); clear HO_4; clear ho hb hg hat))
              go_roundg k2
              case measure => have := HJ1.out; have := HK2.out; omega
              case rel => exact ⟨(y498), (wrap64 (x5_2 + 2)), qaz_, H', ⟨by have := HJ1.out; have := HK2.out; omega⟩, ⟨by (with_reducible repeat (first | apply raz_ | apply rnz_ | apply rdz_)); exact HO500.out⟩, ⟨by exact ubz_ HB.out⟩⟩
             ·rw [if_neg c17] at H
              exact absurd H (by simp)
            ·rw [if_neg c16] at H
             have c16b0 : ((bt a0 x5_2) == 45) = false := beq_eq_false_iff_ne.mpr c16
             have c16b1 : ((bt a0 x5_2) != 45) = true := bne_iff_ne.mpr c16
             simp only [Option.some.injEq, Prod.mk.injEq] at H
             obtain ⟨rfl, rfl⟩ := H
             go_wp2_with (first | ((with_reducible refine gate_callee (f := 192) rfl ?_); refine goesL_ (some 28) rfl rfl Tryd.func192 (by kernel_rfl) rfl #[.string (a0.extract ((ji6) : Int).toNat ((wrap64 (x5_2 + 2)) : Int).toNat)] rfl (by (try simp only [List.map_toArray, List.map_cons, List.map_nil]); first | done | (simp only [hji6]; rfl) | rfl | (simp only [List.length_drop, List.length_take]; rfl)) ?_; (with_reducible refine (spec_l1Read.calls k2 (a0.extract ((ji6) : Int).toNat ((wrap64 (x5_2 + 2)) : Int).toNat) t494 _ A10.out).mono ?_); rintro e w' ⟨rfl, ⟨nd, rfl⟩⟩; refine ⟨_, rfl, ?_⟩; have p12 : 0 ≤ (x5_2 : Int) := of_decide_eq_true asz_; have q12 : x5_2 < (a0.size : Int) := of_decide_eq_true asz_; have hx12 := bt_at a0 x5_2; replace p12 := eq_true p12; replace q12 := eq_true q12))
             go_ret2
             exact ⟨_, by first | rfl | (simp [errW_none, errW_some] <;> rfl) | (simp only [← hji6]; first | rfl | (simp [errW_none, errW_some] <;> rfl)) | (simp [*, errW_none, errW_some] <;> rfl), by first | exact Kd.R_nil _ _ _ _ _ | exact Kd.N_nil _ _ _ _ _ | exact Kd.V_nil _ _ _ _ _ | exact Kd.Q_nil _ _ _ _ _ | exact Kd.S_nil _ _ _ _ _, by exact ubz_ HB.out⟩
          ·rw [if_neg c11] at H
           exact absurd H (by simp)
         ·rw [if_neg c9] at H
          exact absurd H (by simp)
        ·rw [if_neg c8] at H
         exact absurd H (by simp)
       ·rw [if_neg c7] at H
        exact absurd H (by simp)
      ·rw [if_neg c5] at H
       have c5b0 := decide_eq_false c5
       clear c5
       replace H := bqz_ H; obtain ⟨t501, A19, H⟩ := H
       replace H : (if t501 = true then ((spec_biText.f k2 x4_2).bind fun t502 => (if t502.toList = a0.toList then (some (x4_2, true)) else (some (([] : List Int), false)))) else (some (([] : List Int), false))) = some (r1, r2) := H
       by_cases c20 : t501 = true
       ·subst c20
        rw [if_pos rfl] at H
        replace H := bqz_ H; obtain ⟨t502, A21, H⟩ := H
        replace H : (if t502.toList = a0.toList then (some (x4_2, true)) else (some (([] : List Int), false))) = some (r1, r2) := H
        by_cases c22 : t502.toList = a0.toList
        ·rw [if_pos c22] at H
         have c22b0 : (t502.toList == a0.toList) = true := beq_iff_eq.mpr c22
         have c22b1 : (t502.toList != a0.toList) = false := bne_eq_false_iff_eq.mpr c22
         clear c22
         simp only [Option.some.injEq, Prod.mk.injEq] at H
         obtain ⟨rfl, rfl⟩ := H
         obtain ⟨Ao23, co23, eo23⟩ := Kd.R_slice HO_4.out
         subst eo23
         go_wp2_with (first | ((with_reducible refine gate_callee (f := 123) rfl ?_); refine goesL_ (some 43) rfl rfl Tryd.func123 (by kernel_rfl) rfl #[.slice Ao23 x4_2.length co23] rfl maz_ ?_; (with_reducible refine (spec_biGood.calls k2 _ _ x4_2 true _ ?side1 ?side2 A19.out).mono ?_); (case side1 => exact ucz_ ((Kd.R_reads' HO_4.out).2.2)); (case side2 => exact (Kd.R_reads' HO_4.out).2.1); rintro e w' ⟨rfl, ⟨nd, rfl⟩⟩; refine ⟨_, rfl, ?_⟩) | (go_at_call 126; (with_reducible refine (spec_biText.calls k2 _ _ x4_2 t502 _ ?side1 ?side2 A21.out).mono ?_); (case side1 => exact ucz_ ((Kd.R_reads' HO_4.out).2.2)); (case side2 => exact (Kd.R_reads' HO_4.out).2.1); rintro e w24 ⟨rfl, hb⟩; replace HO_4 := Az_ (Kd.R_below (by exact urz_ HO_4.out) hb); replace HB := Az_ (btz_ (ubz_ HB.out) hb); (try clear hb)))
         go_ret2
         exact ⟨_, by first | rfl | (simp [errW_none, errW_some] <;> rfl) | (simp [*, errW_none, errW_some] <;> rfl), by (with_reducible repeat (first | apply raz_ | apply rnz_ | apply rdz_)); exact HO_4.out, by exact ubz_ HB.out⟩
        ·rw [if_neg c22] at H
         have c22b0 : (t502.toList == a0.toList) = false := beq_eq_false_iff_ne.mpr c22
         have c22b1 : (t502.toList != a0.toList) = true := bne_iff_ne.mpr c22
         simp only [Option.some.injEq, Prod.mk.injEq] at H
         obtain ⟨rfl, rfl⟩ := H
         obtain ⟨Ao25, co25, eo25⟩ := Kd.R_slice HO_4.out
         subst eo25
         go_wp2_with (first | ((with_reducible refine gate_callee (f := 123) rfl ?_); refine goesL_ (some 43) rfl rfl Tryd.func123 (by kernel_rfl) rfl #[.slice Ao25 x4_2.length co25] rfl maz_ ?_; (with_reducible refine (spec_biGood.calls k2 _ _ x4_2 true _ ?side1 ?side2 A19.out).mono ?_); (case side1 => exact ucz_ ((Kd.R_reads' HO_4.out).2.2)); (case side2 => exact (Kd.R_reads' HO_4.out).2.1); rintro e w' ⟨rfl, ⟨nd, rfl⟩⟩; refine ⟨_, rfl, ?_⟩) | (go_at_call 126; (with_reducible refine (spec_biText.calls k2 _ _ x4_2 t502 _ ?side1 ?side2 A21.out).mono ?_); (case side1 => exact ucz_ ((Kd.R_reads' HO_4.out).2.2)); (case side2 => exact (Kd.R_reads' HO_4.out).2.1); rintro e w26 ⟨rfl, hb⟩; replace HO_4 := Az_ (Kd.R_below (by exact urz_ HO_4.out) hb); replace HB := Az_ (btz_ (ubz_ HB.out) hb); (try clear hb)))
         go_ret2
         exact ⟨_, by first | rfl | (simp [errW_none, errW_some] <;> rfl) | (simp [*, errW_none, errW_some] <;> rfl), by first | exact Kd.R_nil _ _ _ _ _ | exact Kd.N_nil _ _ _ _ _ | exact Kd.V_nil _ _ _ _ _ | exact Kd.Q_nil _ _ _ _ _ | exact Kd.S_nil _ _ _ _ _, by exact ubz_ HB.out⟩
       ·replace c20 := Bool.eq_false_iff.mpr c20
        subst c20
        rw [if_neg nfz_] at H
        simp only [Option.some.injEq, Prod.mk.injEq] at H
        obtain ⟨rfl, rfl⟩ := H
        obtain ⟨Ao27, co27, eo27⟩ := Kd.R_slice HO_4.out
        subst eo27
        go_wp2_with (first | ((with_reducible refine gate_callee (f := 123) rfl ?_); refine goesL_ (some 43) rfl rfl Tryd.func123 (by kernel_rfl) rfl #[.slice Ao27 x4_2.length co27] rfl maz_ ?_; (with_reducible refine (spec_biGood.calls k2 _ _ x4_2 false _ ?side1 ?side2 A19.out).mono ?_); (case side1 => exact ucz_ ((Kd.R_reads' HO_4.out).2.2)); (case side2 => exact (Kd.R_reads' HO_4.out).2.1); rintro e w' ⟨rfl, ⟨nd, rfl⟩⟩; refine ⟨_, rfl, ?_⟩))
        go_ret2
        exact ⟨_, by first | rfl | (simp [errW_none, errW_some] <;> rfl) | (simp [*, errW_none, errW_some] <;> rfl), by first | exact Kd.R_nil _ _ _ _ _ | exact Kd.N_nil _ _ _ _ _ | exact Kd.V_nil _ _ _ _ _ | exact Kd.Q_nil _ _ _ _ _ | exact Kd.S_nil _ _ _ _ _, by exact ubz_ HB.out⟩

/-! ### spec_ParseBinding: function 63 -/
def spec_ParseBinding.f (k : Nat) (a0 : ByteArray) : Option (List Int × Bool) := (spec_biParse.f k a0).bind fun bt503 => (some (bt503.1, bt503.2))
set_option maxHeartbeats 8000000 in
set_option maxRecDepth 100000 in
theorem spec_ParseBinding.calls (k : Nat) (a0 : ByteArray) (r1 : List Int) (r2 : Bool) (w : World) (h : spec_ParseBinding.f k a0 = some (r1, r2)) :
  Calls Tryd.prog 63 #[.string a0] w fun e w' => ∃ v0_ : Value, e = .returned (.tuple #[v0_, .bool r2]) ∧ Kd.R (Kd.int .i64) 3 w' w.heap.size (fun _ => True) v0_ r1 ∧ Below w.heap.size w w' := by
 have HB := Az_ (Below.refl w.heap.size w)
 have H : ((spec_biParse.f k a0).bind fun bt503 => (some (bt503.1, bt503.2))) = some (r1, r2) := h
 clear h
 replace H := bqz_ H; obtain ⟨⟨t503, t504⟩, A2, H⟩ := H
 replace H : (some (t503, t504)) = some (r1, r2) := H
 simp only [Option.some.injEq, Prod.mk.injEq] at H
 obtain ⟨rfl, rfl⟩ := H
 go_enter Tryd.func63, Tryd.ntmps63
 go_wp2_with (first | ((with_reducible refine gate_callee (f := 147) rfl ?_); refine goesL_ (some 5) rfl rfl Tryd.func147 (by kernel_rfl) rfl #[.string a0] rfl maz_ ?_; (with_reducible refine (spec_biParse.calls k a0 t503 t504 _ A2.out).mono ?_); rintro e w3 ⟨v505, rfl, ho0, hb⟩; refine ⟨_, rfl, ?_⟩; have HO506 := Az_ (Kd.R_lower ho0 (below_size (ubz_ HB.out))); replace HB := Az_ (btz_ (ubz_ HB.out) hb); (try clear hb); (try clear ho0)))
 go_ret2
 exact ⟨_, by first | rfl | (simp [errW_none, errW_some] <;> rfl) | (simp [*, errW_none, errW_some] <;> rfl), by (with_reducible repeat (first | apply raz_ | apply rnz_ | apply rdz_)); exact HO506.out, by exact ubz_ HB.out⟩

end Go.Proofs.YtppbpefehpbejaaDoor.P
end

section
namespace Go.Proofs.YtppbpefehpbejaaDoor.P
open Go.RowKit Go.Proofs.YtppbpefehpbejaaDoorW.PrintWords Go.Proofs.YtppbpefehpbejaaDoorW.PrintLast Go.Proofs.YtppbpefehpbejaaDoorW.PrintMore
attribute [local go_sem] max2_int min2_int max_two min_two max_three min_three max_four min_four   -- for this text's walks alone
set_option linter.unusedVariables false
set_option linter.unusedSimpArgs false

/-! ### impl_RankOfBinding: function 65 -/
def impl_RankOfBinding.l0 : Nat → List Int → Int → List Int → Int → Int → Option (Int × Bool)
 | 0, _, _, _, _, _ => none
 | k + 1, x0, x4, x10, x11, x12 => if x12 < x11 then (if 0 ≤ x12 then (if x12 < (x10.length : Int) then (if x12 ≤ (x0.length : Int) then ((impl_choices.f k (x0.length : Int) (x0.take (x12 : Int).toNat)).bind fun t510 => ((slices_Index_int_int.f k t510 (rd x10 x12)).bind fun t513 => ((impl_countBindings.f k (wrap64 ((wrap64 ((x0.length : Int) - x12)) - 1))).bind fun t514 => (impl_RankOfBinding.l0 k x0 (wrap64 (x4 + (wrap64 (t513 * t514)))) x10 x11 (wrap64 (x12 + 1)))))) else (none)) else (none)) else (none)) else (some (x4, true))
def impl_RankOfBinding.f (k : Nat) (l0 : List Int) : Option (Int × Bool) := (impl_IsBinding.f k l0).bind fun t507 => (if t507 = true then (impl_RankOfBinding.l0 k l0 0 l0 (l0.length : Int) 0) else (some (0, false)))
theorem impl_RankOfBinding.mono_l : ∀ k, (∀ y0 y1 y2 y3 y4, LeO (impl_RankOfBinding.l0 k y0 y1 y2 y3 y4) (impl_RankOfBinding.l0 (k + 1) y0 y1 y2 y3 y4))
 | 0 => fun _ _ _ _ _ r h => by simp [impl_RankOfBinding.l0] at h
 | k + 1 => by
  have ih0 := impl_RankOfBinding.mono_l k
  ·intro y0 y1 y2 y3 y4
   unfold impl_RankOfBinding.l0
   repeat' first
   | (with_reducible exact ih0 _ _ _ _ _)
   | (with_reducible exact impl_IsBinding.mono _ _)
   | (with_reducible exact impl_choices.mono _ _ _)
   | (with_reducible exact impl_countBindings.mono _ _)
   | (with_reducible exact slices_Index_int_int.mono _ _ _)
   | (with_reducible exact LeO.refl _)
   | (with_reducible exact LeO.none _)
   | (with_reducible refine LeO.ite ?_ ?_)
   | (with_reducible refine LeO.bind ?_ (fun _ => ?_))
theorem impl_RankOfBinding.mono : ∀ a0 k, LeO (impl_RankOfBinding.f k a0) (impl_RankOfBinding.f (k + 1) a0) := by
 intro a0 k
 have ih0 := impl_RankOfBinding.mono_l k
 unfold impl_RankOfBinding.f
 repeat' first
   | (with_reducible exact ih0 _ _ _ _ _)
   | (with_reducible exact impl_IsBinding.mono _ _)
   | (with_reducible exact impl_choices.mono _ _ _)
   | (with_reducible exact impl_countBindings.mono _ _)
   | (with_reducible exact slices_Index_int_int.mono _ _ _)
   | (with_reducible exact LeO.refl _)
   | (with_reducible exact LeO.none _)
   | (with_reducible refine LeO.ite ?_ ?_)
   | (with_reducible refine LeO.bind ?_ (fun _ => ?_))
set_option maxHeartbeats 8000000 in
set_option maxRecDepth 100000 in
theorem impl_RankOfBinding.calls (k : Nat) (A0 : Option Addr) (c0 : Nat) (l0 : List Int) (r1 : Int) (r2 : Bool) (w : World) (hr0 : Kd.C (Kd.int .i64) w A0 l0.length l0) (hc0 : l0.length ≤ c0) (h : impl_RankOfBinding.f k l0 = some (r1, r2)) :
  Calls Tryd.prog 65 #[.slice A0 l0.length c0] w fun e w' => e = .returned (.tuple #[.int .i64 r1, .bool r2]) ∧ Below w.heap.size w w' := by
 have HR0 := Az_ hr0
 have HC0 := Az_ hc0
 clear hr0 hc0
 have HB := Az_ (Below.refl w.heap.size w)
 have H : ((impl_IsBinding.f k l0).bind fun t507 => (if t507 = true then (impl_RankOfBinding.l0 k l0 0 l0 (l0.length : Int) 0) else (some (0, false)))) = some (r1, r2) := h
 clear h
 replace H := bqz_ H; obtain ⟨t507, A2, H⟩ := H
 replace H : (if t507 = true then (impl_RankOfBinding.l0 k l0 0 l0 (l0.length : Int) 0) else (some (0, false))) = some (r1, r2) := H
 by_cases c3 : t507 = true
 ·subst c3
  rw [if_pos rfl] at H
  have H' := Az_ H
  clear H
  go_enter Tryd.func65, Tryd.ntmps65
  go_wp2_with (first | ((with_reducible refine gate_callee (f := 64) rfl ?_); refine goesL_ (some 8) rfl rfl Tryd.func64 (by kernel_rfl) rfl #[.slice A0 l0.length c0] rfl maz_ ?_; (with_reducible refine (impl_IsBinding.calls k _ _ l0 true _ ?side1 ?side2 A2.out).mono ?_); (case side1 => exact ucz_ (HR0.out)); (case side2 => exact HC0.out); rintro e w4 ⟨rfl, hb⟩; refine ⟨_, rfl, ?_⟩; replace HB := Az_ (btz_ (ubz_ HB.out) hb); (try clear hb)))
  go_loopg [4, 12] k (fun kq v4 v12 w' => ∃ (x4_1 : Int) (x12_1 : Int), v4 = .int .i64 x4_1 ∧ v12 = .int .i64 x12_1 ∧ Aside0 (impl_RankOfBinding.l0 kq l0 x4_1 l0 (l0.length : Int) x12_1 = some (r1, r2)) ∧ Aside0 (kq ≤ k) ∧ Aside0 (Below w.heap.size w w'))
  case atStart => exact ⟨(0), (0), qaz_, qaz_, H', ⟨Nat.le_refl _⟩, ⟨by exact ubz_ HB.out⟩⟩
  case round =>
   clear H'
   obtain ⟨x4_1, x12_1, rfl, rfl, HA, HK1, HB⟩ := hrel
   cases gk with
   | zero => exact absurd HA.out (by simp [impl_RankOfBinding.l0])
   | succ k1 =>
    have H := HA.out
    clear HA
    simp only [impl_RankOfBinding.l0] at H
    by_cases c5 : x12_1 < (l0.length : Int)
    ·rw [if_pos c5] at H
     have c5b0 := decide_eq_true c5
     clear c5
     by_cases c6 : 0 ≤ x12_1
     ·rw [if_pos c6] at H
      have c6b0 := decide_eq_true c6
      clear c6
      by_cases c7 : x12_1 < (l0.length : Int)
      ·rw [if_pos c7] at H
       have c7b0 := decide_eq_true c7
       clear c7
       have c8b0 := eq_true (of_decide_eq_true asz_ : 0 ≤ x12_1)
       by_cases c9 : x12_1 ≤ (l0.length : Int)
       ·rw [if_pos c9] at H
        have c9b0 := eq_true c9
        have c9b1 := decide_eq_true c9
        clear c9
        replace H := bqz_ H; obtain ⟨t510, A10, H⟩ := H
        replace H := bqz_ H; obtain ⟨t513, A11, H⟩ := H
        replace H := bqz_ H; obtain ⟨t514, A12, H⟩ := H
        replace H : (impl_RankOfBinding.l0 k1 l0 (wrap64 (x4_1 + (wrap64 (t513 * t514)))) l0 (l0.length : Int) (wrap64 (x12_1 + 1))) = some (r1, r2) := H
        have H' := Az_ H
        clear H
        have p508 : 0 ≤ (x12_1 : Int) := of_decide_eq_true asz_
        have q508 : x12_1 < (l0.length : Int) := of_decide_eq_true asz_
        obtain ⟨ad508, e508, hx508_0⟩ := Kd.at_int HR0.out x12_1 p508 q508
        cases e508
        replace hx508_0 := (HB.out.cell (World.block_lt_of_cell? w _ hx508_0)).trans hx508_0
        replace p508 := eq_true p508
        replace q508 := eq_true q508
        obtain ⟨i013, hi013, _, hsz13, _⟩ := info_parts info3
        obtain ⟨hcut13, hA13, hC13⟩ := print_take_of (P := Tryd.prog) (Value.int .i64) 0 49 3 .i64 Tryd.underlying49 hi013 hsz13 (some ad508) c0 l0 x12_1 (of_decide_eq_true asz_) (of_decide_eq_true asz_) HC0.out
        have HR509 := Az_ (Kd.C_of_reads (h1 := fun _ => rfl) (hA13 _ (Kd.reads_of_C HR0.out)))
        have HC509 := Az_ hC13
        clear hA13 hC13 hi013 hsz13
        go_wp2_with (first | ((with_reducible refine gate_callee (f := 138) rfl ?_); refine goesL_ (some 23) rfl rfl Tryd.func138 (by kernel_rfl) rfl #[.int .i64 (l0.length : Int), .slice (some ad508) (l0.take (x12_1 : Int).toNat).length c0] rfl (by (try simp only [List.map_toArray, List.map_cons, List.map_nil]); first | done | (rw [show (l0.take (x12_1 : Int).toNat).length = x12_1.toNat from (by rw [List.length_take]; have h_ : (x12_1 : Int) ≤ (l0.length : Int) := of_decide_eq_true asz_; omega)] <;> rfl) | rfl | (simp only [List.length_drop, List.length_take]; rfl)) ?_; (with_reducible refine (impl_choices.calls k1 (l0.length : Int) _ _ (l0.take (x12_1 : Int).toNat) t510 _ ?side1 ?side2 A10.out).mono ?_); (case side1 => exact ucz_ ((Kd.C_below HR509.out HB.out))); (case side2 => exact HC509.out); rintro e w14 ⟨v511, rfl, ho0, hb⟩; refine ⟨_, rfl, ?_⟩; have HO512 := Az_ (Kd.R_lower ho0 (below_size (ubz_ HB.out))); replace HB := Az_ (btz_ (ubz_ HB.out) hb); (try clear hb); (try clear ho0); obtain ⟨Ao15, co15, eo15⟩ := Kd.R_slice HO512.out; subst eo15) | ((with_reducible refine gate_callee (f := 149) rfl ?_); refine goesL_ (some 25) rfl rfl Tryd.func149 (by kernel_rfl) rfl #[.slice Ao15 t510.length co15, .int .i64 (rd l0 x12_1)] rfl maz_ ?_; (with_reducible refine (slices_Index_int_int.calls k1 _ _ t510 (rd l0 x12_1) t513 _ ?side1 ?side2 A11.out).mono ?_); (case side1 => exact ucz_ ((Kd.R_reads' HO512.out).2.2)); (case side2 => exact (Kd.R_reads' HO512.out).2.1); rintro e w' ⟨rfl, ⟨nd, rfl⟩⟩; refine ⟨_, rfl, ?_⟩) | ((with_reducible refine gate_callee (f := 137) rfl ?_); refine goesL_ (some 31) rfl rfl Tryd.func137 (by kernel_rfl) rfl #[.int .i64 (wrap64 ((wrap64 ((l0.length : Int) - x12_1)) - 1))] rfl maz_ ?_; (with_reducible refine (impl_countBindings.calls k1 (wrap64 ((wrap64 ((l0.length : Int) - x12_1)) - 1)) t514 _ A12.out).mono ?_); rintro e w' ⟨rfl, ⟨nd, rfl⟩⟩; refine ⟨_, rfl, ?_⟩))
        go_roundg k1
        case measure => have := HK1.out; omega
        case rel => exact ⟨(wrap64 (x4_1 + (wrap64 (t513 * t514)))), (wrap64 (x12_1 + 1)), qaz_, qaz_, H', ⟨by have := HK1.out; omega⟩, ⟨by exact ubz_ HB.out⟩⟩
       ·rw [if_neg c9] at H
        exact absurd H (by simp)
      ·rw [if_neg c7] at H
       exact absurd H (by simp)
     ·rw [if_neg c6] at H
      exact absurd H (by simp)
    ·rw [if_neg c5] at H
     have c5b0 := decide_eq_false c5
     clear c5
     simp only [Option.some.injEq, Prod.mk.injEq] at H
     obtain ⟨rfl, rfl⟩ := H
     go_wp2
     go_ret2
     exact ⟨by first | rfl | (simp [errW_none, errW_some] <;> rfl) | (simp [*, errW_none, errW_some] <;> rfl), by exact ubz_ HB.out⟩
 ·replace c3 := Bool.eq_false_iff.mpr c3
  subst c3
  rw [if_neg nfz_] at H
  simp only [Option.some.injEq, Prod.mk.injEq] at H
  obtain ⟨rfl, rfl⟩ := H
  go_enter Tryd.func65, Tryd.ntmps65
  go_wp2_with (first | ((with_reducible refine gate_callee (f := 64) rfl ?_); refine goesL_ (some 8) rfl rfl Tryd.func64 (by kernel_rfl) rfl #[.slice A0 l0.length c0] rfl maz_ ?_; (with_reducible refine (impl_IsBinding.calls k _ _ l0 false _ ?side1 ?side2 A2.out).mono ?_); (case side1 => exact ucz_ (HR0.out)); (case side2 => exact HC0.out); rintro e w16 ⟨rfl, hb⟩; refine ⟨_, rfl, ?_⟩; replace HB := Az_ (btz_ (ubz_ HB.out) hb); (try clear hb)))
  go_ret2
  exact ⟨by first | rfl | (simp [errW_none, errW_some] <;> rfl) | (simp [*, errW_none, errW_some] <;> rfl), by exact ubz_ HB.out⟩

/-! ### impl_isFew: function 150 -/
def impl_isFew.f (k : Nat) (l0 : List Int) : Option (Bool) := (impl_IsBinding.f k l0).bind fun t515 => (if t515 = true then (some (decide ((l0.length : Int) ≤ 5))) else (some false))
set_option maxHeartbeats 8000000 in
set_option maxRecDepth 100000 in
theorem impl_isFew.calls (k : Nat) (A0 : Option Addr) (c0 : Nat) (l0 : List Int) (r : Bool) (w : World) (hr0 : Kd.C (Kd.int .i64) w A0 l0.length l0) (hc0 : l0.length ≤ c0) (h : impl_isFew.f k l0 = some r) :
  Calls Tryd.prog 150 #[.slice A0 l0.length c0] w fun e w' => e = .returned (.bool r) ∧ Below w.heap.size w w' := by
 have HR0 := Az_ hr0
 have HC0 := Az_ hc0
 clear hr0 hc0
 have HB := Az_ (Below.refl w.heap.size w)
 have H : ((impl_IsBinding.f k l0).bind fun t515 => (if t515 = true then (some (decide ((l0.length : Int) ≤ 5))) else (some false))) = some r := h
 clear h
 replace H := bqz_ H; obtain ⟨t515, A2, H⟩ := H
 replace H : (if t515 = true then (some (decide ((l0.length : Int) ≤ 5))) else (some false)) = some r := H
 by_cases c3 : t515 = true
 ·subst c3
  rw [if_pos rfl] at H
  obtain rfl := Option.some.inj H
  go_enter Tryd.func150, Tryd.ntmps150
  go_wp2_with (first | ((with_reducible refine gate_callee (f := 64) rfl ?_); refine goesL_ (some 4) rfl rfl Tryd.func64 (by kernel_rfl) rfl #[.slice A0 l0.length c0] rfl maz_ ?_; (with_reducible refine (impl_IsBinding.calls k _ _ l0 true _ ?side1 ?side2 A2.out).mono ?_); (case side1 => exact ucz_ (HR0.out)); (case side2 => exact HC0.out); rintro e w4 ⟨rfl, hb⟩; refine ⟨_, rfl, ?_⟩; replace HB := Az_ (btz_ (ubz_ HB.out) hb); (try clear hb)))
  go_ret
  exact ⟨by first | rfl | (simp [errW_none, errW_some] <;> rfl) | (simp [*, errW_none, errW_some] <;> rfl), by exact ubz_ HB.out⟩
 ·replace c3 := Bool.eq_false_iff.mpr c3
  subst c3
  rw [if_neg nfz_] at H
  obtain rfl := Option.some.inj H
  go_enter Tryd.func150, Tryd.ntmps150
  go_wp2_with (first | ((with_reducible refine gate_callee (f := 64) rfl ?_); refine goesL_ (some 4) rfl rfl Tryd.func64 (by kernel_rfl) rfl #[.slice A0 l0.length c0] rfl maz_ ?_; (with_reducible refine (impl_IsBinding.calls k _ _ l0 false _ ?side1 ?side2 A2.out).mono ?_); (case side1 => exact ucz_ (HR0.out)); (case side2 => exact HC0.out); rintro e w5 ⟨rfl, hb⟩; refine ⟨_, rfl, ?_⟩; replace HB := Az_ (btz_ (ubz_ HB.out) hb); (try clear hb)))
  go_ret
  exact ⟨by first | rfl | (simp [errW_none, errW_some] <;> rfl) | (simp [*, errW_none, errW_some] <;> rfl), by exact ubz_ HB.out⟩

end Go.Proofs.YtppbpefehpbejaaDoor.P
end

section
namespace Go.Proofs.YtppbpefehpbejaaDoor.Base
open Go.RowKit Go.Proofs.YtppbpefehpbejaaDoorW.PrintWords
set_option linter.unusedVariables false

theorem w64 {x : Int} (h1 : -4611686018427387904 ≤ x) (h2 : x ≤ 4611686018427387904) : wrap64 x = x := by
  unfold wrap64
  omega
theorem getD_at {α : Type} (l : List α) (z : α) {i : Nat} (h : i < l.length) : l.getD i z = l[i] := by
  rw [List.getD_eq_getElem?_getD, List.getElem?_eq_getElem h]
  rfl
theorem all_drop {α : Type} (p : α → Bool) (l : List α) (z : α) {i : Nat} (h : i < l.length) : (l.drop i).all p = (p (l.getD i z) && (l.drop (i + 1)).all p) := by
  rw [getD_at l z h, List.drop_eq_getElem_cons h, List.all_cons]
theorem Ev_at {α : Type} {g : Nat → Option α} {r : α} (h : Ev g r) : ∃ K, ∀ k, K ≤ k → g k = some r := h
/-- Two that answer, answer together. -/
theorem Ev_bind {α β : Type} {g : Nat → Option α} {f : Nat → α → Option β} {a : α} {r : β} (h : Ev g a) (k : Ev (fun n => f n a) r) : Ev (fun n => (g n).bind (f n)) r := Ev.bind h k
theorem Ev_some {α β : Type} {x : Option α} {f : Nat → α → Option β} {a : α} {r : β} (h : x = some a) (k : Ev (fun n => f n a) r) : Ev (fun n => x.bind (f n)) r := by
  subst h
  exact k
theorem Ev_pos {α : Type} {c : Prop} [Decidable c] {f g : Nat → Option α} {r : α} (h : c) (k : Ev f r) : Ev (fun n => if c then f n else g n) r := by
  simp only [if_pos h]
  exact k
theorem Ev_neg {α : Type} {c : Prop} [Decidable c] {f g : Nat → Option α} {r : α} (h : ¬ c) (k : Ev g r) : Ev (fun n => if c then f n else g n) r := by
  simp only [if_neg h]
  exact k
theorem getD_set_self {α : Type} (l : List α) (z v : α) {i : Nat} (h : i < l.length) : (l.set i v).getD i z = v := by
  rw [List.getD_eq_getElem?_getD, List.getElem?_set_self h]
  rfl
/-- One round, by the function's own equation. -/
theorem Ev_step {α : Type} {g f : Nat → Option α} {r : α} (h : ∀ k, g (k + 1) = f k) (k : Ev f r) : Ev g r := Ev.step h k
def inB (n lo hi : Int) : Bool := decide (lo ≤ n ∧ n ≤ hi)
end Go.Proofs.YtppbpefehpbejaaDoor.Base
end

section
namespace Go.Proofs.YtppbpefehpbejaaDoor.Order
set_option linter.unusedVariables false

/-- The leaf of a number, from 0 on. -/
def leaf (x : Int) : Int := (if x < 0 then -x else x) - 1
theorem leaf_eq (x y : Int) : leaf x = leaf y ↔ x = y ∨ x = -y := by
  unfold leaf
  split <;> split <;> omega
/-- None is 0 nor stands before, turned or not. -/
def fresh : List Int → List Int → Bool
  | _, [] => true
  | pre, x :: xs => x != 0 && (!pre.contains x && (!pre.contains (-x) && fresh (pre ++ [x]) xs))
theorem fresh_iff : ∀ (rest pre : List Int), fresh pre rest = true ↔ ((∀ x ∈ rest, x ≠ 0) ∧ (rest.map leaf).Nodup ∧ ∀ x ∈ rest, ∀ y ∈ pre, leaf x ≠ leaf y) := by
  intro rest
  induction rest with
  | nil => intro pre; simp [fresh]
  | cons a rest ih =>
    intro pre
    simp only [fresh, Bool.and_eq_true, bne_iff_ne, ne_eq, Bool.not_eq_true', ih (pre ++ [a])]
    have hc : ∀ z : Int, pre.contains z = false ↔ z ∉ pre := fun z => by
      rw [← Bool.not_eq_true, List.contains_iff_mem]
    rw [hc, hc]
    constructor
    · rintro ⟨h0, h1, h2, h3, h4, h5⟩
      refine ⟨fun x hx => ?_, ?_, fun x hx y hy => ?_⟩
      · rcases List.mem_cons.1 hx with rfl | hx
        · exact h0
        · exact h3 x hx
      · rw [List.map_cons, List.nodup_cons]
        refine ⟨fun hm => ?_, h4⟩
        obtain ⟨x, hx, e⟩ := List.mem_map.1 hm
        exact h5 x hx a (by simp) e
      · rcases List.mem_cons.1 hx with rfl | hx
        · intro e
          rcases (leaf_eq x y).1 e with rfl | e
          · exact h1 hy
          · exact h2 (by rw [e, Int.neg_neg]; exact hy)
        · exact h5 x hx y (List.mem_append_left _ hy)
    · rintro ⟨h1, h2, h3⟩
      rw [List.map_cons, List.nodup_cons] at h2
      refine ⟨h1 a (by simp), fun hm => h3 a (by simp) a hm rfl, fun hm => h3 a (by simp) (-a) hm ((leaf_eq a (-a)).2 (.inr (by omega))), fun x hx => h1 x (List.mem_cons_of_mem _ hx), h2.2, fun x hx y hy => ?_⟩
      rcases List.mem_append.1 hy with hy | hy
      · exact h3 x (List.mem_cons_of_mem _ hx) y hy
      · obtain rfl : y = a := by simpa using hy
        intro e
        exact h2.1 (List.mem_map.2 ⟨x, hx, e⟩)
/-- A list that has each number below n has at least n, and if it has just n, each stands once and no other does. -/
theorem has_all : ∀ (n : Nat) (ls : List Int), (∀ i : Nat, i < n → (i : Int) ∈ ls) → n ≤ ls.length ∧ (ls.length = n → ls.Nodup ∧ ∀ x ∈ ls, 0 ≤ x ∧ x < n) := by
  intro n
  induction n with
  | zero =>
    intro ls _
    refine ⟨Nat.zero_le _, fun h => ?_⟩
    obtain rfl := List.length_eq_zero_iff.1 h
    simp
  | succ n ih =>
    intro ls h
    have hm := h n (by omega)
    have hl := List.length_erase_of_mem hm
    have hp := List.length_pos_of_mem hm
    obtain ⟨h1, h2⟩ := ih (ls.erase (n : Int)) (fun i hi => (List.mem_erase_of_ne (by omega)).2 (h i (by omega)))
    refine ⟨by omega, fun e => ?_⟩
    obtain ⟨h3, h4⟩ := h2 (by omega)
    have perm := List.perm_cons_erase hm
    have nd : ((n : Int) :: ls.erase (n : Int)).Nodup := by
      rw [List.nodup_cons]
      exact ⟨fun hx => by have := (h4 _ hx).2; omega, h3⟩
    refine ⟨perm.nodup_iff.2 nd, fun x hx => ?_⟩
    rcases List.mem_cons.1 (perm.mem_iff.1 hx) with rfl | hx
    · omega
    · have := h4 x hx
      omega
/-- A list of numbers below n, each once, has at most n, and if it has just n, each is there. -/
theorem all_once : ∀ (n : Nat) (ls : List Int), ls.Nodup → (∀ x ∈ ls, 0 ≤ x ∧ x < n) → ls.length ≤ n ∧ (ls.length = n → ∀ i : Nat, i < n → (i : Int) ∈ ls) := by
  intro n
  induction n with
  | zero =>
    intro ls _ h
    cases ls with
    | nil => exact ⟨Nat.le_refl _, fun _ i hi => absurd hi (by omega)⟩
    | cons x xs => have := h x (by simp); omega
  | succ n ih =>
    intro ls nd h
    by_cases hm : (n : Int) ∈ ls
    · have hl := List.length_erase_of_mem hm
      have hp := List.length_pos_of_mem hm
      have perm := List.perm_cons_erase hm
      have nd2 := List.nodup_cons.1 (perm.nodup_iff.1 nd)
      obtain ⟨h1, h2⟩ := ih (ls.erase (n : Int)) nd2.2 (fun x hx => by
        have a := h x (List.mem_of_mem_erase hx)
        have b : x ≠ (n : Int) := fun e => nd2.1 (e ▸ hx)
        omega)
      refine ⟨by omega, fun e i hi => ?_⟩
      by_cases hi' : i = n
      · subst hi'; exact hm
      · exact List.mem_of_mem_erase (h2 (by omega) i (by omega))
    · obtain ⟨h1, h2⟩ := ih ls nd (fun x hx => by
        have a := h x hx
        have b : x ≠ (n : Int) := fun e => hm (e ▸ hx)
        omega)
      exact ⟨by omega, fun e => by omega⟩
/-- Each number below n is there. -/
def hasAll (ls : List Int) : Nat → Nat → Bool
  | 0, _ => true
  | n + 1, i => ls.contains (i : Int) && hasAll ls n (i + 1)
theorem hasAll_iff (ls : List Int) : ∀ n i : Nat, hasAll ls n i = true ↔ ∀ j : Nat, i ≤ j → j < i + n → (j : Int) ∈ ls := by
  intro n
  induction n with
  | zero => intro i; simp [hasAll]; intro j h1 h2; omega
  | succ n ih =>
    intro i
    simp only [hasAll, Bool.and_eq_true, ih (i + 1), List.contains_iff_mem]
    constructor
    · rintro ⟨h1, h2⟩ j h3 h4
      by_cases e : j = i
      · subst e; exact h1
      · exact h2 j (by omega) (by omega)
    · intro h
      exact ⟨h i (by omega) (by omega), fun j h3 h4 => h j (by omega) (by omega)⟩
/-- The reference's test of a binding. -/
def bindS (b : List Int) : Bool := decide (1 ≤ b.length ∧ b.length ≤ 8) && (b.all (fun x => decide (-(b.length : Int) ≤ x ∧ x ≤ b.length)) && fresh [] b)
/-- The program's. -/
def bindP (b : List Int) : Bool := b.all (fun x => decide (-8 ≤ x ∧ x ≤ 8)) && (decide (1 ≤ b.length ∧ b.length ≤ 8) && hasAll (b.map leaf) b.length 0)
theorem bind_eq (b : List Int) : bindP b = bindS b := by
  rw [Bool.eq_iff_iff]
  unfold bindP bindS
  simp only [Bool.and_eq_true, decide_eq_true_eq, List.all_eq_true, fresh_iff, hasAll_iff]
  constructor
  · rintro ⟨h1, h2, h3⟩
    obtain ⟨_, h4⟩ := has_all b.length (b.map leaf) (fun i hi => h3 i (by omega) (by omega))
    obtain ⟨h5, h6⟩ := h4 (by simp)
    refine ⟨h2, fun x hx => ?_, fun x hx => ?_, h5, fun x hx y hy => by cases hy⟩
    · have := h6 (leaf x) (List.mem_map_of_mem hx)
      unfold leaf at this
      split at this <;> omega
    · have := h6 (leaf x) (List.mem_map_of_mem hx)
      unfold leaf at this
      split at this <;> omega
  · rintro ⟨h1, h2, h3, h4, _⟩
    refine ⟨fun x hx => by have := h2 x hx; omega, h1, ?_⟩
    obtain ⟨_, h5⟩ := all_once b.length (b.map leaf) h4 (fun y hy => by
      obtain ⟨x, hx, rfl⟩ := List.mem_map.1 hy
      have a := h2 x hx
      have c := h3 x hx
      unfold leaf
      split <;> omega)
    exact fun j _ hj => h5 (by simp) j (by omega)
end Go.Proofs.YtppbpefehpbejaaDoor.Order
end

section
set_option linter.unusedVariables false
namespace Go.Proofs.YtppbpefehpbejaaDoor.Far
open Go.Proofs.YtppbpefehpbejaaDoor.Order

/-- A part turned. -/
def turn (b : List Int) (f t : Nat) : List Int := b.take f ++ (((b.drop f).take (t + 1 - f)).reverse.map (fun x => -x) ++ b.drop (t + 1))
theorem turn_len {b : List Int} {f t : Nat} (hf : f ≤ t) (ht : t < b.length) : (turn b f t).length = b.length := by
  unfold turn
  simp only [List.length_append, List.length_map, List.length_reverse, List.length_take, List.length_drop]
  omega
theorem turn_at {b : List Int} {f t : Nat} (hf : f ≤ t) (ht : t < b.length) (i : Nat) : (turn b f t).getD i 0 = if f ≤ i ∧ i ≤ t then -(b.getD (f + t - i) 0) else b.getD i 0 := by
  unfold turn
  simp only [List.getD_eq_getElem?_getD]
  by_cases h1 : i < f
  · rw [if_neg (by omega), List.getElem?_append_left (by rw [List.length_take]; omega), List.getElem?_take_of_lt h1]
  · have hl : (b.take f).length = f := by rw [List.length_take]; omega
    rw [List.getElem?_append_right (by omega), hl]
    by_cases h2 : i ≤ t
    · rw [if_pos (by omega), List.getElem?_append_left (by simp; omega), List.getElem?_map, List.getElem?_reverse (by simp; omega), List.length_take, List.length_drop]
      rw [List.getElem?_take_of_lt (by omega), List.getElem?_drop, show f + (min (t + 1 - f) (b.length - f) - 1 - (i - f)) = f + t - i by omega, List.getElem?_eq_getElem (by omega)]
      rfl
    · have hm : (((b.drop f).take (t + 1 - f)).reverse.map (fun x : Int => -x)).length = t + 1 - f := by simp; omega
      rw [if_neg (by omega), List.getElem?_append_right (by omega), hm, List.getElem?_drop, show t + 1 + (i - f - (t + 1 - f)) = i by omega]
theorem ext_at {a b : List Int} (hl : a.length = b.length) (h : ∀ i, i < b.length → a.getD i 0 = b.getD i 0) : a = b := by
  refine List.ext_getElem hl (fun i h1 h2 => ?_)
  have := h i h2
  rwa [Base.getD_at a 0 h1, Base.getD_at b 0 h2] at this
theorem turn_turn {b : List Int} {f t : Nat} (hf : f ≤ t) (ht : t < b.length) : turn (turn b f t) f t = b := by
  have hl := turn_len hf ht
  refine ext_at (by rw [turn_len hf (by omega), hl]) (fun i hi => ?_)
  rw [turn_at hf (by omega)]
  by_cases h : f ≤ i ∧ i ≤ t
  · rw [if_pos h, turn_at hf ht, if_pos (by omega), show f + t - (f + t - i) = i by omega, Int.neg_neg]
  · rw [if_neg h, turn_at hf ht, if_neg h]
/-- A binding of n leaves. -/
def Bd (n : Nat) (b : List Int) : Prop := b.length = n ∧ (∀ x ∈ b, x ≠ 0 ∧ -(n : Int) ≤ x ∧ x ≤ n) ∧ (b.map leaf).Nodup
theorem turn_perm {b : List Int} {f t : Nat} (hf : f ≤ t) : ((turn b f t).map leaf).Perm (b.map leaf) := by
  have e : b = b.take f ++ ((b.drop f).take (t + 1 - f) ++ b.drop (t + 1)) := by
    have : b.drop (t + 1) = (b.drop f).drop (t + 1 - f) := by rw [List.drop_drop]; congr 1; omega
    rw [this, List.take_append_drop, List.take_append_drop]
  conv => rhs; rw [e]
  unfold turn
  simp only [List.map_append, List.map_map]
  refine List.Perm.append_left _ (List.Perm.append_right _ ?_)
  have : (leaf ∘ fun x : Int => -x) = leaf := by
    funext x
    show leaf (-x) = leaf x
    exact (leaf_eq _ _).2 (by omega)
  rw [this]
  exact (List.reverse_perm _).map leaf
theorem turn_mem {b : List Int} {f t : Nat} {x : Int} (h : x ∈ turn b f t) : x ∈ b ∨ -x ∈ b := by
  unfold turn at h
  simp only [List.mem_append, List.mem_map, List.mem_reverse] at h
  rcases h with h | ⟨y, h, rfl⟩ | h
  · exact .inl (List.mem_of_mem_take h)
  · exact .inr (by rw [Int.neg_neg]; exact List.mem_of_mem_drop (List.mem_of_mem_take h))
  · exact .inl (List.mem_of_mem_drop h)
theorem turn_bd {n : Nat} {b : List Int} {f t : Nat} (h : Bd n b) (hf : f ≤ t) (ht : t < n) : Bd n (turn b f t) := by
  obtain ⟨h1, h2, h3⟩ := h
  refine ⟨by rw [turn_len hf (by omega), h1], fun x hx => ?_, (turn_perm hf).nodup_iff.2 h3⟩
  rcases turn_mem hx with hx | hx
  · exact h2 x hx
  · have := h2 _ hx
    omega
theorem bd_iff (b : List Int) : bindS b = true ↔ Bd b.length b ∧ 1 ≤ b.length ∧ b.length ≤ 8 := by
  unfold bindS Bd
  simp only [Bool.and_eq_true, decide_eq_true_eq, List.all_eq_true, fresh_iff]
  constructor
  · rintro ⟨h1, h2, h3, h4, _⟩
    exact ⟨⟨trivial, fun x hx => ⟨h3 x hx, h2 x hx⟩, h4⟩, h1⟩
  · rintro ⟨⟨_, h2, h4⟩, h1⟩
    exact ⟨h1, fun x hx => (h2 x hx).2, fun x hx => (h2 x hx).1, h4, fun x hx y hy => by cases hy⟩
theorem bind_of_bd {n : Nat} {b : List Int} (h : Bd n b) (h1 : 1 ≤ n) (h8 : n ≤ 8) : bindS b = true := by
  have hl := h.1
  subst hl
  exact (bd_iff b).2 ⟨h, h1, h8⟩
/-- The right binding. -/
def right (n : Nat) : List Int := (List.range n).map fun (k : Nat) => (k : Int) + 1
theorem right_len (n : Nat) : (right n).length = n := by simp [right]
theorem right_at (n i : Nat) (h : i < n) : (right n).getD i 0 = (i : Int) + 1 := by
  rw [List.getD_eq_getElem?_getD]
  simp [right, h]
theorem right_bd (n : Nat) : Bd n (right n) := by
  refine ⟨right_len n, fun x hx => ?_, ?_⟩
  · simp only [right, List.mem_map, List.mem_range] at hx
    obtain ⟨k, hk, rfl⟩ := hx
    omega
  · have e : (right n).map leaf = (List.range n).map (fun (k : Nat) => (k : Int)) := by
      unfold right
      rw [List.map_map]
      refine List.map_congr_left (fun k _ => ?_)
      simp only [Function.comp, leaf]
      rw [if_neg (by omega)]
      omega
    rw [e]
    refine List.Pairwise.map _ (fun a b h => ?_) List.nodup_range
    omega
/-- Where a leaf lies. -/
theorem find_leaf {n : Nat} {b : List Int} (h : Bd n b) {m : Nat} (hm : m < n) : ∃ p, p < n ∧ (b.getD p 0 = (m : Int) + 1 ∨ b.getD p 0 = -((m : Int) + 1)) := by
  obtain ⟨h1, h2, h3⟩ := h
  obtain ⟨_, hall⟩ := all_once n (b.map leaf) h3 (fun x hx => by
    obtain ⟨y, hy, rfl⟩ := List.mem_map.1 hx
    have := h2 y hy
    unfold leaf
    split <;> omega)
  have hin := hall (by rw [List.length_map, h1]) m hm
  obtain ⟨y, hy, e⟩ := List.mem_map.1 hin
  obtain ⟨p, hp, rfl⟩ := List.mem_iff_getElem.1 hy
  refine ⟨p, by omega, ?_⟩
  rw [Base.getD_at b 0 hp]
  unfold leaf at e
  split at e <;> omega
/-- What is closed under turns and holds the right one holds each. -/
theorem all_in {n : Nat} (S : List Int → Prop) (h0 : S (right n)) (hc : ∀ b f t, S b → Bd n b → f ≤ t → t < n → S (turn b f t)) : ∀ b, Bd n b → S b := by
  have key : ∀ d m, m + d = n → ∀ b, Bd n b → (∀ i, i < m → b.getD i 0 = (i : Int) + 1) → S b := by
    intro d
    induction d with
    | zero =>
      intro m hm b hb ha
      obtain rfl : m = n := by omega
      have : b = right m := ext_at (by rw [hb.1, right_len]) (fun i hi => by rw [right_len] at hi; rw [ha i hi, right_at m i hi])
      rw [this]
      exact h0
    | succ d ih =>
      intro m hm b hb ha
      have hl := hb.1
      obtain ⟨p, hp, hv⟩ := find_leaf hb (m := m) (by omega)
      have hpm : m ≤ p := by
        rcases Nat.lt_or_ge p m with h | h
        · have := ha p h
          omega
        · exact h
      have b1 := turn_bd hb hpm hp
      have at1 : ∀ i, i < m → (turn b m p).getD i 0 = (i : Int) + 1 := fun i hi => by rw [turn_at hpm (by omega), if_neg (by omega), ha i hi]
      have atm : (turn b m p).getD m 0 = -(b.getD p 0) := by rw [turn_at hpm (by omega), if_pos (by omega), show m + p - m = p by omega]
      have back : S (turn b m p) → S b := fun hs => by
        have := hc _ m p hs b1 hpm hp
        rwa [turn_turn hpm (by omega)] at this
      rcases hv with hv | hv
      · have b2 := turn_bd b1 (Nat.le_refl m) (by omega)
        have hl1 := b1.1
        have hs := ih (m + 1) (by omega) _ b2 (fun i hi => by
          rw [turn_at (Nat.le_refl m) (by omega)]
          by_cases e : i = m
          · subst e
            rw [if_pos (by omega), show i + i - i = i by omega, atm, hv, Int.neg_neg]
          · rw [if_neg (by omega)]
            exact at1 i (by omega))
        have := hc _ m m hs b2 (Nat.le_refl m) (by omega)
        rw [turn_turn (Nat.le_refl m) (by omega)] at this
        exact back this
      · refine back (ih (m + 1) (by omega) _ b1 (fun i hi => ?_))
        by_cases e : i = m
        · subst e
          rw [atm, hv, Int.neg_neg]
        · exact at1 i (by omega)
  exact fun b hb => key n 0 (by omega) b hb (fun i hi => absurd hi (by omega))
end Go.Proofs.YtppbpefehpbejaaDoor.Far
end
