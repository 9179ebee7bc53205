/- Lean functions with the answers of the program's Go functions, and for each the proof that the Go code comes to these answers; no condition. -/
import Derived.Test.YtppbpefehpbejaaGreatDoorZix21
import Derived.Test.YtppbpefehpbejaaGreatDoorZix22
import Derived.Test.YtppbpefehpbejaaGreatDoorZix23
section
namespace Go.Proofs.YtppbpefehpbejaaGreatDoor.P
open Go.RowKit Go.Proofs.YtppbpefehpbejaaGreatDoorW.PrintWords Go.Proofs.YtppbpefehpbejaaGreatDoorW.PrintLast Go.Proofs.YtppbpefehpbejaaGreatDoorW.PrintMore
attribute [local go_sem] max2_int min2_int max_two min_two max_three min_three max_four min_four   -- for this text's walks alone
set_option linter.unusedVariables false
set_option linter.unusedSimpArgs false

mutual
def spec_l1Cur_spoilt.l0 : Nat → ByteArray → ByteArray → Int → List Int → Int → Int → Option (ByteArray × Int × Int)
 | 0, _, _, _, _, _, _ => none
 | k + 1, x1, x2, x7, x1000, x1001, x1002 => if x7 > 0 then (spec_l1Cur_spoilt.j1 k x1 x2 x7 (decide ((x1.size : Int) > 0)) x1000 x1001 x1002) else (spec_l1Cur_spoilt.j1 k x1 x2 x7 false x1000 x1001 x1002)
def spec_l1Cur_spoilt.j1 : Nat → ByteArray → ByteArray → Int → Bool → List Int → Int → Int → Option (ByteArray × Int × Int)
 | 0, _, _, _, _, _, _, _ => none
 | k + 1, x1, x2, x7, x19, x1000, x1001, x1002 => if x19 = true then ((spec_l1Cur_pick.f x1000 x1001 x1002 (x1.size : Int)).bind fun bt376 => ((spec_l1Cur_pick.f x1000 bt376.2.1 bt376.2.2 (x2.size : Int)).bind fun bt379 => (if 0 ≤ bt379.1 then (if bt379.1 < (x2.size : Int) then ((some (([bt x2 bt379.1] : List Int) : List Int)).bind fun y382 => ((spec_l1Cur_pick.f x1000 bt379.2.1 bt379.2.2 3).bind fun bt385 => (if bt385.1 = 0 then (if 0 ≤ bt376.1 then (if bt376.1 ≤ (x1.size : Int) then (if (x1.extract 0 (bt376.1 : Int).toNat).size + (strOfNums y382).size ≤ 9223372036854775807 then (if ((x1.extract 0 (bt376.1 : Int).toNat) ++ (strOfNums y382)).size + (x1.extract (bt376.1 : Int).toNat x1.size).size ≤ 9223372036854775807 then (spec_l1Cur_spoilt.l0 k (((x1.extract 0 (bt376.1 : Int).toNat) ++ (strOfNums y382)) ++ (x1.extract (bt376.1 : Int).toNat x1.size)) x2 (wrap64 (x7 - 1)) x1000 bt385.2.1 bt385.2.2) else (none)) else (none)) else (none)) else (none)) else (if bt385.1 = 1 then (if 0 ≤ bt376.1 then (if bt376.1 ≤ (x1.size : Int) then (if (x1.extract 0 (bt376.1 : Int).toNat).size + (strOfNums y382).size ≤ 9223372036854775807 then (if 0 ≤ (wrap64 (bt376.1 + 1)) then (if (wrap64 (bt376.1 + 1)) ≤ (x1.size : Int) then (if ((x1.extract 0 (bt376.1 : Int).toNat) ++ (strOfNums y382)).size + (x1.extract ((wrap64 (bt376.1 + 1)) : Int).toNat x1.size).size ≤ 9223372036854775807 then (spec_l1Cur_spoilt.l0 k (((x1.extract 0 (bt376.1 : Int).toNat) ++ (strOfNums y382)) ++ (x1.extract ((wrap64 (bt376.1 + 1)) : Int).toNat x1.size)) x2 (wrap64 (x7 - 1)) x1000 bt385.2.1 bt385.2.2) else (none)) else (none)) else (none)) else (none)) else (none)) else (none)) else (if 0 ≤ bt376.1 then (if bt376.1 ≤ (x1.size : Int) then (if 0 ≤ (wrap64 (bt376.1 + 1)) then (if (wrap64 (bt376.1 + 1)) ≤ (x1.size : Int) then (if (x1.extract 0 (bt376.1 : Int).toNat).size + (x1.extract ((wrap64 (bt376.1 + 1)) : Int).toNat x1.size).size ≤ 9223372036854775807 then (spec_l1Cur_spoilt.l0 k ((x1.extract 0 (bt376.1 : Int).toNat) ++ (x1.extract ((wrap64 (bt376.1 + 1)) : Int).toNat x1.size)) x2 (wrap64 (x7 - 1)) x1000 bt385.2.1 bt385.2.2) else (none)) else (none)) else (none)) else (none)) else (none)))))) else (none)) else (none)))) else (some (x1, x1001, x1002))
end
def spec_l1Cur_spoilt.f (k : Nat) (s0_0 : List Int) (s0_1 : Int) (s0_2 : Int) (a1 : ByteArray) (a2 : ByteArray) : Option (ByteArray × Int × Int) := (spec_l1Cur_pick.f s0_0 s0_1 s0_2 2).bind fun bt373 => (spec_l1Cur_spoilt.l0 k a1 a2 (wrap64 (1 + bt373.1)) s0_0 bt373.2.1 bt373.2.2)
set_option maxHeartbeats 8000000 in
set_option maxRecDepth 100000 in
theorem spec_l1Cur_spoilt.calls (k : Nat) (g : Nat) (s0_0 : List Int) (s0_1 : Int) (s0_2 : Int) (a1 : ByteArray) (a2 : ByteArray) (r1 : ByteArray) (r2 : Int) (r3 : Int) (w0 w : World) (hI : IsS99 w0 w g s0_0 s0_1 s0_2) (hB : Below w0.heap.size w0 w) (h : spec_l1Cur_spoilt.f k s0_0 s0_1 s0_2 a1 a2 = some (r1, r2, r3)) :
  Calls Tryz.prog 115 #[.pointer (some ⟨g, 0, none⟩), .string a1, .string a2] w fun e w' => e = .returned (.string r1) ∧ IsS99 w0 w' g s0_0 r2 r3 ∧ Below w0.heap.size w0 w' ∧ KeepBut w w' g none := by
 have HI0 := Az_ hI
 have HK := Az_ (KeepBut.refl w g none)
 have HL := Az_ hB.size
 clear hI
 have HW0 := Az_ hB.size
 have HB := Az_ hB
 clear hB
 have H : ((spec_l1Cur_pick.f s0_0 s0_1 s0_2 2).bind fun bt373 => (spec_l1Cur_spoilt.l0 k a1 a2 (wrap64 (1 + bt373.1)) s0_0 bt373.2.1 bt373.2.2)) = some (r1, r2, r3) := h
 clear h
 replace H := bqz_ H; obtain ⟨⟨t373, t374, t375⟩, A4, H⟩ := H
 replace H : (spec_l1Cur_spoilt.l0 k a1 a2 (wrap64 (1 + t373)) s0_0 t374 t375) = some (r1, r2, r3) := H
 have H' := Az_ H
 clear H
 go_enter Tryz.func115, Tryz.ntmps115
 go_wp2_with (first | (go_at_call 126; (with_reducible refine (spec_l1Cur_pick.calls g s0_0 s0_1 s0_2 2 t373 t374 t375 w0 _ ?side1 ?side2 A4.out).mono ?_); (case side1 => repeat (first | (with_reducible first | exact HI0.out | apply IsS99.alloc | apply IsS99.drewN | apply IsS99.drew | apply IsS99.set_1 | apply IsS99.set_2) | exact HI0.out)); (case side2 => repeat (first | (with_reducible first | exact HB.out | apply baz_ | apply bnz_ | apply bdz_ | refine bsz_ ?_ (IsS99.ge HI0.out)) | exact HB.out)); rintro e w5 ⟨rfl, hi, hb, hk⟩; replace HK := Az_ (KeepBut.trans (w33_) hk (.inl rfl)); replace HB := Az_ (hb); replace HI0 := Az_ (hi); (try clear hb); (try clear hk); (try clear hi)))
 go_loopg [1, 7] k (fun kq v1 v7 w' => ∃ (x1_1 : ByteArray) (x7_1 : Int) (x1001_1 : Int) (x1002_1 : Int), v1 = .string x1_1 ∧ v7 = .int .i64 x7_1 ∧ Aside0 (spec_l1Cur_spoilt.l0 kq x1_1 a2 x7_1 s0_0 x1001_1 x1002_1 = some (r1, r2, r3)) ∧ Aside0 (kq ≤ k) ∧ Aside0 (IsS99 w0 w' g s0_0 x1001_1 x1002_1) ∧ Aside0 (KeepBut w w' g none) ∧ Aside0 (Below w0.heap.size w0 w'))
 case atStart => exact ⟨(a1), (wrap64 (1 + t373)), (t374), (t375), qaz_, qaz_, H', ⟨Nat.le_refl _⟩, ⟨w30_⟩, ⟨w33_⟩, ⟨w39_⟩⟩
 case round =>
  clear H'
  obtain ⟨x1_1, x7_1, x1001_1, x1002_1, rfl, rfl, HA, HK1, HI0, HK, HB⟩ := hrel
  cases gk with
  | zero => exact absurd HA.out (by simp [spec_l1Cur_spoilt.l0])
  | succ k1 =>
   have H := HA.out
   clear HA
   simp only [spec_l1Cur_spoilt.l0] at H
   have HC6 := Az_ H
   clear H
   go_upto_region 2 with (fail)
   go_cut [19] (fun v19 wc => ∃ (kq : Nat) (x19_5 : Bool), v19 = .bool x19_5 ∧ Aside0 (j1 kq x1_1 a2 x7_1 x19_5 s0_0 x1001_1 x1002_1 = some (r1, r2, r3)) ∧ Aside0 (kq ≤ k1) ∧ Aside0 (IsS99 w0 wc g s0_0 x1001_1 x1002_1) ∧ Aside0 (KeepBut w wc g none) ∧ Aside0 (Below w0.heap.size w0 wc))
   case first =>
    have H := HC6.out
    clear HC6
    by_cases c7 : x7_1 > 0
    ·rw [if_pos c7] at H
     have c7b0 := decide_eq_true c7
     clear c7
     (first | rw [c7b0] | (simp only [i64_w, i32_w]; rw [c7b0]) | skip)
     have H' := Az_ H
     clear H
     go_wp2
     go_meet
     case rel => exact ⟨_, (decide ((x1_1.size : Int) > 0)), qaz_, H', ⟨by have := HK1.out; first | omega | exact Nat.le_refl _⟩, ⟨w30_⟩, ⟨w33_⟩, ⟨w39_⟩⟩
    ·rw [if_neg c7] at H
     have c7b0 := decide_eq_false c7
     clear c7
     (first | rw [c7b0] | (simp only [i64_w, i32_w]; rw [c7b0]) | skip)
     have H' := Az_ H
     clear H
     go_wp2
     go_meet
     case rel => exact ⟨_, (false), qaz_, H', ⟨by have := HK1.out; first | omega | exact Nat.le_refl _⟩, ⟨w30_⟩, ⟨w33_⟩, ⟨w39_⟩⟩
   case rest =>
    clear HC6
    obtain ⟨kq, x19_5, rfl, HA, HJ5, HI0, HK, HB⟩ := hcut
    cases kq with
    | zero => exact absurd HA.out (by simp [j1])
    | succ kj5 =>
     have H := HA.out
     clear HA
     simp only [j1] at H
     by_cases c8 : x19_5 = true
     ·subst c8
      rw [if_pos rfl] at H
      replace H := bqz_ H; obtain ⟨⟨t376, t377, t378⟩, A9, H⟩ := H
      replace H := bqz_ H; obtain ⟨⟨t379, t380, t381⟩, A10, H⟩ := H
      replace H : (if 0 ≤ t379 then (if t379 < (a2.size : Int) then ((some (([bt a2 t379] : List Int) : List Int)).bind fun y382 => ((spec_l1Cur_pick.f s0_0 t380 t381 3).bind fun bt385 => (if bt385.1 = 0 then (if 0 ≤ t376 then (if t376 ≤ (x1_1.size : Int) then (if (x1_1.extract 0 (t376 : Int).toNat).size + (strOfNums y382).size ≤ 9223372036854775807 then (if ((x1_1.extract 0 (t376 : Int).toNat) ++ (strOfNums y382)).size + (x1_1.extract (t376 : Int).toNat x1_1.size).size ≤ 9223372036854775807 then (spec_l1Cur_spoilt.l0 kj5 (((x1_1.extract 0 (t376 : Int).toNat) ++ (strOfNums y382)) ++ (x1_1.extract (t376 : Int).toNat x1_1.size)) a2 (wrap64 (x7_1 - 1)) s0_0 bt385.2.1 bt385.2.2) else (none)) else (none)) else (none)) else (none)) else (if bt385.1 = 1 then (if 0 ≤ t376 then (if t376 ≤ (x1_1.size : Int) then (if (x1_1.extract 0 (t376 : Int).toNat).size + (strOfNums y382).size ≤ 9223372036854775807 then (if 0 ≤ (wrap64 (t376 + 1)) then (if (wrap64 (t376 + 1)) ≤ (x1_1.size : Int) then (if ((x1_1.extract 0 (t376 : Int).toNat) ++ (strOfNums y382)).size + (x1_1.extract ((wrap64 (t376 + 1)) : Int).toNat x1_1.size).size ≤ 9223372036854775807 then (spec_l1Cur_spoilt.l0 kj5 (((x1_1.extract 0 (t376 : Int).toNat) ++ (strOfNums y382)) ++ (x1_1.extract ((wrap64 (t376 + 1)) : Int).toNat x1_1.size)) a2 (wrap64 (x7_1 - 1)) s0_0 bt385.2.1 bt385.2.2) else (none)) else (none)) else (none)) else (none)) else (none)) else (none)) else (if 0 ≤ t376 then (if t376 ≤ (x1_1.size : Int) then (if 0 ≤ (wrap64 (t376 + 1)) then (if (wrap64 (t376 + 1)) ≤ (x1_1.size : Int) then (if (x1_1.extract 0 (t376 : Int).toNat).size + (x1_1.extract ((wrap64 (t376 + 1)) : Int).toNat x1_1.size).size ≤ 9223372036854775807 then (spec_l1Cur_spoilt.l0 kj5 ((x1_1.extract 0 (t376 : Int).toNat) ++ (x1_1.extract ((wrap64 (t376 + 1)) : Int).toNat x1_1.size)) a2 (wrap64 (x7_1 - 1)) s0_0 bt385.2.1 bt385.2.2) else (none)) else (none)) else (none)) else (none)) else (none)))))) else (none)) else (none)) = some (r1, r2, r3) := H
      by_cases c11 : 0 ≤ t379
      ·rw [if_pos c11] at H
       have c11b0 := decide_eq_true c11
       clear c11
       by_cases c12 : t379 < (a2.size : Int)
       ·rw [if_pos c12] at H
        have c12b0 := decide_eq_true c12
        clear c12
        obtain ⟨y382, hy382⟩ : ∃ y_ : List Int, y_ = (([bt a2 t379] : List Int)) := ⟨_, rfl⟩
        replace H : ((spec_l1Cur_pick.f s0_0 t380 t381 3).bind fun bt385 => (if bt385.1 = 0 then (if 0 ≤ t376 then (if t376 ≤ (x1_1.size : Int) then (if (x1_1.extract 0 (t376 : Int).toNat).size + (strOfNums y382).size ≤ 9223372036854775807 then (if ((x1_1.extract 0 (t376 : Int).toNat) ++ (strOfNums y382)).size + (x1_1.extract (t376 : Int).toNat x1_1.size).size ≤ 9223372036854775807 then (spec_l1Cur_spoilt.l0 kj5 (((x1_1.extract 0 (t376 : Int).toNat) ++ (strOfNums y382)) ++ (x1_1.extract (t376 : Int).toNat x1_1.size)) a2 (wrap64 (x7_1 - 1)) s0_0 bt385.2.1 bt385.2.2) else (none)) else (none)) else (none)) else (none)) else (if bt385.1 = 1 then (if 0 ≤ t376 then (if t376 ≤ (x1_1.size : Int) then (if (x1_1.extract 0 (t376 : Int).toNat).size + (strOfNums y382).size ≤ 9223372036854775807 then (if 0 ≤ (wrap64 (t376 + 1)) then (if (wrap64 (t376 + 1)) ≤ (x1_1.size : Int) then (if ((x1_1.extract 0 (t376 : Int).toNat) ++ (strOfNums y382)).size + (x1_1.extract ((wrap64 (t376 + 1)) : Int).toNat x1_1.size).size ≤ 9223372036854775807 then (spec_l1Cur_spoilt.l0 kj5 (((x1_1.extract 0 (t376 : Int).toNat) ++ (strOfNums y382)) ++ (x1_1.extract ((wrap64 (t376 + 1)) : Int).toNat x1_1.size)) a2 (wrap64 (x7_1 - 1)) s0_0 bt385.2.1 bt385.2.2) else (none)) else (none)) else (none)) else (none)) else (none)) else (none)) else (if 0 ≤ t376 then (if t376 ≤ (x1_1.size : Int) then (if 0 ≤ (wrap64 (t376 + 1)) then (if (wrap64 (t376 + 1)) ≤ (x1_1.size : Int) then (if (x1_1.extract 0 (t376 : Int).toNat).size + (x1_1.extract ((wrap64 (t376 + 1)) : Int).toNat x1_1.size).size ≤ 9223372036854775807 then (spec_l1Cur_spoilt.l0 kj5 ((x1_1.extract 0 (t376 : Int).toNat) ++ (x1_1.extract ((wrap64 (t376 + 1)) : Int).toNat x1_1.size)) a2 (wrap64 (x7_1 - 1)) s0_0 bt385.2.1 bt385.2.2) else (none)) else (none)) else (none)) else (none)) else (none))))) = some (r1, r2, r3) := by first | (rw [hy382]; with_reducible exact H) | (have H2_ := (Option.bind_some _ _).symm.trans H; rw [hy382]; with_reducible exact H2_) | (have H2_ := (Option.bind_some _ _).symm.trans H; with_reducible exact H2_) | with_reducible exact H | (rw [hy382]; exact H) | exact H
        have Ny382 := Az_ hy382
        clear hy382
        replace H := bqz_ H; obtain ⟨⟨t385, t386, t387⟩, A14, H⟩ := H
        replace H : (if t385 = 0 then (if 0 ≤ t376 then (if t376 ≤ (x1_1.size : Int) then (if (x1_1.extract 0 (t376 : Int).toNat).size + (strOfNums y382).size ≤ 9223372036854775807 then (if ((x1_1.extract 0 (t376 : Int).toNat) ++ (strOfNums y382)).size + (x1_1.extract (t376 : Int).toNat x1_1.size).size ≤ 9223372036854775807 then (spec_l1Cur_spoilt.l0 kj5 (((x1_1.extract 0 (t376 : Int).toNat) ++ (strOfNums y382)) ++ (x1_1.extract (t376 : Int).toNat x1_1.size)) a2 (wrap64 (x7_1 - 1)) s0_0 t386 t387) else (none)) else (none)) else (none)) else (none)) else (if t385 = 1 then (if 0 ≤ t376 then (if t376 ≤ (x1_1.size : Int) then (if (x1_1.extract 0 (t376 : Int).toNat).size + (strOfNums y382).size ≤ 9223372036854775807 then (if 0 ≤ (wrap64 (t376 + 1)) then (if (wrap64 (t376 + 1)) ≤ (x1_1.size : Int) then (if ((x1_1.extract 0 (t376 : Int).toNat) ++ (strOfNums y382)).size + (x1_1.extract ((wrap64 (t376 + 1)) : Int).toNat x1_1.size).size ≤ 9223372036854775807 then (spec_l1Cur_spoilt.l0 kj5 (((x1_1.extract 0 (t376 : Int).toNat) ++ (strOfNums y382)) ++ (x1_1.extract ((wrap64 (t376 + 1)) : Int).toNat x1_1.size)) a2 (wrap64 (x7_1 - 1)) s0_0 t386 t387) else (none)) else (none)) else (none)) else (none)) else (none)) else (none)) else (if 0 ≤ t376 then (if t376 ≤ (x1_1.size : Int) then (if 0 ≤ (wrap64 (t376 + 1)) then (if (wrap64 (t376 + 1)) ≤ (x1_1.size : Int) then (if (x1_1.extract 0 (t376 : Int).toNat).size + (x1_1.extract ((wrap64 (t376 + 1)) : Int).toNat x1_1.size).size ≤ 9223372036854775807 then (spec_l1Cur_spoilt.l0 kj5 ((x1_1.extract 0 (t376 : Int).toNat) ++ (x1_1.extract ((wrap64 (t376 + 1)) : Int).toNat x1_1.size)) a2 (wrap64 (x7_1 - 1)) s0_0 t386 t387) else (none)) else (none)) else (none)) else (none)) else (none)))) = some (r1, r2, r3) := H
        by_cases c15 : t385 = 0
        ·rw [if_pos c15] at H
         have c15b0 : (t385 == 0) = true := beq_iff_eq.mpr c15
         have c15b1 : (t385 != 0) = false := bne_eq_false_iff_eq.mpr c15
         clear c15
         by_cases c16 : 0 ≤ t376
         ·rw [if_pos c16] at H
          have c16b0 := eq_true c16
          have c16b1 := decide_eq_true c16
          clear c16
          by_cases c17 : t376 ≤ (x1_1.size : Int)
          ·rw [if_pos c17] at H
           have c17b0 := eq_true c17
           have c17b1 := decide_eq_true c17
           clear c17
           by_cases c18 : (x1_1.extract 0 (t376 : Int).toNat).size + (strOfNums y382).size ≤ 9223372036854775807
           ·rw [if_pos c18] at H
            have c18b0 := eq_true c18
            have c18b1 := decide_eq_true c18
            try have c18b2 : (9223372036854775807 < (x1_1.extract 0 (t376 : Int).toNat).size + (strOfNums y382).size) = False := eq_false (Nat.not_lt.2 c18)
            have c19b0 := eq_true (of_decide_eq_true asz_ : 0 ≤ t376)
            have c20b0 := eq_true (of_decide_eq_true asz_ : t376 ≤ (x1_1.size : Int))
            by_cases c21 : ((x1_1.extract 0 (t376 : Int).toNat) ++ (strOfNums y382)).size + (x1_1.extract (t376 : Int).toNat x1_1.size).size ≤ 9223372036854775807
            ·rw [if_pos c21] at H
             have c21b0 := eq_true c21
             have c21b1 := decide_eq_true c21
             try have c21b2 : (9223372036854775807 < ((x1_1.extract 0 (t376 : Int).toNat) ++ (strOfNums y382)).size + (x1_1.extract (t376 : Int).toNat x1_1.size).size) = False := eq_false (Nat.not_lt.2 c21)
             have H' := Az_ H
             clear H
             go_wp2_with (first | (go_at_call 126; (with_reducible refine (spec_l1Cur_pick.calls g s0_0 x1001_1 x1002_1 (x1_1.size : Int) t376 t377 t378 w0 _ ?side1 ?side2 A9.out).mono ?_); (case side1 => repeat (first | (with_reducible first | exact HI0.out | apply IsS99.alloc | apply IsS99.drewN | apply IsS99.drew | apply IsS99.set_1 | apply IsS99.set_2) | exact HI0.out)); (case side2 => repeat (first | (with_reducible first | exact HB.out | apply baz_ | apply bnz_ | apply bdz_ | refine bsz_ ?_ (IsS99.ge HI0.out)) | exact HB.out)); rintro e w22 ⟨rfl, hi, hb, hk⟩; replace HK := Az_ (KeepBut.trans (w33_) hk (.inl rfl)); replace HB := Az_ (hb); replace HI0 := Az_ (hi); (try clear hb); (try clear hk); (try clear hi)) | (go_at_call 126; (with_reducible refine (spec_l1Cur_pick.calls g s0_0 t377 t378 (a2.size : Int) t379 t380 t381 w0 _ ?side1 ?side2 A10.out).mono ?_); (case side1 => repeat (first | (with_reducible first | exact HI0.out | apply IsS99.alloc | apply IsS99.drewN | apply IsS99.drew | apply IsS99.set_1 | apply IsS99.set_2) | exact HI0.out)); (case side2 => repeat (first | (with_reducible first | exact HB.out | apply baz_ | apply bnz_ | apply bdz_ | refine bsz_ ?_ (IsS99.ge HI0.out)) | exact HB.out)); rintro e w23 ⟨rfl, hi, hb, hk⟩; replace HK := Az_ (KeepBut.trans (w33_) hk (.inl rfl)); replace HB := Az_ (hb); replace HI0 := Az_ (hi); (try clear hb); (try clear hk); (try clear hi); have p13 : 0 ≤ (t379 : Int) := of_decide_eq_true asz_; have q13 : t379 < (a2.size : Int) := of_decide_eq_true asz_; have hx13 := bt_at a2 t379; replace p13 := eq_true p13; replace q13 := eq_true q13) | ((with_reducible refine gate_dst (N := 32) rfl ?_); (try (refine gate_guard (by rfl) ?_; dsimp only)); refine Kd.R_lit (Kd.int .u8) _ 5 ?hg (N := 32) ?hd (xs := ([bt a2 t379] : List Int)) (inner := [.int .u8 (bt a2 t379)]) (ok := fun _ => True) (okp := fun _ => True) ?hr ?hp (fun _ hk => hk) trivial (Below.refl _ _) (Nat.le_refl _) (by simp) ?_; (case hd => rfl); (case hg => rfl); (case hr => first | (go_simp; done) | (go_simp; rfl)); (case hp => exact (Reps.one (show Kd.M (Kd.int .u8) _ _ _ (bt a2 t379) [.int .u8 (bt a2 t379)] from rfl) (Reps.none _ _))); intro v383 w24 ho25 hb hg_ hnew_; clear hg_ hnew_; (first | rw [← Ny382.out] at ho25 | (simp only [Int.reduceToNat] at ho25; rw [← Ny382.out] at ho25)); have HO384 := Az_ (Kd.R_lower ho25 (keep_size (w := w) (g := g) (row := none) (w33_))); replace HK := Az_ (KeepBut.trans (w33_) (KeepBut.of_below hb g none) (.inl rfl)); replace HB := Az_ (btz_ (w39_) hb); replace HI0 := Az_ (IsS99.below (w30_) hb); clear hb ho25; have hcv26 := own_string (P := Tryz.prog) Tryz.underlying22 Tryz.underlying5 Tryz.underlying9 (Kd.own_of_R HO384.out)) | (go_at_call 126; (with_reducible refine (spec_l1Cur_pick.calls g s0_0 t380 t381 3 t385 t386 t387 w0 _ ?side1 ?side2 A14.out).mono ?_); (case side1 => repeat (first | (with_reducible first | exact HI0.out | apply IsS99.alloc | apply IsS99.drewN | apply IsS99.drew | apply IsS99.set_1 | apply IsS99.set_2) | exact HI0.out)); (case side2 => repeat (first | (with_reducible first | exact HB.out | apply baz_ | apply bnz_ | apply bdz_ | refine bsz_ ?_ (IsS99.ge HI0.out)) | exact HB.out)); rintro e w27 ⟨rfl, hi, hb, hk⟩; replace HO384 := Az_ (Kd.R_mono (Kd.R_keep (IsS99.apart (show IsS99 w0 _ g s0_0 t380 t381 from w30_) (w85_) (by decide)) hk (fun _ h => h.2)) (fun _ h => h.1)); replace HK := Az_ (KeepBut.trans (w33_) hk (.inl rfl)); replace HB := Az_ (hb); replace HI0 := Az_ (hi); (try clear hb); (try clear hk); (try clear hi)))
             repeat (go_quiet (first | (go_at_call 126; (with_reducible refine (spec_l1Cur_pick.calls g s0_0 x1001_1 x1002_1 (x1_1.size : Int) t376 t377 t378 w0 _ ?side1 ?side2 A9.out).mono ?_); (case side1 => repeat (first | (with_reducible first | exact HI0.out | apply IsS99.alloc | apply IsS99.drewN | apply IsS99.drew | apply IsS99.set_1 | apply IsS99.set_2) | exact HI0.out)); (case side2 => repeat (first | (with_reducible first | exact HB.out | apply baz_ | apply bnz_ | apply bdz_ | refine bsz_ ?_ (IsS99.ge HI0.out)) | exact HB.out)); rintro e w22 ⟨rfl, hi, hb, hk⟩; replace HK := Az_ (KeepBut.trans (w33_) hk (.inl rfl)); replace HB := Az_ (hb); replace HI0 := Az_ (hi)) | (go_at_call 126; (with_reducible refine (spec_l1Cur_pick.calls g s0_0 t377 t378 (a2.size : Int) t379 t380 t381 w0 _ ?side1 ?side2 A10.out).mono ?_); (case side1 => repeat (first | (with_reducible first | exact HI0.out | apply IsS99.alloc | apply IsS99.drewN | apply IsS99.drew | apply IsS99.set_1 | apply IsS99.set_2) | exact HI0.out)); (case side2 => repeat (first | (with_reducible first | exact HB.out | apply baz_ | apply bnz_ | apply bdz_ | refine bsz_ ?_ (IsS99.ge HI0.out)) | exact HB.out)); rintro e w23 ⟨rfl, hi, hb, hk⟩; replace HK := Az_ (KeepBut.trans (w33_) hk (.inl rfl)); replace HB := Az_ (hb); replace HI0 := Az_ (hi); have p13 : 0 ≤ (t379 : Int) := of_decide_eq_true asz_; have q13 : t379 < (a2.size : Int) := of_decide_eq_true asz_; have hx13 := bt_at a2 t379; replace p13 := eq_true p13; replace q13 := eq_true q13) | ((with_reducible refine gate_dst (N := 32) rfl ?_); (try (refine gate_guard (by rfl) ?_; dsimp only)); refine Kd.R_lit (Kd.int .u8) _ 5 ?hg (N := 32) ?hd (xs := ([bt a2 t379] : List Int)) (inner := [.int .u8 (bt a2 t379)]) (ok := fun _ => True) (okp := fun _ => True) ?hr ?hp (fun _ hk => hk) trivial (Below.refl _ _) (Nat.le_refl _) (by simp) ?_; (case hd => rfl); (case hg => rfl); (case hr => first | (go_simp; done) | (go_simp; rfl)); (case hp => exact (Reps.one (show Kd.M (Kd.int .u8) _ _ _ (bt a2 t379) [.int .u8 (bt a2 t379)] from rfl) (Reps.none _ _))); intro v383 w24 ho25 hb hg_ hnew_; clear hg_ hnew_; (first | rw [← Ny382.out] at ho25 | (simp only [Int.reduceToNat] at ho25; rw [← Ny382.out] at ho25)); have HO384 := Az_ (Kd.R_lower ho25 (keep_size (w := w) (g := g) (row := none) (w33_))); replace HK := Az_ (KeepBut.trans (w33_) (KeepBut.of_below hb g none) (.inl rfl)); replace HB := Az_ (btz_ (w39_) hb); replace HI0 := Az_ (IsS99.below (w30_) hb); clear hb ho25; have hcv26 := own_string (P := Tryz.prog) Tryz.underlying22 Tryz.underlying5 Tryz.underlying9 (Kd.own_of_R HO384.out)) | (go_at_call 126; (with_reducible refine (spec_l1Cur_pick.calls g s0_0 t380 t381 3 t385 t386 t387 w0 _ ?side1 ?side2 A14.out).mono ?_); (case side1 => repeat (first | (with_reducible first | exact HI0.out | apply IsS99.alloc | apply IsS99.drewN | apply IsS99.drew | apply IsS99.set_1 | apply IsS99.set_2) | exact HI0.out)); (case side2 => repeat (first | (with_reducible first | exact HB.out | apply baz_ | apply bnz_ | apply bdz_ | refine bsz_ ?_ (IsS99.ge HI0.out)) | exact HB.out)); rintro e w27 ⟨rfl, hi, hb, hk⟩; replace HO384 := Az_ (Kd.R_mono (Kd.R_keep (IsS99.apart (show IsS99 w0 _ g s0_0 t380 t381 from w30_) (w85_) (by decide)) hk (fun _ h => h.2)) (fun _ h => h.1)); replace HK := Az_ (KeepBut.trans (w33_) hk (.inl rfl)); replace HB := Az_ (hb); replace HI0 := Az_ (hi))); try go_wp2_with (first | (go_at_call 126; (with_reducible refine (spec_l1Cur_pick.calls g s0_0 x1001_1 x1002_1 (x1_1.size : Int) t376 t377 t378 w0 _ ?side1 ?side2 A9.out).mono ?_); (case side1 => repeat (first | (with_reducible first | exact HI0.out | apply IsS99.alloc | apply IsS99.drewN | apply IsS99.drew | apply IsS99.set_1 | apply IsS99.set_2) | exact HI0.out)); (case side2 => repeat (first | (with_reducible first | exact HB.out | apply baz_ | apply bnz_ | apply bdz_ | refine bsz_ ?_ (IsS99.ge HI0.out)) | exact HB.out)); rintro e w22 ⟨rfl, hi, hb, hk⟩; replace HK := Az_ (KeepBut.trans (w33_) hk (.inl rfl)); replace HB := Az_ (hb); replace HI0 := Az_ (hi)) | (go_at_call 126; (with_reducible refine (spec_l1Cur_pick.calls g s0_0 t377 t378 (a2.size : Int) t379 t380 t381 w0 _ ?side1 ?side2 A10.out).mono ?_); (case side1 => repeat (first | (with_reducible first | exact HI0.out | apply IsS99.alloc | apply IsS99.drewN | apply IsS99.drew | apply IsS99.set_1 | apply IsS99.set_2) | exact HI0.out)); (case side2 => repeat (first | (with_reducible first | exact HB.out | apply baz_ | apply bnz_ | apply bdz_ | refine bsz_ ?_ (IsS99.ge HI0.out)) | exact HB.out)); rintro e w23 ⟨rfl, hi, hb, hk⟩; replace HK := Az_ (KeepBut.trans (w33_) hk (.inl rfl)); replace HB := Az_ (hb); replace HI0 := Az_ (hi); have p13 : 0 ≤ (t379 : Int) := of_decide_eq_true asz_; have q13 : t379 < (a2.size : Int) := of_decide_eq_true asz_; have hx13 := bt_at a2 t379; replace p13 := eq_true p13; replace q13 := eq_true q13) | ((with_reducible refine gate_dst (N := 32) rfl ?_); (try (refine gate_guard (by rfl) ?_; dsimp only)); refine Kd.R_lit (Kd.int .u8) _ 5 ?hg (N := 32) ?hd (xs := ([bt a2 t379] : List Int)) (inner := [.int .u8 (bt a2 t379)]) (ok := fun _ => True) (okp := fun _ => True) ?hr ?hp (fun _ hk => hk) trivial (Below.refl _ _) (Nat.le_refl _) (by simp) ?_; (case hd => rfl); (case hg => rfl); (case hr => first | (go_simp; done) | (go_simp; rfl)); (case hp => exact (Reps.one (show Kd.M (Kd.int .u8) _ _ _ (bt a2 t379) [.int .u8 (bt a2 t379)] from rfl) (Reps.none _ _))); intro v383 w24 ho25 hb hg_ hnew_; clear hg_ hnew_; (first | rw [← Ny382.out] at ho25 | (simp only [Int.reduceToNat] at ho25; rw [← Ny382.out] at ho25)); have HO384 := Az_ (Kd.R_lower ho25 (keep_size (w := w) (g := g) (row := none) (w33_))); replace HK := Az_ (KeepBut.trans (w33_) (KeepBut.of_below hb g none) (.inl rfl)); replace HB := Az_ (btz_ (w39_) hb); replace HI0 := Az_ (IsS99.below (w30_) hb); clear hb ho25; have hcv26 := own_string (P := Tryz.prog) Tryz.underlying22 Tryz.underlying5 Tryz.underlying9 (Kd.own_of_R HO384.out)) | (go_at_call 126; (with_reducible refine (spec_l1Cur_pick.calls g s0_0 t380 t381 3 t385 t386 t387 w0 _ ?side1 ?side2 A14.out).mono ?_); (case side1 => repeat (first | (with_reducible first | exact HI0.out | apply IsS99.alloc | apply IsS99.drewN | apply IsS99.drew | apply IsS99.set_1 | apply IsS99.set_2) | exact HI0.out)); (case side2 => repeat (first | (with_reducible first | exact HB.out | apply baz_ | apply bnz_ | apply bdz_ | refine bsz_ ?_ (IsS99.ge HI0.out)) | exact HB.out)); rintro e w27 ⟨rfl, hi, hb, hk⟩; replace HO384 := Az_ (Kd.R_mono (Kd.R_keep (IsS99.apart (show IsS99 w0 _ g s0_0 t380 t381 from w30_) (w85_) (by decide)) hk (fun _ h => h.2)) (fun _ h => h.1)); replace HK := Az_ (KeepBut.trans (w33_) hk (.inl rfl)); replace HB := Az_ (hb); replace HI0 := Az_ (hi))))
             go_roundg kj5
             case measure => have := HK1.out; have := HJ5.out; omega
             case rel => exact ⟨(((x1_1.extract 0 (t376 : Int).toNat) ++ (strOfNums y382)) ++ (x1_1.extract (t376 : Int).toNat x1_1.size)), (wrap64 (x7_1 - 1)), (t386), (t387), qaz_, qaz_, H', ⟨by have := HK1.out; have := HJ5.out; omega⟩, ⟨w30_⟩, ⟨w33_⟩, ⟨w39_⟩⟩
            ·rw [if_neg c21] at H
             exact absurd H (by simp)
           ·rw [if_neg c18] at H
            exact absurd H (by simp)
          ·rw [if_neg c17] at H
           exact absurd H (by simp)
         ·rw [if_neg c16] at H
          exact absurd H (by simp)
        ·rw [if_neg c15] at H
         have c15b0 : (t385 == 0) = false := beq_eq_false_iff_ne.mpr c15
         have c15b1 : (t385 != 0) = true := bne_iff_ne.mpr c15
         by_cases c28 : t385 = 1
         ·rw [if_pos c28] at H
          have c28b0 : (t385 == 1) = true := beq_iff_eq.mpr c28
          have c28b1 : (t385 != 1) = false := bne_eq_false_iff_eq.mpr c28
          clear c28
          by_cases c29 : 0 ≤ t376
          ·rw [if_pos c29] at H
           have c29b0 := eq_true c29
           have c29b1 := decide_eq_true c29
           clear c29
           by_cases c30 : t376 ≤ (x1_1.size : Int)
           ·rw [if_pos c30] at H
            have c30b0 := eq_true c30
            have c30b1 := decide_eq_true c30
            clear c30
            by_cases c31 : (x1_1.extract 0 (t376 : Int).toNat).size + (strOfNums y382).size ≤ 9223372036854775807
            ·rw [if_pos c31] at H
             have c31b0 := eq_true c31
             have c31b1 := decide_eq_true c31
             try have c31b2 : (9223372036854775807 < (x1_1.extract 0 (t376 : Int).toNat).size + (strOfNums y382).size) = False := eq_false (Nat.not_lt.2 c31)
             obtain ⟨ji32, hji32⟩ : ∃ j_ : Int, (wrap64 (t376 + 1)) = j_ := ⟨_, rfl⟩
             replace H : (if 0 ≤ (ji32) then (if (ji32) ≤ (x1_1.size : Int) then (if ((x1_1.extract 0 (t376 : Int).toNat) ++ (strOfNums y382)).size + (x1_1.extract ((ji32) : Int).toNat x1_1.size).size ≤ 9223372036854775807 then (spec_l1Cur_spoilt.l0 kj5 (((x1_1.extract 0 (t376 : Int).toNat) ++ (strOfNums y382)) ++ (x1_1.extract ((ji32) : Int).toNat x1_1.size)) a2 (wrap64 (x7_1 - 1)) s0_0 t386 t387) else (none)) else (none)) else (none)) = some (r1, r2, r3) := by first | (rw [hji32] at H; exact H) | (simp only [hji32] at H ⊢; exact H)
             (try rw [hji32] at A9)
             (try rw [hji32] at A10)
             (try rw [hji32] at A14)
             have hji32w : (IntKind.i64.wrap (t376 + 1)) = ji32 := (i64_w _).trans hji32
             by_cases c33 : 0 ≤ (ji32)
             ·rw [if_pos c33] at H
              have c33b0 := eq_true c33
              have c33b1 := decide_eq_true c33
              clear c33
              by_cases c34 : (ji32) ≤ (x1_1.size : Int)
              ·rw [if_pos c34] at H
               have c34b0 := eq_true c34
               have c34b1 := decide_eq_true c34
               clear c34
               by_cases c35 : ((x1_1.extract 0 (t376 : Int).toNat) ++ (strOfNums y382)).size + (x1_1.extract ((ji32) : Int).toNat x1_1.size).size ≤ 9223372036854775807
               ·rw [if_pos c35] at H
                have c35b0 := eq_true c35
                have c35b1 := decide_eq_true c35
                try have c35b2 : (9223372036854775807 < ((x1_1.extract 0 (t376 : Int).toNat) ++ (strOfNums y382)).size + (x1_1.extract ((ji32) : Int).toNat x1_1.size).size) = False := eq_false (Nat.not_lt.2 c35)
                have H' := Az_ H
                clear H
                go_wp2_with (first | (go_at_call 126; (with_reducible refine (spec_l1Cur_pick.calls g s0_0 x1001_1 x1002_1 (x1_1.size : Int) t376 t377 t378 w0 _ ?side1 ?side2 A9.out).mono ?_); (case side1 => repeat (first | (with_reducible first | exact HI0.out | apply IsS99.alloc | apply IsS99.drewN | apply IsS99.drew | apply IsS99.set_1 | apply IsS99.set_2) | exact HI0.out)); (case side2 => repeat (first | (with_reducible first | exact HB.out | apply baz_ | apply bnz_ | apply bdz_ | refine bsz_ ?_ (IsS99.ge HI0.out)) | exact HB.out)); rintro e w36 ⟨rfl, hi, hb, hk⟩; replace HK := Az_ (KeepBut.trans (w33_) hk (.inl rfl)); replace HB := Az_ (hb); replace HI0 := Az_ (hi); (try clear hb); (try clear hk); (try clear hi)) | (go_at_call 126; (with_reducible refine (spec_l1Cur_pick.calls g s0_0 t377 t378 (a2.size : Int) t379 t380 t381 w0 _ ?side1 ?side2 A10.out).mono ?_); (case side1 => repeat (first | (with_reducible first | exact HI0.out | apply IsS99.alloc | apply IsS99.drewN | apply IsS99.drew | apply IsS99.set_1 | apply IsS99.set_2) | exact HI0.out)); (case side2 => repeat (first | (with_reducible first | exact HB.out | apply baz_ | apply bnz_ | apply bdz_ | refine bsz_ ?_ (IsS99.ge HI0.out)) | exact HB.out)); rintro e w37 ⟨rfl, hi, hb, hk⟩; replace HK := Az_ (KeepBut.trans (w33_) hk (.inl rfl)); replace HB := Az_ (hb); replace HI0 := Az_ (hi); (try clear hb); (try clear hk); (try clear hi); have p13 : 0 ≤ (t379 : Int) := of_decide_eq_true asz_; have q13 : t379 < (a2.size : Int) := of_decide_eq_true asz_; have hx13 := bt_at a2 t379; replace p13 := eq_true p13; replace q13 := eq_true q13) | ((with_reducible refine gate_dst (N := 32) rfl ?_); (try (refine gate_guard (by rfl) ?_; dsimp only)); refine Kd.R_lit (Kd.int .u8) _ 5 ?hg (N := 32) ?hd (xs := ([bt a2 t379] : List Int)) (inner := [.int .u8 (bt a2 t379)]) (ok := fun _ => True) (okp := fun _ => True) ?hr ?hp (fun _ hk => hk) trivial (Below.refl _ _) (Nat.le_refl _) (by simp) ?_; (case hd => rfl); (case hg => rfl); (case hr => first | (go_simp; done) | (go_simp; rfl)); (case hp => exact (Reps.one (show Kd.M (Kd.int .u8) _ _ _ (bt a2 t379) [.int .u8 (bt a2 t379)] from rfl) (Reps.none _ _))); intro v383 w38 ho39 hb hg_ hnew_; clear hg_ hnew_; (first | rw [← Ny382.out] at ho39 | (simp only [Int.reduceToNat] at ho39; rw [← Ny382.out] at ho39)); have HO384 := Az_ (Kd.R_lower ho39 (keep_size (w := w) (g := g) (row := none) (w33_))); replace HK := Az_ (KeepBut.trans (w33_) (KeepBut.of_below hb g none) (.inl rfl)); replace HB := Az_ (btz_ (w39_) hb); replace HI0 := Az_ (IsS99.below (w30_) hb); clear hb ho39; have hcv40 := own_string (P := Tryz.prog) Tryz.underlying22 Tryz.underlying5 Tryz.underlying9 (Kd.own_of_R HO384.out)) | (go_at_call 126; (with_reducible refine (spec_l1Cur_pick.calls g s0_0 t380 t381 3 t385 t386 t387 w0 _ ?side1 ?side2 A14.out).mono ?_); (case side1 => repeat (first | (with_reducible first | exact HI0.out | apply IsS99.alloc | apply IsS99.drewN | apply IsS99.drew | apply IsS99.set_1 | apply IsS99.set_2) | exact HI0.out)); (case side2 => repeat (first | (with_reducible first | exact HB.out | apply baz_ | apply bnz_ | apply bdz_ | refine bsz_ ?_ (IsS99.ge HI0.out)) | exact HB.out)); rintro e w41 ⟨rfl, hi, hb, hk⟩; replace HO384 := Az_ (Kd.R_mono (Kd.R_keep (IsS99.apart (show IsS99 w0 _ g s0_0 t380 t381 from w30_) (w85_) (by decide)) hk (fun _ h => h.2)) (fun _ h => h.1)); replace HK := Az_ (KeepBut.trans (w33_) hk (.inl rfl)); replace HB := Az_ (hb); replace HI0 := Az_ (hi); (try clear hb); (try clear hk); (try clear hi)))
                repeat (go_quiet (first | (go_at_call 126; (with_reducible refine (spec_l1Cur_pick.calls g s0_0 x1001_1 x1002_1 (x1_1.size : Int) t376 t377 t378 w0 _ ?side1 ?side2 A9.out).mono ?_); (case side1 => repeat (first | (with_reducible first | exact HI0.out | apply IsS99.alloc | apply IsS99.drewN | apply IsS99.drew | apply IsS99.set_1 | apply IsS99.set_2) | exact HI0.out)); (case side2 => repeat (first | (with_reducible first | exact HB.out | apply baz_ | apply bnz_ | apply bdz_ | refine bsz_ ?_ (IsS99.ge HI0.out)) | exact HB.out)); rintro e w36 ⟨rfl, hi, hb, hk⟩; replace HK := Az_ (KeepBut.trans (w33_) hk (.inl rfl)); replace HB := Az_ (hb); replace HI0 := Az_ (hi)) | (go_at_call 126; (with_reducible refine (spec_l1Cur_pick.calls g s0_0 t377 t378 (a2.size : Int) t379 t380 t381 w0 _ ?side1 ?side2 A10.out).mono ?_); (case side1 => repeat (first | (with_reducible first | exact HI0.out | apply IsS99.alloc | apply IsS99.drewN | apply IsS99.drew | apply IsS99.set_1 | apply IsS99.set_2) | exact HI0.out)); (case side2 => repeat (first | (with_reducible first | exact HB.out | apply baz_ | apply bnz_ | apply bdz_ | refine bsz_ ?_ (IsS99.ge HI0.out)) | exact HB.out)); rintro e w37 ⟨rfl, hi, hb, hk⟩; replace HK := Az_ (KeepBut.trans (w33_) hk (.inl rfl)); replace HB := Az_ (hb); replace HI0 := Az_ (hi); have p13 : 0 ≤ (t379 : Int) := of_decide_eq_true asz_; have q13 : t379 < (a2.size : Int) := of_decide_eq_true asz_; have hx13 := bt_at a2 t379; replace p13 := eq_true p13; replace q13 := eq_true q13) | ((with_reducible refine gate_dst (N := 32) rfl ?_); (try (refine gate_guard (by rfl) ?_; dsimp only)); refine Kd.R_lit (Kd.int .u8) _ 5 ?hg (N := 32) ?hd (xs := ([bt a2 t379] : List Int)) (inner := [.int .u8 (bt a2 t379)]) (ok := fun _ => True) (okp := fun _ => True) ?hr ?hp (fun _ hk => hk) trivial (Below.refl _ _) (Nat.le_refl _) (by simp) ?_; (case hd => rfl); (case hg => rfl); (case hr => first | (go_simp; done) | (go_simp; rfl)); (case hp => exact (Reps.one (show Kd.M (Kd.int .u8) _ _ _ (bt a2 t379) [.int .u8 (bt a2 t379)] from rfl) (Reps.none _ _))); intro v383 w38 ho39 hb hg_ hnew_; clear hg_ hnew_; (first | rw [← Ny382.out] at ho39 | (simp only [Int.reduceToNat] at ho39; rw [← Ny382.out] at ho39)); have HO384 := Az_ (Kd.R_lower ho39 (keep_size (w := w) (g := g) (row := none) (w33_))); replace HK := Az_ (KeepBut.trans (w33_) (KeepBut.of_below hb g none) (.inl rfl)); replace HB := Az_ (btz_ (w39_) hb); replace HI0 := Az_ (IsS99.below (w30_) hb); clear hb ho39; have hcv40 := own_string (P := Tryz.prog) Tryz.underlying22 Tryz.underlying5 Tryz.underlying9 (Kd.own_of_R HO384.out)) | (go_at_call 126; (with_reducible refine (spec_l1Cur_pick.calls g s0_0 t380 t381 3 t385 t386 t387 w0 _ ?side1 ?side2 A14.out).mono ?_); (case side1 => repeat (first | (with_reducible first | exact HI0.out | apply IsS99.alloc | apply IsS99.drewN | apply IsS99.drew | apply IsS99.set_1 | apply IsS99.set_2) | exact HI0.out)); (case side2 => repeat (first | (with_reducible first | exact HB.out | apply baz_ | apply bnz_ | apply bdz_ | refine bsz_ ?_ (IsS99.ge HI0.out)) | exact HB.out)); rintro e w41 ⟨rfl, hi, hb, hk⟩; replace HO384 := Az_ (Kd.R_mono (Kd.R_keep (IsS99.apart (show IsS99 w0 _ g s0_0 t380 t381 from w30_) (w85_) (by decide)) hk (fun _ h => h.2)) (fun _ h => h.1)); replace HK := Az_ (KeepBut.trans (w33_) hk (.inl rfl)); replace HB := Az_ (hb); replace HI0 := Az_ (hi))); try go_wp2_with (first | (go_at_call 126; (with_reducible refine (spec_l1Cur_pick.calls g s0_0 x1001_1 x1002_1 (x1_1.size : Int) t376 t377 t378 w0 _ ?side1 ?side2 A9.out).mono ?_); (case side1 => repeat (first | (with_reducible first | exact HI0.out | apply IsS99.alloc | apply IsS99.drewN | apply IsS99.drew | apply IsS99.set_1 | apply IsS99.set_2) | exact HI0.out)); (case side2 => repeat (first | (with_reducible first | exact HB.out | apply baz_ | apply bnz_ | apply bdz_ | refine bsz_ ?_ (IsS99.ge HI0.out)) | exact HB.out)); rintro e w36 ⟨rfl, hi, hb, hk⟩; replace HK := Az_ (KeepBut.trans (w33_) hk (.inl rfl)); replace HB := Az_ (hb); replace HI0 := Az_ (hi)) | (go_at_call 126; (with_reducible refine (spec_l1Cur_pick.calls g s0_0 t377 t378 (a2.size : Int) t379 t380 t381 w0 _ ?side1 ?side2 A10.out).mono ?_); (case side1 => repeat (first | (with_reducible first | exact HI0.out | apply IsS99.alloc | apply IsS99.drewN | apply IsS99.drew | apply IsS99.set_1 | apply IsS99.set_2) | exact HI0.out)); (case side2 => repeat (first | (with_reducible first | exact HB.out | apply baz_ | apply bnz_ | apply bdz_ | refine bsz_ ?_ (IsS99.ge HI0.out)) | exact HB.out)); rintro e w37 ⟨rfl, hi, hb, hk⟩; replace HK := Az_ (KeepBut.trans (w33_) hk (.inl rfl)); replace HB := Az_ (hb); replace HI0 := Az_ (hi); have p13 : 0 ≤ (t379 : Int) := of_decide_eq_true asz_; have q13 : t379 < (a2.size : Int) := of_decide_eq_true asz_; have hx13 := bt_at a2 t379; replace p13 := eq_true p13; replace q13 := eq_true q13) | ((with_reducible refine gate_dst (N := 32) rfl ?_); (try (refine gate_guard (by rfl) ?_; dsimp only)); refine Kd.R_lit (Kd.int .u8) _ 5 ?hg (N := 32) ?hd (xs := ([bt a2 t379] : List Int)) (inner := [.int .u8 (bt a2 t379)]) (ok := fun _ => True) (okp := fun _ => True) ?hr ?hp (fun _ hk => hk) trivial (Below.refl _ _) (Nat.le_refl _) (by simp) ?_; (case hd => rfl); (case hg => rfl); (case hr => first | (go_simp; done) | (go_simp; rfl)); (case hp => exact (Reps.one (show Kd.M (Kd.int .u8) _ _ _ (bt a2 t379) [.int .u8 (bt a2 t379)] from rfl) (Reps.none _ _))); intro v383 w38 ho39 hb hg_ hnew_; clear hg_ hnew_; (first | rw [← Ny382.out] at ho39 | (simp only [Int.reduceToNat] at ho39; rw [← Ny382.out] at ho39)); have HO384 := Az_ (Kd.R_lower ho39 (keep_size (w := w) (g := g) (row := none) (w33_))); replace HK := Az_ (KeepBut.trans (w33_) (KeepBut.of_below hb g none) (.inl rfl)); replace HB := Az_ (btz_ (w39_) hb); replace HI0 := Az_ (IsS99.below (w30_) hb); clear hb ho39; have hcv40 := own_string (P := Tryz.prog) Tryz.underlying22 Tryz.underlying5 Tryz.underlying9 (Kd.own_of_R HO384.out)) | (go_at_call 126; (with_reducible refine (spec_l1Cur_pick.calls g s0_0 t380 t381 3 t385 t386 t387 w0 _ ?side1 ?side2 A14.out).mono ?_); (case side1 => repeat (first | (with_reducible first | exact HI0.out | apply IsS99.alloc | apply IsS99.drewN | apply IsS99.drew | apply IsS99.set_1 | apply IsS99.set_2) | exact HI0.out)); (case side2 => repeat (first | (with_reducible first | exact HB.out | apply baz_ | apply bnz_ | apply bdz_ | refine bsz_ ?_ (IsS99.ge HI0.out)) | exact HB.out)); rintro e w41 ⟨rfl, hi, hb, hk⟩; replace HO384 := Az_ (Kd.R_mono (Kd.R_keep (IsS99.apart (show IsS99 w0 _ g s0_0 t380 t381 from w30_) (w85_) (by decide)) hk (fun _ h => h.2)) (fun _ h => h.1)); replace HK := Az_ (KeepBut.trans (w33_) hk (.inl rfl)); replace HB := Az_ (hb); replace HI0 := Az_ (hi))))
                go_roundg kj5
                case measure => have := HK1.out; have := HJ5.out; omega
                case rel => exact ⟨(((x1_1.extract 0 (t376 : Int).toNat) ++ (strOfNums y382)) ++ (x1_1.extract ((ji32) : Int).toNat x1_1.size)), (wrap64 (x7_1 - 1)), (t386), (t387), (by first | rfl | (simp; done) | (simp only [← hji32] <;> (first | rfl | simp)) | (simp [*]; done)), qaz_, H', ⟨by have := HK1.out; have := HJ5.out; omega⟩, ⟨w30_⟩, ⟨w33_⟩, ⟨w39_⟩⟩
               ·rw [if_neg c35] at H
                exact absurd H (by simp)
              ·rw [if_neg c34] at H
               exact absurd H (by simp)
             ·rw [if_neg c33] at H
              exact absurd H (by simp)
            ·rw [if_neg c31] at H
             exact absurd H (by simp)
           ·rw [if_neg c30] at H
            exact absurd H (by simp)
          ·rw [if_neg c29] at H
           exact absurd H (by simp)
         ·rw [if_neg c28] at H
          have c28b0 : (t385 == 1) = false := beq_eq_false_iff_ne.mpr c28
          have c28b1 : (t385 != 1) = true := bne_iff_ne.mpr c28
          by_cases c42 : 0 ≤ t376
          ·rw [if_pos c42] at H
           have c42b0 := eq_true c42
           have c42b1 := decide_eq_true c42
           clear c42
           by_cases c43 : t376 ≤ (x1_1.size : Int)
           ·rw [if_pos c43] at H
            have c43b0 := eq_true c43
            have c43b1 := decide_eq_true c43
            clear c43
            obtain ⟨ji44, hji44⟩ : ∃ j_ : Int, (wrap64 (t376 + 1)) = j_ := ⟨_, rfl⟩
            replace H : (if 0 ≤ (ji44) then (if (ji44) ≤ (x1_1.size : Int) then (if (x1_1.extract 0 (t376 : Int).toNat).size + (x1_1.extract ((ji44) : Int).toNat x1_1.size).size ≤ 9223372036854775807 then (spec_l1Cur_spoilt.l0 kj5 ((x1_1.extract 0 (t376 : Int).toNat) ++ (x1_1.extract ((ji44) : Int).toNat x1_1.size)) a2 (wrap64 (x7_1 - 1)) s0_0 t386 t387) else (none)) else (none)) else (none)) = some (r1, r2, r3) := by first | (rw [hji44] at H; exact H) | (simp only [hji44] at H ⊢; exact H)
            (try rw [hji44] at A9)
            (try rw [hji44] at A10)
            (try rw [hji44] at A14)
            have hji44w : (IntKind.i64.wrap (t376 + 1)) = ji44 := (i64_w _).trans hji44
            by_cases c45 : 0 ≤ (ji44)
            ·rw [if_pos c45] at H
             have c45b0 := eq_true c45
             have c45b1 := decide_eq_true c45
             clear c45
             by_cases c46 : (ji44) ≤ (x1_1.size : Int)
             ·rw [if_pos c46] at H
              have c46b0 := eq_true c46
              have c46b1 := decide_eq_true c46
              clear c46
              by_cases c47 : (x1_1.extract 0 (t376 : Int).toNat).size + (x1_1.extract ((ji44) : Int).toNat x1_1.size).size ≤ 9223372036854775807
              ·rw [if_pos c47] at H
               have c47b0 := eq_true c47
               have c47b1 := decide_eq_true c47
               try have c47b2 : (9223372036854775807 < (x1_1.extract 0 (t376 : Int).toNat).size + (x1_1.extract ((ji44) : Int).toNat x1_1.size).size) = False := eq_false (Nat.not_lt.2 c47)
               have H' := Az_ H
               clear H
               go_wp2_with (first | (go_at_call 126; (with_reducible refine (spec_l1Cur_pick.calls g s0_0 x1001_1 x1002_1 (x1_1.size : Int) t376 t377 t378 w0 _ ?side1 ?side2 A9.out).mono ?_); (case side1 => repeat (first | (with_reducible first | exact HI0.out | apply IsS99.alloc | apply IsS99.drewN | apply IsS99.drew | apply IsS99.set_1 | apply IsS99.set_2) | exact HI0.out)); (case side2 => repeat (first | (with_reducible first | exact HB.out | apply baz_ | apply bnz_ | apply bdz_ | refine bsz_ ?_ (IsS99.ge HI0.out)) | exact HB.out)); rintro e w48 ⟨rfl, hi, hb, hk⟩; replace HK := Az_ (KeepBut.trans (w33_) hk (.inl rfl)); replace HB := Az_ (hb); replace HI0 := Az_ (hi); (try clear hb); (try clear hk); (try clear hi)) | (go_at_call 126; (with_reducible refine (spec_l1Cur_pick.calls g s0_0 t377 t378 (a2.size : Int) t379 t380 t381 w0 _ ?side1 ?side2 A10.out).mono ?_); (case side1 => repeat (first | (with_reducible first | exact HI0.out | apply IsS99.alloc | apply IsS99.drewN | apply IsS99.drew | apply IsS99.set_1 | apply IsS99.set_2) | exact HI0.out)); (case side2 => repeat (first | (with_reducible first | exact HB.out | apply baz_ | apply bnz_ | apply bdz_ | refine bsz_ ?_ (IsS99.ge HI0.out)) | exact HB.out)); rintro e w49 ⟨rfl, hi, hb, hk⟩; replace HK := Az_ (KeepBut.trans (w33_) hk (.inl rfl)); replace HB := Az_ (hb); replace HI0 := Az_ (hi); (try clear hb); (try clear hk); (try clear hi); have p13 : 0 ≤ (t379 : Int) := of_decide_eq_true asz_; have q13 : t379 < (a2.size : Int) := of_decide_eq_true asz_; have hx13 := bt_at a2 t379; replace p13 := eq_true p13; replace q13 := eq_true q13) | ((with_reducible refine gate_dst (N := 32) rfl ?_); (try (refine gate_guard (by rfl) ?_; dsimp only)); refine Kd.R_lit (Kd.int .u8) _ 5 ?hg (N := 32) ?hd (xs := ([bt a2 t379] : List Int)) (inner := [.int .u8 (bt a2 t379)]) (ok := fun _ => True) (okp := fun _ => True) ?hr ?hp (fun _ hk => hk) trivial (Below.refl _ _) (Nat.le_refl _) (by simp) ?_; (case hd => rfl); (case hg => rfl); (case hr => first | (go_simp; done) | (go_simp; rfl)); (case hp => exact (Reps.one (show Kd.M (Kd.int .u8) _ _ _ (bt a2 t379) [.int .u8 (bt a2 t379)] from rfl) (Reps.none _ _))); intro v383 w50 ho51 hb hg_ hnew_; clear hg_ hnew_; (first | rw [← Ny382.out] at ho51 | (simp only [Int.reduceToNat] at ho51; rw [← Ny382.out] at ho51)); have HO384 := Az_ (Kd.R_lower ho51 (keep_size (w := w) (g := g) (row := none) (w33_))); replace HK := Az_ (KeepBut.trans (w33_) (KeepBut.of_below hb g none) (.inl rfl)); replace HB := Az_ (btz_ (w39_) hb); replace HI0 := Az_ (IsS99.below (w30_) hb); clear hb ho51; have hcv52 := own_string (P := Tryz.prog) Tryz.underlying22 Tryz.underlying5 Tryz.underlying9 (Kd.own_of_R HO384.out)) | (go_at_call 126; (with_reducible refine (spec_l1Cur_pick.calls g s0_0 t380 t381 3 t385 t386 t387 w0 _ ?side1 ?side2 A14.out).mono ?_); (case side1 => repeat (first | (with_reducible first | exact HI0.out | apply IsS99.alloc | apply IsS99.drewN | apply IsS99.drew | apply IsS99.set_1 | apply IsS99.set_2) | exact HI0.out)); (case side2 => repeat (first | (with_reducible first | exact HB.out | apply baz_ | apply bnz_ | apply bdz_ | refine bsz_ ?_ (IsS99.ge HI0.out)) | exact HB.out)); rintro e w53 ⟨rfl, hi, hb, hk⟩; replace HO384 := Az_ (Kd.R_mono (Kd.R_keep (IsS99.apart (show IsS99 w0 _ g s0_0 t380 t381 from w30_) (w85_) (by decide)) hk (fun _ h => h.2)) (fun _ h => h.1)); replace HK := Az_ (KeepBut.trans (w33_) hk (.inl rfl)); replace HB := Az_ (hb); replace HI0 := Az_ (hi); (try clear hb); (try clear hk); (try clear hi)))
               repeat (go_quiet (first | (go_at_call 126; (with_reducible refine (spec_l1Cur_pick.calls g s0_0 x1001_1 x1002_1 (x1_1.size : Int) t376 t377 t378 w0 _ ?side1 ?side2 A9.out).mono ?_); (case side1 => repeat (first | (with_reducible first | exact HI0.out | apply IsS99.alloc | apply IsS99.drewN | apply IsS99.drew | apply IsS99.set_1 | apply IsS99.set_2) | exact HI0.out)); (case side2 => repeat (first | (with_reducible first | exact HB.out | apply baz_ | apply bnz_ | apply bdz_ | refine bsz_ ?_ (IsS99.ge HI0.out)) | exact HB.out)); rintro e w48 ⟨rfl, hi, hb, hk⟩; replace HK := Az_ (KeepBut.trans (w33_) hk (.inl rfl)); replace HB := Az_ (hb); replace HI0 := Az_ (hi)) | (go_at_call 126; (with_reducible refine (spec_l1Cur_pick.calls g s0_0 t377 t378 (a2.size : Int) t379 t380 t381 w0 _ ?side1 ?side2 A10.out).mono ?_); (case side1 => repeat (first | (with_reducible first | exact HI0.out | apply IsS99.alloc | apply IsS99.drewN | apply IsS99.drew | apply IsS99.set_1 | apply IsS99.set_2) | exact HI0.out)); (case side2 => repeat (first | (with_reducible first | exact HB.out | apply baz_ | apply bnz_ | apply bdz_ | refine bsz_ ?_ (IsS99.ge HI0.out)) | exact HB.out)); rintro e w49 ⟨rfl, hi, hb, hk⟩; replace HK := Az_ (KeepBut.trans (w33_) hk (.inl rfl)); replace HB := Az_ (hb); replace HI0 := Az_ (hi); have p13 : 0 ≤ (t379 : Int) := of_decide_eq_true asz_; have q13 : t379 < (a2.size : Int) := of_decide_eq_true asz_; have hx13 := bt_at a2 t379; replace p13 := eq_true p13; replace q13 := eq_true q13) | ((with_reducible refine gate_dst (N := 32) rfl ?_); (try (refine gate_guard (by rfl) ?_; dsimp only)); refine Kd.R_lit (Kd.int .u8) _ 5 ?hg (N := 32) ?hd (xs := ([bt a2 t379] : List Int)) (inner := [.int .u8 (bt a2 t379)]) (ok := fun _ => True) (okp := fun _ => True) ?hr ?hp (fun _ hk => hk) trivial (Below.refl _ _) (Nat.le_refl _) (by simp) ?_; (case hd => rfl); (case hg => rfl); (case hr => first | (go_simp; done) | (go_simp; rfl)); (case hp => exact (Reps.one (show Kd.M (Kd.int .u8) _ _ _ (bt a2 t379) [.int .u8 (bt a2 t379)] from rfl) (Reps.none _ _))); intro v383 w50 ho51 hb hg_ hnew_; clear hg_ hnew_; (first | rw [← Ny382.out] at ho51 | (simp only [Int.reduceToNat] at ho51; rw [← Ny382.out] at ho51)); have HO384 := Az_ (Kd.R_lower ho51 (keep_size (w := w) (g := g) (row := none) (w33_))); replace HK := Az_ (KeepBut.trans (w33_) (KeepBut.of_below hb g none) (.inl rfl)); replace HB := Az_ (btz_ (w39_) hb); replace HI0 := Az_ (IsS99.below (w30_) hb); clear hb ho51; have hcv52 := own_string (P := Tryz.prog) Tryz.underlying22 Tryz.underlying5 Tryz.underlying9 (Kd.own_of_R HO384.out)) | (go_at_call 126; (with_reducible refine (spec_l1Cur_pick.calls g s0_0 t380 t381 3 t385 t386 t387 w0 _ ?side1 ?side2 A14.out).mono ?_); (case side1 => repeat (first | (with_reducible first | exact HI0.out | apply IsS99.alloc | apply IsS99.drewN | apply IsS99.drew | apply IsS99.set_1 | apply IsS99.set_2) | exact HI0.out)); (case side2 => repeat (first | (with_reducible first | exact HB.out | apply baz_ | apply bnz_ | apply bdz_ | refine bsz_ ?_ (IsS99.ge HI0.out)) | exact HB.out)); rintro e w53 ⟨rfl, hi, hb, hk⟩; replace HO384 := Az_ (Kd.R_mono (Kd.R_keep (IsS99.apart (show IsS99 w0 _ g s0_0 t380 t381 from w30_) (w85_) (by decide)) hk (fun _ h => h.2)) (fun _ h => h.1)); replace HK := Az_ (KeepBut.trans (w33_) hk (.inl rfl)); replace HB := Az_ (hb); replace HI0 := Az_ (hi))); try go_wp2_with (first | (go_at_call 126; (with_reducible refine (spec_l1Cur_pick.calls g s0_0 x1001_1 x1002_1 (x1_1.size : Int) t376 t377 t378 w0 _ ?side1 ?side2 A9.out).mono ?_); (case side1 => repeat (first | (with_reducible first | exact HI0.out | apply IsS99.alloc | apply IsS99.drewN | apply IsS99.drew | apply IsS99.set_1 | apply IsS99.set_2) | exact HI0.out)); (case side2 => repeat (first | (with_reducible first | exact HB.out | apply baz_ | apply bnz_ | apply bdz_ | refine bsz_ ?_ (IsS99.ge HI0.out)) | exact HB.out)); rintro e w48 ⟨rfl, hi, hb, hk⟩; replace HK := Az_ (KeepBut.trans (w33_) hk (.inl rfl)); replace HB := Az_ (hb); replace HI0 := Az_ (hi)) | (go_at_call 126; (with_reducible refine (spec_l1Cur_pick.calls g s0_0 t377 t378 (a2.size : Int) t379 t380 t381 w0 _ ?side1 ?side2 A10.out).mono ?_); (case side1 => repeat (first | (with_reducible first | exact HI0.out | apply IsS99.alloc | apply IsS99.drewN | apply IsS99.drew | apply IsS99.set_1 | apply IsS99.set_2) | exact HI0.out)); (case side2 => repeat (first | (with_reducible first | exact HB.out | apply baz_ | apply bnz_ | apply bdz_ | refine bsz_ ?_ (IsS99.ge HI0.out)) | exact HB.out)); rintro e w49 ⟨rfl, hi, hb, hk⟩; replace HK := Az_ (KeepBut.trans (w33_) hk (.inl rfl)); replace HB := Az_ (hb); replace HI0 := Az_ (hi); have p13 : 0 ≤ (t379 : Int) := of_decide_eq_true asz_; have q13 : t379 < (a2.size : Int) := of_decide_eq_true asz_; have hx13 := bt_at a2 t379; replace p13 := eq_true p13; replace q13 := eq_true q13) | ((with_reducible refine gate_dst (N := 32) rfl ?_); (try (refine gate_guard (by rfl) ?_; dsimp only)); refine Kd.R_lit (Kd.int .u8) _ 5 ?hg (N := 32) ?hd (xs := ([bt a2 t379] : List Int)) (inner := [.int .u8 (bt a2 t379)]) (ok := fun _ => True) (okp := fun _ => True) ?hr ?hp (fun _ hk => hk) trivial (Below.refl _ _) (Nat.le_refl _) (by simp) ?_; (case hd => rfl); (case hg => rfl); (case hr => first | (go_simp; done) | (go_simp; rfl)); (case hp => exact (Reps.one (show Kd.M (Kd.int .u8) _ _ _ (bt a2 t379) [.int .u8 (bt a2 t379)] from rfl) (Reps.none _ _))); intro v383 w50 ho51 hb hg_ hnew_; clear hg_ hnew_; (first | rw [← Ny382.out] at ho51 | (simp only [Int.reduceToNat] at ho51; rw [← Ny382.out] at ho51)); have HO384 := Az_ (Kd.R_lower ho51 (keep_size (w := w) (g := g) (row := none) (w33_))); replace HK := Az_ (KeepBut.trans (w33_) (KeepBut.of_below hb g none) (.inl rfl)); replace HB := Az_ (btz_ (w39_) hb); replace HI0 := Az_ (IsS99.below (w30_) hb); clear hb ho51; have hcv52 := own_string (P := Tryz.prog) Tryz.underlying22 Tryz.underlying5 Tryz.underlying9 (Kd.own_of_R HO384.out)) | (go_at_call 126; (with_reducible refine (spec_l1Cur_pick.calls g s0_0 t380 t381 3 t385 t386 t387 w0 _ ?side1 ?side2 A14.out).mono ?_); (case side1 => repeat (first | (with_reducible first | exact HI0.out | apply IsS99.alloc | apply IsS99.drewN | apply IsS99.drew | apply IsS99.set_1 | apply IsS99.set_2) | exact HI0.out)); (case side2 => repeat (first | (with_reducible first | exact HB.out | apply baz_ | apply bnz_ | apply bdz_ | refine bsz_ ?_ (IsS99.ge HI0.out)) | exact HB.out)); rintro e w53 ⟨rfl, hi, hb, hk⟩; replace HO384 := Az_ (Kd.R_mono (Kd.R_keep (IsS99.apart (show IsS99 w0 _ g s0_0 t380 t381 from w30_) (w85_) (by decide)) hk (fun _ h => h.2)) (fun _ h => h.1)); replace HK := Az_ (KeepBut.trans (w33_) hk (.inl rfl)); replace HB := Az_ (hb); replace HI0 := Az_ (hi))))
               go_roundg kj5
               case measure => have := HK1.out; have := HJ5.out; omega
               case rel => exact ⟨((x1_1.extract 0 (t376 : Int).toNat) ++ (x1_1.extract ((ji44) : Int).toNat x1_1.size)), (wrap64 (x7_1 - 1)), (t386), (t387), (by first | rfl | (simp; done) | (simp only [← hji44] <;> (first | rfl | simp)) | (simp [*]; done)), qaz_, H', ⟨by have := HK1.out; have := HJ5.out; omega⟩, ⟨w30_⟩, ⟨w33_⟩, ⟨w39_⟩⟩
              ·rw [if_neg c47] at H
               exact absurd H (by simp)
             ·rw [if_neg c46] at H
              exact absurd H (by simp)
            ·rw [if_neg c45] at H
             exact absurd H (by simp)
           ·rw [if_neg c43] at H
            exact absurd H (by simp)
          ·rw [if_neg c42] at H
           exact absurd H (by simp)
       ·rw [if_neg c12] at H
        exact absurd H (by simp)
      ·rw [if_neg c11] at H
       exact absurd H (by simp)
     ·replace c8 := Bool.eq_false_iff.mpr c8
      subst c8
      rw [if_neg nfz_] at H
      simp only [Option.some.injEq, Prod.mk.injEq] at H
      obtain ⟨rfl, rfl, rfl⟩ := H
      go_wp2
      go_ret
      exact ⟨w61_, w30_, w39_, w33_⟩

def spec_DrawParseRanges.f (k : Nat) (l0 : List Int) : Option (ByteArray) := (spec_l1Cur_sureRanges.f k l0 0 0).bind fun bt389 => ((spec_ixText.f k bt389.1).bind fun t394 => ((spec_l1Cur_one.f l0 bt389.2.1 bt389.2.2 3).bind fun bt395 => (if bt395.1 = true then (if t394.size + 1 ≤ 9223372036854775807 then ((spec_l1Cur_spoilt.f k l0 bt395.2.1 bt395.2.2 (t394 ++ (⟨#[57]⟩ : ByteArray)) (⟨#[48, 49, 50, 51, 45, 44, 120]⟩ : ByteArray)).bind fun bt398 => (some bt398.1)) else (none)) else (some t394))))
set_option maxHeartbeats 8000000 in
set_option maxRecDepth 100000 in
theorem spec_DrawParseRanges.calls (k : Nat) (A0 : Option Addr) (c0 : Nat) (l0 : List Int) (r : ByteArray) (w : World) (hr0 : Kd.C (Kd.int .u8) w A0 l0.length l0) (hc0 : l0.length ≤ c0) (h : spec_DrawParseRanges.f k l0 = some r) :
  Calls Tryz.prog 57 #[.slice A0 l0.length c0] w fun e w' => e = .returned (.string r) ∧ Below w.heap.size w w' := by
 have hu99 := Tryz.underlying99
 have HR0 := Az_ hr0
 have HC0 := Az_ hc0
 clear hr0 hc0
 have HB := Az_ (Below.refl w.heap.size w)
 have H : ((spec_l1Cur_sureRanges.f k l0 0 0).bind fun bt389 => ((spec_ixText.f k bt389.1).bind fun t394 => ((spec_l1Cur_one.f l0 bt389.2.1 bt389.2.2 3).bind fun bt395 => (if bt395.1 = true then (if t394.size + 1 ≤ 9223372036854775807 then ((spec_l1Cur_spoilt.f k l0 bt395.2.1 bt395.2.2 (t394 ++ (⟨#[57]⟩ : ByteArray)) (⟨#[48, 49, 50, 51, 45, 44, 120]⟩ : ByteArray)).bind fun bt398 => (some bt398.1)) else (none)) else (some t394))))) = some r := h
 clear h
 replace H := bqz_ H; obtain ⟨⟨t389, t392, t393⟩, A2, H⟩ := H
 replace H := bqz_ H; obtain ⟨t394, A3, H⟩ := H
 replace H := bqz_ H; obtain ⟨⟨t395, t396, t397⟩, A4, H⟩ := H
 replace H : (if t395 = true then (if t394.size + 1 ≤ 9223372036854775807 then ((spec_l1Cur_spoilt.f k l0 t396 t397 (t394 ++ (⟨#[57]⟩ : ByteArray)) (⟨#[48, 49, 50, 51, 45, 44, 120]⟩ : ByteArray)).bind fun bt398 => (some bt398.1)) else (none)) else (some t394)) = some r := H
 by_cases c5 : t395 = true
 ·subst c5
  rw [if_pos rfl] at H
  by_cases c6 : t394.size + 1 ≤ 9223372036854775807
  ·rw [if_pos c6] at H
   have c6b0 := eq_true c6
   have c6b1 := decide_eq_true c6
   try have c6b2 : (9223372036854775807 < t394.size + 1) = False := eq_false (Nat.not_lt.2 c6)
   replace H := bqz_ H; obtain ⟨⟨t398, t399, t400⟩, A7, H⟩ := H
   replace H : (some t398) = some r := H
   obtain rfl := Option.some.inj H
   go_enter Tryz.func57, Tryz.ntmps57
   go_wp2_with (first | ((with_reducible refine gate_dst (N := 7) rfl ?_); refine box_event ?hg (N := 7) ?hd (cs := #[.slice A0 l0.length c0, .int .i64 0, .int .u64 0]) (t := 99) ?hr ?_; (case hd => rfl); (case hg => rfl); (case hr => first | (go_simp; done) | (go_simp; rfl)); intro gb388 hg w8 hbox hb; have BK388 := Az_ (hbox); have GW388 := Az_ ((by rw [hg]; exact (below_size (ubz_ HB.out)) : w.heap.size ≤ gb388)); have GE388 := Az_ ((by rw [hg]; exact (below_size (ubz_ HB.out)) : w.heap.size ≤ gb388)); replace HB := Az_ (btz_ (ubz_ HB.out) hb); clear hb hbox hg) | ((with_reducible refine gate_callee (f := 140) rfl ?_); refine goesL_ (some 9) rfl rfl Tryz.func140 (w110_) rfl #[.pointer (some ⟨gb388, 0, none⟩)] rfl maz_ ?_; have HI388 := Az_ (show IsS99 w w8 gb388 l0 0 0 from ⟨_, _, BK388.out, GE388.out, HR0.out⟩); (with_reducible refine (spec_l1Cur_sureRanges.calls k gb388 l0 0 0 t389 t392 t393 w _ ?side1 ?side2 A2.out).mono ?_); (case side1 => repeat (first | (with_reducible first | exact HI388.out | apply IsS99.alloc | apply IsS99.drewN | apply IsS99.drew | apply IsS99.set_1 | apply IsS99.set_2) | exact HI388.out)); (case side2 => repeat (first | (with_reducible first | exact HB.out | apply baz_ | apply bnz_ | apply bdz_ | refine bsz_ ?_ (IsS99.ge HI388.out)) | exact HB.out)); rintro e w9 ⟨v390, rfl, ho0, hi, hb, hk⟩; refine ⟨_, rfl, ?_⟩; have HO391 := Az_ (Kd.R_lower ho0 (below_size (w38_))); replace HB := Az_ (hb); replace HI388 := Az_ (hi); (try clear hb); (try clear hk); (try clear hi); (try clear ho0); obtain ⟨Ao10, co10, eo10⟩ := Kd.R_slice HO391.out; subst eo10) | ((with_reducible refine gate_callee (f := 138) rfl ?_); refine goesL_ (some 10) rfl rfl Tryz.func138 (w110_) rfl #[.slice Ao10 t389.length co10] rfl maz_ ?_; (with_reducible refine (spec_ixText.calls k _ _ t389 t394 _ ?side1 ?side2 A3.out).mono ?_); (case side1 => exact ucz_ ((Kd.R_reads' HO391.out).2.2)); (case side2 => exact (Kd.R_reads' HO391.out).2.1); rintro e w11 ⟨rfl, hb⟩; refine ⟨_, rfl, ?_⟩; replace HO391 := Az_ (Kd.R_below (by exact urz_ HO391.out) hb); replace HB := Az_ (btz_ (w38_) hb); replace HI388 := Az_ (IsS99.below (w28_) hb); (try clear hb); (try clear hk); (try clear hi)) | ((with_reducible refine gate_callee (f := 94) rfl ?_); refine goesL_ (some 12) rfl rfl Tryz.func94 (w110_) rfl #[.pointer (some ⟨gb388, 0, none⟩), .int .i64 3] rfl maz_ ?_; (with_reducible refine (spec_l1Cur_one.calls gb388 l0 t392 t393 3 true t396 t397 w _ ?side1 ?side2 A4.out).mono ?_); (case side1 => repeat (first | (with_reducible first | exact HI388.out | apply IsS99.alloc | apply IsS99.drewN | apply IsS99.drew | apply IsS99.set_1 | apply IsS99.set_2) | exact HI388.out)); (case side2 => repeat (first | (with_reducible first | exact HB.out | apply baz_ | apply bnz_ | apply bdz_ | refine bsz_ ?_ (IsS99.ge HI388.out)) | exact HB.out)); rintro e w12 ⟨rfl, hi, hb, hk⟩; refine ⟨_, rfl, ?_⟩; replace HO391 := Az_ (Kd.R_mono (Kd.R_keep (IsS99.apart (show IsS99 w _ gb388 l0 t392 t393 from w28_) (by exact urz_ HO391.out) (by decide)) hk (fun _ h => h.2)) (fun _ h => h.1)); replace HB := Az_ (hb); replace HI388 := Az_ (hi); (try clear hb); (try clear hk); (try clear hi)) | ((with_reducible refine gate_callee (f := 115) rfl ?_); refine goesL_ (some 16) rfl rfl Tryz.func115 (w110_) rfl #[.pointer (some ⟨gb388, 0, none⟩), .string (t394 ++ (⟨#[57]⟩ : ByteArray)), .string (⟨#[48, 49, 50, 51, 45, 44, 120]⟩ : ByteArray)] rfl maz_ ?_; (with_reducible refine (spec_l1Cur_spoilt.calls k gb388 l0 t396 t397 (t394 ++ (⟨#[57]⟩ : ByteArray)) (⟨#[48, 49, 50, 51, 45, 44, 120]⟩ : ByteArray) t398 t399 t400 w _ ?side1 ?side2 A7.out).mono ?_); (case side1 => repeat (first | (with_reducible first | exact HI388.out | apply IsS99.alloc | apply IsS99.drewN | apply IsS99.drew | apply IsS99.set_1 | apply IsS99.set_2) | exact HI388.out)); (case side2 => repeat (first | (with_reducible first | exact HB.out | apply baz_ | apply bnz_ | apply bdz_ | refine bsz_ ?_ (IsS99.ge HI388.out)) | exact HB.out)); rintro e w13 ⟨rfl, hi, hb, hk⟩; refine ⟨_, rfl, ?_⟩; replace HO391 := Az_ (Kd.R_mono (Kd.R_keep (IsS99.apart (show IsS99 w _ gb388 l0 t396 t397 from w28_) (by exact urz_ HO391.out) (by decide)) hk (fun _ h => h.2)) (fun _ h => h.1)); replace HB := Az_ (hb); replace HI388 := Az_ (hi); (try clear hb); (try clear hk); (try clear hi)))
   go_ret
   exact ⟨w61_, w38_⟩
  ·rw [if_neg c6] at H
   exact absurd H (by simp)
 ·replace c5 := Bool.eq_false_iff.mpr c5
  subst c5
  rw [if_neg nfz_] at H
  obtain rfl := Option.some.inj H
  go_enter Tryz.func57, Tryz.ntmps57
  go_wp2_with (first | ((with_reducible refine gate_dst (N := 7) rfl ?_); refine box_event ?hg (N := 7) ?hd (cs := #[.slice A0 l0.length c0, .int .i64 0, .int .u64 0]) (t := 99) ?hr ?_; (case hd => rfl); (case hg => rfl); (case hr => first | (go_simp; done) | (go_simp; rfl)); intro gb388 hg w14 hbox hb; have BK388 := Az_ (hbox); have GW388 := Az_ ((by rw [hg]; exact (below_size (ubz_ HB.out)) : w.heap.size ≤ gb388)); have GE388 := Az_ ((by rw [hg]; exact (below_size (ubz_ HB.out)) : w.heap.size ≤ gb388)); replace HB := Az_ (btz_ (ubz_ HB.out) hb); clear hb hbox hg) | ((with_reducible refine gate_callee (f := 140) rfl ?_); refine goesL_ (some 9) rfl rfl Tryz.func140 (w110_) rfl #[.pointer (some ⟨gb388, 0, none⟩)] rfl maz_ ?_; have HI388 := Az_ (show IsS99 w w14 gb388 l0 0 0 from ⟨_, _, BK388.out, GE388.out, HR0.out⟩); (with_reducible refine (spec_l1Cur_sureRanges.calls k gb388 l0 0 0 t389 t392 t393 w _ ?side1 ?side2 A2.out).mono ?_); (case side1 => repeat (first | (with_reducible first | exact HI388.out | apply IsS99.alloc | apply IsS99.drewN | apply IsS99.drew | apply IsS99.set_1 | apply IsS99.set_2) | exact HI388.out)); (case side2 => repeat (first | (with_reducible first | exact HB.out | apply baz_ | apply bnz_ | apply bdz_ | refine bsz_ ?_ (IsS99.ge HI388.out)) | exact HB.out)); rintro e w15 ⟨v390, rfl, ho0, hi, hb, hk⟩; refine ⟨_, rfl, ?_⟩; have HO391 := Az_ (Kd.R_lower ho0 (below_size (w38_))); replace HB := Az_ (hb); replace HI388 := Az_ (hi); (try clear hb); (try clear hk); (try clear hi); (try clear ho0); obtain ⟨Ao16, co16, eo16⟩ := Kd.R_slice HO391.out; subst eo16) | ((with_reducible refine gate_callee (f := 138) rfl ?_); refine goesL_ (some 10) rfl rfl Tryz.func138 (w110_) rfl #[.slice Ao16 t389.length co16] rfl maz_ ?_; (with_reducible refine (spec_ixText.calls k _ _ t389 t394 _ ?side1 ?side2 A3.out).mono ?_); (case side1 => exact ucz_ ((Kd.R_reads' HO391.out).2.2)); (case side2 => exact (Kd.R_reads' HO391.out).2.1); rintro e w17 ⟨rfl, hb⟩; refine ⟨_, rfl, ?_⟩; replace HO391 := Az_ (Kd.R_below (by exact urz_ HO391.out) hb); replace HB := Az_ (btz_ (w38_) hb); replace HI388 := Az_ (IsS99.below (w28_) hb); (try clear hb); (try clear hk); (try clear hi)) | ((with_reducible refine gate_callee (f := 94) rfl ?_); refine goesL_ (some 12) rfl rfl Tryz.func94 (w110_) rfl #[.pointer (some ⟨gb388, 0, none⟩), .int .i64 3] rfl maz_ ?_; (with_reducible refine (spec_l1Cur_one.calls gb388 l0 t392 t393 3 false t396 t397 w _ ?side1 ?side2 A4.out).mono ?_); (case side1 => repeat (first | (with_reducible first | exact HI388.out | apply IsS99.alloc | apply IsS99.drewN | apply IsS99.drew | apply IsS99.set_1 | apply IsS99.set_2) | exact HI388.out)); (case side2 => repeat (first | (with_reducible first | exact HB.out | apply baz_ | apply bnz_ | apply bdz_ | refine bsz_ ?_ (IsS99.ge HI388.out)) | exact HB.out)); rintro e w18 ⟨rfl, hi, hb, hk⟩; refine ⟨_, rfl, ?_⟩; replace HO391 := Az_ (Kd.R_mono (Kd.R_keep (IsS99.apart (show IsS99 w _ gb388 l0 t392 t393 from w28_) (by exact urz_ HO391.out) (by decide)) hk (fun _ h => h.2)) (fun _ h => h.1)); replace HB := Az_ (hb); replace HI388 := Az_ (hi); (try clear hb); (try clear hk); (try clear hi)))
  go_ret
  exact ⟨w61_, w38_⟩

end Go.Proofs.YtppbpefehpbejaaGreatDoor.P
end

section
namespace Go.Proofs.YtppbpefehpbejaaGreatDoor.P
open Go.RowKit Go.Proofs.YtppbpefehpbejaaGreatDoorW.PrintWords Go.Proofs.YtppbpefehpbejaaGreatDoorW.PrintLast Go.Proofs.YtppbpefehpbejaaGreatDoorW.PrintMore
set_option linter.unusedVariables false

def strcut.f (s sep : ByteArray) : Option (ByteArray × ByteArray × Bool) :=
  if s.size < 4294967281 then some (⟨(Lib.cut s.data.toList sep.data.toList).1.toArray⟩, ⟨(Lib.cut s.data.toList sep.data.toList).2.1.toArray⟩, (Lib.cut s.data.toList sep.data.toList).2.2) else none
theorem strcut.calls (s sep : ByteArray) (r1 r2 : ByteArray) (r3 : Bool) (w : World) (hT : LibW w) (h : strcut.f s sep = some (r1, r2, r3)) :
    Calls Tryz.prog 109 #[.string s, .string sep] w fun e w' => e = .returned (.tuple #[.string r1, .string r2, .bool r3]) ∧ Below w.heap.size w w' := by
  unfold strcut.f at h
  by_cases hn : s.size < 4294967281
  · rw [if_pos hn] at h
    simp only [Option.some.injEq, Prod.mk.injEq] at h
    obtain ⟨rfl, rfl, rfl⟩ := h
    obtain ⟨m, hm⟩ := hT.2.1
    refine (Tryz.strings_Cut s sep m w hn hm).mono fun e w' ⟨he, n, hw⟩ => ⟨he, ?_⟩
    subst hw
    exact pw_below_drewN (Below.refl _ _) n
  · rw [if_neg hn] at h
    cases h
end Go.Proofs.YtppbpefehpbejaaGreatDoor.P
end

section
namespace Go.Proofs.YtppbpefehpbejaaGreatDoor.P
open Go.RowKit Go.Proofs.YtppbpefehpbejaaGreatDoorW.PrintWords Go.Proofs.YtppbpefehpbejaaGreatDoorW.PrintLast Go.Proofs.YtppbpefehpbejaaGreatDoorW.PrintMore
attribute [local go_sem] max2_int min2_int max_two min_two max_three min_three max_four min_four   -- for this text's walks alone
set_option linter.unusedVariables false
set_option linter.unusedSimpArgs false

mutual
def impl_longRange.j1 : Nat → ByteArray → ByteArray → ByteArray → Option (Int × Int × Bool)
 | 0, _, _, _ => none
 | k + 1, x0, x4, x7 => (atoi.f x4).bind fun bt405 => ((atoi.f x7).bind fun bt407 => (if bt405.2.isNone = true then (if bt407.2.isNone = true then ((impl_isRange.f bt405.1 bt407.1).bind fun t412 => (if t412 = true then ((impl_shortRange.f k bt405.1 bt407.1).bind fun t413 => (if t413.toList = x0.toList then (some (bt405.1, bt407.1, true)) else (some (0, 0, false)))) else (some (0, 0, false)))) else (some (0, 0, false))) else (some (0, 0, false))))
def impl_longRange.j0 : Nat → ByteArray → ByteArray → ByteArray → Bool → ByteArray → Bool → Option (Int × Int × Bool)
 | 0, _, _, _, _, _, _ => none
 | k + 1, x0, x4, x5, x6, x7, x20 => if x20 = true then (if 0 ≤ (wrap64 ((x4.size : Int) - (x5.size : Int))) then (if (wrap64 ((x4.size : Int) - (x5.size : Int))) ≤ (x4.size : Int) then (if (x4.extract 0 ((wrap64 ((x4.size : Int) - (x5.size : Int))) : Int).toNat).size + x5.size ≤ 9223372036854775807 then (impl_longRange.j1 k x0 x4 ((x4.extract 0 ((wrap64 ((x4.size : Int) - (x5.size : Int))) : Int).toNat) ++ x5)) else (none)) else (none)) else (none)) else (if x6 = true then (impl_longRange.j1 k x0 x4 x5) else (impl_longRange.j1 k x0 x4 x7))
end
def impl_longRange.f (k : Nat) (a0 : ByteArray) : Option (Int × Int × Bool) := (strcut.f a0 (⟨#[45]⟩ : ByteArray)).bind fun bt402 => (if bt402.2.2 = true then (impl_longRange.j0 k a0 bt402.1 bt402.2.1 bt402.2.2 bt402.1 (decide ((bt402.2.1.size : Int) < (bt402.1.size : Int)))) else (impl_longRange.j0 k a0 bt402.1 bt402.2.1 bt402.2.2 bt402.1 false))
set_option maxHeartbeats 8000000 in
set_option maxRecDepth 100000 in
theorem impl_longRange.calls (k : Nat) (a0 : ByteArray) (r1 : Int) (r2 : Int) (r3 : Bool) (w : World) (hT : LibW w) (h : impl_longRange.f k a0 = some (r1, r2, r3)) :
  Calls Tryz.prog 142 #[.string a0] w fun e w' => e = .returned (.tuple #[.agg #[.int .i64 r1, .int .i64 r2], .bool r3]) ∧ Below w.heap.size w w' := by
 have HTAB := Az_ hT
 clear hT
 have hu69 := Tryz.underlying69
 have hu120 := Tryz.underlying120
 have HB := Az_ (Below.refl w.heap.size w)
 have H : ((strcut.f a0 (⟨#[45]⟩ : ByteArray)).bind fun bt402 => (if bt402.2.2 = true then (j0 k a0 bt402.1 bt402.2.1 bt402.2.2 bt402.1 (decide ((bt402.2.1.size : Int) < (bt402.1.size : Int)))) else (j0 k a0 bt402.1 bt402.2.1 bt402.2.2 bt402.1 false))) = some (r1, r2, r3) := h
 clear h
 replace H := bqz_ H; obtain ⟨⟨t402, t403, t404⟩, A2, H⟩ := H
 replace H : (if t404 = true then (j0 k a0 t402 t403 t404 t402 (decide ((t403.size : Int) < (t402.size : Int)))) else (j0 k a0 t402 t403 t404 t402 false)) = some (r1, r2, r3) := H
 have HC3 := Az_ H
 clear H
 go_enter Tryz.func142, Tryz.ntmps142
 go_upto_block 0 with (first | ((with_reducible refine gate_dst (N := 2) rfl ?_); (try (refine gate_guard (by rfl) ?_; dsimp only)); refine box_event ?hg (N := 2) ?hd (cs := #[.int .i64 0, .int .i64 0]) (t := 69) ?hr ?_; (case hd => rfl); (case hg => rfl); (case hr => first | (go_simp; done) | (go_simp; rfl)); intro gb401 hg w4 hbox hb; have BK401 := Az_ (hbox); have GW401 := Az_ ((by rw [hg]; exact (below_size (ubz_ HB.out)) : w.heap.size ≤ gb401)); have GE401 := Az_ ((by rw [hg]; exact (below_size (ubz_ HB.out)) : w.heap.size ≤ gb401)); replace HB := Az_ (btz_ (ubz_ HB.out) hb); clear hb hbox hg) | ((with_reducible refine gate_callee (f := 109) rfl ?_); refine goesL_ (some 15) rfl rfl Tryz.func109 (w110_) rfl #[.string a0, .string (⟨#[45]⟩ : ByteArray)] rfl maz_ ?_; (with_reducible refine (strcut.calls a0 (⟨#[45]⟩ : ByteArray) t402 t403 t404 _ (libW_below HTAB.out (w40_)) A2.out).mono ?_); rintro e w5 ⟨rfl, hb⟩; refine ⟨_, rfl, ?_⟩; have n1_ := Az_ (btz_ (w40_) hb); clear HB; replace BK401 := Az_ (ukbz_ BK401.out hb); have HB := n1_; clear n1_; (try clear hb)))
 (try simp only [Act.put, List.setIfInBounds_toArray, List.set_cons_zero, List.set_cons_succ])
 go_cut [7] (fun v7 wc => ∃ (kq : Nat) (x7_2 : ByteArray), v7 = .string x7_2 ∧ Aside0 (j1 kq a0 t402 x7_2 = some (r1, r2, r3)) ∧ Aside0 (kq ≤ k) ∧ Aside0 (wc.heap[gb401]? = some (.cells #[.int .i64 0, .int .i64 0] 69 (0, 0))) ∧ Aside0 (Below w.heap.size w wc))
 case first =>
  have H := HC3.out
  clear HC3
  have HC6 := Az_ H
  clear H
  go_upto_region 3 with (fail)
  go_cut [20] (fun v20 wc => ∃ (kq : Nat) (x20_5 : Bool), v20 = .bool x20_5 ∧ Aside0 (j0 kq a0 t402 t403 t404 t402 x20_5 = some (r1, r2, r3)) ∧ Aside0 (kq ≤ k) ∧ Aside0 (wc.heap[gb401]? = some (.cells #[.int .i64 0, .int .i64 0] 69 (0, 0))) ∧ Aside0 (Below w.heap.size w wc))
  case first =>
   have H := HC6.out
   clear HC6
   by_cases c7 : t404 = true
   ·subst c7
    rw [if_pos rfl] at H
    have H' := Az_ H
    clear H
    go_wp2
    go_meet
    case rel => exact ⟨_, (decide ((t403.size : Int) < (t402.size : Int))), qaz_, H', ⟨w81_⟩, ⟨w56_⟩, ⟨w40_⟩⟩
   ·replace c7 := Bool.eq_false_iff.mpr c7
    subst c7
    rw [if_neg nfz_] at H
    have H' := Az_ H
    clear H
    go_wp2
    go_meet
    case rel => exact ⟨_, (false), qaz_, H', ⟨w81_⟩, ⟨w56_⟩, ⟨w40_⟩⟩
  case rest =>
   clear HC6
   obtain ⟨kq, x20_5, rfl, HA, HJ5, BK401, HB⟩ := hcut
   cases kq with
   | zero => exact absurd HA.out (by simp [j0])
   | succ kj5 =>
    have H := HA.out
    clear HA
    simp only [j0] at H
    by_cases c8 : x20_5 = true
    ·subst c8
     rw [if_pos rfl] at H
     obtain ⟨ji9, hji9⟩ : ∃ j_ : Int, (wrap64 ((t402.size : Int) - (t403.size : Int))) = j_ := ⟨_, rfl⟩
     replace H : (if 0 ≤ (ji9) then (if (ji9) ≤ (t402.size : Int) then (if (t402.extract 0 ((ji9) : Int).toNat).size + t403.size ≤ 9223372036854775807 then (j1 kj5 a0 t402 ((t402.extract 0 ((ji9) : Int).toNat) ++ t403)) else (none)) else (none)) else (none)) = some (r1, r2, r3) := by first | (rw [hji9] at H; exact H) | (simp only [hji9] at H ⊢; exact H)
     have hji9w : (IntKind.i64.wrap ((t402.size : Int) - (t403.size : Int))) = ji9 := (i64_w _).trans hji9
     by_cases c10 : 0 ≤ (ji9)
     ·rw [if_pos c10] at H
      have c10b0 := eq_true c10
      have c10b1 := decide_eq_true c10
      clear c10
      by_cases c11 : (ji9) ≤ (t402.size : Int)
      ·rw [if_pos c11] at H
       have c11b0 := eq_true c11
       have c11b1 := decide_eq_true c11
       clear c11
       by_cases c12 : (t402.extract 0 ((ji9) : Int).toNat).size + t403.size ≤ 9223372036854775807
       ·rw [if_pos c12] at H
        have c12b0 := eq_true c12
        have c12b1 := decide_eq_true c12
        try have c12b2 : (9223372036854775807 < (t402.extract 0 ((ji9) : Int).toNat).size + t403.size) = False := eq_false (Nat.not_lt.2 c12)
        try have c12b3 : (9223372036854775807 < ji9.toNat + t403.size) = False := by (have h_ := c12; rw [ByteArray.size_extract, Nat.sub_zero, Nat.min_eq_left (by have g_ : ji9 ≤ (t402.size : Int) := of_decide_eq_true (by assumption); omega)] at h_; exact eq_false (Nat.not_lt.2 h_))
        have H' := Az_ H
        clear H
        go_wp2
        go_meet
        case rel => exact ⟨_, ((t402.extract 0 ((ji9) : Int).toNat) ++ t403), (by first | rfl | (simp; done) | (simp only [← hji9] <;> (first | rfl | simp)) | (simp [*]; done)), H', ⟨by have := HJ5.out; first | omega | exact Nat.le_refl _⟩, ⟨w56_⟩, ⟨w40_⟩⟩
       ·rw [if_neg c12] at H
        exact absurd H (by simp)
      ·rw [if_neg c11] at H
       exact absurd H (by simp)
     ·rw [if_neg c10] at H
      exact absurd H (by simp)
    ·replace c8 := Bool.eq_false_iff.mpr c8
     subst c8
     rw [if_neg nfz_] at H
     by_cases c13 : t404 = true
     ·subst c13
      rw [if_pos rfl] at H
      have H' := Az_ H
      clear H
      go_wp2
      go_meet
      case rel => exact ⟨_, (t403), qaz_, H', ⟨by have := HJ5.out; first | omega | exact Nat.le_refl _⟩, ⟨w56_⟩, ⟨w40_⟩⟩
     ·replace c13 := Bool.eq_false_iff.mpr c13
      subst c13
      rw [if_neg nfz_] at H
      have H' := Az_ H
      clear H
      go_wp2
      go_meet
      case rel => exact ⟨_, (t402), qaz_, H', ⟨by have := HJ5.out; first | omega | exact Nat.le_refl _⟩, ⟨w56_⟩, ⟨w40_⟩⟩
 case rest =>
  clear HC3
  obtain ⟨kq, x7_2, rfl, HA, HJ2, BK401, HB⟩ := hcut
  cases kq with
  | zero => exact absurd HA.out (by simp [j1])
  | succ kj2 =>
   have H := HA.out
   clear HA
   simp only [j1] at H
   replace H := bqz_ H; obtain ⟨⟨t405, t406⟩, A14, H⟩ := H
   replace H := bqz_ H; obtain ⟨⟨t407, t408⟩, A15, H⟩ := H
   replace H : (if t406.isNone = true then (if t408.isNone = true then ((impl_isRange.f t405 t407).bind fun t412 => (if t412 = true then ((impl_shortRange.f kj2 t405 t407).bind fun t413 => (if t413.toList = a0.toList then (some (t405, t407, true)) else (some (0, 0, false)))) else (some (0, 0, false)))) else (some (0, 0, false))) else (some (0, 0, false))) = some (r1, r2, r3) := H
   rcases t406 with _ | q410
   ·have H1 : (if t408.isNone = true then ((impl_isRange.f t405 t407).bind fun t412 => (if t412 = true then ((impl_shortRange.f kj2 t405 t407).bind fun t413 => (if t413.toList = a0.toList then (some (t405, t407, true)) else (some (0, 0, false)))) else (some (0, 0, false)))) else (some (0, 0, false))) = some (r1, r2, r3) := by rw [if_pos (show (none : Option Int).isNone = true by rfl)] at H; exact H
    clear H
    have H := H1
    clear H1
    try simp only [errW_none, errW_some]
    rcases t408 with _ | q411
    ·have H1 : ((impl_isRange.f t405 t407).bind fun t412 => (if t412 = true then ((impl_shortRange.f kj2 t405 t407).bind fun t413 => (if t413.toList = a0.toList then (some (t405, t407, true)) else (some (0, 0, false)))) else (some (0, 0, false)))) = some (r1, r2, r3) := by rw [if_pos (show (none : Option Int).isNone = true by rfl)] at H; exact H
     clear H
     have H := H1
     clear H1
     try simp only [errW_none, errW_some]
     replace H := bqz_ H; obtain ⟨t412, A16, H⟩ := H
     replace H : (if t412 = true then ((impl_shortRange.f kj2 t405 t407).bind fun t413 => (if t413.toList = a0.toList then (some (t405, t407, true)) else (some (0, 0, false)))) else (some (0, 0, false))) = some (r1, r2, r3) := H
     by_cases c17 : t412 = true
     ·subst c17
      rw [if_pos rfl] at H
      replace H := bqz_ H; obtain ⟨t413, A18, H⟩ := H
      replace H : (if t413.toList = a0.toList then (some (t405, t407, true)) else (some (0, 0, false))) = some (r1, r2, r3) := H
      by_cases c19 : t413.toList = a0.toList
      ·rw [if_pos c19] at H
       have c19b0 : (t413.toList == a0.toList) = true := beq_iff_eq.mpr c19
       have c19b1 : (t413.toList != a0.toList) = false := bne_eq_false_iff_eq.mpr c19
       clear c19
       simp only [Option.some.injEq, Prod.mk.injEq] at H
       obtain ⟨rfl, rfl, rfl⟩ := H
       go_wp2_with (first | ((with_reducible refine gate_callee (f := 111) rfl ?_); refine goesL_ (some 43) rfl rfl Tryz.func111 (w110_) rfl #[.string t402] rfl maz_ ?_; (with_reducible refine (atoi.calls t402 t405 none _ (libW_below HTAB.out (w40_)) A14.out).mono ?_); rintro e w20 ⟨ev_, rfl, hev_, hb⟩; obtain rfl : ev_ = Value.nilIface := hev_; refine ⟨_, rfl, ?_⟩; have n1_ := Az_ (btz_ (w40_) hb); clear HB; replace BK401 := Az_ (ukbz_ BK401.out hb); have HB := n1_; clear n1_; (try clear hb)) | ((with_reducible refine gate_callee (f := 111) rfl ?_); refine goesL_ (some 48) rfl rfl Tryz.func111 (w110_) rfl #[.string x7_2] rfl maz_ ?_; (with_reducible refine (atoi.calls x7_2 t407 none _ (libW_below HTAB.out (w40_)) A15.out).mono ?_); rintro e w21 ⟨ev_, rfl, hev_, hb⟩; obtain rfl : ev_ = Value.nilIface := hev_; refine ⟨_, rfl, ?_⟩; have n1_ := Az_ (btz_ (w40_) hb); clear HB; replace BK401 := Az_ (ukbz_ BK401.out hb); have HB := n1_; clear n1_; (try clear hb)) | ((with_reducible refine gate_dst (N := 12) rfl ?_); (try (refine gate_guard (by rfl) ?_; dsimp only)); refine box_event ?hg (N := 12) ?hd (cs := #[.int .i64 0, .int .i64 0]) (t := 69) ?hr ?_; (case hd => rfl); (case hg => rfl); (case hr => first | (go_simp; done) | (go_simp; rfl)); intro gb409 hg w22 hbox hb; have n1_ := Az_ (btz_ (w40_) hb); have n2_ := Az_ (hbox); have n3_ := Az_ ((by rw [hg]; exact (below_size (w40_)) : w.heap.size ≤ gb409)); have n4_ := Az_ ((by rw [hg]; exact (below_size (w40_)) : w.heap.size ≤ gb409)); have n5_ := Az_ ((by rw [hg]; exact Nat.ne_of_lt (uklz_ BK401.out) : gb401 ≠ gb409)); have n6_ := Az_ ((by rw [hg]; exact Nat.ne_of_gt (uklz_ BK401.out) : gb409 ≠ gb401)); clear HB; replace BK401 := Az_ (ukbz_ BK401.out hb); have HB := n1_; have BK409 := n2_; have GW409 := n3_; have GE409 := n4_; have NB401_409 := n5_; have NB409_401 := n6_; clear n1_ n2_ n3_ n4_ n5_ n6_; clear hb hbox hg; have hnb23 := NB409_401.out; have hnc23 := NB401_409.out; have hcz24_0 : w22.cell? ⟨gb409, 0, none⟩ = some (.int .i64 0) := (blk_cell BK409.out 0).trans rfl; have hcz24_1 : w22.cell? ⟨gb409, 1, none⟩ = some (.int .i64 0) := (blk_cell BK409.out 1).trans rfl; have hfz24_0 := blk_frozen BK409.out 0; have hfz24_1 := blk_frozen BK409.out 1) | (go_at_call 123; (with_reducible refine (impl_isRange.calls t405 t407 true _ A16.out).mono ?_); rintro e w25 ⟨rfl, hb⟩; replace BK401 := Az_ (kbz_ (g := gb401) (o := .cells #[.int .i64 0, .int .i64 0] 69 (0, 0)) (w20_) hb); replace BK409 := Az_ (kbz_ (g := gb409) (o := .cells #[.int .i64 t405, .int .i64 t407] 69 (0, 0)) (w14_) hb); replace HB := Az_ (btz_ (w40_) hb); (try clear hb); have hcz26_0 : w25.cell? ⟨gb409, 0, none⟩ = some (.int .i64 t405) := (blk_cell BK409.out 0).trans rfl; have hcz26_1 : w25.cell? ⟨gb409, 1, none⟩ = some (.int .i64 t407) := (blk_cell BK409.out 1).trans rfl; have hfz26_0 := blk_frozen BK409.out 0; have hfz26_1 := blk_frozen BK409.out 1) | (go_at_call 176; (with_reducible refine (impl_shortRange.calls kj2 t405 t407 t413 _ (libW_below HTAB.out (w40_)) A18.out).mono ?_); rintro e w27 ⟨rfl, hb⟩; have n2_ := Az_ (btz_ (w40_) hb); clear HB; replace BK401 := Az_ (ukbz_ BK401.out hb); replace BK409 := Az_ (ukbz_ BK409.out hb); have HB := n2_; clear n2_; (try clear hb); have hcz28_0 : w27.cell? ⟨gb409, 0, none⟩ = some (.int .i64 t405) := (blk_cell BK409.out 0).trans rfl; have hcz28_1 : w27.cell? ⟨gb409, 1, none⟩ = some (.int .i64 t407) := (blk_cell BK409.out 1).trans rfl; have hfz28_0 := blk_frozen BK409.out 0; have hfz28_1 := blk_frozen BK409.out 1; have hcz29_0 : w27.cell? ⟨gb401, 0, none⟩ = some (.int .i64 0) := (blk_cell BK401.out 0).trans rfl; have hcz29_1 : w27.cell? ⟨gb401, 1, none⟩ = some (.int .i64 0) := (blk_cell BK401.out 1).trans rfl; have hfz29_0 := blk_frozen BK401.out 0; have hfz29_1 := blk_frozen BK401.out 1))
       refine bodyPost_ret (results_ct rfl _ _ gb401 69 #[.int .i64 t405, .int .i64 t407] (0, 0) _ rfl (by (with_reducible repeat (first | refine knz_ ?_ _ | refine kdz_ ?_ | refine kaz_ ?_ _)); refine blk_put (cs := #[.int .i64 t405, .int .i64 0]) ?_ 1 _ rfl; (with_reducible repeat (first | refine knz_ ?_ _ | refine kdz_ ?_ | refine kaz_ ?_ _)); refine blk_put (cs := #[.int .i64 0, .int .i64 0]) ?_ 0 _ rfl; (with_reducible repeat (first | refine knz_ ?_ _ | refine kdz_ ?_ | refine kaz_ ?_ _)); exact BK401.out) Tryz.underlying69 rfl (w110_)) rfl ?_
       exact ⟨w61_, w40_⟩
      ·rw [if_neg c19] at H
       have c19b0 : (t413.toList == a0.toList) = false := beq_eq_false_iff_ne.mpr c19
       have c19b1 : (t413.toList != a0.toList) = true := bne_iff_ne.mpr c19
       simp only [Option.some.injEq, Prod.mk.injEq] at H
       obtain ⟨rfl, rfl, rfl⟩ := H
       go_wp2_with (first | ((with_reducible refine gate_callee (f := 111) rfl ?_); refine goesL_ (some 43) rfl rfl Tryz.func111 (w110_) rfl #[.string t402] rfl maz_ ?_; (with_reducible refine (atoi.calls t402 t405 none _ (libW_below HTAB.out (w40_)) A14.out).mono ?_); rintro e w30 ⟨ev_, rfl, hev_, hb⟩; obtain rfl : ev_ = Value.nilIface := hev_; refine ⟨_, rfl, ?_⟩; have n1_ := Az_ (btz_ (w40_) hb); clear HB; replace BK401 := Az_ (ukbz_ BK401.out hb); have HB := n1_; clear n1_; (try clear hb)) | ((with_reducible refine gate_callee (f := 111) rfl ?_); refine goesL_ (some 48) rfl rfl Tryz.func111 (w110_) rfl #[.string x7_2] rfl maz_ ?_; (with_reducible refine (atoi.calls x7_2 t407 none _ (libW_below HTAB.out (w40_)) A15.out).mono ?_); rintro e w31 ⟨ev_, rfl, hev_, hb⟩; obtain rfl : ev_ = Value.nilIface := hev_; refine ⟨_, rfl, ?_⟩; have n1_ := Az_ (btz_ (w40_) hb); clear HB; replace BK401 := Az_ (ukbz_ BK401.out hb); have HB := n1_; clear n1_; (try clear hb)) | ((with_reducible refine gate_dst (N := 12) rfl ?_); (try (refine gate_guard (by rfl) ?_; dsimp only)); refine box_event ?hg (N := 12) ?hd (cs := #[.int .i64 0, .int .i64 0]) (t := 69) ?hr ?_; (case hd => rfl); (case hg => rfl); (case hr => first | (go_simp; done) | (go_simp; rfl)); intro gb409 hg w32 hbox hb; have n1_ := Az_ (btz_ (w40_) hb); have n2_ := Az_ (hbox); have n3_ := Az_ ((by rw [hg]; exact (below_size (w40_)) : w.heap.size ≤ gb409)); have n4_ := Az_ ((by rw [hg]; exact (below_size (w40_)) : w.heap.size ≤ gb409)); have n5_ := Az_ ((by rw [hg]; exact Nat.ne_of_lt (uklz_ BK401.out) : gb401 ≠ gb409)); have n6_ := Az_ ((by rw [hg]; exact Nat.ne_of_gt (uklz_ BK401.out) : gb409 ≠ gb401)); clear HB; replace BK401 := Az_ (ukbz_ BK401.out hb); have HB := n1_; have BK409 := n2_; have GW409 := n3_; have GE409 := n4_; have NB401_409 := n5_; have NB409_401 := n6_; clear n1_ n2_ n3_ n4_ n5_ n6_; clear hb hbox hg; have hnb33 := NB409_401.out; have hnc33 := NB401_409.out; have hcz34_0 : w32.cell? ⟨gb409, 0, none⟩ = some (.int .i64 0) := (blk_cell BK409.out 0).trans rfl; have hcz34_1 : w32.cell? ⟨gb409, 1, none⟩ = some (.int .i64 0) := (blk_cell BK409.out 1).trans rfl; have hfz34_0 := blk_frozen BK409.out 0; have hfz34_1 := blk_frozen BK409.out 1) | (go_at_call 123; (with_reducible refine (impl_isRange.calls t405 t407 true _ A16.out).mono ?_); rintro e w35 ⟨rfl, hb⟩; replace BK401 := Az_ (kbz_ (g := gb401) (o := .cells #[.int .i64 0, .int .i64 0] 69 (0, 0)) (w20_) hb); replace BK409 := Az_ (kbz_ (g := gb409) (o := .cells #[.int .i64 t405, .int .i64 t407] 69 (0, 0)) (w14_) hb); replace HB := Az_ (btz_ (w40_) hb); (try clear hb); have hcz36_0 : w35.cell? ⟨gb409, 0, none⟩ = some (.int .i64 t405) := (blk_cell BK409.out 0).trans rfl; have hcz36_1 : w35.cell? ⟨gb409, 1, none⟩ = some (.int .i64 t407) := (blk_cell BK409.out 1).trans rfl; have hfz36_0 := blk_frozen BK409.out 0; have hfz36_1 := blk_frozen BK409.out 1) | (go_at_call 176; (with_reducible refine (impl_shortRange.calls kj2 t405 t407 t413 _ (libW_below HTAB.out (w40_)) A18.out).mono ?_); rintro e w37 ⟨rfl, hb⟩; have n2_ := Az_ (btz_ (w40_) hb); clear HB; replace BK401 := Az_ (ukbz_ BK401.out hb); replace BK409 := Az_ (ukbz_ BK409.out hb); have HB := n2_; clear n2_; (try clear hb); have hcz38_0 : w37.cell? ⟨gb401, 0, none⟩ = some (.int .i64 0) := (blk_cell BK401.out 0).trans rfl; have hcz38_1 : w37.cell? ⟨gb401, 1, none⟩ = some (.int .i64 0) := (blk_cell BK401.out 1).trans rfl; have hfz38_0 := blk_frozen BK401.out 0; have hfz38_1 := blk_frozen BK401.out 1))
       refine bodyPost_ret (results_ct rfl _ _ gb401 69 #[.int .i64 0, .int .i64 0] (0, 0) _ rfl (w18_) Tryz.underlying69 rfl (w110_)) rfl ?_
       exact ⟨w61_, w40_⟩
     ·replace c17 := Bool.eq_false_iff.mpr c17
      subst c17
      rw [if_neg nfz_] at H
      simp only [Option.some.injEq, Prod.mk.injEq] at H
      obtain ⟨rfl, rfl, rfl⟩ := H
      go_wp2_with (first | ((with_reducible refine gate_callee (f := 111) rfl ?_); refine goesL_ (some 43) rfl rfl Tryz.func111 (w110_) rfl #[.string t402] rfl maz_ ?_; (with_reducible refine (atoi.calls t402 t405 none _ (libW_below HTAB.out (w40_)) A14.out).mono ?_); rintro e w39 ⟨ev_, rfl, hev_, hb⟩; obtain rfl : ev_ = Value.nilIface := hev_; refine ⟨_, rfl, ?_⟩; have n1_ := Az_ (btz_ (w40_) hb); clear HB; replace BK401 := Az_ (ukbz_ BK401.out hb); have HB := n1_; clear n1_; (try clear hb)) | ((with_reducible refine gate_callee (f := 111) rfl ?_); refine goesL_ (some 48) rfl rfl Tryz.func111 (w110_) rfl #[.string x7_2] rfl maz_ ?_; (with_reducible refine (atoi.calls x7_2 t407 none _ (libW_below HTAB.out (w40_)) A15.out).mono ?_); rintro e w40 ⟨ev_, rfl, hev_, hb⟩; obtain rfl : ev_ = Value.nilIface := hev_; refine ⟨_, rfl, ?_⟩; have n1_ := Az_ (btz_ (w40_) hb); clear HB; replace BK401 := Az_ (ukbz_ BK401.out hb); have HB := n1_; clear n1_; (try clear hb)) | ((with_reducible refine gate_dst (N := 12) rfl ?_); (try (refine gate_guard (by rfl) ?_; dsimp only)); refine box_event ?hg (N := 12) ?hd (cs := #[.int .i64 0, .int .i64 0]) (t := 69) ?hr ?_; (case hd => rfl); (case hg => rfl); (case hr => first | (go_simp; done) | (go_simp; rfl)); intro gb409 hg w41 hbox hb; have n1_ := Az_ (btz_ (w40_) hb); have n2_ := Az_ (hbox); have n3_ := Az_ ((by rw [hg]; exact (below_size (w40_)) : w.heap.size ≤ gb409)); have n4_ := Az_ ((by rw [hg]; exact (below_size (w40_)) : w.heap.size ≤ gb409)); have n5_ := Az_ ((by rw [hg]; exact Nat.ne_of_lt (uklz_ BK401.out) : gb401 ≠ gb409)); have n6_ := Az_ ((by rw [hg]; exact Nat.ne_of_gt (uklz_ BK401.out) : gb409 ≠ gb401)); clear HB; replace BK401 := Az_ (ukbz_ BK401.out hb); have HB := n1_; have BK409 := n2_; have GW409 := n3_; have GE409 := n4_; have NB401_409 := n5_; have NB409_401 := n6_; clear n1_ n2_ n3_ n4_ n5_ n6_; clear hb hbox hg; have hnb42 := NB409_401.out; have hnc42 := NB401_409.out; have hcz43_0 : w41.cell? ⟨gb409, 0, none⟩ = some (.int .i64 0) := (blk_cell BK409.out 0).trans rfl; have hcz43_1 : w41.cell? ⟨gb409, 1, none⟩ = some (.int .i64 0) := (blk_cell BK409.out 1).trans rfl; have hfz43_0 := blk_frozen BK409.out 0; have hfz43_1 := blk_frozen BK409.out 1) | (go_at_call 123; (with_reducible refine (impl_isRange.calls t405 t407 false _ A16.out).mono ?_); rintro e w44 ⟨rfl, hb⟩; replace BK401 := Az_ (kbz_ (g := gb401) (o := .cells #[.int .i64 0, .int .i64 0] 69 (0, 0)) (w20_) hb); replace BK409 := Az_ (kbz_ (g := gb409) (o := .cells #[.int .i64 t405, .int .i64 t407] 69 (0, 0)) (w14_) hb); replace HB := Az_ (btz_ (w40_) hb); (try clear hb); have hcz45_0 : w44.cell? ⟨gb401, 0, none⟩ = some (.int .i64 0) := (blk_cell BK401.out 0).trans rfl; have hcz45_1 : w44.cell? ⟨gb401, 1, none⟩ = some (.int .i64 0) := (blk_cell BK401.out 1).trans rfl; have hfz45_0 := blk_frozen BK401.out 0; have hfz45_1 := blk_frozen BK401.out 1))
      refine bodyPost_ret (results_ct rfl _ _ gb401 69 #[.int .i64 0, .int .i64 0] (0, 0) _ rfl (w18_) Tryz.underlying69 rfl (w110_)) rfl ?_
      exact ⟨w61_, w40_⟩
    ·have H1 : (some (0, 0, false)) = some (r1, r2, r3) := by rw [if_neg (show ¬ (some q411).isNone = true by simp)] at H; exact H
     clear H
     have H := H1
     clear H1
     try simp only [errW_none, errW_some]
     simp only [Option.some.injEq, Prod.mk.injEq] at H
     obtain ⟨rfl, rfl, rfl⟩ := H
     go_wp2_with (first | ((with_reducible refine gate_callee (f := 111) rfl ?_); refine goesL_ (some 43) rfl rfl Tryz.func111 (w110_) rfl #[.string t402] rfl maz_ ?_; (with_reducible refine (atoi.calls t402 t405 none _ (libW_below HTAB.out (w40_)) A14.out).mono ?_); rintro e w46 ⟨ev_, rfl, hev_, hb⟩; obtain rfl : ev_ = Value.nilIface := hev_; refine ⟨_, rfl, ?_⟩; have n1_ := Az_ (btz_ (w40_) hb); clear HB; replace BK401 := Az_ (ukbz_ BK401.out hb); have HB := n1_; clear n1_; (try clear hb)) | ((with_reducible refine gate_callee (f := 111) rfl ?_); refine goesL_ (some 48) rfl rfl Tryz.func111 (w110_) rfl #[.string x7_2] rfl maz_ ?_; (with_reducible refine (atoi.calls x7_2 t407 (some q411) _ (libW_below HTAB.out (w40_)) A15.out).mono ?_); rintro e w47 ⟨ev_, rfl, hev_, hb⟩; obtain ⟨N_, rfl⟩ := hev_; refine ⟨_, rfl, ?_⟩; have n1_ := Az_ (btz_ (w40_) hb); clear HB; replace BK401 := Az_ (ukbz_ BK401.out hb); have HB := n1_; clear n1_; (try clear hb)) | ((with_reducible refine gate_dst (N := 12) rfl ?_); (try (refine gate_guard (by rfl) ?_; dsimp only)); refine box_event ?hg (N := 12) ?hd (cs := #[.int .i64 0, .int .i64 0]) (t := 69) ?hr ?_; (case hd => rfl); (case hg => rfl); (case hr => first | (go_simp; done) | (go_simp; rfl)); intro gb409 hg w48 hbox hb; have n1_ := Az_ (btz_ (w40_) hb); have n2_ := Az_ (hbox); have n3_ := Az_ ((by rw [hg]; exact (below_size (w40_)) : w.heap.size ≤ gb409)); have n4_ := Az_ ((by rw [hg]; exact (below_size (w40_)) : w.heap.size ≤ gb409)); have n5_ := Az_ ((by rw [hg]; exact Nat.ne_of_lt (uklz_ BK401.out) : gb401 ≠ gb409)); have n6_ := Az_ ((by rw [hg]; exact Nat.ne_of_gt (uklz_ BK401.out) : gb409 ≠ gb401)); clear HB; replace BK401 := Az_ (ukbz_ BK401.out hb); have HB := n1_; have BK409 := n2_; have GW409 := n3_; have GE409 := n4_; have NB401_409 := n5_; have NB409_401 := n6_; clear n1_ n2_ n3_ n4_ n5_ n6_; clear hb hbox hg; have hnb49 := NB409_401.out; have hnc49 := NB401_409.out; have hcz50_0 : w48.cell? ⟨gb409, 0, none⟩ = some (.int .i64 0) := (blk_cell BK409.out 0).trans rfl; have hcz50_1 : w48.cell? ⟨gb409, 1, none⟩ = some (.int .i64 0) := (blk_cell BK409.out 1).trans rfl; have hfz50_0 := blk_frozen BK409.out 0; have hfz50_1 := blk_frozen BK409.out 1; have hcz51_0 : w48.cell? ⟨gb401, 0, none⟩ = some (.int .i64 0) := (blk_cell BK401.out 0).trans rfl; have hcz51_1 : w48.cell? ⟨gb401, 1, none⟩ = some (.int .i64 0) := (blk_cell BK401.out 1).trans rfl; have hfz51_0 := blk_frozen BK401.out 0; have hfz51_1 := blk_frozen BK401.out 1))
     refine bodyPost_ret (results_ct rfl _ _ gb401 69 #[.int .i64 0, .int .i64 0] (0, 0) _ rfl (w1_) Tryz.underlying69 rfl (w110_)) rfl ?_
     exact ⟨w61_, w40_⟩
   ·have H1 : (some (0, 0, false)) = some (r1, r2, r3) := by rw [if_neg (show ¬ (some q410).isNone = true by simp)] at H; exact H
    clear H
    have H := H1
    clear H1
    try simp only [errW_none, errW_some]
    simp only [Option.some.injEq, Prod.mk.injEq] at H
    obtain ⟨rfl, rfl, rfl⟩ := H
    go_wp2_with (first | ((with_reducible refine gate_callee (f := 111) rfl ?_); refine goesL_ (some 43) rfl rfl Tryz.func111 (w110_) rfl #[.string t402] rfl maz_ ?_; (with_reducible refine (atoi.calls t402 t405 (some q410) _ (libW_below HTAB.out (w40_)) A14.out).mono ?_); rintro e w52 ⟨ev_, rfl, hev_, hb⟩; obtain ⟨N_, rfl⟩ := hev_; refine ⟨_, rfl, ?_⟩; have n1_ := Az_ (btz_ (w40_) hb); clear HB; replace BK401 := Az_ (ukbz_ BK401.out hb); have HB := n1_; clear n1_; (try clear hb)) | ((with_reducible refine gate_callee (f := 111) rfl ?_); refine goesL_ (some 48) rfl rfl Tryz.func111 (w110_) rfl #[.string x7_2] rfl maz_ ?_; (with_reducible refine (atoi.calls x7_2 t407 t408 _ (libW_below HTAB.out (w40_)) A15.out).mono ?_); rintro e w53 ⟨ev_, rfl, hev_, hb⟩; refine ⟨_, rfl, ?_⟩; have n1_ := Az_ (btz_ (w40_) hb); clear HB; replace BK401 := Az_ (ukbz_ BK401.out hb); have HB := n1_; clear n1_; (try clear hb)) | ((with_reducible refine gate_dst (N := 12) rfl ?_); (try (refine gate_guard (by rfl) ?_; dsimp only)); refine box_event ?hg (N := 12) ?hd (cs := #[.int .i64 0, .int .i64 0]) (t := 69) ?hr ?_; (case hd => rfl); (case hg => rfl); (case hr => first | (go_simp; done) | (go_simp; rfl)); intro gb409 hg w54 hbox hb; have n1_ := Az_ (btz_ (w40_) hb); have n2_ := Az_ (hbox); have n3_ := Az_ ((by rw [hg]; exact (below_size (w40_)) : w.heap.size ≤ gb409)); have n4_ := Az_ ((by rw [hg]; exact (below_size (w40_)) : w.heap.size ≤ gb409)); have n5_ := Az_ ((by rw [hg]; exact Nat.ne_of_lt (uklz_ BK401.out) : gb401 ≠ gb409)); have n6_ := Az_ ((by rw [hg]; exact Nat.ne_of_gt (uklz_ BK401.out) : gb409 ≠ gb401)); clear HB; replace BK401 := Az_ (ukbz_ BK401.out hb); have HB := n1_; have BK409 := n2_; have GW409 := n3_; have GE409 := n4_; have NB401_409 := n5_; have NB409_401 := n6_; clear n1_ n2_ n3_ n4_ n5_ n6_; clear hb hbox hg; have hnb55 := NB409_401.out; have hnc55 := NB401_409.out; have hcz56_0 : w54.cell? ⟨gb409, 0, none⟩ = some (.int .i64 0) := (blk_cell BK409.out 0).trans rfl; have hcz56_1 : w54.cell? ⟨gb409, 1, none⟩ = some (.int .i64 0) := (blk_cell BK409.out 1).trans rfl; have hfz56_0 := blk_frozen BK409.out 0; have hfz56_1 := blk_frozen BK409.out 1; have hcz57_0 : w54.cell? ⟨gb401, 0, none⟩ = some (.int .i64 0) := (blk_cell BK401.out 0).trans rfl; have hcz57_1 : w54.cell? ⟨gb401, 1, none⟩ = some (.int .i64 0) := (blk_cell BK401.out 1).trans rfl; have hfz57_0 := blk_frozen BK401.out 0; have hfz57_1 := blk_frozen BK401.out 1))
    refine bodyPost_ret (results_ct rfl _ _ gb401 69 #[.int .i64 0, .int .i64 0] (0, 0) _ rfl (w1_) Tryz.underlying69 rfl (w110_)) rfl ?_
    exact ⟨w61_, w40_⟩

def impl_ParseRanges.l0 : Nat → List (S69) → List ByteArray → Int → Int → Option ((List (S69)) × Bool)
 | 0, _, _, _, _ => none
 | k + 1, x4, x14, x15, x16 => if x16 < x15 then (if 0 ≤ x16 then (if x16 < (x14.length : Int) then ((impl_longRange.f k (rdOf ByteArray.empty x14 x16)).bind fun bt421 => (if bt421.2.2 = true then (if x4.length < 8796093022208 then (impl_ParseRanges.l0 k (x4 ++ [(⟨bt421.1, bt421.2.1⟩ : S69)]) x14 x15 (wrap64 (x16 + 1))) else (none)) else (some (([] : List (S69)), false)))) else (none)) else (none)) else ((impl_AreRanges.f k x4).bind fun t428 => (if t428 = true then (some (x4, true)) else (some (([] : List (S69)), false))))
def impl_ParseRanges.f (k : Nat) (a0 : ByteArray) : Option ((List (S69)) × Bool) := (some (([] : List (S69)) : List (S69))).bind fun y414 => (if a0.toList = ([] : List UInt8) then (some (y414, true)) else ((splitn.f a0 (⟨#[44]⟩ : ByteArray) 21).bind fun t417 => (impl_ParseRanges.l0 k y414 t417 (t417.length : Int) 0)))
set_option maxHeartbeats 8000000 in
set_option maxRecDepth 100000 in
theorem impl_ParseRanges.calls (k : Nat) (a0 : ByteArray) (r1 : List (S69)) (r2 : Bool) (w : World) (hT : LibW w) (h : impl_ParseRanges.f k a0 = some (r1, r2)) :
  Calls Tryz.prog 58 #[.string a0] w fun e w' => ∃ v0_ : Value, e = .returned (.tuple #[v0_, .bool r2]) ∧ Kd.R k69 69 w' w.heap.size (fun _ => True) v0_ r1 ∧ Below w.heap.size w w' := by
 have HTAB := Az_ hT
 clear hT
 have hu69 := Tryz.underlying69
 have HB := Az_ (Below.refl w.heap.size w)
 have H : ((some (([] : List (S69)) : List (S69))).bind fun y414 => (if a0.toList = ([] : List UInt8) then (some (y414, true)) else ((splitn.f a0 (⟨#[44]⟩ : ByteArray) 21).bind fun t417 => (impl_ParseRanges.l0 k y414 t417 (t417.length : Int) 0)))) = some (r1, r2) := h
 clear h
 obtain ⟨y414, hy414⟩ : ∃ y_ : List (S69), y_ = (([] : List (S69))) := ⟨_, rfl⟩
 replace H : (if a0.toList = ([] : List UInt8) then (some (y414, true)) else ((splitn.f a0 (⟨#[44]⟩ : ByteArray) 21).bind fun t417 => (impl_ParseRanges.l0 k y414 t417 (t417.length : Int) 0))) = some (r1, r2) := by first | (rw [hy414]; with_reducible exact H) | (have H2_ := (Option.bind_some _ _).symm.trans H; rw [hy414]; with_reducible exact H2_) | (have H2_ := (Option.bind_some _ _).symm.trans H; with_reducible exact H2_) | with_reducible exact H | (rw [hy414]; exact H) | exact H
 have Ny414 := Az_ hy414
 clear hy414
 by_cases c2 : a0.toList = ([] : List UInt8)
 ·rw [if_pos c2] at H
  have c2b0 : (a0.toList == ([] : List UInt8)) = true := beq_iff_eq.mpr c2
  have c2b1 : (a0.toList != ([] : List UInt8)) = false := bne_eq_false_iff_eq.mpr c2
  clear c2
  simp only [Option.some.injEq, Prod.mk.injEq] at H
  obtain ⟨rfl, rfl⟩ := H
  go_enter Tryz.func58, Tryz.ntmps58
  go_wp2_with (first | ((with_reducible refine gate_dst (N := 9) rfl ?_); refine Kd.R_lit k69 _ 69 ?hg (N := 9) ?hd (xs := ([] : List (S69))) (inner := []) (ok := fun _ => True) (okp := fun _ => True) ?hr ?hp (fun _ hk => hk) trivial (Below.refl _ _) (Nat.le_refl _) (by simp) ?_; (case hd => rfl); (case hg => rfl); (case hr => first | (go_simp; done) | (go_simp; rfl)); (case hp => exact (Reps.none _ _)); intro v415 w3 ho4 hb hg_ hnew_; clear hg_ hnew_; (first | rw [← Ny414.out] at ho4 | (simp only [Int.reduceToNat] at ho4; rw [← Ny414.out] at ho4)); have HO416 := Az_ (Kd.R_lower ho4 (below_size (ubz_ HB.out))); replace HB := Az_ (btz_ (ubz_ HB.out) hb); clear hb ho4))
  go_ret2
  exact ⟨_, w61_, by (with_reducible repeat (first | apply raz_ | apply rnz_ | apply rdz_)); exact HO416.out, w109_⟩
 ·rw [if_neg c2] at H
  have c2b0 : (a0.toList == ([] : List UInt8)) = false := beq_eq_false_iff_ne.mpr c2
  have c2b1 : (a0.toList != ([] : List UInt8)) = true := bne_iff_ne.mpr c2
  replace H := bqz_ H; obtain ⟨t417, A5, H⟩ := H
  replace H : (impl_ParseRanges.l0 k y414 t417 (t417.length : Int) 0) = some (r1, r2) := H
  have H' := Az_ H
  clear H
  go_enter Tryz.func58, Tryz.ntmps58
  go_wp2_with (first | ((with_reducible refine gate_dst (N := 9) rfl ?_); refine Kd.R_lit k69 _ 69 ?hg (N := 9) ?hd (xs := ([] : List (S69))) (inner := []) (ok := fun _ => True) (okp := fun _ => True) ?hr ?hp (fun _ hk => hk) trivial (Below.refl _ _) (Nat.le_refl _) (by simp) ?_; (case hd => rfl); (case hg => rfl); (case hr => first | (go_simp; done) | (go_simp; rfl)); (case hp => exact (Reps.none _ _)); intro v415 w6 ho7 hb hg_ hnew_; clear hg_ hnew_; (first | rw [← Ny414.out] at ho7 | (simp only [Int.reduceToNat] at ho7; rw [← Ny414.out] at ho7)); have HO416 := Az_ (Kd.R_lower ho7 (below_size (ubz_ HB.out))); replace HB := Az_ (btz_ (ubz_ HB.out) hb); clear hb ho7) | ((with_reducible refine gate_callee (f := 141) rfl ?_); refine goesL_ (some 14) rfl rfl Tryz.func141 (w110_) rfl #[.string a0, .string (⟨#[44]⟩ : ByteArray), .int .i64 21] rfl maz_ ?_; (with_reducible refine (splitn.calls a0 (⟨#[44]⟩ : ByteArray) 21 t417 _ (libW_below HTAB.out (ubz_ HB.out)) A5.out).mono ?_); rintro e w8 ⟨v418, rfl, ho0, hb⟩; refine ⟨_, rfl, ?_⟩; replace HO416 := Az_ (Kd.R_below (by exact urz_ HO416.out) hb); have HO419 := Az_ (Kd.R_lower ho0 (below_size (ubz_ HB.out))); replace HB := Az_ (btz_ (ubz_ HB.out) hb); (try clear hb); (try clear ho0); obtain ⟨Ao9, co9, eo9⟩ := Kd.R_slice HO419.out; subst eo9))
  go_loopg [4, 16] k (fun kq v4 v16 w' => ∃ (x4_1 : List (S69)) (x16_1 : Int), v16 = .int .i64 x16_1 ∧ Aside0 (impl_ParseRanges.l0 kq x4_1 t417 (t417.length : Int) x16_1 = some (r1, r2)) ∧ Aside0 (kq ≤ k) ∧ Aside0 (Kd.R k69 69 w' w.heap.size (fun _ => True) v4 x4_1) ∧ Aside0 (Kd.R Kd.string 9 w' w.heap.size (fun _ => True) (.slice Ao9 t417.length co9) t417) ∧ Aside0 (Below w.heap.size w w'))
  case atStart => exact ⟨(y414), (0), qaz_, H', ⟨Nat.le_refl _⟩, ⟨by (with_reducible repeat (first | apply raz_ | apply rnz_ | apply rdz_)); exact HO416.out⟩, ⟨by (with_reducible repeat (first | apply raz_ | apply rnz_ | apply rdz_)); exact HO419.out⟩, ⟨w109_⟩⟩
  case round =>
   clear H'
   clear c2 c2b0 c2b1
   obtain ⟨x4_1, x16_1, rfl, HA, HK1, HO_4, HO_14, HB⟩ := hrel
   cases gk with
   | zero => exact absurd HA.out (by simp [impl_ParseRanges.l0])
   | succ k1 =>
    have H := HA.out
    clear HA
    simp only [impl_ParseRanges.l0] at H
    by_cases c10 : x16_1 < (t417.length : Int)
    ·rw [if_pos c10] at H
     have c10b0 := decide_eq_true c10
     clear c10
     by_cases c11 : 0 ≤ x16_1
     ·rw [if_pos c11] at H
      have c11b0 := decide_eq_true c11
      clear c11
      by_cases c12 : x16_1 < (t417.length : Int)
      ·rw [if_pos c12] at H
       have c12b0 := decide_eq_true c12
       clear c12
       replace H := bqz_ H; obtain ⟨⟨t421, t422, t423⟩, A13, H⟩ := H
       replace H : (if t423 = true then (if x4_1.length < 8796093022208 then (impl_ParseRanges.l0 k1 (x4_1 ++ [(⟨t421, t422⟩ : S69)]) t417 (t417.length : Int) (wrap64 (x16_1 + 1))) else (none)) else (some (([] : List (S69)), false))) = some (r1, r2) := H
       by_cases c14 : t423 = true
       ·subst c14
        rw [if_pos rfl] at H
        by_cases c15 : x4_1.length < 8796093022208
        ·rw [if_pos c15] at H
         have LMc15 := Az_ c15
         clear c15
         obtain ⟨y425, hy425⟩ : ∃ y_ : List (S69), y_ = (x4_1 ++ [(⟨t421, t422⟩ : S69)]) := ⟨_, rfl⟩
         replace H : (impl_ParseRanges.l0 k1 y425 t417 (t417.length : Int) (wrap64 (x16_1 + 1))) = some (r1, r2) := by first | (rw [hy425]; with_reducible exact H) | (have H2_ := (Option.bind_some _ _).symm.trans H; rw [hy425]; with_reducible exact H2_) | (have H2_ := (Option.bind_some _ _).symm.trans H; with_reducible exact H2_) | with_reducible exact H | (rw [hy425]; exact H) | exact H
         have Ny425 := Az_ hy425
         clear hy425
         have H' := Az_ H
         clear H
         have p420 : 0 ≤ (x16_1 : Int) := of_decide_eq_true asz_
         have q420 : x16_1 < (t417.length : Int) := of_decide_eq_true asz_
         obtain ⟨ad420, e420, hx420_0⟩ := Kd.at_string (Kd.R_reads' HO_14.out).2.2 x16_1 p420 q420
         cases e420
         replace p420 := eq_true p420
         replace q420 := eq_true q420
         go_wp2_with (first | ((with_reducible refine gate_callee (f := 142) rfl ?_); refine goesL_ (some 22) rfl rfl Tryz.func142 (w110_) rfl #[.string (rdOf ByteArray.empty t417 x16_1)] rfl maz_ ?_; (with_reducible refine (impl_longRange.calls k1 (rdOf ByteArray.empty t417 x16_1) t421 t422 true _ (libW_below HTAB.out (ubz_ HB.out)) A13.out).mono ?_); rintro e w16 ⟨rfl, hb⟩; refine ⟨_, rfl, ?_⟩; replace HO_4 := Az_ (Kd.R_below (w105_) hb); replace HO_14 := Az_ (Kd.R_below (by exact urz_ HO_14.out) hb); replace HB := Az_ (btz_ (ubz_ HB.out) hb); (try clear hb)) | ((with_reducible refine gate_dst (N := 7) rfl ?_); refine box_event ?hg (N := 7) ?hd (cs := #[.int .i64 0, .int .i64 0]) (t := 69) ?hr ?_; (case hd => rfl); (case hg => rfl); (case hr => first | (go_simp; done) | (go_simp; rfl)); intro gb424 hg w17 hbox hb; replace HO_4 := Az_ (Kd.R_below (Kd.R_elderB (w105_) gb424 (Nat.le_of_eq hg.symm)) hb); replace HO_14 := Az_ (Kd.R_below (by exact urz_ HO_14.out) hb); have BK424 := Az_ (hbox); have GW424 := Az_ ((by rw [hg]; exact (below_size (ubz_ HB.out)) : w.heap.size ≤ gb424)); have GE424 := Az_ ((by rw [hg]; exact (below_size (ubz_ HB.out)) : w.heap.size ≤ gb424)); replace HB := Az_ (btz_ (ubz_ HB.out) hb); clear hb hbox hg; have hcz18_0 : w17.cell? ⟨gb424, 0, none⟩ = some (.int .i64 0) := (blk_cell BK424.out 0).trans rfl; have hcz18_1 : w17.cell? ⟨gb424, 1, none⟩ = some (.int .i64 0) := (blk_cell BK424.out 1).trans rfl; have hfz18_0 := blk_frozen BK424.out 0; have hfz18_1 := blk_frozen BK424.out 1) | ((with_reducible refine gate_builtin (b := .append) (xs := #[.tmp 27, .tmp 29]) rfl ?_); at_builtin; refine Kd.R_append k69 (w0 := w) w.heap.size rfl (.tmp 27) (.tmp 29) 51 69 (.agg #[(.int .i64 0), (.int .i64 0)]) 16 rfl Tryz.underlying51 info69 rfl (by decide) (by omega) u4 x4_1 (⟨t421, t422⟩ : S69) [.int .i64 t421, .int .i64 t422] (fun k_ => k_ ≠ gb424) (fun _ => False) rfl (by first | (go_simp; done) | (go_simp; rfl)) ?aP (fun _ hk => hk.elim) ?aF ?aO ?aB ?aS ?aL ?_; (case aP => exact k69_mkM _ _ _ (⟨t421, t422⟩ : S69)); (case aB => exact (w40_)); (case aF => exact (fun k_ hk => Kd.freshB (g := gb424) (o := .cells #[.int .i64 t421, .int .i64 t422] 69 (0, 0)) (w15_) k_ hk)); (case aO => exact (by (with_reducible repeat (first | apply raz_ | apply rnz_ | apply rdz_)); exact Kd.R_mono (Kd.R_far (p := ⟨gb424, 1, none⟩) (Kd.R_far (p := ⟨gb424, 0, none⟩) (Kd.R_mono HO_4.out (fun k_ hk => (⟨hk, hk.2⟩ : _ ∧ k_ ≠ gb424))) (fun _ hk => hk.2) (.int .i64 t421)) (fun _ hk => hk.2) (.int .i64 t422)) (fun _ hk => hk.1.2))); (case aS => exact (below_size (w40_))); (case aL => have := LMc15.out; omega); intro v426 w19 ho hb hg hat; rw [← Ny425.out] at ho; replace HO_14 := Az_ (Kd.R_over' (by (with_reducible repeat (first | apply raz_ | apply rnz_ | apply rdz_)); exact (Kd.R_mono (Kd.R_far (p := ⟨gb424, 1, none⟩) (Kd.R_far (p := ⟨gb424, 0, none⟩) (Kd.R_types HO_14.out BK424.out (by decide)) (fun _ hk => hk.2) (.int .i64 t421)) (fun _ hk => hk.2) (.int .i64 t422)) (fun _ h_ => h_.1))) (Kd.R_typed (by (with_reducible repeat (first | apply raz_ | apply rnz_ | apply rdz_)); exact (Kd.R_mono (Kd.R_far (p := ⟨gb424, 1, none⟩) (Kd.R_far (p := ⟨gb424, 0, none⟩) (Kd.R_mono HO_4.out (fun k_ hk => (⟨hk, hk.2⟩ : _ ∧ k_ ≠ gb424))) (fun _ hk => hk.2) (.int .i64 t421)) (fun _ hk => hk.2) (.int .i64 t422)) (fun _ h_ => h_.1)))) (by decide) hg); replace BK424 := Az_ (blk_grown (g := gb424) (o := .cells #[.int .i64 t421, .int .i64 t422] 69 (0, 0)) (w15_) hg (Kd.R_away HO_4.out (fun _ hk => hk.2))); replace HB := Az_ (hb); have HO427 := Az_ (ho); clear HO_4; clear ho hb hg hat))
         go_roundg k1
         case measure => have := HK1.out; omega
         case rel => exact ⟨(y425), (wrap64 (x16_1 + 1)), qaz_, H', ⟨w83_⟩, ⟨by (with_reducible repeat (first | apply raz_ | apply rnz_ | apply rdz_)); exact Kd.R_mono HO427.out (fun _ hk => trivial)⟩, ⟨by (with_reducible repeat (first | apply raz_ | apply rnz_ | apply rdz_)); exact HO_14.out⟩, ⟨w40_⟩⟩
        ·rw [if_neg c15] at H
         exact absurd H (by simp)
       ·replace c14 := Bool.eq_false_iff.mpr c14
        subst c14
        rw [if_neg nfz_] at H
        simp only [Option.some.injEq, Prod.mk.injEq] at H
        obtain ⟨rfl, rfl⟩ := H
        have p420 : 0 ≤ (x16_1 : Int) := of_decide_eq_true asz_
        have q420 : x16_1 < (t417.length : Int) := of_decide_eq_true asz_
        obtain ⟨ad420, e420, hx420_0⟩ := Kd.at_string (Kd.R_reads' HO_14.out).2.2 x16_1 p420 q420
        cases e420
        replace p420 := eq_true p420
        replace q420 := eq_true q420
        go_wp2_with (first | ((with_reducible refine gate_callee (f := 142) rfl ?_); refine goesL_ (some 22) rfl rfl Tryz.func142 (w110_) rfl #[.string (rdOf ByteArray.empty t417 x16_1)] rfl maz_ ?_; (with_reducible refine (impl_longRange.calls k1 (rdOf ByteArray.empty t417 x16_1) t421 t422 false _ (libW_below HTAB.out (ubz_ HB.out)) A13.out).mono ?_); rintro e w20 ⟨rfl, hb⟩; refine ⟨_, rfl, ?_⟩; replace HO_4 := Az_ (Kd.R_below (w105_) hb); replace HO_14 := Az_ (Kd.R_below (by exact urz_ HO_14.out) hb); replace HB := Az_ (btz_ (ubz_ HB.out) hb); (try clear hb)) | ((with_reducible refine gate_dst (N := 7) rfl ?_); refine box_event ?hg (N := 7) ?hd (cs := #[.int .i64 0, .int .i64 0]) (t := 69) ?hr ?_; (case hd => rfl); (case hg => rfl); (case hr => first | (go_simp; done) | (go_simp; rfl)); intro gb424 hg w21 hbox hb; replace HO_4 := Az_ (Kd.R_below (Kd.R_elderB (w105_) gb424 (Nat.le_of_eq hg.symm)) hb); replace HO_14 := Az_ (Kd.R_below (by exact urz_ HO_14.out) hb); have BK424 := Az_ (hbox); have GW424 := Az_ ((by rw [hg]; exact (below_size (ubz_ HB.out)) : w.heap.size ≤ gb424)); have GE424 := Az_ ((by rw [hg]; exact (below_size (ubz_ HB.out)) : w.heap.size ≤ gb424)); replace HB := Az_ (btz_ (ubz_ HB.out) hb); clear hb hbox hg; have hcz22_0 : w21.cell? ⟨gb424, 0, none⟩ = some (.int .i64 0) := (blk_cell BK424.out 0).trans rfl; have hcz22_1 : w21.cell? ⟨gb424, 1, none⟩ = some (.int .i64 0) := (blk_cell BK424.out 1).trans rfl; have hfz22_0 := blk_frozen BK424.out 0; have hfz22_1 := blk_frozen BK424.out 1))
        go_ret2
        exact ⟨_, w61_, w41_, w40_⟩
      ·rw [if_neg c12] at H
       exact absurd H (by simp)
     ·rw [if_neg c11] at H
      exact absurd H (by simp)
    ·rw [if_neg c10] at H
     have c10b0 := decide_eq_false c10
     clear c10
     replace H := bqz_ H; obtain ⟨t428, A23, H⟩ := H
     replace H : (if t428 = true then (some (x4_1, true)) else (some (([] : List (S69)), false))) = some (r1, r2) := H
     by_cases c24 : t428 = true
     ·subst c24
      rw [if_pos rfl] at H
      simp only [Option.some.injEq, Prod.mk.injEq] at H
      obtain ⟨rfl, rfl⟩ := H
      obtain ⟨Ao25, co25, eo25⟩ := Kd.R_slice HO_4.out
      subst eo25
      go_wp2_with (first | ((with_reducible refine gate_callee (f := 43) rfl ?_); refine goesL_ (some 33) rfl rfl Tryz.func43 (w110_) rfl #[.slice Ao25 x4_1.length co25] rfl maz_ ?_; (with_reducible refine (impl_AreRanges.calls k1 _ _ x4_1 true _ ?side1 ?side2 A23.out).mono ?_); (case side1 => exact ucz_ ((Kd.R_reads' HO_4.out).2.2)); (case side2 => exact (Kd.R_reads' HO_4.out).2.1); rintro e w26 ⟨rfl, hb⟩; refine ⟨_, rfl, ?_⟩; replace HO_4 := Az_ (Kd.R_below (w105_) hb); replace HO_14 := Az_ (Kd.R_below (by exact urz_ HO_14.out) hb); replace HB := Az_ (btz_ (ubz_ HB.out) hb); (try clear hb)))
      go_ret2
      exact ⟨_, w61_, w70_, w109_⟩
     ·replace c24 := Bool.eq_false_iff.mpr c24
      subst c24
      rw [if_neg nfz_] at H
      simp only [Option.some.injEq, Prod.mk.injEq] at H
      obtain ⟨rfl, rfl⟩ := H
      obtain ⟨Ao27, co27, eo27⟩ := Kd.R_slice HO_4.out
      subst eo27
      go_wp2_with (first | ((with_reducible refine gate_callee (f := 43) rfl ?_); refine goesL_ (some 33) rfl rfl Tryz.func43 (w110_) rfl #[.slice Ao27 x4_1.length co27] rfl maz_ ?_; (with_reducible refine (impl_AreRanges.calls k1 _ _ x4_1 false _ ?side1 ?side2 A23.out).mono ?_); (case side1 => exact ucz_ ((Kd.R_reads' HO_4.out).2.2)); (case side2 => exact (Kd.R_reads' HO_4.out).2.1); rintro e w28 ⟨rfl, hb⟩; refine ⟨_, rfl, ?_⟩; replace HO_4 := Az_ (Kd.R_below (w105_) hb); replace HO_14 := Az_ (Kd.R_below (by exact urz_ HO_14.out) hb); replace HB := Az_ (btz_ (ubz_ HB.out) hb); (try clear hb)))
      go_ret2
      exact ⟨_, w61_, w41_, w109_⟩

end Go.Proofs.YtppbpefehpbejaaGreatDoor.P
end

section
namespace Go.Proofs.YtppbpefehpbejaaGreatDoor.P
open Go.RowKit Go.Proofs.YtppbpefehpbejaaGreatDoorW.PrintWords Go.Proofs.YtppbpefehpbejaaGreatDoorW.PrintLast Go.Proofs.YtppbpefehpbejaaGreatDoorW.PrintMore
attribute [local go_sem] max2_int min2_int max_two min_two max_three min_three max_four min_four   -- for this text's walks alone
set_option linter.unusedVariables false
set_option linter.unusedSimpArgs false

def spec_l1Split.l0 : Nat → ByteArray → Int → List ByteArray → Int → Int → Option (List ByteArray)
 | 0, _, _, _, _, _ => none
 | k + 1, x0, x1, x5, x6, x7 => if x7 < (x0.size : Int) then (if 0 ≤ x7 then (if (bt x0 x7) = x1 then (if 0 ≤ x6 then (if x6 ≤ x7 then (if x7 ≤ (x0.size : Int) then (if x5.length < 8796093022208 then (spec_l1Split.l0 k x0 x1 (x5 ++ [x0.extract (x6 : Int).toNat (x7 : Int).toNat]) (wrap64 (x7 + 1)) (wrap64 (x7 + 1))) else (none)) else (none)) else (none)) else (none)) else (spec_l1Split.l0 k x0 x1 x5 x6 (wrap64 (x7 + 1)))) else (none)) else (if 0 ≤ x6 then (if x6 ≤ (x0.size : Int) then (if x5.length < 8796093022208 then (some (x5 ++ [x0.extract (x6 : Int).toNat x0.size])) else (none)) else (none)) else (none))
def spec_l1Split.f (k : Nat) (a0 : ByteArray) (a1 : Int) : Option (List ByteArray) := spec_l1Split.l0 k a0 a1 ([] : List ByteArray) 0 0
set_option maxHeartbeats 8000000 in
set_option maxRecDepth 100000 in
theorem spec_l1Split.calls (k : Nat) (a0 : ByteArray) (a1 : Int) (r : List ByteArray) (w : World) (h : spec_l1Split.f k a0 a1 = some r) :
  Calls Tryz.prog 171 #[.string a0, .int .u8 a1] w fun e w' => ∃ v0_ : Value, e = .returned (v0_) ∧ Kd.R Kd.string 9 w' w.heap.size (fun _ => True) v0_ r ∧ Below w.heap.size w w' := by
 have HB := Az_ (Below.refl w.heap.size w)
 have H : (spec_l1Split.l0 k a0 a1 ([] : List ByteArray) 0 0) = some r := h
 clear h
 have H' := Az_ H
 clear H
 go_enter Tryz.func171, Tryz.ntmps171
 go_wp2
 go_loopg [5, 6, 7] k (fun kq v5 v6 v7 w' => ∃ (x5_1 : List ByteArray) (x6_1 : Int) (x7_1 : Int), v6 = .int .i64 x6_1 ∧ v7 = .int .i64 x7_1 ∧ Aside0 (spec_l1Split.l0 kq a0 a1 x5_1 x6_1 x7_1 = some r) ∧ Aside0 (kq ≤ k) ∧ Aside0 (Kd.R Kd.string 9 w' w.heap.size (fun _ => True) v5 x5_1) ∧ Aside0 (Below w.heap.size w w'))
 case atStart => exact ⟨(([] : List ByteArray)), (0), (0), qaz_, qaz_, H', ⟨Nat.le_refl _⟩, ⟨w41_⟩, ⟨w109_⟩⟩
 case round =>
  clear H'
  obtain ⟨x5_1, x6_1, x7_1, rfl, rfl, HA, HK1, HO_5, HB⟩ := hrel
  cases gk with
  | zero => exact absurd HA.out (by simp [spec_l1Split.l0])
  | succ k1 =>
   have H := HA.out
   clear HA
   simp only [spec_l1Split.l0] at H
   by_cases c3 : x7_1 < (a0.size : Int)
   ·rw [if_pos c3] at H
    have c3b0 := decide_eq_true c3
    clear c3
    by_cases c4 : 0 ≤ x7_1
    ·rw [if_pos c4] at H
     have c4b0 := decide_eq_true c4
     clear c4
     by_cases c6 : (bt a0 x7_1) = a1
     ·rw [if_pos c6] at H
      have c6b0 : ((bt a0 x7_1) == a1) = true := beq_iff_eq.mpr c6
      have c6b1 : ((bt a0 x7_1) != a1) = false := bne_eq_false_iff_eq.mpr c6
      clear c6
      by_cases c7 : 0 ≤ x6_1
      ·rw [if_pos c7] at H
       have c7b0 := eq_true c7
       have c7b1 := decide_eq_true c7
       clear c7
       by_cases c8 : x6_1 ≤ x7_1
       ·rw [if_pos c8] at H
        have c8b0 := eq_true c8
        have c8b1 := decide_eq_true c8
        clear c8
        by_cases c9 : x7_1 ≤ (a0.size : Int)
        ·rw [if_pos c9] at H
         have c9b0 := eq_true c9
         have c9b1 := decide_eq_true c9
         clear c9
         by_cases c10 : x5_1.length < 8796093022208
         ·rw [if_pos c10] at H
          have LMc10 := Az_ c10
          clear c10
          obtain ⟨y429, hy429⟩ : ∃ y_ : List ByteArray, y_ = (x5_1 ++ [a0.extract (x6_1 : Int).toNat (x7_1 : Int).toNat]) := ⟨_, rfl⟩
          replace H : (spec_l1Split.l0 k1 a0 a1 y429 (wrap64 (x7_1 + 1)) (wrap64 (x7_1 + 1))) = some r := by first | (rw [hy429]; with_reducible exact H) | (have H2_ := (Option.bind_some _ _).symm.trans H; rw [hy429]; with_reducible exact H2_) | (have H2_ := (Option.bind_some _ _).symm.trans H; with_reducible exact H2_) | with_reducible exact H | (rw [hy429]; exact H) | exact H
          have Ny429 := Az_ hy429
          clear hy429
          have H' := Az_ H
          clear H
          have p5 : 0 ≤ (x7_1 : Int) := of_decide_eq_true asz_
          have q5 : x7_1 < (a0.size : Int) := of_decide_eq_true asz_
          have hx5 := bt_at a0 x7_1
          replace p5 := eq_true p5
          replace q5 := eq_true q5
          go_wp2_with (first | ((with_reducible refine gate_builtin (b := .append) (xs := #[.tmp 19, .tmp 24]) rfl ?_); at_builtin; refine Kd.R_append Kd.string (w0 := w) w.heap.size rfl (.tmp 19) (.tmp 24) 141 9 (.string ⟨#[]⟩) 16 rfl Tryz.underlying141 info9 rfl (by decide) (by omega) u5 x5_1 (a0.extract (x6_1 : Int).toNat (x7_1 : Int).toNat) [.string (a0.extract (x6_1 : Int).toNat (x7_1 : Int).toNat)] (fun _ => True) (fun _ => False) rfl rfl ?aP (fun _ hk => hk.elim) ?aF ?aO ?aB ?aS ?aL ?_; (case aP => exact rfl); (case aB => exact (ubz_ HB.out)); (case aF => exact (fun _ _ => trivial)); (case aO => exact (w106_)); (case aS => exact (below_size (ubz_ HB.out))); (case aL => have := LMc10.out; omega); intro v430 w11 ho hb hg hat; rw [← Ny429.out] at ho; replace HB := Az_ (hb); have HO431 := Az_ (ho); clear HO_5; clear ho hb hg hat))
          go_roundg k1
          case measure => have := HK1.out; omega
          case rel => exact ⟨(y429), (wrap64 (x7_1 + 1)), (wrap64 (x7_1 + 1)), qaz_, qaz_, H', ⟨w83_⟩, ⟨by (with_reducible repeat (first | apply raz_ | apply rnz_ | apply rdz_)); exact HO431.out⟩, ⟨w109_⟩⟩
         ·rw [if_neg c10] at H
          exact absurd H (by simp)
        ·rw [if_neg c9] at H
         exact absurd H (by simp)
       ·rw [if_neg c8] at H
        exact absurd H (by simp)
      ·rw [if_neg c7] at H
       exact absurd H (by simp)
     ·rw [if_neg c6] at H
      have c6b0 : ((bt a0 x7_1) == a1) = false := beq_eq_false_iff_ne.mpr c6
      have c6b1 : ((bt a0 x7_1) != a1) = true := bne_iff_ne.mpr c6
      have H' := Az_ H
      clear H
      have p5 : 0 ≤ (x7_1 : Int) := of_decide_eq_true asz_
      have q5 : x7_1 < (a0.size : Int) := of_decide_eq_true asz_
      have hx5 := bt_at a0 x7_1
      replace p5 := eq_true p5
      replace q5 := eq_true q5
      go_wp2
      go_roundg k1
      case measure => have := HK1.out; omega
      case rel => exact ⟨(x5_1), (x6_1), (wrap64 (x7_1 + 1)), qaz_, qaz_, H', ⟨w83_⟩, ⟨w71_⟩, ⟨w109_⟩⟩
    ·rw [if_neg c4] at H
     exact absurd H (by simp)
   ·rw [if_neg c3] at H
    have c3b0 := decide_eq_false c3
    clear c3
    by_cases c12 : 0 ≤ x6_1
    ·rw [if_pos c12] at H
     have c12b0 := eq_true c12
     have c12b1 := decide_eq_true c12
     clear c12
     by_cases c13 : x6_1 ≤ (a0.size : Int)
     ·rw [if_pos c13] at H
      have c13b0 := eq_true c13
      have c13b1 := decide_eq_true c13
      clear c13
      by_cases c14 : x5_1.length < 8796093022208
      ·rw [if_pos c14] at H
       have LMc14 := Az_ c14
       clear c14
       obtain ⟨y432, hy432⟩ : ∃ y_ : List ByteArray, y_ = (x5_1 ++ [a0.extract (x6_1 : Int).toNat a0.size]) := ⟨_, rfl⟩
       replace H : (some y432) = some r := by first | (rw [hy432]; with_reducible exact H) | (have H2_ := (Option.bind_some _ _).symm.trans H; rw [hy432]; with_reducible exact H2_) | (have H2_ := (Option.bind_some _ _).symm.trans H; with_reducible exact H2_) | with_reducible exact H | (rw [hy432]; exact H) | exact H
       have Ny432 := Az_ hy432
       clear hy432
       obtain rfl := Option.some.inj H
       go_wp2_with (first | ((with_reducible refine gate_builtin (b := .append) (xs := #[.tmp 28, .tmp 32]) rfl ?_); at_builtin; refine Kd.R_append Kd.string (w0 := w) w.heap.size rfl (.tmp 28) (.tmp 32) 141 9 (.string ⟨#[]⟩) 16 rfl Tryz.underlying141 info9 rfl (by decide) (by omega) u5 x5_1 (a0.extract (x6_1 : Int).toNat a0.size) [.string (a0.extract (x6_1 : Int).toNat a0.size)] (fun _ => True) (fun _ => False) rfl rfl ?aP (fun _ hk => hk.elim) ?aF ?aO ?aB ?aS ?aL ?_; (case aP => exact rfl); (case aB => exact (ubz_ HB.out)); (case aF => exact (fun _ _ => trivial)); (case aO => exact (w106_)); (case aS => exact (below_size (ubz_ HB.out))); (case aL => have := LMc14.out; omega); intro v433 w15 ho hb hg hat; rw [← Ny432.out] at ho; replace HB := Az_ (hb); have HO434 := Az_ (ho); clear HO_5; clear ho hb hg hat))
       go_ret
       exact ⟨_, w61_, by (with_reducible repeat (first | apply raz_ | apply rnz_ | apply rdz_)); exact HO434.out, w109_⟩
      ·rw [if_neg c14] at H
       exact absurd H (by simp)
     ·rw [if_neg c13] at H
      exact absurd H (by simp)
    ·rw [if_neg c12] at H
     exact absurd H (by simp)

mutual
def spec_l1Read.j0 : Nat → ByteArray → Bool → Option (Int)
 | 0, _, _ => none
 | k + 1, x0, x18 => if x18 = true then (some (-1)) else (spec_l1Read.l0 k x0 0 0)
def spec_l1Read.l0 : Nat → ByteArray → Int → Int → Option (Int)
 | 0, _, _, _ => none
 | k + 1, x0, x3, x4 => if x4 < (x0.size : Int) then (if 0 ≤ x4 then (if (bt x0 x4) < 48 then (some (-1)) else (if (bt x0 x4) > 57 then (some (-1)) else (spec_l1Read.l0 k x0 (wrap64 ((wrap64 (10 * x3)) + (((bt x0 x4) - 48) % 256))) (wrap64 (x4 + 1))))) else (none)) else (some x3)
end
def spec_l1Read.f (k : Nat) (a0 : ByteArray) : Option (Int) := (spec_l1In.f (a0.size : Int) 1 6).bind fun t435 => (if t435 = true then (if 0 < (a0.size : Int) then (if (bt a0 0) = 48 then (spec_l1Read.j0 k a0 (decide ((a0.size : Int) > 1))) else (spec_l1Read.j0 k a0 false)) else (none)) else (spec_l1Read.j0 k a0 true))
set_option maxHeartbeats 8000000 in
set_option maxRecDepth 100000 in
theorem spec_l1Read.calls (k : Nat) (a0 : ByteArray) (r : Int) (w : World) (h : spec_l1Read.f k a0 = some r) :
  Calls Tryz.prog 172 #[.string a0] w fun e w' => e = .returned (.int .i64 r) ∧ Drawn0 w w' := by
 have H : ((spec_l1In.f (a0.size : Int) 1 6).bind fun t435 => (if t435 = true then (if 0 < (a0.size : Int) then (if (bt a0 0) = 48 then (j0 k a0 (decide ((a0.size : Int) > 1))) else (j0 k a0 false)) else (none)) else (j0 k a0 true))) = some r := h
 clear h
 have HC2 := Az_ H
 clear H
 go_enter Tryz.func172, Tryz.ntmps172
 go_upto_region 1 with (fail)
 go_cut [18] (fun v18 wc => ∃ (kq : Nat) (x18_1 : Bool), v18 = .bool x18_1 ∧ Aside0 (j0 kq a0 x18_1 = some r) ∧ Aside0 (kq ≤ k) ∧ Drawn0 w wc)
 case first =>
  have H := HC2.out
  clear HC2
  replace H := bqz_ H; obtain ⟨t435, A3, H⟩ := H
  replace H : (if t435 = true then (if 0 < (a0.size : Int) then (if (bt a0 0) = 48 then (j0 k a0 (decide ((a0.size : Int) > 1))) else (j0 k a0 false)) else (none)) else (j0 k a0 true)) = some r := H
  by_cases c4 : t435 = true
  ·subst c4
   rw [if_pos rfl] at H
   by_cases c5 : 0 < (a0.size : Int)
   ·rw [if_pos c5] at H
    have c5b0 := decide_eq_true c5
    have c5b1 : decide (0 < a0.size) = true := decide_eq_true (by omega)
    clear c5
    (first | rw [c5b0] | (simp only [i64_w, i32_w]; rw [c5b0]) | skip)
    by_cases c7 : (bt a0 0) = 48
    ·rw [if_pos c7] at H
     have c7b0 : ((bt a0 0) == 48) = true := beq_iff_eq.mpr c7
     have c7b1 : ((bt a0 0) != 48) = false := bne_eq_false_iff_eq.mpr c7
     clear c7
     have H' := Az_ H
     clear H
     go_wp2_with (first | ((with_reducible refine gate_callee (f := 159) rfl ?_); refine goesL_ (some 7) rfl rfl Tryz.func159 (w110_) rfl #[.int .i64 (a0.size : Int), .int .i64 1, .int .i64 6] rfl maz_ ?_; (with_reducible refine (spec_l1In.calls (a0.size : Int) 1 6 true _ A3.out).mono ?_); rintro e w' ⟨rfl, ⟨nd, rfl⟩⟩; refine ⟨_, rfl, ?_⟩; have p6 : 0 ≤ (0 : Int) := (by omega); have q6 : 0 < a0.size := (by have : (0 : Int) < (a0.size : Int) := of_decide_eq_true asz_; omega); have hx6 : ∀ h : 0 < a0.size, ((a0[0]'h).toNat : Int) = bt a0 0 := bt_at a0 0; clear p6; have qi6 : (0 < (a0.size : Int)) = True := eq_true (of_decide_eq_true asz_); replace q6 := eq_true q6))
     go_meet
     case rel => exact ⟨_, (decide ((a0.size : Int) > 1)), qaz_, H', ⟨w81_⟩, w74_⟩
    ·rw [if_neg c7] at H
     have c7b0 : ((bt a0 0) == 48) = false := beq_eq_false_iff_ne.mpr c7
     have c7b1 : ((bt a0 0) != 48) = true := bne_iff_ne.mpr c7
     have H' := Az_ H
     clear H
     go_wp2_with (first | ((with_reducible refine gate_callee (f := 159) rfl ?_); refine goesL_ (some 7) rfl rfl Tryz.func159 (w110_) rfl #[.int .i64 (a0.size : Int), .int .i64 1, .int .i64 6] rfl maz_ ?_; (with_reducible refine (spec_l1In.calls (a0.size : Int) 1 6 true _ A3.out).mono ?_); rintro e w' ⟨rfl, ⟨nd, rfl⟩⟩; refine ⟨_, rfl, ?_⟩; have p6 : 0 ≤ (0 : Int) := (by omega); have q6 : 0 < a0.size := (by have : (0 : Int) < (a0.size : Int) := of_decide_eq_true asz_; omega); have hx6 : ∀ h : 0 < a0.size, ((a0[0]'h).toNat : Int) = bt a0 0 := bt_at a0 0; clear p6; have qi6 : (0 < (a0.size : Int)) = True := eq_true (of_decide_eq_true asz_); replace q6 := eq_true q6))
     go_meet
     case rel => exact ⟨_, (false), qaz_, H', ⟨w81_⟩, w74_⟩
   ·rw [if_neg c5] at H
    exact absurd H (by simp)
  ·replace c4 := Bool.eq_false_iff.mpr c4
   subst c4
   rw [if_neg nfz_] at H
   have H' := Az_ H
   clear H
   go_wp2_with (first | ((with_reducible refine gate_callee (f := 159) rfl ?_); refine goesL_ (some 7) rfl rfl Tryz.func159 (w110_) rfl #[.int .i64 (a0.size : Int), .int .i64 1, .int .i64 6] rfl maz_ ?_; (with_reducible refine (spec_l1In.calls (a0.size : Int) 1 6 false _ A3.out).mono ?_); rintro e w' ⟨rfl, ⟨nd, rfl⟩⟩; refine ⟨_, rfl, ?_⟩))
   go_meet
   case rel => exact ⟨_, (true), qaz_, H', ⟨w81_⟩, w74_⟩
 case rest =>
  clear HC2
  obtain ⟨kq, x18_1, rfl, HA, HJ1, ⟨mc1, rfl⟩⟩ := hcut
  cases kq with
  | zero => exact absurd HA.out (by simp [j0])
  | succ kj1 =>
   have H := HA.out
   clear HA
   simp only [j0] at H
   by_cases c8 : x18_1 = true
   ·subst c8
    rw [if_pos rfl] at H
    obtain rfl := Option.some.inj H
    go_wp2
    go_ret
    exact ⟨w77_, w74_⟩
   ·replace c8 := Bool.eq_false_iff.mpr c8
    subst c8
    rw [if_neg nfz_] at H
    have H' := Az_ H
    clear H
    go_wp2
    go_loopg [3, 4] kj1 (fun kq v3 v4 w' => ∃ (x3_2 : Int) (x4_2 : Int), v3 = .int .i64 x3_2 ∧ v4 = .int .i64 x4_2 ∧ Aside0 (spec_l1Read.l0 kq a0 x3_2 x4_2 = some r) ∧ Aside0 (kq ≤ kj1) ∧ Drawn0 w w')
    case atStart => exact ⟨(0), (0), qaz_, qaz_, H', ⟨Nat.le_refl _⟩, w74_⟩
    case round =>
     clear H'
     obtain ⟨x3_2, x4_2, rfl, rfl, HA, HK2, ⟨m2, rfl⟩⟩ := hrel
     cases gk with
     | zero => exact absurd HA.out (by simp [spec_l1Read.l0])
     | succ k2 =>
      have H := HA.out
      clear HA
      simp only [spec_l1Read.l0] at H
      by_cases c9 : x4_2 < (a0.size : Int)
      ·rw [if_pos c9] at H
       have c9b0 := decide_eq_true c9
       clear c9
       by_cases c10 : 0 ≤ x4_2
       ·rw [if_pos c10] at H
        have c10b0 := decide_eq_true c10
        clear c10
        by_cases c12 : (bt a0 x4_2) < 48
        ·rw [if_pos c12] at H
         have c12b0 := decide_eq_true c12
         clear c12
         obtain rfl := Option.some.inj H
         have p11 : 0 ≤ (x4_2 : Int) := of_decide_eq_true asz_
         have q11 : x4_2 < (a0.size : Int) := of_decide_eq_true asz_
         have hx11 := bt_at a0 x4_2
         replace p11 := eq_true p11
         replace q11 := eq_true q11
         go_wp2
         go_ret
         exact ⟨w77_, w74_⟩
        ·rw [if_neg c12] at H
         have c12b0 := decide_eq_false c12
         clear c12
         by_cases c14 : (bt a0 x4_2) > 57
         ·rw [if_pos c14] at H
          have c14b0 := decide_eq_true c14
          clear c14
          obtain rfl := Option.some.inj H
          have p11 : 0 ≤ (x4_2 : Int) := of_decide_eq_true asz_
          have q11 : x4_2 < (a0.size : Int) := of_decide_eq_true asz_
          have hx11 := bt_at a0 x4_2
          replace p11 := eq_true p11
          replace q11 := eq_true q11
          have p13 : 0 ≤ (x4_2 : Int) := of_decide_eq_true asz_
          have q13 : x4_2 < (a0.size : Int) := of_decide_eq_true asz_
          have hx13 := bt_at a0 x4_2
          replace p13 := eq_true p13
          replace q13 := eq_true q13
          go_wp2
          go_ret
          exact ⟨w77_, w74_⟩
         ·rw [if_neg c14] at H
          have c14b0 := decide_eq_false c14
          clear c14
          have H' := Az_ H
          clear H
          have p11 : 0 ≤ (x4_2 : Int) := of_decide_eq_true asz_
          have q11 : x4_2 < (a0.size : Int) := of_decide_eq_true asz_
          have hx11 := bt_at a0 x4_2
          replace p11 := eq_true p11
          replace q11 := eq_true q11
          have p13 : 0 ≤ (x4_2 : Int) := of_decide_eq_true asz_
          have q13 : x4_2 < (a0.size : Int) := of_decide_eq_true asz_
          have hx13 := bt_at a0 x4_2
          replace p13 := eq_true p13
          replace q13 := eq_true q13
          have p15 : 0 ≤ (x4_2 : Int) := of_decide_eq_true asz_
          have q15 : x4_2 < (a0.size : Int) := of_decide_eq_true asz_
          have hx15 := bt_at a0 x4_2
          replace p15 := eq_true p15
          replace q15 := eq_true q15
          go_wp2
          go_roundg k2
          case measure => have := HJ1.out; have := HK2.out; omega
          case rel => exact ⟨(wrap64 ((wrap64 (10 * x3_2)) + (((bt a0 x4_2) - 48) % 256))), (wrap64 (x4_2 + 1)), qaz_, qaz_, H', ⟨by have := HJ1.out; have := HK2.out; omega⟩, w74_⟩
       ·rw [if_neg c10] at H
        exact absurd H (by simp)
      ·rw [if_neg c9] at H
       have c9b0 := decide_eq_false c9
       clear c9
       obtain rfl := Option.some.inj H
       go_wp2
       go_ret
       exact ⟨w77_, w74_⟩

end Go.Proofs.YtppbpefehpbejaaGreatDoor.P
end

section
namespace Go.Proofs.YtppbpefehpbejaaGreatDoor.P
open Go.RowKit Go.Proofs.YtppbpefehpbejaaGreatDoorW.PrintWords Go.Proofs.YtppbpefehpbejaaGreatDoorW.PrintLast Go.Proofs.YtppbpefehpbejaaGreatDoorW.PrintMore
attribute [local go_sem] max2_int min2_int max_two min_two max_three min_three max_four min_four   -- for this text's walks alone
set_option linter.unusedVariables false
set_option linter.unusedSimpArgs false

mutual
def spec_ixLong.j0 : Nat → ByteArray → List ByteArray → Bool → Option (Int × Int × Bool)
 | 0, _, _, _ => none
 | k + 1, x0, x4, x16 => if x16 = true then (some (0, 0, false)) else (if 0 < (x4.length : Int) then ((spec_l1Read.f k (rdOf ByteArray.empty x4 0)).bind fun t441 => ((spec_l1Read.f k (rdOf ByteArray.empty x4 0)).bind fun t443 => (if (x4.length : Int) = 2 then (if 1 < (x4.length : Int) then (if ((rdOf ByteArray.empty x4 1).size : Int) < ((rdOf ByteArray.empty x4 0).size : Int) then (if 0 ≤ (wrap64 (((rdOf ByteArray.empty x4 0).size : Int) - ((rdOf ByteArray.empty x4 1).size : Int))) then (if (wrap64 (((rdOf ByteArray.empty x4 0).size : Int) - ((rdOf ByteArray.empty x4 1).size : Int))) ≤ ((rdOf ByteArray.empty x4 0).size : Int) then (if ((rdOf ByteArray.empty x4 0).extract 0 ((wrap64 (((rdOf ByteArray.empty x4 0).size : Int) - ((rdOf ByteArray.empty x4 1).size : Int))) : Int).toNat).size + (rdOf ByteArray.empty x4 1).size ≤ 9223372036854775807 then ((spec_l1Read.f k (((rdOf ByteArray.empty x4 0).extract 0 ((wrap64 (((rdOf ByteArray.empty x4 0).size : Int) - ((rdOf ByteArray.empty x4 1).size : Int))) : Int).toNat) ++ (rdOf ByteArray.empty x4 1))).bind fun t449 => (spec_ixLong.j1 k x0 t441 t449)) else (none)) else (none)) else (none)) else ((spec_l1Read.f k (rdOf ByteArray.empty x4 1)).bind fun t450 => (spec_ixLong.j1 k x0 t441 t450))) else (none)) else (spec_ixLong.j1 k x0 t441 t443)))) else (none))
def spec_ixLong.j1 : Nat → ByteArray → Int → Int → Option (Int × Int × Bool)
 | 0, _, _, _ => none
 | k + 1, x0, x445000, x445001 => (spec_ixRange.f x445000 x445001).bind fun t451 => (if t451 = true then ((spec_ixShort.f k x445000 x445001).bind fun t452 => (if t452.toList = x0.toList then (some (x445000, x445001, true)) else (some (0, 0, false)))) else (some (0, 0, false)))
end
def spec_ixLong.f (k : Nat) (a0 : ByteArray) : Option (Int × Int × Bool) := (spec_l1Split.f k a0 45).bind fun t437 => (if (a0.size : Int) > 9 then (spec_ixLong.j0 k a0 t437 true) else (spec_ixLong.j0 k a0 t437 (decide ((t437.length : Int) > 2))))
def spec_ixLong.T4 : Bool × List (List Nat × List Nat) := (true, [([], []), ([0], [0]), ([1], [1]), ([2], [2]), ([], []), ([4], [4]), ([5], [5]), ([6, 3], [6]), ([3, 7], [3, 7]), ([], []), ([9, 8, 7, 0, 1, 2, 3, 4, 5, 6, 7, 8, 9], [8, 9])])
def spec_ixLong.B4 : List Nat := [0, 1, 3, 7, 0, 16, 48, 127, 255, 0, 1023]
theorem spec_ixLong.tab4 : rtab .any (opsOf Tryz.f180 4) = spec_ixLong.T4 := by kernel_rfl
theorem spec_ixLong.bits4 : waitsOk spec_ixLong.T4.2 spec_ixLong.B4 = true := by kernel_rfl
def spec_ixLong.T8 : Bool × List (List Nat × List Nat) := (true, [([], []), ([0], [0]), ([1], [1]), ([], []), ([3], [3]), ([4], [4]), ([5], [5]), ([], []), ([7], [7]), ([6, 8], [6, 8]), ([2, 9], [2, 9]), ([], []), ([10, 11], [10, 11]), ([12, 0, 1, 2, 3, 4, 5, 6, 7, 8, 9, 10, 11, 12], [7, 11, 12])])
def spec_ixLong.B8 : List Nat := [0, 1, 3, 0, 8, 24, 56, 0, 128, 504, 1023, 0, 4095, 8191]
theorem spec_ixLong.tab8 : rtab .any (opsOf Tryz.f180 8) = spec_ixLong.T8 := by kernel_rfl
theorem spec_ixLong.bits8 : waitsOk spec_ixLong.T8.2 spec_ixLong.B8 = true := by kernel_rfl
set_option maxHeartbeats 8000000 in
set_option maxRecDepth 100000 in
theorem spec_ixLong.calls (k : Nat) (a0 : ByteArray) (r1 : Int) (r2 : Int) (r3 : Bool) (w : World) (h : spec_ixLong.f k a0 = some (r1, r2, r3)) :
  Calls Tryz.prog 180 #[.string a0] w fun e w' => e = .returned (.tuple #[.agg #[.int .i64 r1, .int .i64 r2], .bool r3]) ∧ Below w.heap.size w w' := by
 have hu69 := Tryz.underlying69
 have HB := Az_ (Below.refl w.heap.size w)
 have H : ((spec_l1Split.f k a0 45).bind fun t437 => (if (a0.size : Int) > 9 then (j0 k a0 t437 true) else (j0 k a0 t437 (decide ((t437.length : Int) > 2))))) = some (r1, r2, r3) := h
 clear h
 replace H := bqz_ H; obtain ⟨t437, A2, H⟩ := H
 replace H : (if (a0.size : Int) > 9 then (j0 k a0 t437 true) else (j0 k a0 t437 (decide ((t437.length : Int) > 2)))) = some (r1, r2, r3) := H
 have HC3 := Az_ H
 clear H
 go_enter Tryz.func180, Tryz.ntmps180
 go_upto_region 2 with (first | ((with_reducible refine gate_dst (N := 2) rfl ?_); (try (refine gate_guard (by rfl) ?_; dsimp only)); refine box_event ?hg (N := 2) ?hd (cs := #[.int .i64 0, .int .i64 0]) (t := 69) ?hr ?_; (case hd => rfl); (case hg => rfl); (case hr => first | (go_simp; done) | (go_simp; rfl)); intro gb436 hg w4 hbox hb; have BK436 := Az_ (hbox); have GW436 := Az_ ((by rw [hg]; exact (below_size (ubz_ HB.out)) : w.heap.size ≤ gb436)); have GE436 := Az_ ((by rw [hg]; exact (below_size (ubz_ HB.out)) : w.heap.size ≤ gb436)); replace HB := Az_ (btz_ (ubz_ HB.out) hb); clear hb hbox hg) | ((with_reducible refine gate_callee (f := 171) rfl ?_); refine goesL_ (some 8) rfl rfl Tryz.func171 (w110_) rfl #[.string a0, .int .u8 45] rfl maz_ ?_; (with_reducible refine (spec_l1Split.calls k a0 45 t437 _ A2.out).mono ?_); rintro e w5 ⟨v438, rfl, ho0, hb⟩; refine ⟨_, rfl, ?_⟩; have n0_ := Az_ (Kd.R_lower ho0 (below_size (w40_))); have n2_ := Az_ (btz_ (w40_) hb); clear HB; have HO439 := n0_; replace BK436 := Az_ (ukbz_ BK436.out hb); have HB := n2_; clear n0_ n2_; (try clear hb); (try clear ho0)))
 (try simp only [Act.put, List.setIfInBounds_toArray, List.set_cons_zero, List.set_cons_succ])
 go_cut [16] (fun v16 wc => ∃ (kq : Nat) (x16_2 : Bool), v16 = .bool x16_2 ∧ Aside0 (j0 kq a0 t437 x16_2 = some (r1, r2, r3)) ∧ Aside0 (kq ≤ k) ∧ Aside0 (Kd.R Kd.string 9 wc w.heap.size (fun _ => True) v438 t437) ∧ Aside0 (wc.heap[gb436]? = some (.cells #[.int .i64 0, .int .i64 0] 69 (0, 0))) ∧ Aside0 (Below w.heap.size w wc))
 case first =>
  have H := HC3.out
  clear HC3
  by_cases c6 : (a0.size : Int) > 9
  ·rw [if_pos c6] at H
   have c6b0 := decide_eq_true c6
   have c6b1 : decide (9 < a0.size) = true := decide_eq_true (by omega)
   clear c6
   (first | rw [c6b0] | (simp only [i64_w, i32_w]; rw [c6b0]) | skip)
   have H' := Az_ H
   clear H
   go_wp2
   go_meet
   case rel => exact ⟨_, (true), qaz_, H', ⟨w81_⟩, ⟨by (with_reducible repeat (first | apply raz_ | apply rnz_ | apply rdz_)); exact HO439.out⟩, ⟨by (with_reducible repeat (first | refine knz_ ?_ _ | refine kdz_ ?_ | refine kaz_ ?_ _)); exact BK436.out⟩, ⟨w40_⟩⟩
  ·rw [if_neg c6] at H
   have c6b0 := decide_eq_false c6
   have c6b1 : decide (9 < a0.size) = false := decide_eq_false (by omega)
   clear c6
   (first | rw [c6b0] | (simp only [i64_w, i32_w]; rw [c6b0]) | skip)
   have H' := Az_ H
   clear H
   obtain ⟨Ao7, co7, eo7⟩ := Kd.R_slice HO439.out
   subst eo7
   go_wp2
   go_meet
   case rel => exact ⟨_, (decide ((t437.length : Int) > 2)), qaz_, H', ⟨w81_⟩, ⟨by (with_reducible repeat (first | apply raz_ | apply rnz_ | apply rdz_)); exact HO439.out⟩, ⟨by (with_reducible repeat (first | refine knz_ ?_ _ | refine kdz_ ?_ | refine kaz_ ?_ _)); exact BK436.out⟩, ⟨w40_⟩⟩
 case rest =>
  clear HC3
  obtain ⟨kq, x16_2, rfl, HA, HJ2, HO_4, BK436, HB⟩ := hcut
  cases kq with
  | zero => exact absurd HA.out (by simp [j0])
  | succ kj2 =>
   have H := HA.out
   clear HA
   simp only [j0] at H
   by_cases c8 : x16_2 = true
   ·subst c8
    rw [if_pos rfl] at H
    simp only [Option.some.injEq, Prod.mk.injEq] at H
    obtain ⟨rfl, rfl, rfl⟩ := H
    have hcz9_0 : wc.cell? ⟨gb436, 0, none⟩ = some (.int .i64 0) := (blk_cell BK436.out 0).trans rfl
    have hcz9_1 : wc.cell? ⟨gb436, 1, none⟩ = some (.int .i64 0) := (blk_cell BK436.out 1).trans rfl
    have hfz9_0 := blk_frozen BK436.out 0
    have hfz9_1 := blk_frozen BK436.out 1
    go_wp2
    refine bodyPost_ret (results_ct rfl _ _ gb436 69 #[.int .i64 0, .int .i64 0] (0, 0) _ rfl (w19_) Tryz.underlying69 rfl (w110_)) rfl ?_
    exact ⟨w61_, w40_⟩
   ·replace c8 := Bool.eq_false_iff.mpr c8
    subst c8
    rw [if_neg nfz_] at H
    by_cases c10 : 0 < (t437.length : Int)
    ·rw [if_pos c10] at H
     have c10b0 := decide_eq_true c10
     have c10b1 : decide (0 < t437.length) = true := decide_eq_true (by omega)
     clear c10
     replace H := bqz_ H; obtain ⟨t441, A11, H⟩ := H
     replace H := bqz_ H; obtain ⟨t443, A12, H⟩ := H
     replace H : (if (t437.length : Int) = 2 then (if 1 < (t437.length : Int) then (if ((rdOf ByteArray.empty t437 1).size : Int) < ((rdOf ByteArray.empty t437 0).size : Int) then (if 0 ≤ (wrap64 (((rdOf ByteArray.empty t437 0).size : Int) - ((rdOf ByteArray.empty t437 1).size : Int))) then (if (wrap64 (((rdOf ByteArray.empty t437 0).size : Int) - ((rdOf ByteArray.empty t437 1).size : Int))) ≤ ((rdOf ByteArray.empty t437 0).size : Int) then (if ((rdOf ByteArray.empty t437 0).extract 0 ((wrap64 (((rdOf ByteArray.empty t437 0).size : Int) - ((rdOf ByteArray.empty t437 1).size : Int))) : Int).toNat).size + (rdOf ByteArray.empty t437 1).size ≤ 9223372036854775807 then ((spec_l1Read.f kj2 (((rdOf ByteArray.empty t437 0).extract 0 ((wrap64 (((rdOf ByteArray.empty t437 0).size : Int) - ((rdOf ByteArray.empty t437 1).size : Int))) : Int).toNat) ++ (rdOf ByteArray.empty t437 1))).bind fun t449 => (j1 kj2 a0 t441 t449)) else (none)) else (none)) else (none)) else ((spec_l1Read.f kj2 (rdOf ByteArray.empty t437 1)).bind fun t450 => (j1 kj2 a0 t441 t450))) else (none)) else (j1 kj2 a0 t441 t443)) = some (r1, r2, r3) := H
     have HC13 := Az_ H
     clear H
     try go_wp2
     have n0_ := Az_ (rdz_ HO_4.out)
     have n1_ := Az_ (kdz_ BK436.out)
     have n2_ := Az_ (bdz_ HB.out)
     clear HO_4 BK436 HB
     have HO_4 := n0_
     have BK436 := n1_
     have HB := n2_
     clear n0_ n1_ n2_
     obtain ⟨Ao15, co15, eo15⟩ := Kd.R_slice HO_4.out
     (first | subst eo15 | (injection eo15 with f1_ f2_ f3_; have f4_ := f1_.symm; have f5_ := f3_.symm; clear f1_ f2_ f3_; subst f4_; subst f5_))
     have p440 : 0 ≤ (0 : Int) := (by omega)
     have q440 : 0 < (t437.length : Int) := of_decide_eq_true asz_
     obtain ⟨ad440, e440, hx440_0⟩ := Kd.at_string (Kd.R_reads' HO_4.out).2.2 0 p440 q440
     cases e440
     have qi440 : (0 < t437.length) = True := eq_true (by omega)
     (try rw [show ((0 : Int)).toNat = 0 from rfl] at hx440_0)
     (try rw [Addr.add_zero'] at hx440_0)
     replace p440 := eq_true p440
     replace q440 := eq_true q440
     have p442 : 0 ≤ (0 : Int) := (by omega)
     have q442 : 0 < (t437.length : Int) := of_decide_eq_true asz_
     obtain ⟨ad442, e442, hx442_0⟩ := Kd.at_string (Kd.R_reads' HO_4.out).2.2 0 p442 q442
     obtain rfl : ad440 = ad442 := (by injection e442)
     have qi442 : (0 < t437.length) = True := eq_true (by omega)
     (try rw [show ((0 : Int)).toNat = 0 from rfl] at hx442_0)
     (try rw [Addr.add_zero'] at hx442_0)
     replace p442 := eq_true p442
     replace q442 := eq_true q442
     refine start_ (n := 11) (S := fun w' => w'.cell? ad440 = some (.string (rdOf ByteArray.empty t437 0)) ∧ w'.cell? ad440 = some (.string (rdOf ByteArray.empty t437 0))) (ds := []) #[false, false, false, false, false, false, false, false, false, false, false] (w110_) rfl rfl ⟨hx440_0, hx442_0⟩ (fun hHeld => ?_); refine with_tabW spec_ixLong.tab4 spec_ixLong.bits4 (fun HT_ HW_ => ?_)
     generalize wc.drew = w14 at HO_4 BK436 HB hx440_0 hx442_0 hHeld ⊢
     refine pure_ (i := 0) (N := some 18) (v := ?_) (a' := ?_) (mz_ [1,10]) rfl rfl (any_of HT_.out (w110_)) (fun _ _ _ h => h) (Or.inl ⟨by rfl, ?_⟩) ?_ ?_
     rotate_left
     ·intro w'
      go_simp
      with_reducible rfl
     rotate_left
     ·simp only [Act.put, usz_, utz_, uvz_, i64_w, i32_w]
      rfl
     refine pure_ (i := 1) (N := some 19) (v := ?_) (a' := ?_) (mz_ [2,9]) rfl rfl (any_of HT_.out (w110_)) (fun _ _ _ h => h) (Or.inl ⟨by rfl, ?_⟩) ?_ ?_
     rotate_left
     ·intro w'
      go_simp
      with_reducible rfl
     rotate_left
     ·simp only [Act.put, usz_, utz_, uvz_, i64_w, i32_w]
      rfl
     refine pure_ (i := 4) (N := some 22) (v := ?_) (a' := ?_) (mz_ [2,2,1,6]) rfl rfl (any_of HT_.out (w110_)) (fun _ _ _ h => h) (Or.inl ⟨by rfl, ?_⟩) ?_ ?_
     rotate_left
     ·intro w'
      go_simp
      with_reducible rfl
     rotate_left
     ·simp only [Act.put, usz_, utz_, uvz_, i64_w, i32_w]
      rfl
     refine pure_ (i := 5) (N := some 23) (v := ?_) (a' := ?_) (mz_ [2,2,2,5]) rfl rfl (any_of HT_.out (w110_)) (fun _ _ _ h => h) (Or.inl ⟨by rfl, ?_⟩) ?_ ?_
     rotate_left
     ·intro w'
      go_simp
      with_reducible rfl
     rotate_left
     ·simp only [Act.put, usz_, utz_, uvz_, i64_w, i32_w]
      rfl
     refine take_ (i := 2) (N := some 20) (v := ?_) (a' := ?_) (mz_ [3,1,2,5]) rfl rfl (take_ofW HT_.out HW_.out (w110_)) (fun _ _ _ h => h) (Or.inl ⟨by rfl, ?_⟩) hHeld ?_ ?_
     rotate_left
     ·rintro w' ⟨s0, s1⟩
      go_simp
      with_reducible rfl
     rotate_left
     ·simp only [Act.put, usz_, utz_, uvz_, i64_w, i32_w]
      rfl
     refine take_ (i := 6) (N := some 24) (v := ?_) (a' := ?_) (mz_ [3,1,3,4]) rfl rfl (take_ofW HT_.out HW_.out (w110_)) (fun _ _ _ h => h) (Or.inl ⟨by rfl, ?_⟩) hHeld ?_ ?_
     rotate_left
     ·rintro w' ⟨s0, s1⟩
      go_simp
      with_reducible rfl
     rotate_left
     ·simp only [Act.put, usz_, utz_, uvz_, i64_w, i32_w]
      rfl
     refine join_ (σ := Nat) 1 #[true, true, true, true, true, true, true, true, true, true, false] (fun s_ => [(21, .int .i64 t441), (25, .int .i64 t443), (5, .pointer (some ⟨s_, 0, none⟩)), (26, .agg #[.int .i64 t441, .int .i64 t443])]) (fun s_ w' => (w'.cell? ad440 = some (.string (rdOf ByteArray.empty t437 0)) ∧ w'.cell? ad440 = some (.string (rdOf ByteArray.empty t437 0))) ∧ (Kd.R Kd.string 9 w' w.heap.size (fun _ => True) (.slice (some ad440) t437.length co15) t437) ∧ (w'.heap[gb436]? = some (.cells #[.int .i64 0, .int .i64 0] 69 (0, 0))) ∧ (w'.heap[s_]? = some (.cells #[.int .i64 0, .int .i64 0] 69 (0, 0))) ∧ (w.heap.size ≤ s_) ∧ (w.heap.size ≤ s_) ∧ (gb436 ≠ s_) ∧ (s_ ≠ gb436) ∧ (Below w.heap.size w w')) ?_ ?_
     rotate_left
     ·intro hCont
      refine two_ (i := 3) (j := 9) (Ni := some 21) (Nj := some 5) (mz_ [7,4]) #[true, true, true, false, true, true, true, false, false, true, false] rfl rfl rfl rfl (two_of HT_.out (w110_)) (by decide) (by decide) (fun K hK => ?_) (fun K hK => ?_)
      ·skip
       refine goes_ Tryz.func172 (w110_) rfl #[.string (rdOf ByteArray.empty t437 0)] (by rfl) rfl rfl maz_ ?_
       with_reducible refine (spec_l1Read.calls kj2 (rdOf ByteArray.empty t437 0) t441 _ A11.out).mono ?_
       rintro e w' ⟨rfl, ⟨nd, rfl⟩⟩
       refine ⟨_, rfl, ?_⟩
       refine hK.out _ _ ⟨hHeld.1, hHeld.2⟩ (fun hHeld => ?_)
       clear hK K
       refine norm_ (a' := ?_) ?_ ?_
       rotate_left
       ·show Act.put _ (some 21) _ = _
        simp only [Act.put, usz_, utz_, uvz_, i64_w, i32_w]
        rfl
       refine two_ (i := 7) (j := 9) (Ni := some 25) (Nj := some 5) (mz_ [8,3]) #[true, true, true, true, true, true, true, false, false, true, false] rfl rfl rfl rfl (two_of HT_.out (w110_)) (by decide) (by decide) (fun K hK => ?_) (fun K hK => ?_)
       ·skip
        refine goes_ Tryz.func172 (w110_) rfl #[.string (rdOf ByteArray.empty t437 0)] (by rfl) rfl rfl maz_ ?_
        with_reducible refine (spec_l1Read.calls kj2 (rdOf ByteArray.empty t437 0) t443 _ A12.out).mono ?_
        rintro e w' ⟨rfl, ⟨nd, rfl⟩⟩
        refine ⟨_, rfl, ?_⟩
        refine hK.out _ _ ⟨hHeld.1, hHeld.2⟩ (fun hHeld => ?_)
        clear hK K
        refine norm_ (a' := ?_) ?_ ?_
        rotate_left
        ·show Act.put _ (some 25) _ = _
         simp only [Act.put, usz_, utz_, uvz_, i64_w, i32_w]
         rfl
        refine pure_ (i := 8) (N := some 26) (v := ?_) (a' := ?_) (mz_ [9,2]) rfl rfl (any_of HT_.out (w110_)) (fun _ _ _ h => h) (Or.inl ⟨by rfl, ?_⟩) ?_ ?_
        rotate_left
        ·intro w'
         go_simp
         with_reducible rfl
        rotate_left
        ·simp only [Act.put, usz_, utz_, uvz_, i64_w, i32_w]
         rfl
        refine one_ (i := 9) (N := some 5) (mz_ [10,1]) rfl rfl (one_of HT_.out (w110_)) (by decide) (fun K hK => ?_)
        refine box_step ?hg (N := 5) ?hd (cs := #[.int .i64 0, .int .i64 0]) (t := 69) ?hr ?_; (case hd => rfl); (case hg => rfl); (case hr => first | (go_simp; done) | (go_simp; rfl))
        intro gb444 hg w16 hbox hb
        have HS0_ := (hb.cell (World.block_lt_of_cell? _ _ (hHeld.1))).trans (hHeld.1)
        have HS1_ := (hb.cell (World.block_lt_of_cell? _ _ (hHeld.2))).trans (hHeld.2)
        have n0_ := Az_ (Kd.R_below (w105_) hb)
        have n2_ := Az_ (btz_ (w40_) hb)
        have n3_ := Az_ (hbox)
        have n4_ := Az_ ((by rw [hg]; exact (below_size (w40_)) : w.heap.size ≤ gb444))
        have n5_ := Az_ ((by rw [hg]; exact (below_size (w40_)) : w.heap.size ≤ gb444))
        have n6_ := Az_ ((by rw [hg]; exact Nat.ne_of_lt (uklz_ BK436.out) : gb436 ≠ gb444))
        have n7_ := Az_ ((by rw [hg]; exact Nat.ne_of_gt (uklz_ BK436.out) : gb444 ≠ gb436))
        clear HO_4 HB
        have HO_4 := n0_
        replace BK436 := Az_ (ukbz_ BK436.out hb)
        have HB := n2_
        have BK444 := n3_
        have GW444 := n4_
        have GE444 := n5_
        have NB436_444 := n6_
        have NB444_436 := n7_
        clear n0_ n2_ n3_ n4_ n5_ n6_ n7_ hb hbox hg
        refine hK.out _ _ ⟨HS0_, HS1_⟩ (fun hHeld => ?_)
        clear hK K
        refine norm_ (a' := ?_) ?_ ?_
        rotate_left
        ·show Act.put _ (some 5) _ = _
         simp only [Act.put, usz_, utz_, uvz_, i64_w, i32_w]
         rfl
        exact norm_ (w60_) (hCont (gb444) _ ⟨hHeld, (w105_), (by exact ukz_ BK436.out), (by exact ukz_ BK444.out), GW444.out, GE444.out, NB436_444.out, NB444_436.out, (w40_)⟩)
       ·skip
        refine box_step ?hg (N := 5) ?hd (cs := #[.int .i64 0, .int .i64 0]) (t := 69) ?hr ?_; (case hd => rfl); (case hg => rfl); (case hr => first | (go_simp; done) | (go_simp; rfl))
        intro gb444 hg w16 hbox hb
        have HS0_ := (hb.cell (World.block_lt_of_cell? _ _ (hHeld.1))).trans (hHeld.1)
        have HS1_ := (hb.cell (World.block_lt_of_cell? _ _ (hHeld.2))).trans (hHeld.2)
        have n0_ := Az_ (Kd.R_below (w105_) hb)
        have n2_ := Az_ (btz_ (w40_) hb)
        have n3_ := Az_ (hbox)
        have n4_ := Az_ ((by rw [hg]; exact (below_size (w40_)) : w.heap.size ≤ gb444))
        have n5_ := Az_ ((by rw [hg]; exact (below_size (w40_)) : w.heap.size ≤ gb444))
        have n6_ := Az_ ((by rw [hg]; exact Nat.ne_of_lt (uklz_ BK436.out) : gb436 ≠ gb444))
        have n7_ := Az_ ((by rw [hg]; exact Nat.ne_of_gt (uklz_ BK436.out) : gb444 ≠ gb436))
        clear HO_4 HB
        have HO_4 := n0_
        replace BK436 := Az_ (ukbz_ BK436.out hb)
        have HB := n2_
        have BK444 := n3_
        have GW444 := n4_
        have GE444 := n5_
        have NB436_444 := n6_
        have NB444_436 := n7_
        clear n0_ n2_ n3_ n4_ n5_ n6_ n7_ hb hbox hg
        refine hK.out _ _ ⟨HS0_, HS1_⟩ (fun hHeld => ?_)
        clear hK K
        refine norm_ (a' := ?_) ?_ ?_
        rotate_left
        ·show Act.put _ (some 5) _ = _
         simp only [Act.put, usz_, utz_, uvz_, i64_w, i32_w]
         rfl
        refine one_ (i := 7) (N := some 25) (mz_ [8,1,1,1]) rfl rfl (one_of HT_.out (w110_)) (by decide) (fun K hK => ?_)
        refine goes_ Tryz.func172 (w110_) rfl #[.string (rdOf ByteArray.empty t437 0)] (by rfl) rfl rfl maz_ ?_
        with_reducible refine (spec_l1Read.calls kj2 (rdOf ByteArray.empty t437 0) t443 _ A12.out).mono ?_
        rintro e w' ⟨rfl, ⟨nd, rfl⟩⟩
        refine ⟨_, rfl, ?_⟩
        refine hK.out _ _ ⟨hHeld.1, hHeld.2⟩ (fun hHeld => ?_)
        clear hK K
        refine norm_ (a' := ?_) ?_ ?_
        rotate_left
        ·show Act.put _ (some 25) _ = _
         simp only [Act.put, usz_, utz_, uvz_, i64_w, i32_w]
         rfl
        refine pure_ (i := 8) (N := some 26) (v := ?_) (a' := ?_) (mz_ [10,1]) rfl rfl (any_of HT_.out (w110_)) (fun _ _ _ h => h) (Or.inl ⟨by rfl, ?_⟩) ?_ ?_
        rotate_left
        ·intro w'
         go_simp
         with_reducible rfl
        rotate_left
        ·simp only [Act.put, usz_, utz_, uvz_, i64_w, i32_w]
         rfl
        exact norm_ (w60_) (hCont (gb444) _ ⟨hHeld, (w105_), (by exact ukz_ BK436.out), (by exact ukz_ BK444.out), GW444.out, GE444.out, NB436_444.out, NB444_436.out, (w40_)⟩)
      ·skip
       refine box_step ?hg (N := 5) ?hd (cs := #[.int .i64 0, .int .i64 0]) (t := 69) ?hr ?_; (case hd => rfl); (case hg => rfl); (case hr => first | (go_simp; done) | (go_simp; rfl))
       intro gb444 hg w16 hbox hb
       have HS0_ := (hb.cell (World.block_lt_of_cell? _ _ (hHeld.1))).trans (hHeld.1)
       have HS1_ := (hb.cell (World.block_lt_of_cell? _ _ (hHeld.2))).trans (hHeld.2)
       have n0_ := Az_ (Kd.R_below (w105_) hb)
       have n2_ := Az_ (btz_ (w40_) hb)
       have n3_ := Az_ (hbox)
       have n4_ := Az_ ((by rw [hg]; exact (below_size (w40_)) : w.heap.size ≤ gb444))
       have n5_ := Az_ ((by rw [hg]; exact (below_size (w40_)) : w.heap.size ≤ gb444))
       have n6_ := Az_ ((by rw [hg]; exact Nat.ne_of_lt (uklz_ BK436.out) : gb436 ≠ gb444))
       have n7_ := Az_ ((by rw [hg]; exact Nat.ne_of_gt (uklz_ BK436.out) : gb444 ≠ gb436))
       clear HO_4 HB
       have HO_4 := n0_
       replace BK436 := Az_ (ukbz_ BK436.out hb)
       have HB := n2_
       have BK444 := n3_
       have GW444 := n4_
       have GE444 := n5_
       have NB436_444 := n6_
       have NB444_436 := n7_
       clear n0_ n2_ n3_ n4_ n5_ n6_ n7_ hb hbox hg
       refine hK.out _ _ ⟨HS0_, HS1_⟩ (fun hHeld => ?_)
       clear hK K
       refine norm_ (a' := ?_) ?_ ?_
       rotate_left
       ·show Act.put _ (some 5) _ = _
        simp only [Act.put, usz_, utz_, uvz_, i64_w, i32_w]
        rfl
       refine one_ (i := 3) (N := some 21) (mz_ [7,2,1,1]) rfl rfl (one_of HT_.out (w110_)) (by decide) (fun K hK => ?_)
       refine goes_ Tryz.func172 (w110_) rfl #[.string (rdOf ByteArray.empty t437 0)] (by rfl) rfl rfl maz_ ?_
       with_reducible refine (spec_l1Read.calls kj2 (rdOf ByteArray.empty t437 0) t441 _ A11.out).mono ?_
       rintro e w' ⟨rfl, ⟨nd, rfl⟩⟩
       refine ⟨_, rfl, ?_⟩
       refine hK.out _ _ ⟨hHeld.1, hHeld.2⟩ (fun hHeld => ?_)
       clear hK K
       refine norm_ (a' := ?_) ?_ ?_
       rotate_left
       ·show Act.put _ (some 21) _ = _
        simp only [Act.put, usz_, utz_, uvz_, i64_w, i32_w]
        rfl
       refine one_ (i := 7) (N := some 25) (mz_ [8,1,1,1]) rfl rfl (one_of HT_.out (w110_)) (by decide) (fun K hK => ?_)
       refine goes_ Tryz.func172 (w110_) rfl #[.string (rdOf ByteArray.empty t437 0)] (by rfl) rfl rfl maz_ ?_
       with_reducible refine (spec_l1Read.calls kj2 (rdOf ByteArray.empty t437 0) t443 _ A12.out).mono ?_
       rintro e w' ⟨rfl, ⟨nd, rfl⟩⟩
       refine ⟨_, rfl, ?_⟩
       refine hK.out _ _ ⟨hHeld.1, hHeld.2⟩ (fun hHeld => ?_)
       clear hK K
       refine norm_ (a' := ?_) ?_ ?_
       rotate_left
       ·show Act.put _ (some 25) _ = _
        simp only [Act.put, usz_, utz_, uvz_, i64_w, i32_w]
        rfl
       refine pure_ (i := 8) (N := some 26) (v := ?_) (a' := ?_) (mz_ [10,1]) rfl rfl (any_of HT_.out (w110_)) (fun _ _ _ h => h) (Or.inl ⟨by rfl, ?_⟩) ?_ ?_
       rotate_left
       ·intro w'
        go_simp
        with_reducible rfl
       rotate_left
       ·simp only [Act.put, usz_, utz_, uvz_, i64_w, i32_w]
        rfl
       exact norm_ (w60_) (hCont (gb444) _ ⟨hHeld, (w105_), (by exact ukz_ BK436.out), (by exact ukz_ BK444.out), GW444.out, GE444.out, NB436_444.out, NB444_436.out, (w40_)⟩)
     rintro gb444 w17 ⟨hS_, h0_, h1_, h2_, h3_, h4_, h5_, h6_, h7_⟩
     have n0_ : Aside0 (Kd.R Kd.string 9 w17 w.heap.size (fun _ => True) (.slice (some ad440) t437.length co15) t437) := ⟨h0_⟩
     have n1_ : Aside0 (w17.heap[gb436]? = some (.cells #[.int .i64 0, .int .i64 0] 69 (0, 0))) := ⟨h1_⟩
     have n2_ : Aside0 (w17.heap[gb444]? = some (.cells #[.int .i64 0, .int .i64 0] 69 (0, 0))) := ⟨h2_⟩
     have n3_ : Aside0 (w.heap.size ≤ gb444) := ⟨h3_⟩
     have n4_ : Aside0 (w.heap.size ≤ gb444) := ⟨h4_⟩
     have n5_ : Aside0 (gb436 ≠ gb444) := ⟨h5_⟩
     have n6_ : Aside0 (gb444 ≠ gb436) := ⟨h6_⟩
     have n7_ : Aside0 (Below w.heap.size w w17) := ⟨h7_⟩
     clear HO_4 BK436 HB h0_ h1_ h2_ h3_ h4_ h5_ h6_ h7_
     have HO_4 := n0_
     have BK436 := n1_
     have BK444 := n2_
     have GW444 := n3_
     have GE444 := n4_
     have NB436_444 := n5_
     have NB444_436 := n6_
     have HB := n7_
     clear n0_ n1_ n2_ n3_ n4_ n5_ n6_ n7_
     have hHeld : w17.cell? ad440 = some (.string (rdOf ByteArray.empty t437 0)) ∧ w17.cell? ad440 = some (.string (rdOf ByteArray.empty t437 0)) := hS_
     refine norm_ (a' := ?_) ?_ ?_
     rotate_left
     ·simp only [putAll, Act.put, List.setIfInBounds_toArray, List.set_cons_zero, List.set_cons_succ]
      rfl
     refine one_ (i := 10) (N := none) (mz_ [11]) rfl rfl (one_of HT_.out (w110_)) (by decide) (fun K hK => ?_)
     have hs18 : w17.cell? ⟨gb444, 0, none⟩ = some (.int .i64 0) := (blk_cell BK444.out 0).trans rfl
     have hfs18 := blk_frozen BK444.out 0
     have hns18_0 := NB436_444.out
     have hms18_0 := NB444_436.out
     have hs19 : w17.cell? ⟨gb444, 1, none⟩ = some (.int .i64 0) := (blk_cell BK444.out 1).trans rfl
     have hfs19 := blk_frozen BK444.out 1
     have hns19_0 := NB436_444.out
     have hms19_0 := NB444_436.out
     refine skip_ (w1 := ?_) (by rfl) rfl ?_ ?_
     rotate_left
     ·go_simp
      rfl
     refine hK.out _ _ ⟨((cell_far (p := ⟨gb444, _, none⟩) (w2_) _).trans (((cell_far (p := ⟨gb444, _, none⟩) (w2_) _).trans (hHeld.1)))), ((cell_far (p := ⟨gb444, _, none⟩) (w2_) _).trans (((cell_far (p := ⟨gb444, _, none⟩) (w2_) _).trans (hHeld.2))))⟩ (fun hHeld => ?_)
     clear hK K
     refine done_ (done_of HT_.out (w110_)) ?_
     go_upto_if 29 with (fail)
     go_cut [] (fun wc => ∃ (kq : Nat) (x445001_12 : Int), Aside0 (j1 kq a0 t441 x445001_12 = some (r1, r2, r3)) ∧ Aside0 (kq ≤ kj2) ∧ Aside0 (wc.heap[gb436]? = some (.cells #[.int .i64 0, .int .i64 0] 69 (0, 0))) ∧ Aside0 (wc.heap[gb444]? = some (.cells #[.int .i64 t441, .int .i64 x445001_12] 69 (0, 0))) ∧ Aside0 (Below w.heap.size w wc))
     case first =>
      have H := HC13.out
      clear HC13
      by_cases c20 : (t437.length : Int) = 2
      ·rw [if_pos c20] at H
       have c20b0 : ((t437.length : Int) == 2) = true := beq_iff_eq.mpr c20
       have c20b1 : ((t437.length : Int) != 2) = false := bne_eq_false_iff_eq.mpr c20
       clear c20
       (first | rw [c20b0] | (simp only [i64_w, i32_w]; rw [c20b0]) | skip)
       by_cases c21 : 1 < (t437.length : Int)
       ·rw [if_pos c21] at H
        have c21b0 := decide_eq_true c21
        have c21b1 : decide (1 < t437.length) = true := decide_eq_true (by omega)
        clear c21
        by_cases c22 : ((rdOf ByteArray.empty t437 1).size : Int) < ((rdOf ByteArray.empty t437 0).size : Int)
        ·rw [if_pos c22] at H
         have c22b0 := decide_eq_true c22
         have c22b1 : decide ((rdOf ByteArray.empty t437 1).size < (rdOf ByteArray.empty t437 0).size) = true := decide_eq_true (Int.ofNat_lt.mp c22)
         clear c22
         obtain ⟨ji23, hji23⟩ : ∃ j_ : Int, (wrap64 (((rdOf ByteArray.empty t437 0).size : Int) - ((rdOf ByteArray.empty t437 1).size : Int))) = j_ := ⟨_, rfl⟩
         replace H : (if 0 ≤ (ji23) then (if (ji23) ≤ ((rdOf ByteArray.empty t437 0).size : Int) then (if ((rdOf ByteArray.empty t437 0).extract 0 ((ji23) : Int).toNat).size + (rdOf ByteArray.empty t437 1).size ≤ 9223372036854775807 then ((spec_l1Read.f kj2 (((rdOf ByteArray.empty t437 0).extract 0 ((ji23) : Int).toNat) ++ (rdOf ByteArray.empty t437 1))).bind fun t449 => (j1 kj2 a0 t441 t449)) else (none)) else (none)) else (none)) = some (r1, r2, r3) := by first | (rw [hji23] at H; exact H) | (simp only [hji23] at H ⊢; exact H)
         have hji23w : (IntKind.i64.wrap (((rdOf ByteArray.empty t437 0).size : Int) - ((rdOf ByteArray.empty t437 1).size : Int))) = ji23 := (i64_w _).trans hji23
         by_cases c24 : 0 ≤ (ji23)
         ·rw [if_pos c24] at H
          have c24b0 := eq_true c24
          have c24b1 := decide_eq_true c24
          clear c24
          by_cases c25 : (ji23) ≤ ((rdOf ByteArray.empty t437 0).size : Int)
          ·rw [if_pos c25] at H
           have c25b0 := eq_true c25
           have c25b1 := decide_eq_true c25
           clear c25
           by_cases c26 : ((rdOf ByteArray.empty t437 0).extract 0 ((ji23) : Int).toNat).size + (rdOf ByteArray.empty t437 1).size ≤ 9223372036854775807
           ·rw [if_pos c26] at H
            have c26b0 := eq_true c26
            have c26b1 := decide_eq_true c26
            try have c26b2 : (9223372036854775807 < ((rdOf ByteArray.empty t437 0).extract 0 ((ji23) : Int).toNat).size + (rdOf ByteArray.empty t437 1).size) = False := eq_false (Nat.not_lt.2 c26)
            try have c26b3 : (9223372036854775807 < ji23.toNat + (rdOf ByteArray.empty t437 1).size) = False := by (have h_ := c26; rw [ByteArray.size_extract, Nat.sub_zero, Nat.min_eq_left (by have g_ : ji23 ≤ ((rdOf ByteArray.empty t437 0).size : Int) := of_decide_eq_true (by assumption); omega)] at h_; exact eq_false (Nat.not_lt.2 h_))
            replace H := bqz_ H; obtain ⟨t449, A27, H⟩ := H
            replace H : (j1 kj2 a0 t441 t449) = some (r1, r2, r3) := H
            have H' := Az_ H
            clear H
            have p445 : 0 ≤ (1 : Int) := (by omega)
            have q445 : 1 < (t437.length : Int) := of_decide_eq_true asz_
            obtain ⟨ad445, e445, hx445_0⟩ := Kd.at_string (Kd.R_reads' HO_4.out).2.2 1 p445 q445
            obtain rfl : ad440 = ad445 := (by injection e445)
            (try simp only [show (1 : Int).toNat = 1 from rfl, Nat.reduceMul, Nat.reduceEqDiff, Go.Addr.add, ↓reduceIte] at hx445_0)
            have qi445 : (1 < t437.length) = True := eq_true (by omega)
            (try rw [show ((1 : Int)).toNat = 1 from rfl] at hx445_0)
            have hn445_0 : ad440.block ≠ gb444 := (w50_)
            have hn445_1 : ad440.block ≠ gb444 := (w50_)
            replace hx445_0 := (cell_far (p := ⟨gb444, 0, none⟩) (w51_) (.int .i64 t441)).trans hx445_0
            replace hx445_0 := (cell_far (p := ⟨gb444, 1, none⟩) (w52_) (.int .i64 t443)).trans hx445_0
            clear hn445_0 hn445_1
            replace p445 := eq_true p445
            replace q445 := eq_true q445
            have p446 : 0 ≤ (0 : Int) := (by omega)
            have q446 : 0 < (t437.length : Int) := of_decide_eq_true asz_
            obtain ⟨ad446, e446, hx446_0⟩ := Kd.at_string (Kd.R_reads' HO_4.out).2.2 0 p446 q446
            obtain rfl : ad440 = ad446 := (by injection e446)
            have qi446 : (0 < t437.length) = True := eq_true (by omega)
            (try rw [show ((0 : Int)).toNat = 0 from rfl] at hx446_0)
            (try rw [Addr.add_zero'] at hx446_0)
            have hn446_0 : ad440.block ≠ gb444 := (w50_)
            have hn446_1 : ad440.block ≠ gb444 := (w50_)
            replace hx446_0 := (cell_far (p := ⟨gb444, 0, none⟩) (w53_) (.int .i64 t441)).trans hx446_0
            replace hx446_0 := (cell_far (p := ⟨gb444, 1, none⟩) (w54_) (.int .i64 t443)).trans hx446_0
            clear hn446_0 hn446_1
            replace p446 := eq_true p446
            replace q446 := eq_true q446
            try go_wp2
            have n0_ : Aside0 (Kd.R Kd.string 9 ((w17.setCell ⟨gb444, 0, none⟩ (.int .i64 t441)).setCell ⟨gb444, 1, none⟩ (.int .i64 t443)) w.heap.size (fun _ => True) (.slice (some ad440) t437.length co15) t437) := ⟨by (with_reducible repeat (first | apply raz_ | apply rnz_ | apply rdz_)); exact Kd.R_mono (Kd.R_far (p := ⟨gb444, 1, none⟩) (Kd.R_far (p := ⟨gb444, 0, none⟩) (Kd.R_types HO_4.out BK444.out (by decide)) (fun _ hk => hk.2) (.int .i64 t441)) (fun _ hk => hk.2) (.int .i64 t443)) (fun _ hk => trivial)⟩
            have n1_ : Aside0 (((w17.setCell ⟨gb444, 0, none⟩ (.int .i64 t441)).setCell ⟨gb444, 1, none⟩ (.int .i64 t443)).heap[gb436]? = some (.cells #[.int .i64 0, .int .i64 0] 69 (0, 0))) := ⟨w21_⟩
            have n2_ : Aside0 (((w17.setCell ⟨gb444, 0, none⟩ (.int .i64 t441)).setCell ⟨gb444, 1, none⟩ (.int .i64 t443)).heap[gb444]? = some (.cells #[.int .i64 t441, .int .i64 t443] 69 (0, 0))) := ⟨w16_⟩
            have n3_ : Aside0 (Below w.heap.size w ((w17.setCell ⟨gb444, 0, none⟩ (.int .i64 t441)).setCell ⟨gb444, 1, none⟩ (.int .i64 t443))) := ⟨w40_⟩
            clear HO_4
            clear BK436
            clear BK444
            clear HB
            generalize ((w17.setCell ⟨gb444, 0, none⟩ (.int .i64 t441)).setCell ⟨gb444, 1, none⟩ (.int .i64 t443)) = w28 at n0_ n1_ n2_ n3_ ⊢
            have HO_4 := n0_
            have BK436 := n1_
            have BK444 := n2_
            have HB := n3_
            clear n0_ n1_ n2_ n3_
            have n0_ := Az_ (rdz_ HO_4.out)
            have n1_ := Az_ (kdz_ BK436.out)
            have n2_ := Az_ (kdz_ BK444.out)
            have n3_ := Az_ (bdz_ HB.out)
            clear HO_4 BK436 BK444 HB
            have HO_4 := n0_
            have BK436 := n1_
            have BK444 := n2_
            have HB := n3_
            clear n0_ n1_ n2_ n3_
            have p447 : 0 ≤ (0 : Int) := (by omega)
            have q447 : 0 < (t437.length : Int) := of_decide_eq_true asz_
            obtain ⟨ad447, e447, hx447_0⟩ := Kd.at_string (Kd.R_reads' HO_4.out).2.2 0 p447 q447
            obtain rfl : ad440 = ad447 := (by injection e447)
            have qi447 : (0 < t437.length) = True := eq_true (by omega)
            (try rw [show ((0 : Int)).toNat = 0 from rfl] at hx447_0)
            (try rw [Addr.add_zero'] at hx447_0)
            replace p447 := eq_true p447
            replace q447 := eq_true q447
            have p448 : 0 ≤ (0 : Int) := (by omega)
            have q448 : 0 < (t437.length : Int) := of_decide_eq_true asz_
            obtain ⟨ad448, e448, hx448_0⟩ := Kd.at_string (Kd.R_reads' HO_4.out).2.2 0 p448 q448
            obtain rfl : ad440 = ad448 := (by injection e448)
            have qi448 : (0 < t437.length) = True := eq_true (by omega)
            (try rw [show ((0 : Int)).toNat = 0 from rfl] at hx448_0)
            (try rw [Addr.add_zero'] at hx448_0)
            replace p448 := eq_true p448
            replace q448 := eq_true q448
            refine start_ (n := 14) (S := fun w' => w'.cell? ad440 = some (.string (rdOf ByteArray.empty t437 0)) ∧ w'.cell? ad440 = some (.string (rdOf ByteArray.empty t437 0))) (ds := []) #[false, false, false, false, false, false, false, false, false, false, false, false, false, false] (w110_) rfl rfl ⟨hx447_0, hx448_0⟩ (fun hHeld => ?_); refine with_tabW spec_ixLong.tab8 spec_ixLong.bits8 (fun HT_ HW_ => ?_)
            generalize w28.drew = w29 at HO_4 BK436 BK444 HB hx447_0 hx448_0 hHeld ⊢
            refine pure_ (i := 0) (N := some 40) (v := ?_) (a' := ?_) (mz_ [1,13]) rfl rfl (any_of HT_.out (w110_)) (fun _ _ _ h => h) (Or.inl ⟨by rfl, ?_⟩) ?_ ?_
            rotate_left
            ·intro w'
             go_simp
             with_reducible rfl
            rotate_left
            ·simp only [Act.put, usz_, utz_, uvz_, i64_w, i32_w]
             rfl
            refine pure_ (i := 1) (N := some 41) (v := ?_) (a' := ?_) (mz_ [2,12]) rfl rfl (any_of HT_.out (w110_)) (fun _ _ _ h => h) (Or.inl ⟨by rfl, ?_⟩) ?_ ?_
            rotate_left
            ·intro w'
             go_simp
             with_reducible rfl
            rotate_left
            ·simp only [Act.put, usz_, utz_, uvz_, i64_w, i32_w]
             rfl
            refine pure_ (i := 3) (N := some 43) (v := ?_) (a' := ?_) (mz_ [2,1,1,10]) rfl rfl (any_of HT_.out (w110_)) (fun _ _ _ h => h) (Or.inl ⟨by rfl, ?_⟩) ?_ ?_
            rotate_left
            ·intro w'
             go_simp
             with_reducible rfl
            rotate_left
            ·simp only [Act.put, usz_, utz_, uvz_, i64_w, i32_w]
             rfl
            refine pure_ (i := 4) (N := some 44) (v := ?_) (a' := ?_) (mz_ [2,1,2,9]) rfl rfl (any_of HT_.out (w110_)) (fun _ _ _ h => h) (Or.inl ⟨by rfl, ?_⟩) ?_ ?_
            rotate_left
            ·intro w'
             go_simp
             with_reducible rfl
            rotate_left
            ·simp only [Act.put, usz_, utz_, uvz_, i64_w, i32_w]
             rfl
            refine pure_ (i := 7) (N := some 47) (v := ?_) (a' := ?_) (mz_ [2,1,2,2,1,6]) rfl rfl (any_of HT_.out (w110_)) (fun _ _ _ h => h) (Or.inl ⟨by rfl, ?_⟩) ?_ ?_
            rotate_left
            ·intro w'
             go_simp
             with_reducible rfl
            rotate_left
            ·simp only [Act.put, usz_, utz_, uvz_, i64_w, i32_w]
             rfl
            refine pure_ (i := 8) (N := some 48) (v := ?_) (a' := ?_) (mz_ [2,1,2,2,2,5]) rfl rfl (any_of HT_.out (w110_)) (fun _ _ _ h => h) (Or.inl ⟨by rfl, ?_⟩) ?_ ?_
            rotate_left
            ·intro w'
             go_simp
             with_reducible rfl
            rotate_left
            ·simp only [Act.put, usz_, utz_, uvz_, i64_w, i32_w]
             rfl
            refine pure_ (i := 11) (N := some 51) (v := ?_) (a' := ?_) (mz_ [2,1,2,2,2,2,1,2]) rfl rfl (any_of HT_.out (w110_)) (fun _ _ _ h => h) (Or.inl ⟨by rfl, ?_⟩) ?_ ?_
            rotate_left
            ·intro w'
             go_simp
             with_reducible rfl
            rotate_left
            ·simp only [Act.put, usz_, utz_, uvz_, i64_w, i32_w]
             rfl
            refine take_ (i := 2) (N := some 42) (v := ?_) (a' := ?_) (mz_ [5,2,2,2,1,2]) rfl rfl (take_ofW HT_.out HW_.out (w110_)) (fun _ _ _ h => h) (Or.inl ⟨by rfl, ?_⟩) hHeld ?_ ?_
            rotate_left
            ·rintro w' ⟨s0, s1⟩
             go_simp
             with_reducible rfl
            rotate_left
            ·simp only [Act.put, usz_, utz_, uvz_, i64_w, i32_w]
             rfl
            refine take_ (i := 5) (N := some 45) (v := ?_) (a' := ?_) (mz_ [6,1,2,2,1,2]) rfl rfl (take_ofW HT_.out HW_.out (w110_)) (fun _ _ _ h => h) (Or.inl ⟨by rfl, ?_⟩) hHeld ?_ ?_
            rotate_left
            ·rintro w' ⟨s0, s1⟩
             go_simp
             with_reducible rfl
            rotate_left
            ·simp only [Act.put, usz_, utz_, uvz_, i64_w, i32_w]
             rfl
            refine pure_ (i := 6) (N := some 46) (v := ?_) (a' := ?_) (mz_ [9,2,1,2]) rfl rfl (any_of HT_.out (w110_)) (fun _ _ _ h => h) (Or.inl ⟨by rfl, ?_⟩) ?_ ?_
            rotate_left
            ·intro w'
             go_simp
             with_reducible rfl
            rotate_left
            ·simp only [Act.put, usz_, utz_, uvz_, i64_w, i32_w]
             rfl
            refine pure_ (i := 9) (N := some 49) (v := ?_) (a' := ?_) (mz_ [10,1,1,2]) rfl rfl (any_of HT_.out (w110_)) (fun _ _ _ h => h) (Or.inl ⟨by rfl, ?_⟩) ?_ ?_
            rotate_left
            ·intro w'
             go_simp
             with_reducible rfl
            rotate_left
            ·simp only [Act.put, usz_, utz_, uvz_, i64_w, i32_w]
             rfl
            refine pure_ (i := 10) (N := some 50) (v := ?_) (a' := ?_) (mz_ [12,2]) rfl rfl (any_of HT_.out (w110_)) (fun _ _ _ h => h) (Or.inl ⟨by rfl, ?_⟩) ?_ ?_
            rotate_left
            ·intro w'
             go_simp
             with_reducible rfl
            rotate_left
            ·simp only [Act.put, usz_, utz_, uvz_, i64_w, i32_w]
             rfl
            refine pure_ (i := 12) (N := some 52) (v := ?_) (a' := ?_) (mz_ [13,1]) rfl rfl (any_of HT_.out (w110_)) (fun _ _ _ h => h) (Or.inl ⟨by rfl, ?_⟩) ?_ ?_
            rotate_left
            ·intro w'
             go_simp
             with_reducible rfl
            rotate_left
            ·simp only [Act.put, usz_, utz_, uvz_, i64_w, i32_w]
             rfl
            refine pure_ (i := 13) (N := some 6) (v := ?_) (a' := ?_) (mz_ [14]) rfl rfl (any_of HT_.out (w110_)) (fun _ _ _ h => h) (Or.inl ⟨by rfl, ?_⟩) ?_ ?_
            rotate_left
            ·intro w'
             go_simp
             with_reducible rfl
            rotate_left
            ·simp only [Act.put, usz_, utz_, uvz_, i64_w, i32_w]
             rfl
            refine done_ (done_of HT_.out (w110_)) ?_
            try go_wp2_with (first | ((with_reducible refine gate_callee (f := 172) rfl ?_); refine goesL_ (some 54) rfl rfl Tryz.func172 (w110_) rfl #[.string (((rdOf ByteArray.empty t437 0).extract 0 ((ji23) : Int).toNat) ++ (rdOf ByteArray.empty t437 1))] rfl (by (try simp only [List.map_toArray, List.map_cons, List.map_nil]); first | done | (simp only [hji23]; rfl) | rfl | (simp only [List.length_drop, List.length_take]; rfl)) ?_; (with_reducible refine (spec_l1Read.calls kj2 (((rdOf ByteArray.empty t437 0).extract 0 ((ji23) : Int).toNat) ++ (rdOf ByteArray.empty t437 1)) t449 _ A27.out).mono ?_); rintro e w' ⟨rfl, ⟨nd, rfl⟩⟩; refine ⟨_, rfl, ?_⟩; (try (rw [drewN_self w29]; generalize hq_ : World.drewN w29 _ = w29; have n0_ : Aside0 (Kd.R Kd.string 9 w29 w.heap.size (fun _ => True) (.slice (some ad440) t437.length co15) t437) := ⟨by rw [← hq_]; exact (w105_)⟩; have n1_ : Aside0 (w29.heap[gb436]? = some (.cells #[.int .i64 0, .int .i64 0] 69 (0, 0))) := ⟨by rw [← hq_]; exact (by exact ukz_ BK436.out)⟩; have n2_ : Aside0 (w29.heap[gb444]? = some (.cells #[.int .i64 t441, .int .i64 t443] 69 (0, 0))) := ⟨by rw [← hq_]; exact (by exact ukz_ BK444.out)⟩; have n3_ : Aside0 (Below w.heap.size w w29) := ⟨by rw [← hq_]; exact (w40_)⟩; clear HO_4 BK436 BK444 HB hq_; have HO_4 := n0_; have BK436 := n1_; have BK444 := n2_; have HB := n3_; clear n0_ n1_ n2_ n3_)); have hnb30 := NB444_436.out; have hnc30 := NB436_444.out; have hcz31_0 : w29.cell? ⟨gb444, 0, none⟩ = some (.int .i64 t441) := (blk_cell BK444.out 0).trans rfl; have hcz31_1 : w29.cell? ⟨gb444, 1, none⟩ = some (.int .i64 t443) := (blk_cell BK444.out 1).trans rfl; have hfz31_0 := blk_frozen BK444.out 0; have hfz31_1 := blk_frozen BK444.out 1))
            go_meet
            case rel => exact ⟨_, (t449), H', ⟨by have := HJ2.out; first | omega | exact Nat.le_refl _⟩, ⟨by (with_reducible repeat (first | refine knz_ ?_ _ | refine kdz_ ?_ | refine kaz_ ?_ _)); refine blk_far ?_ NB436_444.out _; (with_reducible repeat (first | refine knz_ ?_ _ | refine kdz_ ?_ | refine kaz_ ?_ _)); exact BK436.out⟩, ⟨by (with_reducible repeat (first | refine knz_ ?_ _ | refine kdz_ ?_ | refine kaz_ ?_ _)); refine blk_put (cs := #[.int .i64 t441, .int .i64 t443]) ?_ 1 _ rfl; (with_reducible repeat (first | refine knz_ ?_ _ | refine kdz_ ?_ | refine kaz_ ?_ _)); exact BK444.out⟩, ⟨w40_⟩⟩
           ·rw [if_neg c26] at H
            exact absurd H (by simp)
          ·rw [if_neg c25] at H
           exact absurd H (by simp)
         ·rw [if_neg c24] at H
          exact absurd H (by simp)
        ·rw [if_neg c22] at H
         have c22b0 := decide_eq_false c22
         have c22b1 : decide ((rdOf ByteArray.empty t437 1).size < (rdOf ByteArray.empty t437 0).size) = false := decide_eq_false (fun h => c22 (Int.ofNat_lt.mpr h))
         clear c22
         replace H := bqz_ H; obtain ⟨t450, A32, H⟩ := H
         replace H : (j1 kj2 a0 t441 t450) = some (r1, r2, r3) := H
         have H' := Az_ H
         clear H
         have p445 : 0 ≤ (1 : Int) := (by omega)
         have q445 : 1 < (t437.length : Int) := of_decide_eq_true asz_
         obtain ⟨ad445, e445, hx445_0⟩ := Kd.at_string (Kd.R_reads' HO_4.out).2.2 1 p445 q445
         obtain rfl : ad440 = ad445 := (by injection e445)
         (try simp only [show (1 : Int).toNat = 1 from rfl, Nat.reduceMul, Nat.reduceEqDiff, Go.Addr.add, ↓reduceIte] at hx445_0)
         have qi445 : (1 < t437.length) = True := eq_true (by omega)
         (try rw [show ((1 : Int)).toNat = 1 from rfl] at hx445_0)
         have hn445_0 : ad440.block ≠ gb444 := (w50_)
         have hn445_1 : ad440.block ≠ gb444 := (w50_)
         replace hx445_0 := (cell_far (p := ⟨gb444, 0, none⟩) (w51_) (.int .i64 t441)).trans hx445_0
         replace hx445_0 := (cell_far (p := ⟨gb444, 1, none⟩) (w52_) (.int .i64 t443)).trans hx445_0
         clear hn445_0 hn445_1
         replace p445 := eq_true p445
         replace q445 := eq_true q445
         have p446 : 0 ≤ (0 : Int) := (by omega)
         have q446 : 0 < (t437.length : Int) := of_decide_eq_true asz_
         obtain ⟨ad446, e446, hx446_0⟩ := Kd.at_string (Kd.R_reads' HO_4.out).2.2 0 p446 q446
         obtain rfl : ad440 = ad446 := (by injection e446)
         have qi446 : (0 < t437.length) = True := eq_true (by omega)
         (try rw [show ((0 : Int)).toNat = 0 from rfl] at hx446_0)
         (try rw [Addr.add_zero'] at hx446_0)
         have hn446_0 : ad440.block ≠ gb444 := (w50_)
         have hn446_1 : ad440.block ≠ gb444 := (w50_)
         replace hx446_0 := (cell_far (p := ⟨gb444, 0, none⟩) (w53_) (.int .i64 t441)).trans hx446_0
         replace hx446_0 := (cell_far (p := ⟨gb444, 1, none⟩) (w54_) (.int .i64 t443)).trans hx446_0
         clear hn446_0 hn446_1
         replace p446 := eq_true p446
         replace q446 := eq_true q446
         go_wp2_with (first | ((with_reducible refine gate_callee (f := 172) rfl ?_); refine goesL_ (some 54) rfl rfl Tryz.func172 (w110_) rfl #[.string (rdOf ByteArray.empty t437 1)] rfl maz_ ?_; (with_reducible refine (spec_l1Read.calls kj2 (rdOf ByteArray.empty t437 1) t450 _ A32.out).mono ?_); rintro e w' ⟨rfl, ⟨nd, rfl⟩⟩; refine ⟨_, rfl, ?_⟩; have hnb33 := NB444_436.out; have hnc33 := NB436_444.out; have hcz34_0 : w17.cell? ⟨gb444, 0, none⟩ = some (.int .i64 0) := (blk_cell BK444.out 0).trans rfl; have hcz34_1 : w17.cell? ⟨gb444, 1, none⟩ = some (.int .i64 0) := (blk_cell BK444.out 1).trans rfl; have hfz34_0 := blk_frozen BK444.out 0; have hfz34_1 := blk_frozen BK444.out 1))
         go_meet
         case rel => exact ⟨_, (t450), H', ⟨by have := HJ2.out; first | omega | exact Nat.le_refl _⟩, ⟨by (with_reducible repeat (first | refine knz_ ?_ _ | refine kdz_ ?_ | refine kaz_ ?_ _)); refine blk_far ?_ NB436_444.out _; (with_reducible repeat (first | refine knz_ ?_ _ | refine kdz_ ?_ | refine kaz_ ?_ _)); refine blk_far ?_ NB436_444.out _; (with_reducible repeat (first | refine knz_ ?_ _ | refine kdz_ ?_ | refine kaz_ ?_ _)); refine blk_far ?_ NB436_444.out _; (with_reducible repeat (first | refine knz_ ?_ _ | refine kdz_ ?_ | refine kaz_ ?_ _)); exact BK436.out⟩, ⟨by (with_reducible repeat (first | refine knz_ ?_ _ | refine kdz_ ?_ | refine kaz_ ?_ _)); refine blk_put (cs := #[.int .i64 t441, .int .i64 t443]) ?_ 1 _ rfl; (with_reducible repeat (first | refine knz_ ?_ _ | refine kdz_ ?_ | refine kaz_ ?_ _)); refine blk_put (cs := #[.int .i64 t441, .int .i64 0]) ?_ 1 _ rfl; (with_reducible repeat (first | refine knz_ ?_ _ | refine kdz_ ?_ | refine kaz_ ?_ _)); refine blk_put (cs := #[.int .i64 0, .int .i64 0]) ?_ 0 _ rfl; (with_reducible repeat (first | refine knz_ ?_ _ | refine kdz_ ?_ | refine kaz_ ?_ _)); exact BK444.out⟩, ⟨w40_⟩⟩
       ·rw [if_neg c21] at H
        exact absurd H (by simp)
      ·rw [if_neg c20] at H
       have c20b0 : ((t437.length : Int) == 2) = false := beq_eq_false_iff_ne.mpr c20
       have c20b1 : ((t437.length : Int) != 2) = true := bne_iff_ne.mpr c20
       (first | rw [c20b0] | (simp only [i64_w, i32_w]; rw [c20b0]) | skip)
       have H' := Az_ H
       clear H
       go_wp2
       go_meet
       case rel => exact ⟨_, (t443), H', ⟨by have := HJ2.out; first | omega | exact Nat.le_refl _⟩, ⟨w21_⟩, ⟨w16_⟩, ⟨w40_⟩⟩
     case rest =>
      clear HC13
      clear hx440_0 hx442_0 p440 p442 q440 q442
      obtain ⟨kq, x445001_12, HA, HJ12, BK436, BK444, HB⟩ := hcut
      cases kq with
      | zero => exact absurd HA.out (by simp [j1])
      | succ kj12 =>
       have H := HA.out
       clear HA
       simp only [j1] at H
       replace H := bqz_ H; obtain ⟨t451, A35, H⟩ := H
       replace H : (if t451 = true then ((spec_ixShort.f kj12 t441 x445001_12).bind fun t452 => (if t452.toList = a0.toList then (some (t441, x445001_12, true)) else (some (0, 0, false)))) else (some (0, 0, false))) = some (r1, r2, r3) := H
       by_cases c36 : t451 = true
       ·subst c36
        rw [if_pos rfl] at H
        replace H := bqz_ H; obtain ⟨t452, A37, H⟩ := H
        replace H : (if t452.toList = a0.toList then (some (t441, x445001_12, true)) else (some (0, 0, false))) = some (r1, r2, r3) := H
        by_cases c38 : t452.toList = a0.toList
        ·rw [if_pos c38] at H
         have c38b0 : (t452.toList == a0.toList) = true := beq_iff_eq.mpr c38
         have c38b1 : (t452.toList != a0.toList) = false := bne_eq_false_iff_eq.mpr c38
         clear c38
         simp only [Option.some.injEq, Prod.mk.injEq] at H
         obtain ⟨rfl, rfl, rfl⟩ := H
         have hnb39 := NB444_436.out
         have hnc39 := NB436_444.out
         have hcz40_0 : wc.cell? ⟨gb444, 0, none⟩ = some (.int .i64 t441) := (blk_cell BK444.out 0).trans rfl
         have hcz40_1 : wc.cell? ⟨gb444, 1, none⟩ = some (.int .i64 x445001_12) := (blk_cell BK444.out 1).trans rfl
         have hfz40_0 := blk_frozen BK444.out 0
         have hfz40_1 := blk_frozen BK444.out 1
         go_wp2_with (first | ((with_reducible refine gate_callee (f := 131) rfl ?_); refine goesL_ (some 57) rfl rfl Tryz.func131 (w110_) rfl #[.agg #[.int .i64 t441, .int .i64 x445001_12]] rfl maz_ ?_; (with_reducible refine (spec_ixRange.calls t441 x445001_12 true _ A35.out).mono ?_); rintro e w41 ⟨rfl, hb⟩; refine ⟨_, rfl, ?_⟩; have n2_ := Az_ (btz_ (w40_) hb); clear HB; replace BK436 := Az_ (ukbz_ BK436.out hb); replace BK444 := Az_ (ukbz_ BK444.out hb); have HB := n2_; clear n2_; (try clear hb); have hcz42_0 : w41.cell? ⟨gb444, 0, none⟩ = some (.int .i64 t441) := (blk_cell BK444.out 0).trans rfl; have hcz42_1 : w41.cell? ⟨gb444, 1, none⟩ = some (.int .i64 x445001_12) := (blk_cell BK444.out 1).trans rfl; have hfz42_0 := blk_frozen BK444.out 0; have hfz42_1 := blk_frozen BK444.out 1) | (go_at_call 178; (with_reducible refine (spec_ixShort.calls kj12 t441 x445001_12 t452 _ A37.out).mono ?_); rintro e w43 ⟨rfl, hb⟩; have n2_ := Az_ (btz_ (w40_) hb); clear HB; replace BK436 := Az_ (ukbz_ BK436.out hb); replace BK444 := Az_ (ukbz_ BK444.out hb); have HB := n2_; clear n2_; (try clear hb); have hcz44_0 : w43.cell? ⟨gb444, 0, none⟩ = some (.int .i64 t441) := (blk_cell BK444.out 0).trans rfl; have hcz44_1 : w43.cell? ⟨gb444, 1, none⟩ = some (.int .i64 x445001_12) := (blk_cell BK444.out 1).trans rfl; have hfz44_0 := blk_frozen BK444.out 0; have hfz44_1 := blk_frozen BK444.out 1; have hcz45_0 : w43.cell? ⟨gb436, 0, none⟩ = some (.int .i64 0) := (blk_cell BK436.out 0).trans rfl; have hcz45_1 : w43.cell? ⟨gb436, 1, none⟩ = some (.int .i64 0) := (blk_cell BK436.out 1).trans rfl; have hfz45_0 := blk_frozen BK436.out 0; have hfz45_1 := blk_frozen BK436.out 1))
         refine bodyPost_ret (results_ct rfl _ _ gb436 69 #[.int .i64 t441, .int .i64 x445001_12] (0, 0) _ rfl (by (with_reducible repeat (first | refine knz_ ?_ _ | refine kdz_ ?_ | refine kaz_ ?_ _)); refine blk_put (cs := #[.int .i64 t441, .int .i64 0]) ?_ 1 _ rfl; (with_reducible repeat (first | refine knz_ ?_ _ | refine kdz_ ?_ | refine kaz_ ?_ _)); refine blk_put (cs := #[.int .i64 0, .int .i64 0]) ?_ 0 _ rfl; (with_reducible repeat (first | refine knz_ ?_ _ | refine kdz_ ?_ | refine kaz_ ?_ _)); exact BK436.out) Tryz.underlying69 rfl (w110_)) rfl ?_
         exact ⟨w61_, w40_⟩
        ·rw [if_neg c38] at H
         have c38b0 : (t452.toList == a0.toList) = false := beq_eq_false_iff_ne.mpr c38
         have c38b1 : (t452.toList != a0.toList) = true := bne_iff_ne.mpr c38
         simp only [Option.some.injEq, Prod.mk.injEq] at H
         obtain ⟨rfl, rfl, rfl⟩ := H
         have hnb46 := NB444_436.out
         have hnc46 := NB436_444.out
         have hcz47_0 : wc.cell? ⟨gb444, 0, none⟩ = some (.int .i64 t441) := (blk_cell BK444.out 0).trans rfl
         have hcz47_1 : wc.cell? ⟨gb444, 1, none⟩ = some (.int .i64 x445001_12) := (blk_cell BK444.out 1).trans rfl
         have hfz47_0 := blk_frozen BK444.out 0
         have hfz47_1 := blk_frozen BK444.out 1
         go_wp2_with (first | ((with_reducible refine gate_callee (f := 131) rfl ?_); refine goesL_ (some 57) rfl rfl Tryz.func131 (w110_) rfl #[.agg #[.int .i64 t441, .int .i64 x445001_12]] rfl maz_ ?_; (with_reducible refine (spec_ixRange.calls t441 x445001_12 true _ A35.out).mono ?_); rintro e w48 ⟨rfl, hb⟩; refine ⟨_, rfl, ?_⟩; have n2_ := Az_ (btz_ (w40_) hb); clear HB; replace BK436 := Az_ (ukbz_ BK436.out hb); replace BK444 := Az_ (ukbz_ BK444.out hb); have HB := n2_; clear n2_; (try clear hb); have hcz49_0 : w48.cell? ⟨gb444, 0, none⟩ = some (.int .i64 t441) := (blk_cell BK444.out 0).trans rfl; have hcz49_1 : w48.cell? ⟨gb444, 1, none⟩ = some (.int .i64 x445001_12) := (blk_cell BK444.out 1).trans rfl; have hfz49_0 := blk_frozen BK444.out 0; have hfz49_1 := blk_frozen BK444.out 1) | (go_at_call 178; (with_reducible refine (spec_ixShort.calls kj12 t441 x445001_12 t452 _ A37.out).mono ?_); rintro e w50 ⟨rfl, hb⟩; have n2_ := Az_ (btz_ (w40_) hb); clear HB; replace BK436 := Az_ (ukbz_ BK436.out hb); replace BK444 := Az_ (ukbz_ BK444.out hb); have HB := n2_; clear n2_; (try clear hb); have hcz51_0 : w50.cell? ⟨gb436, 0, none⟩ = some (.int .i64 0) := (blk_cell BK436.out 0).trans rfl; have hcz51_1 : w50.cell? ⟨gb436, 1, none⟩ = some (.int .i64 0) := (blk_cell BK436.out 1).trans rfl; have hfz51_0 := blk_frozen BK436.out 0; have hfz51_1 := blk_frozen BK436.out 1))
         refine bodyPost_ret (results_ct rfl _ _ gb436 69 #[.int .i64 0, .int .i64 0] (0, 0) _ rfl (w19_) Tryz.underlying69 rfl (w110_)) rfl ?_
         exact ⟨w61_, w40_⟩
       ·replace c36 := Bool.eq_false_iff.mpr c36
        subst c36
        rw [if_neg nfz_] at H
        simp only [Option.some.injEq, Prod.mk.injEq] at H
        obtain ⟨rfl, rfl, rfl⟩ := H
        have hnb52 := NB444_436.out
        have hnc52 := NB436_444.out
        have hcz53_0 : wc.cell? ⟨gb444, 0, none⟩ = some (.int .i64 t441) := (blk_cell BK444.out 0).trans rfl
        have hcz53_1 : wc.cell? ⟨gb444, 1, none⟩ = some (.int .i64 x445001_12) := (blk_cell BK444.out 1).trans rfl
        have hfz53_0 := blk_frozen BK444.out 0
        have hfz53_1 := blk_frozen BK444.out 1
        go_wp2_with (first | ((with_reducible refine gate_callee (f := 131) rfl ?_); refine goesL_ (some 57) rfl rfl Tryz.func131 (w110_) rfl #[.agg #[.int .i64 t441, .int .i64 x445001_12]] rfl maz_ ?_; (with_reducible refine (spec_ixRange.calls t441 x445001_12 false _ A35.out).mono ?_); rintro e w54 ⟨rfl, hb⟩; refine ⟨_, rfl, ?_⟩; have n2_ := Az_ (btz_ (w40_) hb); clear HB; replace BK436 := Az_ (ukbz_ BK436.out hb); replace BK444 := Az_ (ukbz_ BK444.out hb); have HB := n2_; clear n2_; (try clear hb); have hcz55_0 : w54.cell? ⟨gb436, 0, none⟩ = some (.int .i64 0) := (blk_cell BK436.out 0).trans rfl; have hcz55_1 : w54.cell? ⟨gb436, 1, none⟩ = some (.int .i64 0) := (blk_cell BK436.out 1).trans rfl; have hfz55_0 := blk_frozen BK436.out 0; have hfz55_1 := blk_frozen BK436.out 1))
        refine bodyPost_ret (results_ct rfl _ _ gb436 69 #[.int .i64 0, .int .i64 0] (0, 0) _ rfl (w19_) Tryz.underlying69 rfl (w110_)) rfl ?_
        exact ⟨w61_, w40_⟩
    ·rw [if_neg c10] at H
     exact absurd H (by simp)

end Go.Proofs.YtppbpefehpbejaaGreatDoor.P
end
