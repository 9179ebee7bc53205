/- The text of a binding: the program and the reference write the same. -/
import Derived.Test.YtpinafbmjdeheaaDoorPx3
import Derived.Test.YtpinafbmjdeheaaDoorPx6
import Derived.Test.YtpinafbmjdeheaaDoorExtItoaT
import Derived.Test.YtpinafbmjdeheaaDoorPureBind
namespace Go.Proofs.YtpinafbmjdeheaaDoor.P
open Go.RowKit Go.Proofs.YtpinafbmjdeheaaDoorW.PrintWords Go.Proofs.YtpinafbmjdeheaaDoorW.PrintLast Go.Proofs.YtpinafbmjdeheaaDoorW.PrintMore Go.Proofs.YtpinafbmjdeheaaDoor.Base Go.Proofs.YtpinafbmjdeheaaDoor.Order
set_option linter.unusedVariables false

theorem eight (a : Nat) (h1 : 1 ≤ a) (h2 : a ≤ 8) : a = 1 ∨ a = 2 ∨ a = 3 ∨ a = 4 ∨ a = 5 ∨ a = 6 ∨ a = 7 ∨ a = 8 := by omega
theorem digit_eq (a : Nat) (h1 : 1 ≤ a) (h2 : a ≤ 8) : strOfNums [wrap64 (48 + (a : Int)) % 256] = (⟨(Lib.decDigits a).toArray⟩ : ByteArray) := by
  rw [Lib.decDigits_one (by omega), w64 (by omega) (by omega)]
  rcases eight a h1 h2 with rfl | rfl | rfl | rfl | rfl | rfl | rfl | rfl <;> rfl
theorem itoa_pos (a : Nat) (h2 : a ≤ 8) : itoa.f (a : Int) = some (⟨(Lib.decDigits a).toArray⟩ : ByteArray) := by
  unfold itoa.f
  rw [if_pos (by omega)]
  unfold Lib.itoa
  rw [if_neg (by omega)]
  simp
theorem itoa_neg (a : Nat) (h1 : 1 ≤ a) (h2 : a ≤ 8) : itoa.f (-(a : Int)) = some ((⟨#[45]⟩ : ByteArray) ++ (⟨(Lib.decDigits a).toArray⟩ : ByteArray)) := by
  unfold itoa.f
  rw [if_pos (by omega)]
  unfold Lib.itoa
  rw [if_pos (by omega), show (-(a : Int)).natAbs = a by omega, Lib.decDigits_one (i := a) (by omega)]
  rcases eight a h1 h2 with rfl | rfl | rfl | rfl | rfl | rfl | rfl | rfl <;> rfl
/-- A leaf's sign and number. -/
def pieceT (x : Int) : ByteArray := (if x < 0 then (⟨#[45]⟩ : ByteArray) else (⟨#[43]⟩ : ByteArray)) ++ (⟨(Lib.decDigits x.natAbs).toArray⟩ : ByteArray)
def textT : List Int → ByteArray → ByteArray
  | [], s => s
  | x :: xs, s => textT xs (s ++ pieceT x)
theorem piece_size (x : Int) (h1 : -8 ≤ x) (h2 : x ≤ 8) (h0 : x ≠ 0) : (pieceT x).size = 2 := by
  have e : (⟨(Lib.decDigits x.natAbs).toArray⟩ : ByteArray).size = 1 := by
    rw [Lib.decDigits_one (by omega)]
    rfl
  unfold pieceT
  rw [ByteArray.size_append, e]
  split <;> rfl
theorem biText_l0 (b : List Int) (hn : b.length ≤ 8) (hb : ∀ x ∈ b, -8 ≤ x ∧ x ≤ 8 ∧ x ≠ 0) : ∀ (n i : Nat) (s : ByteArray), i + n = b.length → s.size + 2 * n ≤ 100 →
    Ev (fun k => spec_biText.l0 k s b (b.length : Int) (i : Int)) (textT (b.drop i) s) ∧ Ev (fun k => impl_bindingText.l0 k s b (b.length : Int) (i : Int)) (textT (b.drop i) s) := by
  intro n
  induction n with
  | zero =>
    intro i s hi hs
    rw [List.drop_of_length_le (by omega)]
    refine ⟨Ev_step (fun k => ?_) (Ev.now _), Ev_step (fun k => ?_) (Ev.now _)⟩
    · rw [spec_biText.l0, if_neg (by omega)]
      rfl
    · rw [impl_bindingText.l0, if_neg (by omega)]
      rfl
  | succ n ih =>
    intro i s hi hs
    have h : i < b.length := by omega
    have hx := hb _ (List.getElem_mem h)
    rw [← getD_at b 0 h] at hx
    have hz := piece_size _ hx.1 hx.2.1 hx.2.2
    obtain ⟨e1, e2⟩ := ih (i + 1) (s ++ pieceT (b.getD i 0)) (by omega) (by rw [ByteArray.size_append, hz]; omega)
    rw [List.drop_eq_getElem_cons h, ← getD_at b 0 h, textT]
    generalize hy : b.getD i 0 = x at hx hz e1 e2
    have hd : (⟨(Lib.decDigits x.natAbs).toArray⟩ : ByteArray).size = 1 := by
      rw [Lib.decDigits_one (by omega)]
      rfl
    by_cases hneg : x < 0
    · obtain ⟨a, rfl⟩ : ∃ a : Nat, x = -(a : Int) := ⟨x.natAbs, by omega⟩
      have ea : (-(a : Int)).natAbs = a := by omega
      have ep : pieceT (-(a : Int)) = (⟨#[45]⟩ : ByteArray) ++ (⟨(Lib.decDigits a).toArray⟩ : ByteArray) := by unfold pieceT; rw [if_pos hneg, ea]
      rw [ea] at hd
      rw [ep] at e1 e2 hz
      have wn : wrap64 (- -(a : Int)) = (a : Int) := by rw [w64 (by omega) (by omega)]; omega
      refine ⟨?_, ?_⟩
      · refine Ev_step (fun k => by rw [spec_biText.l0, if_pos (by omega), if_pos (by omega), if_pos (by omega), rd_nat, hy, if_pos hneg, wn, nextI i (by omega)]) ?_
        have hn1 : Ev (fun k => spec_l1Num.f k (a : Int)) (⟨(Lib.decDigits a).toArray⟩ : ByteArray) := Ev_step (fun k => by rw [spec_l1Num.f, if_pos (by omega), digit_eq a (by omega) (by omega)]) (Ev.now _)
        refine Ev_bind hn1 (Ev_pos (by omega) (Ev_pos (by rw [hz]; omega) ?_))
        rw [ep]
        exact e1
      · refine Ev_step (fun k => by rw [impl_bindingText.l0, if_pos (by omega), if_pos (by omega), if_pos (by omega), rd_nat, hy, if_neg (by omega), nextI i (by omega)]) ?_
        refine Ev_some (itoa_neg a (by omega) (by omega)) (Ev_pos (by rw [hz]; omega) ?_)
        rw [ep]
        exact e2
    · obtain ⟨a, rfl⟩ : ∃ a : Nat, x = (a : Int) := ⟨x.natAbs, by omega⟩
      have ea : ((a : Int)).natAbs = a := by omega
      have ep : pieceT (a : Int) = (⟨#[43]⟩ : ByteArray) ++ (⟨(Lib.decDigits a).toArray⟩ : ByteArray) := by unfold pieceT; rw [if_neg hneg, ea]
      rw [ea] at hd
      rw [ep] at e1 e2 hz
      refine ⟨?_, ?_⟩
      · refine Ev_step (fun k => by rw [spec_biText.l0, if_pos (by omega), if_pos (by omega), if_pos (by omega), rd_nat, hy, if_neg hneg, nextI i (by omega)]) ?_
        have hn1 : Ev (fun k => spec_l1Num.f k (a : Int)) (⟨(Lib.decDigits a).toArray⟩ : ByteArray) := Ev_step (fun k => by rw [spec_l1Num.f, if_pos (by omega), digit_eq a (by omega) (by omega)]) (Ev.now _)
        refine Ev_bind hn1 (Ev_pos (by omega) (Ev_pos (by rw [hz]; omega) ?_))
        rw [ep]
        exact e1
      · refine Ev_step (fun k => by rw [impl_bindingText.l0, if_pos (by omega), if_pos (by omega), if_pos (by omega), rd_nat, hy, if_pos (by omega), if_pos (by omega), nextI i (by omega)]) ?_
        refine Ev_some (itoa_pos a (by omega)) (Ev_pos ?_ ?_)
        · rw [ByteArray.size_append, hd]
          have : (⟨#[43]⟩ : ByteArray).size = 1 := rfl
          omega
        · rw [ByteArray.append_assoc, ep]
          exact e2
theorem bind_in {b : List Int} (h : bindS b = true) : b.length ≤ 8 ∧ ∀ x ∈ b, -8 ≤ x ∧ x ≤ 8 ∧ x ≠ 0 := by
  unfold bindS at h
  simp only [Bool.and_eq_true, decide_eq_true_eq, List.all_eq_true, fresh_iff] at h
  obtain ⟨h1, h2, h3, _⟩ := h
  exact ⟨h1.2, fun x hx => by have := h2 x hx; have := h3 x hx; omega⟩
theorem text_ev (b : List Int) (h : bindS b = true) : Ev (fun k => spec_biText.f k b) (textT b ⟨#[]⟩) ∧ Ev (fun k => impl_bindingText.f k b) (textT b ⟨#[]⟩) := by
  obtain ⟨h1, h2⟩ := bind_in h
  obtain ⟨e1, e2⟩ := biText_l0 b h1 h2 b.length 0 ⟨#[]⟩ (by omega) (by show 0 + _ ≤ _; omega)
  exact ⟨Ev.congr (fun k => by rw [spec_biText.f]; rfl) e1, Ev.congr (fun k => by rw [impl_bindingText.f]; rfl) e2⟩
end Go.Proofs.YtpinafbmjdeheaaDoor.P
