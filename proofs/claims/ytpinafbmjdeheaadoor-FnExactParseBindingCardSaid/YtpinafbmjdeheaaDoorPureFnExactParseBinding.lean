/- The law of ParseBinding answers true at all strings; no condition. -/
import Derived.Test.YtpinafbmjdeheaaDoorPx10
import Derived.Test.YtpinafbmjdeheaaDoorPureBText
import Derived.Test.YtpinafbmjdeheaaDoorPureInt
set_option linter.unusedVariables false
namespace Go.Proofs.YtpinafbmjdeheaaDoor.Pure
open Go.RowKit Go.Proofs.YtpinafbmjdeheaaDoorW.PrintWords Go.Proofs.YtpinafbmjdeheaaDoor.P Go.Proofs.YtpinafbmjdeheaaDoor.Base Go.Proofs.YtpinafbmjdeheaaDoor.Order

/-- A leaf's two bytes. -/
def pieceL (x : Int) : List UInt8 := [if x < 0 then 45 else 43, UInt8.ofNat (48 + x.natAbs)]
theorem piece_bytes (x : Int) (h1 : -8 ≤ x) (h2 : x ≤ 8) : (pieceT x).data.toList = pieceL x := by
  unfold pieceT pieceL
  rw [Lib.decDigits_one (by omega)]
  split <;> rfl
theorem text_bytes : ∀ (b : List Int) (s : ByteArray), (∀ x ∈ b, -8 ≤ x ∧ x ≤ 8 ∧ x ≠ 0) → (textT b s).data.toList = s.data.toList ++ b.flatMap pieceL := by
  intro b
  induction b with
  | nil => intro s _; simp [textT]
  | cons x b ih =>
    intro s h
    rw [textT, ih _ (fun y hy => h y (List.mem_cons_of_mem _ hy)), ByteArray.data_append, Array.toList_append, piece_bytes x (h x (by simp)).1 (h x (by simp)).2.1, List.flatMap_cons, List.append_assoc]
/-- The byte at a place, as the list of the bytes has it. -/
theorem bt_list (s : ByteArray) (i : Nat) : bt s (i : Int) = (((s.data.toList[i]?).getD 0).toNat : Int) := by
  unfold bt
  rw [Int.toNat_natCast]
  by_cases h : i < s.size
  · rw [dif_pos h, List.getElem?_eq_getElem (by simpa using h)]
    rfl
  · rw [dif_neg h, List.getElem?_eq_none (by simpa using h)]
    rfl
theorem bytes_at : ∀ (b : List Int) (i : Nat) (h : i < b.length), (b.flatMap pieceL)[2 * i]? = some (if b[i] < 0 then 45 else 43) ∧ (b.flatMap pieceL)[2 * i + 1]? = some (UInt8.ofNat (48 + (b[i]).natAbs)) := by
  intro b
  induction b with
  | nil => intro i h; exact absurd h (by simp)
  | cons x b ih =>
    intro i h
    cases i with
    | zero => simp [pieceL]
    | succ i =>
      have := ih i (by simpa using h)
      rw [List.flatMap_cons]
      have hl : (pieceL x).length = 2 := rfl
      refine ⟨?_, ?_⟩
      · rw [List.getElem?_append_right (by omega), hl, show 2 * (i + 1) - 2 = 2 * i by omega]
        simpa using this.1
      · rw [List.getElem?_append_right (by omega), hl, show 2 * (i + 1) + 1 - 2 = 2 * i + 1 by omega]
        simpa using this.2
theorem bytes_len : ∀ b : List Int, (b.flatMap pieceL).length = 2 * b.length := by
  intro b
  induction b with
  | nil => rfl
  | cons x b ih =>
    rw [List.flatMap_cons, List.length_append, ih, List.length_cons]
    show 2 + _ = _
    omega
/-- What the program reads at place i. -/
def readP (s : ByteArray) (i : Nat) : Int := if bt s (i : Int) = 45 then 48 - bt s ((i + 1 : Nat) : Int) else bt s ((i + 1 : Nat) : Int) - 48
def listP (s : ByteArray) : Nat → Nat → List Int
  | 0, _ => []
  | n + 1, i => readP s i :: listP s n (i + 2)
/-- The end of both: is it a binding with this text? -/
def finR (s : ByteArray) (b : List Int) : List Int × Bool := if bindS b = true ∧ (textT b ⟨#[]⟩).toList = s.toList then (b, true) else ([], false)
theorem listP_len (s : ByteArray) : ∀ n i, (listP s n i).length = n := by
  intro n
  induction n with
  | zero => intro i; rfl
  | succ n ih => intro i; simp [listP, ih]
theorem bt_range (s : ByteArray) (i : Int) : 0 ≤ bt s i ∧ bt s i ≤ 255 := by
  unfold bt
  split
  · rename_i h
    have := UInt8.toNat_lt (s[i.toNat]'h)
    omega
  · omega
theorem fin_ev (s : ByteArray) (b : List Int) (hn : b.length ≤ 1048576) :
    Ev (fun k => (spec_biGood.f k b).bind fun t => if t = true then ((spec_biText.f k b).bind fun u => if u.toList = s.toList then some (b, true) else some (([] : List Int), false)) else some (([] : List Int), false)) (finR s b) ∧
    Ev (fun k => (impl_IsBinding.f k b).bind fun t => if t = true then ((impl_bindingText.f k b).bind fun u => if u.toList = s.toList then some (b, true) else some (([] : List Int), false)) else some (([] : List Int), false)) (finR s b) := by
  unfold finR
  cases hb : bindS b with
  | false =>
    rw [if_neg (fun h => by cases h.1)]
    refine ⟨Ev_bind (biGood_ev b hn) ?_, Ev_bind (isBinding_ev b hn) ?_⟩
    · rw [hb]; exact Ev_neg (by decide) (Ev.now _)
    · rw [hb]; exact Ev_neg (by decide) (Ev.now _)
  | true =>
    obtain ⟨e1, e2⟩ := text_ev b hb
    by_cases ht : (textT b ⟨#[]⟩).toList = s.toList
    · rw [if_pos ⟨rfl, ht⟩]
      refine ⟨Ev_bind (biGood_ev b hn) ?_, Ev_bind (isBinding_ev b hn) ?_⟩
      · rw [hb]; exact Ev_pos rfl (Ev_bind e1 (Ev_pos ht (Ev.now _)))
      · rw [hb]; exact Ev_pos rfl (Ev_bind e2 (Ev_pos ht (Ev.now _)))
    · rw [if_neg (fun h => ht h.2)]
      refine ⟨Ev_bind (biGood_ev b hn) ?_, Ev_bind (isBinding_ev b hn) ?_⟩
      · rw [hb]; exact Ev_pos rfl (Ev_bind e1 (Ev_neg ht (Ev.now _)))
      · rw [hb]; exact Ev_pos rfl (Ev_bind e2 (Ev_neg ht (Ev.now _)))
theorem next2 (n : Nat) (h : n ≤ 1000) : wrap64 ((n : Int) + 2) = ((n + 2 : Nat) : Int) := by
  rw [w64 (by omega) (by omega)]; omega
theorem implParse_l0 (s : ByteArray) (hs : s.size ≤ 16) : ∀ (n i : Nat) (acc : List Int), i + 2 * n = s.size → acc.length + n ≤ 100 → Ev (fun k => impl_ParseBinding.l0 k s acc (i : Int)) (finR s (acc ++ listP s n i)) := by
  intro n
  induction n with
  | zero =>
    intro i acc hi ha
    rw [listP, List.append_nil]
    exact Ev_step (fun k => by rw [impl_ParseBinding.l0, if_neg (by omega)]) (fin_ev s acc (by omega)).2
  | succ n ih =>
    intro i acc hi ha
    have hb0 := bt_range s (i : Int)
    have hb1 := bt_range s ((i + 1 : Nat) : Int)
    have w1 : wrap64 (wrap64 (bt s ((i + 1 : Nat) : Int)) - 48) = bt s ((i + 1 : Nat) : Int) - 48 := by rw [w64 (x := bt s ((i + 1 : Nat) : Int)) (by omega) (by omega), w64 (by omega) (by omega)]
    have w2 : wrap64 (-(bt s ((i + 1 : Nat) : Int) - 48)) = 48 - bt s ((i + 1 : Nat) : Int) := by rw [w64 (by omega) (by omega)]; omega
    refine Ev_step (fun k => by rw [impl_ParseBinding.l0, if_pos (by omega), nextI i (by omega), if_pos (by omega), if_pos (by omega), if_pos (by omega), w1, w2, next2 i (by omega)]) ?_
    have := fun v => ih (i + 2) (acc ++ [v]) (by omega) (by rw [List.length_append]; simp only [List.length_cons, List.length_nil]; omega)
    rw [listP]
    unfold readP
    by_cases h : bt s (i : Int) = 45
    · rw [if_pos h]
      refine Ev_pos h (Ev_pos (by omega) ?_)
      have t := this (48 - bt s ((i + 1 : Nat) : Int))
      rw [List.append_assoc] at t
      exact t
    · rw [if_neg h]
      refine Ev_neg h (Ev_pos (by omega) ?_)
      have t := this (bt s ((i + 1 : Nat) : Int) - 48)
      rw [List.append_assoc] at t
      exact t
/-- A digit's number, as the reference reads it. -/
def digS (c : Int) : Int := if 48 ≤ c ∧ c ≤ 57 then c - 48 else -1
theorem read_ev (e : ByteArray) (he : e.size = 1) : Ev (fun k => spec_l1Read.f k e) (digS (bt e 0)) := by
  have hb := bt_range e 0
  have hl : Ev (fun k => spec_l1Read.l0 k e 0 0) (digS (bt e 0)) := by
    refine Ev_step (fun k => by rw [spec_l1Read.l0, if_pos (by omega), if_pos (by decide)]) ?_
    unfold digS
    by_cases h1 : bt e 0 < 48
    · rw [if_neg (by omega)]
      exact Ev_pos h1 (Ev.now _)
    · by_cases h2 : bt e 0 > 57
      · rw [if_neg (by omega)]
        exact Ev_neg h1 (Ev_pos h2 (Ev.now _))
      · rw [if_pos (by omega)]
        have w : wrap64 (wrap64 (10 * 0) + ((bt e 0 - 48) % 256)) = bt e 0 - 48 := by rw [w64 (x := 10 * 0) (by omega) (by omega), w64 (by omega) (by omega)]; omega
        have w1 : wrap64 (0 + 1) = 1 := by unfold wrap64; omega
        refine Ev_neg h1 (Ev_neg h2 ?_)
        rw [w, w1]
        exact Ev_step (fun k => by rw [spec_l1Read.l0, if_neg (by omega)]) (Ev.now _)
  have hj : Ev (fun k => spec_l1Read.j0 k e false) (digS (bt e 0)) := Ev_step (fun k => by rw [spec_l1Read.j0, if_neg (by decide)]) hl
  simp only [spec_l1Read.f]
  refine Ev_some (l1In_eq _ _ _) ?_
  rw [he]
  refine Ev_pos (by decide) (Ev_pos (by decide) ?_)
  by_cases h : bt e 0 = 48
  · exact Ev_pos h hj
  · exact Ev_neg h hj
/-- What the reference answers from place i on. -/
def finS (s : ByteArray) : Nat → Nat → List Int → List Int × Bool
  | 0, _, acc => finR s acc
  | n + 1, i, acc => if bt s (i : Int) = 43 then finS s n (i + 2) (acc ++ [digS (bt s ((i + 1 : Nat) : Int))]) else if bt s (i : Int) = 45 then finS s n (i + 2) (acc ++ [-(digS (bt s ((i + 1 : Nat) : Int)))]) else ([], false)
theorem cut_bt (s : ByteArray) (a : Nat) (h : a < s.size) : (s.extract a (a + 1)).size = 1 ∧ bt (s.extract a (a + 1)) 0 = bt s (a : Int) := by
  have h1 : (s.extract a (a + 1)).size = 1 := by rw [ByteArray.size_extract]; omega
  refine ⟨h1, ?_⟩
  unfold bt
  rw [dif_pos (by rw [h1]; decide), dif_pos (by rw [Int.toNat_natCast]; exact h)]
  simp [ByteArray.getElem_extract]
theorem specParse_l0 (s : ByteArray) (hs : s.size ≤ 16) : ∀ (n i : Nat) (acc : List Int), i + 2 * n = s.size → acc.length + n ≤ 100 → Ev (fun k => spec_biParse.l0 k s acc (i : Int)) (finS s n i acc) := by
  intro n
  induction n with
  | zero =>
    intro i acc hi ha
    rw [finS]
    exact Ev_step (fun k => by rw [spec_biParse.l0, if_neg (by omega)]) (fin_ev s acc (by omega)).1
  | succ n ih =>
    intro i acc hi ha
    obtain ⟨c1, c2⟩ := cut_bt s (i + 1) (by omega)
    have hr := read_ev _ c1
    rw [c2] at hr
    have hd : -1 ≤ digS (bt s ((i + 1 : Nat) : Int)) ∧ digS (bt s ((i + 1 : Nat) : Int)) ≤ 9 := by unfold digS; split <;> omega
    have w2 : wrap64 (-(digS (bt s ((i + 1 : Nat) : Int)))) = -(digS (bt s ((i + 1 : Nat) : Int))) := by rw [w64 (by omega) (by omega)]
    have := fun v => ih (i + 2) (acc ++ [v]) (by omega) (by rw [List.length_append]; simp only [List.length_cons, List.length_nil]; omega)
    refine Ev_step (fun k => by rw [spec_biParse.l0, if_pos (by omega), nextI i (by omega), next2 i (by omega), if_pos (by omega), if_pos (by omega), if_pos (by omega), Int.toNat_natCast, Int.toNat_natCast]) ?_
    refine Ev_bind hr (Ev_pos (by omega) ?_)
    rw [finS]
    by_cases h : bt s (i : Int) = 43
    · rw [if_pos h]
      exact Ev_pos h (Ev_pos (by omega) (this _))
    · rw [if_neg h]
      refine Ev_neg h ?_
      by_cases h5 : bt s (i : Int) = 45
      · rw [if_pos h5]
        refine Ev_pos h5 (Ev_pos (by omega) ?_)
        rw [w2]
        exact this _
      · rw [if_neg h5]
        exact Ev_neg h5 (Ev.now _)
theorem finS_none (s : ByteArray) (h : ∀ b, finR s b = ([], false)) : ∀ n i acc, finS s n i acc = ([], false) := by
  intro n
  induction n with
  | zero => intro i acc; exact h acc
  | succ n ih =>
    intro i acc
    rw [finS, ih, ih]
    split
    · rfl
    · split <;> rfl
/-- Where a binding has this text, both read it. -/
theorem read_both (s : ByteArray) (b : List Int) (hb : ∀ x ∈ b, -8 ≤ x ∧ x ≤ 8 ∧ x ≠ 0) (hs : s.data.toList = b.flatMap pieceL) :
    ∀ m j, j + m = b.length → listP s m (2 * j) = b.drop j ∧ finS s m (2 * j) (b.take j) = finR s b := by
  intro m
  induction m with
  | zero =>
    intro j hj
    rw [List.drop_of_length_le (by omega), List.take_of_length_le (by omega)]
    exact ⟨rfl, rfl⟩
  | succ m ih =>
    intro j hj
    have h : j < b.length := by omega
    obtain ⟨i1, i2⟩ := ih (j + 1) (by omega)
    obtain ⟨p1, p2⟩ := bytes_at b j h
    have hx := hb _ (List.getElem_mem h)
    have b1 : bt s ((2 * j : Nat) : Int) = if b[j] < 0 then 45 else 43 := by
      rw [bt_list, hs, p1]
      split <;> rfl
    have b2 : bt s ((2 * j + 1 : Nat) : Int) = 48 + (b[j]).natAbs := by
      rw [bt_list, hs, p2]
      have : (UInt8.ofNat (48 + (b[j]).natAbs)).toNat = 48 + (b[j]).natAbs := by
        rw [UInt8.toNat_ofNat']
        omega
      simp only [Option.getD_some, this]
      omega
    have hd : digS (bt s ((2 * j + 1 : Nat) : Int)) = (b[j]).natAbs := by
      unfold digS
      rw [b2, if_pos (by omega)]
      omega
    have e2 : 2 * (j + 1) = 2 * j + 2 := by omega
    rw [e2] at i1 i2
    have tk : b.take (j + 1) = b.take j ++ [b[j]] := by rw [List.take_add_one, List.getElem?_eq_getElem h]; rfl
    rw [tk] at i2
    constructor
    · rw [listP, i1, List.drop_eq_getElem_cons h]
      congr 1
      unfold readP
      rw [b1, b2]
      by_cases hn : b[j] < 0
      · rw [if_pos hn, if_pos rfl]; omega
      · rw [if_neg hn, if_neg (by decide)]; omega
    · rw [finS, hd, b1]
      by_cases hn : b[j] < 0
      · rw [if_pos hn, if_neg (by decide), if_pos rfl, show -(((b[j]).natAbs : Nat) : Int) = b[j] by omega]
        exact i2
      · rw [if_neg hn, if_pos rfl, show (((b[j]).natAbs : Nat) : Int) = b[j] by omega]
        exact i2
theorem parse_ev (s : ByteArray) (hm : s.size ≤ 1048576) : ∃ r : List Int × Bool, Ev (fun k => spec_ParseBinding.f k s) r ∧ Ev (fun k => impl_ParseBinding.f k s) r ∧ r.1.length ≤ 1048576 := by
  have fin_len : ∀ b, b.length ≤ 100 → (finR s b).1.length ≤ 1048576 := fun b h => by
    unfold finR
    split
    · show b.length ≤ _; omega
    · exact Nat.zero_le _
  have key : ∀ (r : List Int × Bool), Ev (fun k => spec_biParse.f k s) r → Ev (fun k => spec_ParseBinding.f k s) r := fun r h => by
    simp only [spec_ParseBinding.f]
    exact Ev_bind h (Ev.now _)
  by_cases ho : ((s.size : Int) % 2) = 1
  · refine ⟨([], false), key _ ?_, ?_, Nat.zero_le _⟩
    · simp only [spec_biParse.f]
      exact Ev_pos ho (Ev_step (fun k => by rw [spec_biParse.j0]) (Ev_pos rfl (Ev.now _)))
    · simp only [impl_ParseBinding.f]
      exact Ev_some (a := []) rfl (Ev_pos ho (Ev_step (fun k => by rw [impl_ParseBinding.j0]) (Ev_pos rfl (Ev.now _))))
  · by_cases hg : (s.size : Int) > 16
    · refine ⟨([], false), key _ ?_, ?_, Nat.zero_le _⟩
      · simp only [spec_biParse.f]
        exact Ev_neg ho (Ev_step (fun k => by rw [spec_biParse.j0]) (Ev_pos (decide_eq_true hg) (Ev.now _)))
      · simp only [impl_ParseBinding.f]
        exact Ev_some (a := []) rfl (Ev_neg ho (Ev_step (fun k => by rw [impl_ParseBinding.j0]) (Ev_pos (decide_eq_true hg) (Ev.now _))))
    · obtain ⟨n, hn⟩ : ∃ n, s.size = 2 * n := ⟨s.size / 2, by omega⟩
      have h1 := specParse_l0 s (by omega) n 0 [] (by omega) (by simp only [List.length_nil]; omega)
      have h2 := implParse_l0 s (by omega) n 0 [] (by omega) (by simp only [List.length_nil]; omega)
      have he : finS s n 0 [] = finR s ([] ++ listP s n 0) := by
        rw [List.nil_append]
        by_cases hx : ∃ b, bindS b = true ∧ (textT b ⟨#[]⟩).toList = s.toList
        · obtain ⟨b, hb, ht⟩ := hx
          obtain ⟨_, hi⟩ := bind_in hb
          rw [ByteArray.toList_eq, ByteArray.toList_eq, text_bytes b _ hi] at ht
          have hs : s.data.toList = b.flatMap pieceL := ht.symm.trans (List.nil_append _)
          have hl : b.length = n := by
            have e := congrArg List.length hs
            rw [bytes_len] at e
            have : s.data.toList.length = s.size := by rw [Array.length_toList]; rfl
            omega
          obtain ⟨r1, r2⟩ := read_both s b hi hs n 0 (by omega)
          rw [Nat.mul_zero] at r1 r2
          rw [r1, List.drop_zero]
          rw [List.take_zero] at r2
          exact r2
        · have hno : ∀ b, finR s b = ([], false) := fun b => by
            unfold finR
            exact if_neg (fun h => hx ⟨b, h⟩)
          rw [hno, finS_none s hno]
      refine ⟨finR s ([] ++ listP s n 0), key _ ?_, ?_, fin_len _ (by rw [List.nil_append, listP_len]; omega)⟩
      · simp only [spec_biParse.f]
        refine Ev_neg ho (Ev_step (fun k => by rw [spec_biParse.j0]) (Ev_neg (by simp; omega) ?_))
        rw [← he]
        exact h1
      · simp only [impl_ParseBinding.f]
        refine Ev_some (a := []) rfl (Ev_neg ho ?_)
        refine Ev_step (fun k => by rw [impl_ParseBinding.j0]) ?_
        refine Ev_neg (by simp; omega) ?_
        exact h2
theorem FnExactParseBinding : laws_FnExactParseBinding.Pure := by
  intro s _
  refine Ev.rounds (g := fun k => laws_FnExactParseBinding.f k s) ?_
  simp only [laws_FnExactParseBinding.f]
  by_cases hn : s.size ≤ 1048576
  · obtain ⟨⟨d1, d2⟩, h2, h4, hd⟩ := parse_ev s hn
    have h5 := eqIntS_ev d1 hd
    have h6 := markIntS_ev d1 hd
    have h7 := heldIntS_ev d1.length hd
    refine Ev_neg (by omega) ?_
    refine Ev_bind h2 (Ev_bind h4 (Ev_bind h5 (Ev_pos rfl ?_)))
    refine Ev_step (fun k => by rw [laws_FnExactParseBinding.j0]) ?_
    refine Ev_neg (by simp) (Ev_bind h6 (Ev_bind h7 (Ev_neg (by omega) (Ev_pos rfl (Ev_bind h4 (Ev_bind h5 (Ev_pos rfl ?_)))))))
    refine Ev_step (fun k => by rw [laws_FnExactParseBinding.j1]) ?_
    refine Ev_neg (by simp) (Ev_bind h7 (Ev_neg (by omega) (Ev_pos rfl (Ev.now _))))
  · exact Ev_pos (by omega) (Ev.now _)
end Go.Proofs.YtpinafbmjdeheaaDoor.Pure
