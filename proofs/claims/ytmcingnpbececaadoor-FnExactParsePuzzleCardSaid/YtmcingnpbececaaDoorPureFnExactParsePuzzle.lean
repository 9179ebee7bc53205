/- The law of ParsePuzzle answers true at all texts; no condition. -/
import Derived.Test.YtmcingnpbececaaDoorPx14
import Derived.Test.YtmcingnpbececaaDoorPx12
import Derived.Test.YtmcingnpbececaaDoorPx13
import Derived.Test.YtmcingnpbececaaDoorPureRead
import Derived.Test.YtmcingnpbececaaDoorPureClueMark
import Derived.Test.YtmcingnpbececaaDoorPureClueHeld
namespace Go.Proofs.YtmcingnpbececaaDoor.Pure
open Go.RowKit Go.Proofs.YtmcingnpbececaaDoorW.PrintWords Go.Proofs.YtmcingnpbececaaDoor.P Go.Proofs.YtmcingnpbececaaDoor.Base
set_option linter.unusedVariables false

abbrev Cl := S51
theorem toL {a b : ByteArray} (h : a.toList = b.toList) : a = b := by
  rw [ByteArray.toList_eq, ByteArray.toList_eq] at h
  exact ByteArray.ext (Array.toList_inj.1 h)
/-- What a parse may answer: false, or true at the clues with this text. -/
def okR (s : ByteArray) (r : List Cl × Bool) : Prop := r.2 = true → goodP r.1 = true ∧ J (r.1.map wordOf) = s
theorem rdS (l : List ByteArray) (i : Nat) (h : i < l.length) : rdOf ByteArray.empty l (i : Int) = l[i] := by unfold rdOf; rw [Int.toNat_natCast, getD_at l _ h]
theorem nextW (i : Nat) (h : i ≤ 1000000) : wrap64 ((i : Int) + 1) = ((i + 1 : Nat) : Int) := by rw [w64 (by omega) (by omega)]; omega
theorem good_in {l : List Cl} (h : goodP l = true) : l.length ≤ 6 ∧ ∀ x ∈ l, clueOk x = true := by
  unfold goodP at h
  rw [Bool.and_eq_true, decide_eq_true_eq, List.all_eq_true] at h
  exact h
theorem pz_any (s : ByteArray) (ws : List ByteArray) (hw : ∀ x ∈ ws, x.size ≤ 1000) (hl : ws.length ≤ 1000) : ∀ (n i : Nat) (acc : List Cl), i + n = ws.length → acc.length ≤ i →
    ∃ r, okR s r ∧ Ev (fun k => spec_pzParse.l0 k s ws (ws.length : Int) (i : Int) acc) r := by
  intro n
  induction n with
  | zero =>
    intro i acc hi ha
    have hg := pzGood_ev acc (by omega)
    by_cases h : goodP acc = true
    · obtain ⟨t, _⟩ := text_ev acc h
      refine ⟨(acc, (J (acc.map wordOf)).toList == s.toList), fun e => ⟨h, toL (beq_iff_eq.1 e)⟩, ?_⟩
      refine Ev_step (fun k => by rw [spec_pzParse.l0, if_neg (by omega)]) ?_
      refine Ev_bind hg (Ev_pos h ?_)
      refine Ev_bind t ?_
      exact Ev.now _
    · refine ⟨(acc, false), (fun e => by cases e), ?_⟩
      refine Ev_step (fun k => by rw [spec_pzParse.l0, if_neg (by omega)]) ?_
      refine Ev_bind hg (Ev_neg h ?_)
      exact Ev.now _
  | succ n ih =>
    intro i acc hi ha
    have h : i < ws.length := by omega
    have sp : Ev (fun k => spec_l1Split.f k ws[i] 46) ((cut 46 [] ws[i].data.toList).map mkB) := split_ev ws[i] 46 (hw _ (List.getElem_mem h))
    generalize (cut 46 [] ws[i].data.toList).map mkB = t at sp
    by_cases h3 : (t.length : Int) = 3
    · obtain ⟨v0, e0⟩ := read_any (rdOf ByteArray.empty t 0)
      obtain ⟨v1, e1⟩ := read_any (rdOf ByteArray.empty t 1)
      obtain ⟨v2, e2⟩ := read_any (rdOf ByteArray.empty t 2)
      obtain ⟨r, hr, er⟩ := ih (i + 1) (acc ++ [⟨v0, v1, v2⟩]) (by omega) (by rw [List.length_append]; simp only [List.length_cons, List.length_nil]; omega)
      refine ⟨r, hr, ?_⟩
      refine Ev_step (fun k => by rw [spec_pzParse.l0, if_pos (by omega), if_pos (by omega), if_pos (by omega), rdS ws i h, nextW i (by omega)]) ?_
      refine Ev_bind sp (Ev_pos h3 ?_)
      refine Ev_pos (by omega) ?_
      refine Ev_bind e0 ?_
      refine Ev_pos (by omega) ?_
      refine Ev_bind e1 ?_
      refine Ev_pos (by omega) ?_
      refine Ev_bind e2 ?_
      refine Ev_pos (by omega) ?_
      exact er
    · refine ⟨(acc, false), (fun e => by cases e), ?_⟩
      refine Ev_step (fun k => by rw [spec_pzParse.l0, if_pos (by omega), if_pos (by omega), if_pos (by omega), rdS ws i h, nextW i (by omega)]) ?_
      refine Ev_bind sp (Ev_neg h3 ?_)
      exact Ev.now _
theorem clue_nums {x : Cl} (h : clueOk x = true) : x.f0.toNat ≤ 1000 ∧ x.f1.toNat ≤ 1000 ∧ x.f2.toNat ≤ 1000 ∧ (⟨(x.f0.toNat : Int), (x.f1.toNat : Int), (x.f2.toNat : Int)⟩ : Cl) = x := by
  obtain ⟨⟨a1, a2⟩, ⟨b1, b2⟩, ⟨c1, c2⟩⟩ := clue_in h
  refine ⟨by omega, by omega, by omega, ?_⟩
  obtain ⟨p, q, r⟩ := x
  simp only at a1 b1 c1 ⊢
  rw [Int.toNat_of_nonneg a1, Int.toNat_of_nonneg b1, Int.toNat_of_nonneg c1]
theorem pz_img (s : ByteArray) (cs : List Cl) (hg : goodP cs = true) (hs : J (cs.map wordOf) = s) : ∀ (n i : Nat), i + n = cs.length →
    Ev (fun k => spec_pzParse.l0 k s (cs.map wordOf) ((cs.map wordOf).length : Int) (i : Int) (cs.take i)) (cs, true) := by
  obtain ⟨hl, hc⟩ := good_in hg
  have hlen : (cs.map wordOf).length = cs.length := List.length_map _
  intro n
  induction n with
  | zero =>
    intro i hi
    rw [List.take_of_length_le (by omega)]
    refine Ev_step (fun k => by rw [spec_pzParse.l0, if_neg (by omega)]) ?_
    refine Ev_bind (pzGood_ev cs (by omega)) (Ev_pos hg ?_)
    refine Ev_bind (text_ev cs hg).1 ?_
    simp only [hs, beq_self_eq_true]
    exact Ev.now _
  | succ n ih =>
    intro i hi
    have h : i < cs.length := by omega
    obtain ⟨ha, hb, hc2, hx⟩ := clue_nums (hc _ (List.getElem_mem h))
    have hw : (cs.map wordOf)[i]'(by omega) = wordOf cs[i] := List.getElem_map _
    have sp : Ev (fun k => spec_l1Split.f k (wordOf cs[i]) 46) [num cs[i].f0.toNat, num cs[i].f1.toNat, num cs[i].f2.toNat] := by
      have e := split_ev (wordOf cs[i]) 46 (by have := word_size cs[i].f0.toNat cs[i].f1.toNat cs[i].f2.toNat ha hb hc2; show (word _ _ _).size ≤ 1000; omega)
      have e2 : (cut 46 [] (wordOf cs[i]).data.toList).map mkB = _ := word_cut cs[i].f0.toNat cs[i].f1.toNat cs[i].f2.toNat
      rw [e2] at e
      exact e
    have nx := ih (i + 1) (by omega)
    rw [List.take_succ_eq_append_getElem h, ← hx] at nx
    refine Ev_step (fun k => by rw [spec_pzParse.l0, if_pos (by omega), if_pos (by omega), if_pos (by omega), rdS _ i (by omega), hw, nextW i (by omega)]) ?_
    refine Ev_bind sp ?_
    refine Ev_pos (by simp) ?_
    refine Ev_pos (by simp) ?_
    refine Ev_bind (read_num _ ha) ?_
    refine Ev_pos (by simp) ?_
    refine Ev_bind (read_num _ hb) ?_
    refine Ev_pos (by simp) ?_
    refine Ev_bind (read_num _ hc2) ?_
    refine Ev_pos (by rw [List.length_take]; omega) ?_
    exact nx
theorem split_size (sep : ByteArray) : ∀ (k : Nat) (s : ByteArray), ∀ x ∈ Lib.splitB sep 0 k s, x.size ≤ s.size := by
  intro k
  induction k with
  | zero => intro s x hx; rw [Lib.splitB, List.mem_singleton] at hx; rw [hx]; exact Nat.le_refl _
  | succ k ih =>
    intro s x hx
    rw [Lib.splitB] at hx
    split at hx
    · rw [List.mem_singleton] at hx; rw [hx]; exact Nat.le_refl _
    · rw [List.mem_cons] at hx
      rcases hx with rfl | hx
      · rw [ByteArray.size_extract]; omega
      · have := ih _ x hx
        rw [ByteArray.size_extract] at this
        omega
theorem nums_l0 (ws : List ByteArray) (hw : ∀ x ∈ ws, x.size ≤ 1048576) (hl : ws.length ≤ 10) : ∀ (n i : Nat) (acc : List Int), i + n = ws.length → acc.length ≤ i → ∃ r, Ev (fun k => impl_numbersOf.l0 k acc ws (ws.length : Int) (i : Int)) r := by
  intro n
  induction n with
  | zero => intro i acc hi ha; exact ⟨(acc, true), Ev_step (fun k => by rw [impl_numbersOf.l0, if_neg (by omega)]) (Ev.now _)⟩
  | succ n ih =>
    intro i acc hi ha
    have h : i < ws.length := by omega
    obtain ⟨v, e, he⟩ := atoi_any ws[i] (by have := hw _ (List.getElem_mem h); omega)
    by_cases hn : e.isNone = true
    · obtain ⟨r, hr⟩ := ih (i + 1) (acc ++ [v]) (by omega) (by rw [List.length_append]; simp only [List.length_cons, List.length_nil]; omega)
      exact ⟨r, Ev_step (fun k => by rw [impl_numbersOf.l0, if_pos (by omega), if_pos (by omega), if_pos (by omega), rdS ws i h, nextW i (by omega)]) (Ev_some he (Ev_pos hn (Ev_pos (show acc.length < 17592186044416 by omega) hr)))⟩
    · exact ⟨([], false), Ev_step (fun k => by rw [impl_numbersOf.l0, if_pos (by omega), if_pos (by omega), if_pos (by omega), rdS ws i h, nextW i (by omega)]) (Ev_some he (Ev_neg hn (Ev.now _)))⟩
theorem splitn_eq (s sep : ByteArray) (n : Nat) (hs : s.size ≤ 1048576) (h1 : 1 ≤ sep.size) (hn : 1 ≤ n) (hn2 : n ≤ 100) : splitn.f s sep (n : Int) = some (Lib.splitB sep 0 (min n (s.size + 1) - 1) s) := by
  unfold splitn.f
  rw [if_pos ⟨by omega, h1, by omega, by omega⟩, Int.toNat_natCast]
theorem dot1 : (⟨#[46]⟩ : ByteArray).size = 1 := rfl
theorem com1 : (⟨#[44]⟩ : ByteArray).size = 1 := rfl
theorem four : wrap64 (3 + 1) = ((4 : Nat) : Int) := by rw [w64 (by omega) (by omega)]; rfl
theorem nums_any (s : ByteArray) (hs : s.size ≤ 1048576) : ∃ r, Ev (fun k => impl_numbersOf.f k s (⟨#[46]⟩ : ByteArray) 3) r := by
  simp only [impl_numbersOf.f, four]
  have e := splitn_eq s ⟨#[46]⟩ 4 hs (by rw [dot1]; exact Nat.le_refl _) (by omega) (by omega)
  have hl := Lib.splitB_length_le ⟨#[46]⟩ 0 (min 4 (s.size + 1) - 1) s
  have hz := split_size ⟨#[46]⟩ (min 4 (s.size + 1) - 1) s
  generalize Lib.splitB ⟨#[46]⟩ 0 (min 4 (s.size + 1) - 1) s = ws at e hl hz
  by_cases h : (ws.length : Int) > 3
  · exact ⟨_, Ev_some e (Ev_pos h (Ev.now _))⟩
  · obtain ⟨r, hr⟩ := nums_l0 ws (fun x hx => by have := hz x hx; omega) (by omega) ws.length 0 [] (by omega) (by simp)
    exact ⟨r, Ev_some e (Ev_neg h hr)⟩
theorem nums_word (a b c : Nat) (ha : a ≤ 1000) (hb : b ≤ 1000) (hc : c ≤ 1000) : Ev (fun k => impl_numbersOf.f k (word a b c) (⟨#[46]⟩ : ByteArray) 3) ([(a : Int), (b : Int), (c : Int)], true) := by
  simp only [impl_numbersOf.f, four]
  have hz := word_size a b c ha hb hc
  have hz2 : 2 ≤ (word a b c).size := by unfold word; simp only [ByteArray.size_append, dot1]; omega
  have e := splitn_eq (word a b c) ⟨#[46]⟩ 4 (by omega) (by rw [dot1]; exact Nat.le_refl _) (by omega) (by omega)
  have hcut := word_cut a b c
  have hlen : (cut 46 [] (word a b c).data.toList).length = 3 := by have := congrArg List.length hcut; rw [List.length_map] at this; exact this
  have e2 : Lib.splitB ⟨#[46]⟩ 0 (min 4 ((word a b c).size + 1) - 1) (word a b c) = _ := splitB_cut 46 (min 4 ((word a b c).size + 1) - 1) (word a b c) (by omega)
  rw [e2, hcut] at e
  have w0 : wrap64 (0 + 1) = 1 := by rw [w64 (by omega) (by omega)]; rfl
  have w1 : wrap64 (1 + 1) = 2 := by rw [w64 (by omega) (by omega)]; rfl
  have w2 : wrap64 (2 + 1) = 3 := by rw [w64 (by omega) (by omega)]; rfl
  have r0 : rdOf ByteArray.empty [num a, num b, num c] 0 = num a := rfl
  have r1 : rdOf ByteArray.empty [num a, num b, num c] 1 = num b := rfl
  have r2 : rdOf ByteArray.empty [num a, num b, num c] 2 = num c := rfl
  have l3 : (([num a, num b, num c] : List ByteArray).length : Int) = 3 := rfl
  refine Ev_some e ?_
  refine Ev_neg (by rw [l3]; decide) ?_
  refine Ev_step (fun k => by rw [impl_numbersOf.l0, if_pos (by rw [l3]; decide), if_pos (by decide), if_pos (by rw [l3]; decide), r0, w0]) ?_
  refine Ev_some (atoi_num a ha) ?_
  refine Ev_pos rfl ?_
  refine Ev_pos (by simp) ?_
  refine Ev_step (fun k => by rw [impl_numbersOf.l0, if_pos (by rw [l3]; decide), if_pos (by decide), if_pos (by rw [l3]; decide), r1, w1]) ?_
  refine Ev_some (atoi_num b hb) ?_
  refine Ev_pos rfl ?_
  refine Ev_pos (by simp) ?_
  refine Ev_step (fun k => by rw [impl_numbersOf.l0, if_pos (by rw [l3]; decide), if_pos (by decide), if_pos (by rw [l3]; decide), r2, w2]) ?_
  refine Ev_some (atoi_num c hc) ?_
  refine Ev_pos rfl ?_
  refine Ev_pos (by simp) ?_
  refine Ev_step (fun k => by rw [impl_numbersOf.l0, if_neg (by rw [l3]; decide)]) ?_
  exact Ev.now _
theorem ip_any (s : ByteArray) (ws : List ByteArray) (hw : ∀ x ∈ ws, x.size ≤ 1048576) (hl : ws.length ≤ 10) : ∀ (n i : Nat) (acc : List Cl), i + n = ws.length → acc.length ≤ i →
    ∃ r, (okR s r ∧ (r.2 = false → r.1 = [])) ∧ Ev (fun k => impl_ParsePuzzle.l0 k s ws (ws.length : Int) (i : Int) acc) r := by
  intro n
  induction n with
  | zero =>
    intro i acc hi ha
    by_cases h : goodP acc = true
    · obtain ⟨_, t⟩ := text_ev acc h
      by_cases he : (J (acc.map wordOf)).toList = s.toList
      · refine ⟨(acc, true), ⟨fun _ => ⟨h, toL he⟩, (fun e => by cases e)⟩, ?_⟩
        refine Ev_step (fun k => by rw [impl_ParsePuzzle.l0, if_neg (by omega)]) ?_
        refine Ev_some (implIsPuzzle_eq acc) (Ev_pos h ?_)
        refine Ev_bind t ?_
        exact Ev_pos he (Ev.now _)
      · refine ⟨([], false), ⟨(fun e => by cases e), fun _ => rfl⟩, ?_⟩
        refine Ev_step (fun k => by rw [impl_ParsePuzzle.l0, if_neg (by omega)]) ?_
        refine Ev_some (implIsPuzzle_eq acc) (Ev_pos h ?_)
        refine Ev_bind t ?_
        exact Ev_neg he (Ev.now _)
    · refine ⟨([], false), ⟨(fun e => by cases e), fun _ => rfl⟩, ?_⟩
      refine Ev_step (fun k => by rw [impl_ParsePuzzle.l0, if_neg (by omega)]) ?_
      refine Ev_some (implIsPuzzle_eq acc) (Ev_neg h ?_)
      exact Ev.now _
  | succ n ih =>
    intro i acc hi ha
    have h : i < ws.length := by omega
    obtain ⟨⟨t, b⟩, e⟩ := nums_any ws[i] (hw _ (List.getElem_mem h))
    by_cases hb : b = true
    · by_cases h3 : (t.length : Int) = 3
      · obtain ⟨r, hr, er⟩ := ih (i + 1) (acc ++ [⟨rd t 0, rd t 1, rd t 2⟩]) (by omega) (by rw [List.length_append]; simp only [List.length_cons, List.length_nil]; omega)
        refine ⟨r, hr, Ev_step (fun k => by rw [impl_ParsePuzzle.l0, if_pos (by omega), if_pos (by omega), if_pos (by omega), rdS ws i h, nextW i (by omega)]) ?_⟩
        refine Ev_bind e ?_
        refine Ev_pos hb ?_
        refine Ev_pos h3 ?_
        refine Ev_pos (by simp only; omega) ?_
        refine Ev_pos (by simp only; omega) ?_
        refine Ev_pos (by simp only; omega) ?_
        refine Ev_pos (by omega) ?_
        exact er
      · refine ⟨([], false), ⟨(fun e => by cases e), fun _ => rfl⟩, Ev_step (fun k => by rw [impl_ParsePuzzle.l0, if_pos (by omega), if_pos (by omega), if_pos (by omega), rdS ws i h, nextW i (by omega)]) ?_⟩
        refine Ev_bind e ?_
        refine Ev_pos hb ?_
        exact Ev_neg h3 (Ev.now _)
    · refine ⟨([], false), ⟨(fun e => by cases e), fun _ => rfl⟩, Ev_step (fun k => by rw [impl_ParsePuzzle.l0, if_pos (by omega), if_pos (by omega), if_pos (by omega), rdS ws i h, nextW i (by omega)]) ?_⟩
      refine Ev_bind e ?_
      exact Ev_neg hb (Ev.now _)
theorem ip_img (s : ByteArray) (cs : List Cl) (hg : goodP cs = true) (hs : J (cs.map wordOf) = s) : ∀ (n i : Nat), i + n = cs.length →
    Ev (fun k => impl_ParsePuzzle.l0 k s (cs.map wordOf) ((cs.map wordOf).length : Int) (i : Int) (cs.take i)) (cs, true) := by
  obtain ⟨hl, hc⟩ := good_in hg
  have hlen : (cs.map wordOf).length = cs.length := List.length_map _
  intro n
  induction n with
  | zero =>
    intro i hi
    rw [List.take_of_length_le (by omega)]
    refine Ev_step (fun k => by rw [impl_ParsePuzzle.l0, if_neg (by omega)]) ?_
    refine Ev_some (implIsPuzzle_eq cs) (Ev_pos hg ?_)
    refine Ev_bind (text_ev cs hg).2 ?_
    exact Ev_pos (by rw [hs]) (Ev.now _)
  | succ n ih =>
    intro i hi
    have h : i < cs.length := by omega
    obtain ⟨ha, hb, hc2, hx⟩ := clue_nums (hc _ (List.getElem_mem h))
    have hw : (cs.map wordOf)[i]'(by omega) = wordOf cs[i] := List.getElem_map _
    have nx := ih (i + 1) (by omega)
    rw [List.take_succ_eq_append_getElem h, ← hx] at nx
    refine Ev_step (fun k => by rw [impl_ParsePuzzle.l0, if_pos (by omega), if_pos (by omega), if_pos (by omega), rdS _ i (by omega), hw, nextW i (by omega)]) ?_
    refine Ev_bind (nums_word _ _ _ ha hb hc2) ?_
    refine Ev_pos rfl ?_
    refine Ev_pos rfl ?_
    refine Ev_pos (by simp) ?_
    refine Ev_pos (by simp) ?_
    refine Ev_pos (by simp) ?_
    refine Ev_pos (by rw [List.length_take]; omega) ?_
    exact nx
theorem cut_len (b : UInt8) : ∀ (l acc : List UInt8), (cut b acc l).length ≤ l.length + 1 := by
  intro l
  induction l with
  | nil => intro acc; rw [cut]; exact Nat.le_refl _
  | cons c r ih =>
    intro acc
    rw [cut]
    split
    · rw [List.length_cons, List.length_cons]; have := ih []; omega
    · rw [List.length_cons]; have := ih (acc ++ [c]); omega
theorem cut_mem (b : UInt8) : ∀ (l acc : List UInt8), ∀ x ∈ cut b acc l, x.length ≤ acc.length + l.length := by
  intro l
  induction l with
  | nil => intro acc x hx; rw [cut, List.mem_singleton] at hx; rw [hx]; exact Nat.le_add_right _ _
  | cons c r ih =>
    intro acc x hx
    rw [cut] at hx
    split at hx
    · rw [List.mem_cons] at hx
      rcases hx with rfl | hx
      · exact Nat.le_add_right _ _
      · have := ih [] x hx
        simp only [List.length_nil, List.length_cons] at this ⊢
        omega
    · have := ih _ x hx
      simp only [List.length_append, List.length_nil, List.length_cons] at this ⊢
      omega
theorem cut_small (s : ByteArray) (hs : s.size ≤ 1000) : ∀ x ∈ (cut 44 [] s.data.toList).map mkB, x.size ≤ 1000 := by
  intro x hx
  rw [List.mem_map] at hx
  obtain ⟨y, hy, rfl⟩ := hx
  have := cut_mem 44 _ _ y hy
  have hz : s.size = s.data.toList.length := Lib.size_eq s
  have e : (mkB y).size = y.length := by rw [Lib.size_eq]; rfl
  rw [e]
  simp only [List.length_nil] at this
  omega
theorem lens_le : ∀ (l : List (List UInt8)), (∀ y ∈ l, y.length ≤ 9) → Lib.lens l ≤ 9 * l.length := by
  intro l
  induction l with
  | nil => intro _; exact Nat.le_refl _
  | cons x l ih =>
    intro h
    have h1 := h x (by simp)
    have h2 := ih (fun y hy => h y (by simp [hy]))
    simp only [Lib.lens, List.map_cons, List.sum_cons, List.length_cons] at h2 ⊢
    omega
theorem word9 {x : Cl} (h : clueOk x = true) : (wordOf x).data.toList.length ≤ 9 := by
  have h3 : x.f0 < 10 ∧ x.f1 < 100 := by
    unfold clueOk clueB inB at h
    rw [Bool.and_eq_true, decide_eq_true_eq] at h
    obtain ⟨h1, h2⟩ := h
    split at h2
    · have := beq_iff_eq.1 h2; omega
    · split at h2
      · have := of_decide_eq_true h2; omega
      · split at h2
        · rw [Bool.and_eq_true, decide_eq_true_eq] at h2; omega
        · split at h2
          · rw [Bool.and_eq_true, decide_eq_true_eq] at h2; omega
          · cases h2
  obtain ⟨⟨a1, a2⟩, ⟨b1, b2⟩, ⟨c1, c2⟩⟩ := clue_in h
  have s0 := num_size 0 x.f0.toNat (by omega)
  have s1 := num_size 1 x.f1.toNat (by omega)
  have s2 := num_size 3 x.f2.toNat (by omega)
  rw [size_list]
  unfold wordOf word
  simp only [ByteArray.size_append, dot1]
  omega
theorem text60 (x : Cl) (l : List Cl) (hl : l.length ≤ 5) (h : ∀ y ∈ x :: l, clueOk y = true) : (J ((x :: l).map wordOf)).size ≤ 60 := by
  rw [← size_list]
  have e : (J ((x :: l).map wordOf)).data.toList = Lib.join ((wordOf x).data.toList :: (l.map wordOf).map (·.data.toList)) [44] := rfl
  rw [e, Lib.join_length]
  have h2 := lens_le ((wordOf x).data.toList :: (l.map wordOf).map (·.data.toList)) (by
    intro y hy
    rw [List.mem_cons] at hy
    rcases hy with rfl | hy
    · exact word9 (h x (by simp))
    · rw [List.map_map, List.mem_map] at hy
      obtain ⟨z, hz, rfl⟩ := hy
      exact word9 (h z (by simp [hz])))
  simp only [List.length_cons, List.length_map, List.length_nil] at h2 ⊢
  omega
theorem parse_both (s : ByteArray) (hs : s.size ≤ 1048576) : ∃ r : List Cl × Bool, r.1.length ≤ 6 ∧ Ev (fun k => spec_ParsePuzzle.f k s) r ∧ Ev (fun k => impl_ParsePuzzle.f k s) r := by
  have hz : s.size = s.data.toList.length := Lib.size_eq s
  simp only [spec_ParsePuzzle.f, spec_pzParse.f, impl_ParsePuzzle.f]
  by_cases h0 : s.toList = []
  · have h1 : s.data.toList = [] := (ByteArray.toList_eq s).symm.trans h0
    have h2 : ¬ (s.size : Int) > 60 := by rw [hz, h1]; decide
    refine ⟨([], true), by simp, ?_, Ev_pos h0 (Ev.now _)⟩
    refine Ev_bind (Ev_neg h2 (Ev_pos h0 (Ev.now _))) ?_
    exact Ev_pos rfl (Ev.now _)
  · have e := splitn_eq s ⟨#[44]⟩ 7 hs (by rw [com1]; exact Nat.le_refl _) (by omega) (by omega)
    by_cases him : ∃ cs, goodP cs = true ∧ J (cs.map wordOf) = s
    · obtain ⟨cs, hg, hj⟩ := him
      obtain ⟨hl, hc⟩ := good_in hg
      rcases cs with _ | ⟨x, l⟩
      · exfalso
        apply h0
        rw [← hj]
        rw [ByteArray.toList_eq]
        rfl
      · have h60 : s.size ≤ 60 := by rw [← hj]; exact text60 x l (by simp only [List.length_cons] at hl; omega) hc
        have hcut : (cut 44 [] s.data.toList).map mkB = (x :: l).map wordOf := by rw [← hj]; exact text_cut x l
        have sp : Ev (fun k => spec_l1Split.f k s 44) ((x :: l).map wordOf) := hcut ▸ split_ev s 44 (by omega)
        have hlen : (cut 44 [] s.data.toList).length = (x :: l).length := by have := congrArg List.length hcut; rw [List.length_map, List.length_map] at this; exact this
        have hle := cut_len 44 s.data.toList []
        have e2 : Lib.splitB ⟨#[44]⟩ 0 (min 7 (s.size + 1) - 1) s = _ := splitB_cut 44 (min 7 (s.size + 1) - 1) s (by omega)
        rw [e2, hcut] at e
        refine ⟨(x :: l, true), hl, ?_, ?_⟩
        · refine Ev_bind (a := (x :: l, true)) (Ev_neg (by omega) (Ev_neg h0 (Ev_bind sp ?_))) (Ev_pos rfl (Ev.now _))
          exact pz_img s (x :: l) hg hj (x :: l).length 0 (by omega)
        · refine Ev_neg h0 (Ev_some e ?_)
          exact ip_img s (x :: l) hg hj (x :: l).length 0 (by omega)
    · refine ⟨([], false), by simp, ?_, ?_⟩
      · by_cases h6 : (s.size : Int) > 60
        · refine Ev_bind (Ev_pos h6 (Ev.now _)) ?_
          exact Ev_neg (by decide) (Ev.now _)
        · have sp : Ev (fun k => spec_l1Split.f k s 44) ((cut 44 [] s.data.toList).map mkB) := split_ev s 44 (by omega)
          have hle := cut_len 44 s.data.toList []
          obtain ⟨r, hr, er⟩ := pz_any s ((cut 44 [] s.data.toList).map mkB) (cut_small s (by omega)) (by rw [List.length_map]; omega) ((cut 44 [] s.data.toList).map mkB).length 0 [] (by omega) (by simp)
          have hf : ¬ r.2 = true := fun e => him ⟨r.1, hr e⟩
          refine Ev_bind (Ev_neg h6 (Ev_neg h0 (Ev_bind sp er))) ?_
          exact Ev_neg hf (Ev.now _)
      · have hl := Lib.splitB_length_le ⟨#[44]⟩ 0 (min 7 (s.size + 1) - 1) s
        have hz2 := split_size ⟨#[44]⟩ (min 7 (s.size + 1) - 1) s
        generalize Lib.splitB ⟨#[44]⟩ 0 (min 7 (s.size + 1) - 1) s = ws at e hl hz2
        obtain ⟨⟨r1, r2⟩, ⟨hr, hr2⟩, er⟩ := ip_any s ws (fun x hx => by have := hz2 x hx; omega) (by omega) ws.length 0 [] (by omega) (by simp)
        have hf : r2 = false := by
          cases r2 with
          | false => rfl
          | true => exact absurd ⟨r1, hr rfl⟩ him
        subst hf
        have hn : r1 = [] := hr2 rfl
        subst hn
        exact Ev_neg h0 (Ev_some e er)
theorem FnExactParsePuzzle : laws_FnExactParsePuzzle.Pure := by
  intro s hm
  refine Ev.rounds (g := fun k => laws_FnExactParsePuzzle.f k s) ?_
  by_cases hs : (s.size : Int) > 1048576
  · exact ⟨0, fun k _ => by simp only [laws_FnExactParsePuzzle.f]; rw [if_pos hs]⟩
  · obtain ⟨⟨r1, r2⟩, hl, e1, e2⟩ := parse_both s (by omega)
    have hl : r1.length ≤ 6 := hl
    have eq := eqPuzzle_ev r1 (by omega)
    have mk1 := markPuzzle_ev r1 (by omega)
    have hd := heldPuzzle_ev r1.length (by omega)
    simp only [laws_FnExactParsePuzzle.f]
    refine Ev_neg hs ?_
    refine Ev_bind e1 ?_
    refine Ev_bind e2 ?_
    refine Ev_bind eq ?_
    refine Ev_pos rfl ?_
    refine Ev_step (fun k => by rw [laws_FnExactParsePuzzle.j0]) ?_
    refine Ev_neg (by simp) ?_
    refine Ev_bind mk1 ?_
    refine Ev_bind hd ?_
    refine Ev_neg (by omega) ?_
    refine Ev_pos rfl ?_
    refine Ev_bind e2 ?_
    refine Ev_bind eq ?_
    refine Ev_pos rfl ?_
    refine Ev_step (fun k => by rw [laws_FnExactParsePuzzle.j1]) ?_
    refine Ev_neg (by simp) ?_
    refine Ev_bind hd ?_
    refine Ev_neg (by omega) ?_
    exact Ev_pos rfl (Ev.now _)
end Go.Proofs.YtmcingnpbececaaDoor.Pure
