/- What BindingText answers, in plain words: the program and the reference alike. -/
import Derived.Test.YtppbpefehpbejaaDoorZbr22
import Derived.Test.YtppbpefehpbejaaDoorZbr21
import Derived.Test.YtppbpefehpbejaaDoorZbr25
import Derived.Test.YtppbpefehpbejaaDoorZbr24
import Derived.Test.YtppbpefehpbejaaDoorZbr0
import Derived.ProofKit
import Derived.Deep.Slices
import Derived.Lib.SmallJoins
import Derived.WalkKit
section
set_option linter.unusedVariables false
namespace Go.Proofs.YtppbpefehpbejaaDoor.Pure
open Go.RowKit Go.Proofs.YtppbpefehpbejaaDoorW.PrintWords Go.Proofs.YtppbpefehpbejaaDoor.P Go.Proofs.YtppbpefehpbejaaDoor.Base Go.Proofs.YtppbpefehpbejaaDoor.Order

theorem bindingText_ev (b : List Int) (hn : b.length ≤ 1048576) : ∃ r : ByteArray × Bool, Ev (fun k => spec_BindingText.f k b) r ∧ Ev (fun k => impl_BindingText.f k b) r ∧ r.2 = bindS b ∧ (bindS b = true → r.1 = textT b ⟨#[]⟩) := by
  cases hb : bindS b with
  | false =>
    refine ⟨(⟨#[]⟩, false), ?_, ?_, rfl, fun h => by cases h⟩
    · simp only [spec_BindingText.f]
      refine Ev_bind (biGood_ev b hn) ?_
      rw [hb]
      exact Ev_neg (by decide) (Ev.now _)
    · simp only [impl_BindingText.f]
      refine Ev_bind (isBinding_ev b hn) ?_
      rw [hb]
      exact Ev_neg (by decide) (Ev.now _)
  | true =>
    obtain ⟨e1, e2⟩ := text_ev b hb
    refine ⟨(textT b ⟨#[]⟩, true), ?_, ?_, rfl, fun _ => rfl⟩
    · simp only [spec_BindingText.f]
      refine Ev_bind (biGood_ev b hn) ?_
      rw [hb]
      exact Ev_pos rfl (Ev_bind e1 (Ev.now _))
    · simp only [impl_BindingText.f]
      refine Ev_bind (isBinding_ev b hn) ?_
      rw [hb]
      exact Ev_pos rfl (Ev_bind e2 (Ev.now _))
end Go.Proofs.YtppbpefehpbejaaDoor.Pure
end

section
namespace Go.Proofs.YtppbpefehpbejaaDoor.P
open Go.RowKit Go.Proofs.YtppbpefehpbejaaDoorW.PrintWords Go.Proofs.YtppbpefehpbejaaDoorW.PrintLast Go.Proofs.YtppbpefehpbejaaDoorW.PrintMore Go.Proofs.YtppbpefehpbejaaDoor.Base Go.Proofs.YtppbpefehpbejaaDoor.Order Go.Proofs.YtppbpefehpbejaaDoor.Far Go.Proofs.YtppbpefehpbejaaDoor.Pure
set_option linter.unusedVariables false

theorem br_j15 {s : ByteArray} {b : List Int} {ok : Bool} (h : ok = true → bindS b = true ∧ (textT b ⟨#[]⟩).toList = s.toList) :
    Ev (fun k => if ok = true then ((impl_BindingText.f k b).bind fun bt => (if bt.2 = true then (some (bt.1.toList == s.toList)) else (some false))) else (some true)) true := by
  cases ok with
  | false => exact Ev_neg (by decide) (Ev.now _)
  | true =>
    obtain ⟨hb, ht⟩ := h rfl
    obtain ⟨⟨r1, r2⟩, _, e2, hr2, hr1⟩ := bindingText_ev b (by have := (bind_in hb).1; omega)
    simp only at hr2 hr1
    rw [hb] at hr2
    subst hr2
    rw [hr1 hb] at e2
    refine Ev_pos rfl (Ev_bind e2 (Ev_pos rfl ?_))
    rw [ht, beq_self_eq_true]
    exact Ev.now _
/-- How many bindings so many turns need, as both answer it. -/
def cntR (a0 a1 : Int) : Int × Bool := if 1 ≤ a0 ∧ a0 ≤ 5 ∧ 0 ≤ a1 then ((cntO a0.toNat a1 : Int), true) else (0, false)
theorem cntSpec_ev (a0 a1 : Int) : Ev (fun k => spec_CountByTurns.f k a0 a1) (cntR a0 a1) := countBy_ev a0 a1
theorem cntImpl_ev (a0 a1 : Int) : Ev (fun k => impl_CountByTurns.f k a0 a1) (cntR a0 a1) := ⟨0, fun k _ => by
  show impl_CountByTurns.f k a0 a1 = _
  rw [impl_CountByTurns.f]
  unfold cntR cntO
  split <;> rfl⟩
theorem cnt_le (n : Nat) (v : Int) : cntO n v ≤ allOf n := by
  unfold cntO
  exact Nat.le_trans List.countP_le_length (dist_all n).2.1
theorem allOf_small {n : Nat} (h : n ≤ 5) : allOf n ≤ 3840 := by
  rcases (by omega : n = 0 ∨ n = 1 ∨ n = 2 ∨ n = 3 ∨ n = 4 ∨ n = 5) with h | h | h | h | h | h <;> rw [h] <;> decide
def farR (a0 : Int) : List Int × Int × Bool := if 1 ≤ a0 ∧ a0 ≤ 5 then ((farB (distO a0.toNat)).1, (farB (distO a0.toNat)).2, true) else ([], 0, false)
theorem farImpl_ev (a0 : Int) : Ev (fun k => impl_FarthestBinding.f k a0) (farR a0) := ⟨0, fun k _ => by
  show impl_FarthestBinding.f k a0 = _
  rw [impl_FarthestBinding.f]
  unfold farR
  split <;> rfl⟩
theorem br_j14 {n : Int} {s : ByteArray} {b : List Int} {ok : Bool} (hn : n ≤ 4) (h : ok = true → bindS b = true ∧ (textT b ⟨#[]⟩).toList = s.toList) :
    Ev (fun k => laws_FnBindingsRead.j14 k n (farR n).1 (farR n).2.1 (farR n).2.2 s b ok) true := by
  refine Ev_step (fun k => by rw [laws_FnBindingsRead.j14]) ?_
  unfold farR
  by_cases hc : 1 ≤ n ∧ n ≤ 5
  · rw [if_pos hc]
    obtain ⟨m, rfl⟩ := Int.eq_ofNat_of_zero_le (show 0 ≤ n by omega)
    rw [Int.toNat_natCast]
    have hD := (dist_all m).1
    have hB := farB_best hD
    have hbd := hD.bd _ hB.1
    have hnn := hD.nn _ hB.1
    simp only at hbd hnn
    have hbs := bind_of_bd hbd (by omega) (by omega)
    have hlen : (farB (distO m)).1.length = m := hbd.1
    have hlk := lookup_in hD.nd hB.1
    simp only at hlk
    have e1 := fewImpl_ev (farB (distO m)).1 (by omega)
    have ef : fewR (farB (distO m)).1 = ((farB (distO m)).2, true) := by
      unfold fewR
      rw [hbs, hlen, decide_eq_true (show m ≤ 5 by omega), hlk]
      rfl
    rw [ef] at e1
    have hmax : (farB (distO m)).2 ≤ (m : Int) + 1 := dist_few (by omega) (by omega) hbd hlk
    have w1 : wrap64 ((farB (distO m)).2 + 1) = (farB (distO m)).2 + 1 := w64 (by omega) (by omega)
    have c1 := cntImpl_ev (m : Int) (farB (distO m)).2
    have c2 := cntImpl_ev (m : Int) ((farB (distO m)).2 + 1)
    have h1 : 1 ≤ cntO m (farB (distO m)).2 := List.countP_pos_iff.2 ⟨_, hB.1, by simp⟩
    have h0 : cntO m ((farB (distO m)).2 + 1) = 0 := by
      unfold cntO
      rw [List.countP_eq_zero]
      intro e he
      have := hB.2 e he
      rw [beq_iff_eq]
      omega
    have k1 : cntR (m : Int) (farB (distO m)).2 = ((cntO m (farB (distO m)).2 : Int), true) := by unfold cntR; rw [if_pos (by omega), Int.toNat_natCast]
    have k2 : cntR (m : Int) ((farB (distO m)).2 + 1) = (0, true) := by unfold cntR; rw [if_pos (by omega), Int.toNat_natCast, h0]; rfl
    rw [k1] at c1
    rw [k2] at c2
    rw [w1]
    refine Ev_pos rfl (Ev_bind e1 (Ev_bind c1 (Ev_bind c2 (Ev_pos (show ((farB (distO m)).1.length : Int) = (m : Int) by omega) (Ev_pos rfl (Ev_pos rfl (Ev_pos rfl (Ev_neg (show ¬ ((cntO m (farB (distO m)).2 : Nat) : Int) < 1 by omega) (Ev_pos rfl ?_)))))))))
    refine Ev_step (fun k => by rw [laws_FnBindingsRead.j15]) ?_
    exact Ev_neg (by simp) (br_j15 h)
  · rw [if_neg hc]
    exact Ev_neg (by decide) (br_j15 h)
/-- The sum of what is counted. -/
theorem br_l2 {f n : Int} {m : Nat} {far : List Int} {most : Int} {fok : Bool} {s : ByteArray} {b : List Int} {ok : Bool} (hf : f = (m : Int)) (h1 : 1 ≤ m) (h3 : m ≤ 3) (h0 : cntO m 0 = 1)
    (hj : Ev (fun k => laws_FnBindingsRead.j14 k n far most fok s b ok) true) : ∀ (d i S : Nat), i + d = m + 2 → S + ((List.range' i d).map fun (k : Nat) => cntO m (k : Int)).foldl (· + ·) 0 = allOf m →
    Ev (fun k => laws_FnBindingsRead.l2 k f n far most fok s b ok (S : Int) (allOf m : Int) true (i : Int)) true := by
  subst hf
  have ha := allOf_small (n := m) (by omega)
  have w1 : wrap64 ((m : Int) + 1) = (m : Int) + 1 := w64 (by omega) (by omega)
  intro d
  induction d with
  | zero =>
    intro i S hi hS
    have hS2 : S = allOf m := by simpa using hS
    subst hS2
    refine Ev_step (fun k => by rw [laws_FnBindingsRead.l2, w1, if_neg (by omega)]) (Ev_pos rfl (Ev_pos rfl hj))
  | succ d ih =>
    intro i S hi hS
    have hc := cntImpl_ev (m : Int) (i : Int)
    have k1 : cntR (m : Int) (i : Int) = ((cntO m (i : Int) : Int), true) := by unfold cntR; rw [if_pos (by omega), Int.toNat_natCast]
    rw [k1] at hc
    have hle := cnt_le m (i : Int)
    have hsum : S + cntO m (i : Int) + ((List.range' (i + 1) d).map fun (k : Nat) => cntO m (k : Int)).foldl (· + ·) 0 = allOf m := by
      rw [List.range'_succ, List.map_cons, List.foldl_cons, Nat.zero_add] at hS
      have hfl : ∀ (l : List Nat) (x : Nat), l.foldl (· + ·) x = x + l.foldl (· + ·) 0 := by
        intro l
        induction l with
        | nil => intro x; simp
        | cons y l ihl => intro x; rw [List.foldl_cons, List.foldl_cons, ihl (x + y), ihl (0 + y)]; omega
      rw [hfl] at hS
      omega
    have nx := ih (i + 1) (S + cntO m (i : Int)) (by omega) hsum
    have w2 : wrap64 ((S : Int) + (cntO m (i : Int) : Int)) = ((S + cntO m (i : Int) : Nat) : Int) := by rw [w64 (by omega) (by omega)]; omega
    refine Ev_step (fun k => by rw [laws_FnBindingsRead.l2, w1, if_pos (by omega), nextI i (by omega)]) (Ev_bind hc (Ev_pos rfl (Ev_neg (show ¬ (cntO m (i : Int) : Int) < 0 by omega) ?_)))
    rw [w2]
    by_cases hz : (i : Int) = 0
    · refine Ev_pos hz (Ev_pos ?_ nx)
      rw [hz, h0]
      rfl
    · exact Ev_neg hz nx
theorem br_j11 {f n : Int} {far : List Int} {most : Int} {fok eleven : Bool} {s : ByteArray} {b : List Int} {ok : Bool} (he : eleven = true → 1 ≤ f)
    (hj : Ev (fun k => laws_FnBindingsRead.j14 k n far most fok s b ok) true) : Ev (fun k => laws_FnBindingsRead.j11 k f eleven n far most fok s b ok) true := by
  refine Ev_step (fun k => by rw [laws_FnBindingsRead.j11]) ?_
  have no : Ev (fun k => laws_FnBindingsRead.j12 k f n far most fok s b ok false) true := Ev_step (fun k => by rw [laws_FnBindingsRead.j12]) (Ev_neg (by decide) hj)
  cases eleven with
  | false => exact Ev_neg (by decide) no
  | true =>
    have h1 := he rfl
    refine Ev_pos rfl ?_
    by_cases h3 : f ≤ 3
    · rw [decide_eq_true h3]
      obtain ⟨m, rfl⟩ := Int.eq_ofNat_of_zero_le (show 0 ≤ f by omega)
      have hf := List.all_eq_true.1 finT3_all m (by
        rcases (by omega : m = 1 ∨ m = 2 ∨ m = 3) with rfl | rfl | rfl <;> decide)
      unfold finT3 at hf
      rw [Bool.and_eq_true, Bool.and_eq_true, decide_eq_true_eq, decide_eq_true_eq, beq_iff_eq] at hf
      obtain ⟨q0, q1, q2⟩ := hf
      refine Ev_step (fun k => by rw [laws_FnBindingsRead.j12]) (Ev_pos rfl (Ev_bind (Ev.of (fun k => impl_CountBindings.mono _ k) q2) ?_))
      have := br_l2 rfl (by omega) (by omega) q0 hj (m + 2) 0 0 (by omega) (by rw [Nat.zero_add, ← List.range_eq_range']; exact q1)
      exact this
    · rw [decide_eq_false h3]
      exact no
theorem br_j10 {r f n : Int} {m : List Int} {sv : Bool} {far : List Int} {most : Int} {fok eleven : Bool} {s : ByteArray} {b : List Int} {ok : Bool} (hr : sv = true → impl_RankOfBinding.f 400 m = some (r, true))
    (hj : Ev (fun k => laws_FnBindingsRead.j11 k f eleven n far most fok s b ok) true) : Ev (fun k => laws_FnBindingsRead.j10 k r m sv f eleven n far most fok s b ok) true := by
  refine Ev_step (fun k => by rw [laws_FnBindingsRead.j10]) ?_
  cases sv with
  | false => exact Ev_neg Bool.false_ne_true hj
  | true => exact Ev_pos rfl (Ev_bind (Ev.of (fun k => impl_RankOfBinding.mono _ k) (hr rfl)) (Ev_pos rfl (Ev_pos rfl hj)))
theorem br_l1 {g c : List Int} {f t a : Nat} {r fw n : Int} {m : List Int} {sv : Bool} {far : List Int} {most : Int} {fok eleven : Bool} {s : ByteArray} {b : List Int} {ok : Bool} (hg : g.length ≤ 8) (hc : c.length = g.length) (hf : f ≤ t) (ht : t < g.length) (ha : a + (t - f) < g.length)
    (he : ∀ k, k ≤ t - f → c.getD (a + k) 0 = g.getD (f + k) 0)
    (hj : Ev (fun k => laws_FnBindingsRead.j10 k r m sv fw eleven n far most fok s b ok) true) : ∀ d i : Nat, i + d = t - f + 1 →
    Ev (fun k => laws_FnBindingsRead.l1 k g (f : Int) (a : Int) c r m sv fw eleven n far most fok s b ok ((t - f : Nat) : Int) (i : Int)) true := by
  intro d
  induction d with
  | zero =>
    intro i hi
    exact Ev_step (fun k => by rw [laws_FnBindingsRead.l1, if_neg (by omega)]) hj
  | succ d ih =>
    intro i hi
    have w1 : wrap64 ((a : Int) + (i : Int)) = ((a + i : Nat) : Int) := by rw [w64 (by omega) (by omega)]; omega
    have w2 : wrap64 ((f : Int) + (i : Int)) = ((f + i : Nat) : Int) := by rw [w64 (by omega) (by omega)]; omega
    have nx := ih (i + 1) (by omega)
    refine Ev_step (fun k => by rw [laws_FnBindingsRead.l1, if_pos (by omega), w1, w2, if_pos (by omega), if_pos (by omega), if_pos (by omega), if_pos (by omega), rd_nat, rd_nat, nextI i (by omega)]) ?_
    exact Ev_pos (he i (by omega)) nx
theorem cutImpl_ev {c : List Int} {f t a : Nat} (hc : bindS c = true) (hf : f ≤ t) (ht : t < c.length) (ha : a + (t - f) < c.length) : Ev (fun k => impl_CutPart.f k c (f : Int) (t : Int) (a : Int)) (cutL c f t a, true) := by
  have h8 := (bind_in hc).1
  have hi := isBinding_ev c (by omega)
  rw [hc] at hi
  have hpp := isPart_eq c (f : Int) (t : Int) hc
  rw [show partB c (f : Int) (t : Int) = true from decide_eq_true ⟨by omega, by omega, by omega⟩] at hpp
  have w4 : wrap64 ((t : Int) - (f : Int)) = ((t - f : Nat) : Int) := by rw [w64 (by omega) (by omega)]; omega
  have w5 : wrap64 (((t - f : Nat) : Int) + 1) = ((t - f + 1 : Nat) : Int) := by rw [w64 (by omega) (by omega)]; omega
  have w6 : wrap64 ((c.length : Int) - ((t - f + 1 : Nat) : Int)) = (c.length : Int) - ((t - f + 1 : Nat) : Int) := w64 (by omega) (by omega)
  have hk : cutOk c (f : Int) (t : Int) (a : Int) := ⟨by omega, by omega, by omega, by omega, by omega, by omega⟩
  have hb : inB (a : Int) 0 ((c.length : Int) - ((t - f + 1 : Nat) : Int)) = true := decide_eq_true ⟨by omega, by omega⟩
  simp only [impl_CutPart.f]
  exact Ev_bind hi (Ev_pos rfl (Ev_some hpp (Ev_pos rfl (Ev_some (a := true) (by rw [w4, w5, w6, within_eq, hb]) (Ev_pos rfl (Ev_pos hk (Ev.now _)))))))
theorem br_j7 {g c : List Int} {f t a r fw n : Int} {m : List Int} {five sv : Bool} {far : List Int} {most : Int} {fok eleven : Bool} {s : ByteArray} {b : List Int} {ok : Bool}
    (h5 : five = true → bindS g = true ∧ partB g f t = true ∧ 0 ≤ a ∧ a ≤ (g.length : Int) - 1 - (t - f) ∧ c = cutL g f.toNat t.toNat a.toNat)
    (hj : Ev (fun k => laws_FnBindingsRead.j10 k r m sv fw eleven n far most fok s b ok) true) :
    Ev (fun k => laws_FnBindingsRead.j7 k g f t a c five r m sv fw eleven n far most fok s b ok false) true := by
  refine Ev_step (fun k => by rw [laws_FnBindingsRead.j7]) (Ev_neg (by decide) ?_)
  cases five with
  | false => exact Ev_neg Bool.false_ne_true hj
  | true =>
    obtain ⟨hb, hp, ha0, ha1, rfl⟩ := h5 rfl
    have h8 := (bind_in hb).1
    unfold partB at hp
    rw [decide_eq_true_eq] at hp
    obtain ⟨f, rfl⟩ := Int.eq_ofNat_of_zero_le hp.1
    obtain ⟨t, rfl⟩ := Int.eq_ofNat_of_zero_le (show 0 ≤ t by omega)
    obtain ⟨a, rfl⟩ := Int.eq_ofNat_of_zero_le ha0
    simp only [Int.toNat_natCast]
    have hcg := cut_ok (a := a) hb (show f ≤ t by omega) (show t < g.length by omega) (by omega)
    unfold cutGood at hcg
    rw [Bool.and_eq_true, Bool.and_eq_true, decide_eq_true_eq, List.all_eq_true] at hcg
    obtain ⟨c1, ⟨c2, c3⟩, c4⟩ := hcg
    generalize hcc : cutL g f t a = c at c1 c2 c3 c4
    have w1 : wrap64 ((t : Int) - (f : Int)) = ((t - f : Nat) : Int) := by rw [w64 (by omega) (by omega)]; omega
    have w2 : wrap64 ((a : Int) + ((t - f : Nat) : Int)) = ((a + (t - f) : Nat) : Int) := by rw [w64 (by omega) (by omega)]; omega
    have q1 : Ev (fun k => impl_CutPart.f k c (a : Int) ((a + (t - f) : Nat) : Int) (f : Int)) (g, true) := by
      have := cutImpl_ev (f := a) (t := a + (t - f)) (a := f) c1 (by omega) (by omega) (by omega)
      rw [c3] at this
      exact this
    have q2 := isBinding_ev c (by omega)
    rw [c1] at q2
    rw [w1, w2]
    refine Ev_pos trivial (Ev_bind q1 (Ev_bind q2 (Ev_pos rfl (Ev_pos rfl (Ev_bind (fSame_ev g (by omega)) ?_)))))
    refine Ev_step (fun k => by rw [laws_FnBindingsRead.j8]) (Ev_neg (by decide) ?_)
    exact br_l1 h8 c2 (by omega) (by omega) (by omega) (fun k hk => of_decide_eq_true (c4 k (List.mem_range.2 (by omega)))) hj (t - f + 1) 0 (by omega)
theorem drawCut_ok {c : List Int} (hc : Bytes c) : ∃ g f t a, Ev (fun k => spec_DrawCutPart.f k c) (g, f, t, a) ∧ Drawn g := by
  obtain ⟨b, a1, s1, e1, hd, g1, g2⟩ := binding_ok hc (a := 0) 0 (by decide) (by decide)
  have h9 := hd.1
  have w : wrap64 ((b.length : Int) + 1) = (b.length : Int) + 1 := w64 (by omega) (by omega)
  obtain ⟨x2, a2, s2, e2, _, _, g3, g4⟩ := pick_ok hc (a := a1) s1 ((b.length : Int) + 1) (by omega) (by omega) (by omega)
  obtain ⟨x3, a3, s3, e3, _, _, g5, g6⟩ := pick_ok hc (a := a2) s2 9 (by omega) (by omega) (by decide)
  obtain ⟨x4, a4, s4, e4, _, _, g7, g8⟩ := pick_ok hc (a := a3) s3 4 (by omega) (by omega) (by decide)
  obtain ⟨x5, a5, s5, e5, _, _, g9, g10⟩ := pick_ok hc (a := a4) s4 9 (by omega) (by omega) (by decide)
  obtain ⟨x6, a6, s6, e6, _, _, _, _⟩ := pick_ok hc (a := 5) 0 ((b.length : Int) + 1) (by omega) (by omega) (by omega)
  obtain ⟨x7, a7, s7, e7, _, _, _, _⟩ := pick_ok hc (a := a6) s6 9 (by omega) (by omega) (by omega)
  refine ⟨b, wrap64 (x2 - wrap64 (Int.tdiv x3 8)), wrap64 (wrap64 (wrap64 (x2 - wrap64 (Int.tdiv x3 8)) + x4) - wrap64 (Int.tdiv x5 8)), wrap64 (x6 - wrap64 (Int.tdiv x7 8)), ?_, hd⟩
  simp only [spec_DrawCutPart.f]
  have hT : Ev (fun k => spec_DrawTurnPart.f k c) (b, wrap64 (x2 - wrap64 (Int.tdiv x3 8)), wrap64 (wrap64 (wrap64 (x2 - wrap64 (Int.tdiv x3 8)) + x4) - wrap64 (Int.tdiv x5 8))) := by
    simp only [spec_DrawTurnPart.f]
    refine Ev_bind e1 ?_
    simp only [w, e2, e3, e4, e5, Option.bind_some]
    exact Ev.now _
  refine Ev_bind hT ?_
  simp only [w, e6, e7, Option.bind_some]
  exact Ev.now _
theorem text_size {b : List Int} (hb : bindS b = true) : (textT b ⟨#[]⟩).size = 2 * b.length := by
  obtain ⟨h8, hi⟩ := bind_in hb
  have e := congrArg List.length (text_bytes b ⟨#[]⟩ hi)
  rw [List.length_append, bytes_len] at e
  have : (textT b ⟨#[]⟩).data.toList.length = (textT b ⟨#[]⟩).size := by rw [Array.length_toList]; rfl
  rw [this] at e
  simpa using e
theorem drawText_ok {c : List Int} (hc : Bytes c) : ∃ s : ByteArray, Ev (fun k => spec_DrawParseBinding.f k c) s ∧ s.size ≤ 100 := by
  obtain ⟨b, a1, s1, e1, ⟨n, hbd, h1, h4⟩, g1, g2⟩ := sure_ok hc (a := 0) 0 (by decide) (by decide)
  have hbs := bind_of_bd hbd h1 (by omega)
  have ht := (text_ev b hbs).1
  have hz := text_size hbs
  have hl := hbd.1
  obtain ⟨o, a2, s2, e2, g3, g4⟩ := one_ok hc (a := a1) s1 3 (by omega) (by omega) (by omega)
  cases o with
  | false =>
    refine ⟨textT b ⟨#[]⟩, ?_, by omega⟩
    simp only [spec_DrawParseBinding.f]
    exact Ev_bind e1 (Ev_bind ht (Ev_some e2 (Ev_neg Bool.false_ne_true (Ev.now _))))
  | true =>
    obtain ⟨t', a3, s3, e3, z, _, _⟩ := spoilt_ok hc (a := a2) s2 (textT b ⟨#[]⟩) (⟨#[48, 49, 50, 51, 43, 45, 120]⟩ : ByteArray) (by omega) (by omega) ⟨by decide, by decide⟩ (by omega)
    refine ⟨t', ?_, by omega⟩
    simp only [spec_DrawParseBinding.f]
    exact Ev_bind e1 (Ev_bind ht (Ev_some e2 (Ev_pos rfl (Ev_bind e3 (Ev.now _)))))
theorem br_j6 {c : List Int} (hc : Bytes c) : Ev (fun k => laws_FnBindingsRead.j6 k c) true := by
  obtain ⟨g, f, t, a, hdr, hD⟩ := drawCut_ok hc
  have h9 := hD.1
  obtain ⟨⟨d1, d2⟩, u1, u2, u3, u4⟩ := cutPart_ev g f t a (by omega)
  obtain ⟨l, a1, s1, e1, m1, g1, g2⟩ := among_ok hc (a := 0) 0 leavesL (by decide) (by decide) (by decide)
  obtain ⟨r, a2, s2, e2, m2, g3, g4⟩ := among_ok hc (a := a1) s1 ranksL (by omega) (by omega) (by decide)
  obtain ⟨m, sv, al, nn, hK⟩ := finK_of m1 m2
  have hdk : spec_DrawBindingOfRank.f c = some (l, r) := by
    rw [spec_DrawBindingOfRank.f]
    show (spec_l1Cur_among.f c 0 0 leavesL).bind _ = _
    rw [e1]
    show (spec_l1Cur_among.f c a1 s1 ranksL).bind _ = _
    rw [e2]
    rfl
  obtain ⟨fw, b1, q1, v1, n1, g5, g6⟩ := among_ok hc (a := 0) 0 [1, 2, 3, 4, 4, 6, 0] (by decide) (by decide) (by decide)
  obtain ⟨tn, b2, q2, v2, n2, g7, g8⟩ := among_ok hc (a := b1) q1 [0, 1, 2, 3, 4, 5, 6, (-1), 4611686018427387904] (by omega) (by omega) (by decide)
  have hdc : spec_DrawCountByTurns.f c = some (fw, tn) := by
    rw [spec_DrawCountByTurns.f, v1]
    show (spec_l1Cur_among.f c b1 q1 _).bind _ = _
    rw [v2]
    rfl
  obtain ⟨n, b3, q3, v3, n3, _, _⟩ := among_ok hc (a := 0) 0 [1, 2, 3, 4, 4, 6, 0, (-1)] (by decide) (by decide) (by decide)
  have hdf : spec_DrawFarthestBinding.f c = some n := by
    rw [spec_DrawFarthestBinding.f, v3]
    rfl
  obtain ⟨s, hds, hz⟩ := drawText_ok hc
  obtain ⟨⟨p1, p2⟩, y1, y2, y3, y4⟩ := parse_ev s (by omega)
  have hfarl : (farR n).1.length ≤ 1048576 := by
    unfold farR
    split
    · have := (dist_all n.toNat).1.bd _ (farB_best (dist_all n.toNat).1).1
      have := this.1
      simp only at this ⊢
      omega
    · exact Nat.zero_le _
  have hfs : Ev (fun k => spec_FarthestBinding.f k n) (farR n) := farthest_ev n
  have hfin : Ev (fun k => laws_FnBindingsRead.j7 k g f t a d1 d2 r m sv fw (cntR fw tn).2 n (farR n).1 (farR n).2.1 (farR n).2.2 s p1 p2 false) true := by
    have hn5 : n ≤ 4 ∨ n = 6 := by
      simp only [List.mem_cons, List.not_mem_nil, or_false] at n3
      omega
    have h14 : Ev (fun k => laws_FnBindingsRead.j14 k n (farR n).1 (farR n).2.1 (farR n).2.2 s p1 p2) true := by
      rcases hn5 with h | h
      · exact br_j14 h y4
      · subst h
        refine Ev_step (fun k => by rw [laws_FnBindingsRead.j14]) ?_
        exact Ev_neg (by decide) (br_j15 y4)
    refine br_j7 u4 (br_j10 hK.rk (br_j11 (fun h => ?_) h14))
    unfold cntR at h
    split at h
    · rename_i hx
      exact hx.1
    · cases h
  refine Ev_step (fun k => by rw [laws_FnBindingsRead.j6]) ?_
  refine Ev_bind hdr (Ev_bind u2 (Ev_bind u1 (Ev_some hdk (Ev_bind (Ev.of (fun k => impl_BindingOfRank.mono _ _ k) hK.im) (Ev_bind (Ev.of (fun k => spec_BindingOfRank.mono _ _ k) hK.sm) (Ev_bind (Ev.of (fun k => impl_CountBindings.mono _ k) hK.ic) (Ev_bind (Ev.of (fun k => spec_CountBindings.mono _ k) hK.sc) (Ev_some hdc (Ev_bind (cntImpl_ev fw tn) (Ev_bind (cntSpec_ev fw tn) (Ev_some hdf (Ev_bind (farImpl_ev n) (Ev_bind hfs (Ev_bind hds (Ev_bind y2 (Ev_bind y1 ?_))))))))))))))))
  have hml := hK.ml
  refine Ev_neg (bne_self _) (Ev_bind (fSame_ev d1 u3) (Ev_pos rfl (Ev_neg (bne_self _) (Ev_bind (fSame_ev m (by omega)) (Ev_pos rfl (Ev_neg (bne_self _) (Ev_pos rfl (Ev_neg (bne_self _) (Ev_pos rfl (Ev_neg (bne_self _) (Ev_bind (fSame_ev _ hfarl) (Ev_pos rfl (Ev_pos rfl (Ev_neg (bne_self _) (Ev_bind (fSame_ev p1 y3) (Ev_pos rfl ?_))))))))))))))))
  have hss := hK.ss
  cases nn with
  | false =>
    rw [Bool.false_and] at hss
    refine Ev_neg Bool.false_ne_true ?_
    rw [hss]
    rw [hss] at hfin
    exact hfin
  | true =>
    rw [Bool.true_and] at hss
    by_cases h0 : r ≥ 0
    · rw [decide_eq_true h0, Bool.true_and] at hss
      refine Ev_pos rfl (Ev_pos h0 ?_)
      rw [show (sv != decide (r < al)) = false by rw [hss]; simp]
      exact hfin
    · rw [decide_eq_false h0, Bool.false_and] at hss
      refine Ev_pos rfl (Ev_neg h0 ?_)
      rw [show (sv != false) = false by rw [hss]; rfl]
      exact hfin
/-- Leaf after leaf. -/
theorem br_l0 {c b P : List Int} {t : Int} (hF : FinP b P t) (h8 : b.length ≤ 8) (hj : Ev (fun k => laws_FnBindingsRead.j6 k c) true) : ∀ (d i : Nat), i + d = b.length →
    Ev (fun k => laws_FnBindingsRead.l0 k c b P t (((b.take i).countP (fun x => decide (x < 0)) : Nat) : Int) b (b.length : Int) (i : Int)) true := by
  have hln := hF.ln
  intro d
  induction d with
  | zero =>
    intro i hi
    refine Ev_step (fun k => by rw [laws_FnBindingsRead.l0, if_neg (by omega)]) ?_
    rw [List.take_of_length_le (by omega), ← hF.tt]
    exact Ev_pos rfl hj
  | succ d ih =>
    intro i hi
    have h : i < b.length := by omega
    have hl := hF.at_ i h
    unfold leafOk at hl
    rw [Bool.and_eq_true, Bool.and_eq_true, decide_eq_true_eq, beq_iff_eq, beq_iff_eq] at hl
    obtain ⟨⟨p1, p2, p3, p4, p5⟩, o1, o2⟩ := hl
    have nx := ih (i + 1) (by omega)
    have hc0 := List.countP_le_length (l := b.take i) (p := fun x => decide (x < 0))
    rw [List.length_take] at hc0
    have hcs : (b.take (i + 1)).countP (fun x => decide (x < 0)) = (b.take i).countP (fun x => decide (x < 0)) + (if b.getD i 0 < 0 then 1 else 0) := by
      rw [List.take_add_one, List.getElem?_eq_getElem h, List.countP_append, ← getD_at b 0 h]
      simp [List.countP_cons]
    have w1 : wrap64 (2 * (i : Int)) = ((2 * i : Nat) : Int) := by rw [w64 (by omega) (by omega)]; omega
    have w2 : wrap64 (((2 * i : Nat) : Int) + 1) = ((2 * i + 1 : Nat) : Int) := by rw [w64 (by omega) (by omega)]; omega
    have w3 : wrap64 (((2 * i : Nat) : Int) + 2) = ((2 * i + 2 : Nat) : Int) := by rw [w64 (by omega) (by omega)]; omega
    have wi : wrap64 ((i : Int) + 1) = ((i + 1 : Nat) : Int) := nextI i (by omega)
    generalize hx : b.getD i 0 = x at p1 p2 p3 p4 p5 o2 hcs
    generalize hcn : (b.take i).countP (fun x => decide (x < 0)) = cn at hcs hc0
    rw [hcs] at nx
    have wc : wrap64 ((cn : Int) + 1) = ((cn + 1 : Nat) : Int) := nextI cn (by omega)
    have v1 : wrap64 (2 * x) = 2 * x := w64 (by omega) (by omega)
    have v2 : wrap64 (2 * x - 1) = 2 * x - 1 := w64 (by omega) (by omega)
    have v3 : wrap64 ((-2) * x) = -2 * x := w64 (by omega) (by omega)
    have v4 : wrap64 (-2 * x - 1) = -2 * x - 1 := w64 (by omega) (by omega)
    have v5 : wrap64 (-x) = -x := w64 (by omega) (by omega)
    have hP : Ev (fun k => impl_PlaceOfLeaf.f k b (if x < 0 then -x else x)) ((i : Int), decide (x < 0), true) := Ev.of (fun k => impl_PlaceOfLeaf.mono _ _ k) o2
    have hO := Ev.of (fun k => impl_OpenAt.mono b (i : Int) k) o1
    have h5 : ∀ nxt : Int, nxt = (if i + 1 < b.length then P.getD (2 * i + 2) 0 else 0) → Ev (fun k => laws_FnBindingsRead.j5 k c b P t ((cn + (if x < 0 then 1 else 0) : Nat) : Int) (i : Int) x (P.getD (2 * i + 1) 0) (P.getD (2 * i + 1) 0) (if i + 1 < b.length then P.getD (2 * i + 2) 0 else 0) true nxt b (b.length : Int) (i : Int)) true := by
      intro nxt hn
      refine Ev_step (fun k => by rw [laws_FnBindingsRead.j5, v5, wi]) ?_
      by_cases hs : x < 0
      · rw [if_pos hs, decide_eq_true hs] at hP
        refine Ev_pos hs (Ev_bind hP (Ev_pos rfl (Ev_pos rfl (Ev_pos hn.symm (Ev_pos rfl (Ev_pos rfl (Ev_neg (by rw [decide_eq_true hs]; exact (show ¬ ((true != true) = true) by decide)) nx)))))))
      · rw [if_neg hs, decide_eq_false hs] at hP
        refine Ev_neg hs (Ev_bind hP (Ev_pos rfl (Ev_pos rfl (Ev_pos hn.symm (Ev_pos rfl (Ev_pos rfl (Ev_neg (by rw [decide_eq_false hs]; exact (show ¬ ((false != false) = true) by decide)) nx)))))))
    have h4 : Ev (fun k => laws_FnBindingsRead.j4 k c b P t ((cn + (if x < 0 then 1 else 0) : Nat) : Int) (i : Int) x (P.getD (2 * i + 1) 0) b (b.length : Int) (i : Int)) true := by
      refine Ev_step (fun k => by rw [laws_FnBindingsRead.j4, w1, w3, wi]) (Ev_bind hO ?_)
      by_cases hlast : i + 1 < b.length
      · refine Ev_pos (by omega) (Ev_pos (by omega) (Ev_pos (by omega) ?_))
        exact h5 _ (by rw [if_pos hlast, rd_nat])
      · refine Ev_neg (by omega) ?_
        exact h5 _ (by rw [if_neg hlast])
    have h3 : Ev (fun k => laws_FnBindingsRead.j3 k c b P t (cn : Int) (i : Int) x (P.getD (2 * i + 1) 0) b (b.length : Int) (i : Int) false) true := by
      refine Ev_step (fun k => by rw [laws_FnBindingsRead.j3, wc]) (Ev_neg (by decide) ?_)
      by_cases hs : x < 0
      · rw [if_pos hs] at h4
        exact Ev_pos hs h4
      · rw [if_neg hs] at h4
        exact Ev_neg hs h4
    refine Ev_step (fun k => by rw [laws_FnBindingsRead.l0, if_pos (by omega), if_pos (by omega), if_pos (by omega), w1, w2, if_pos (by omega), if_pos (by omega), if_pos (by omega), if_pos (by omega), rd_nat, rd_nat, rd_nat, hx, v1, v2, v3, v4]) ?_
    by_cases hs : x > 0
    · obtain ⟨r1, r2⟩ := p1 (by omega)
      exact Ev_pos hs (Ev_pos r1 (Ev_pos r2 (Ev_neg (by omega) h3)))
    · obtain ⟨r1, r2⟩ := p2 (by omega)
      refine Ev_neg hs (Ev_pos (show x < 0 by omega) (Ev_pos r1 ?_))
      rw [show (P.getD (2 * i + 1) 0 != -2 * x - 1) = false by rw [r2]; simp]
      exact h3
theorem br_f {l0 l1 b P : List Int} {t : Int} {T : ByteArray} {ok : Bool} (hbig : laws_big.f l0 l1 = some false) (hc : Bytes l1) (hn : b.length ≤ 9) (hP : P.length ≤ 1048576)
    (hd : Ev (fun k => spec_DrawPagesRead.f k l0) b) (h1 : Ev (fun k => impl_PagesRead.f k b) (P, ok)) (h2 : Ev (fun k => spec_PagesRead.f k b) (P, ok)) (h3 : Ev (fun k => impl_BindingText.f k b) (T, ok)) (h4 : Ev (fun k => spec_BindingText.f k b) (T, ok))
    (h5 : Ev (fun k => impl_CountTurned.f k b) (t, ok)) (h6 : Ev (fun k => spec_CountTurned.f k b) (t, ok)) (hok : ok = true → bindS b = true ∧ T = textT b ⟨#[]⟩ ∧ FinP b P t) : Ev (fun k => laws_FnBindingsRead.f k l0 l1) true := by
  simp only [laws_FnBindingsRead.f]
  refine Ev_some hbig (Ev_neg (by decide) (Ev_bind hd (Ev_bind h1 (Ev_bind h2 (Ev_bind h3 (Ev_bind h4 (Ev_bind h5 (Ev_bind h6 (Ev_neg (bne_self _) (Ev_bind (fSame_ev P hP) (Ev_pos rfl (Ev_neg (bne_self _) (Ev_pos rfl (Ev_neg (bne_self _) (Ev_pos rfl (Ev_neg (bne_self _) ?_))))))))))))))))
  rw [show (ok != ok) = false by simp]
  refine Ev_step (fun k => by rw [laws_FnBindingsRead.j0]) (Ev_neg (by decide) ?_)
  cases ok with
  | false => exact Ev_neg Bool.false_ne_true (br_j6 hc)
  | true =>
    obtain ⟨hb, rfl, hF⟩ := hok rfl
    have h8 := (bind_in hb).1
    have hln := hF.ln
    have w1 : wrap64 (2 * (b.length : Int)) = 2 * (b.length : Int) := w64 (by omega) (by omega)
    refine Ev_pos rfl (Ev_bind (parse_text hb) (Ev_pos (show (P.length : Int) = wrap64 (2 * (b.length : Int)) by rw [w1]; omega) (Ev_pos rfl (Ev_bind (fSame_ev b (by omega)) ?_))))
    refine Ev_step (fun k => by rw [laws_FnBindingsRead.j1]) (Ev_neg (by decide) ?_)
    exact br_l0 hF h8 (br_j6 hc) b.length 0 (by omega)
end Go.Proofs.YtppbpefehpbejaaDoor.P
namespace Go.Proofs.YtppbpefehpbejaaDoor.Pure
open Go.RowKit Go.Proofs.YtppbpefehpbejaaDoorW.PrintWords Go.Proofs.YtppbpefehpbejaaDoor.P Go.Proofs.YtppbpefehpbejaaDoor.Base Go.Proofs.YtppbpefehpbejaaDoor.Order Go.Proofs.YtppbpefehpbejaaDoor.Far

theorem FnBindingsRead : laws_FnBindingsRead.Pure := by
  intro l0 l1 ⟨hm0, hw0⟩ ⟨hm1, hw1⟩
  refine Ev.rounds (g := fun k => laws_FnBindingsRead.f k l0 l1) ?_
  have hbg : ∃ B, laws_big.f l0 l1 = some B := by
    unfold laws_big.f
    split
    · exact ⟨_, rfl⟩
    · exact ⟨_, rfl⟩
  obtain ⟨B, hB⟩ := hbg
  cases B with
  | true =>
    simp only [laws_FnBindingsRead.f]
    exact Ev_some hB (Ev_pos rfl (Ev.now _))
  | false =>
    obtain ⟨b, a1, s1, e1, hD, _, _⟩ := binding_ok (Bytes.of hw0) (a := 0) 0 (by decide) (by decide)
    have h9 := hD.1
    have hn : b.length ≤ 1048576 := by omega
    have hd : Ev (fun k => spec_DrawPagesRead.f k l0) b := by
      simp only [spec_DrawPagesRead.f, spec_DrawIsBinding.f]
      exact Ev_bind (Ev_bind e1 (Ev.now _)) (Ev.now _)
    obtain ⟨⟨T, ok⟩, t1, t2, t3, t4⟩ := bindingText_ev b hn
    simp only at t3 t4
    subst t3
    cases hb : bindS b with
    | true =>
      rw [hb] at t1 t2
      obtain ⟨P, t, hF⟩ := finP_of (hD.2 hb)
      exact br_f hB (Bytes.of hw1) h9 (by have := hF.ln; omega) hd (Ev.of (fun k => impl_PagesRead.mono _ k) hF.ip) (Ev.of (fun k => spec_PagesRead.mono _ k) hF.sp) t2 t1 (Ev.of (fun k => impl_CountTurned.mono _ k) hF.it) (Ev.of (fun k => spec_CountTurned.mono _ k) hF.st) (fun _ => ⟨hb, t4 hb, hF⟩)
    | false =>
      rw [hb] at t1 t2
      have g1 := biGood_ev b hn
      have g2 := isBinding_ev b hn
      rw [hb] at g1 g2
      refine br_f (P := []) (t := 0) hB (Bytes.of hw1) h9 (Nat.zero_le _) hd ?_ ?_ t2 t1 ?_ ?_ (fun h => by cases h)
      · simp only [impl_PagesRead.f]
        exact Ev_bind g2 (Ev_neg (by decide) (Ev.now _))
      · simp only [spec_PagesRead.f]
        exact Ev_bind g1 (Ev_neg (by decide) (Ev.now _))
      · simp only [impl_CountTurned.f]
        exact Ev_bind g2 (Ev_neg (by decide) (Ev.now _))
      · simp only [spec_CountTurned.f]
        exact Ev_bind g1 (Ev_neg (by decide) (Ev.now _))
end Go.Proofs.YtppbpefehpbejaaDoor.Pure
end

section
namespace Go.Proofs.YtppbpefehpbejaaDoor.Open
open Go.ChangeShapes Go.WideShapes Go.ChangeAt Go.RowKit Go.Proofs.YtppbpefehpbejaaDoorW.PrintWords
set_option linter.unusedVariables false

/-- Each reading of a value of type t is told by the kind d, and what it tells fits. -/
structure Opens {α : Type} (P : Program) (t : TypeId) (d : Kd α) (fit : α → Prop) : Prop where
  out : ∀ {H : Type} (enc : TypeId × Value → H) (w : World) (fuel : Nat) (cs : List Value) (x : DataW H × List MemPlace), DataW.trod enc P w 0 (fun _ => true) true fuel t cs = some x → ∃ y, d.K w y cs ∧ fit y
theorem opens_int {P : Program} {t : TypeId} {k : IntKind} (ht : P.underlying t = some (.int k)) : Opens P t (Kd.int k) (fun x => (Lit.int k x).wf = true) := by
  refine ⟨fun {H} enc w fuel cs x h => ?_⟩
  obtain ⟨n, rfl, _, hw⟩ := DataW.trod_int ht h
  exact ⟨n, rfl, hw⟩
theorem cells_at {w : World} {base n : Nat} {a : Addr} {cs : List Value} (h : w.cells? base a n = some cs) : cs.length = n ∧ ∀ i u, cs[i]? = some u → w.cell? (a.add i) = some u := by
  unfold World.cells? at h
  split at h
  · have hl := mapM_some_length h
    rw [List.length_range] at hl
    refine ⟨hl, fun i u hu => ?_⟩
    have hi : i < n := by have := (List.getElem?_eq_some_iff.1 hu).1; omega
    have := mapM_some_get h i i (by simp [hi])
    rw [this, hu]
  · cases h

theorem list_of {α : Type} {n : Nat} {p : Nat → α → Prop} (h : ∀ i, i < n → ∃ x, p i x) : ∃ xs : List α, xs.length = n ∧ ∀ i x, xs[i]? = some x → p i x := by
  induction n with
  | zero => exact ⟨[], rfl, by simp⟩
  | succ n ih =>
    obtain ⟨xs, hl, hx⟩ := ih (fun i hi => h i (by omega))
    obtain ⟨y, hy⟩ := h n (by omega)
    refine ⟨xs ++ [y], by simp [hl], fun i x hi => ?_⟩
    rcases Nat.lt_trichotomy i n with hlt | rfl | hgt
    · rw [List.getElem?_append_left (by omega)] at hi
      exact hx i x hi
    · rw [List.getElem?_append_right (by omega), hl] at hi
      simp at hi
      exact hi ▸ hy
    · rw [List.getElem?_eq_none (by simp; omega)] at hi
      cases hi

theorem opens_slice {α : Type} {P : Program} {t e : TypeId} {d : Kd α} {fit : α → Prop} (ht : P.underlying t = some (.slice e)) (hc : P.cellsOf e = d.sz) (h : Opens P e d fit) :
    Opens P t (Kd.slice e d) (fun xs => xs.length ≤ maxLen ∧ ∀ x, x ∈ xs → fit x) := by
  refine ⟨fun {H} enc w fuel cs x hx => ?_⟩
  rcases Go.Deep.open_slice ht hx with ⟨rfl, _⟩ | ⟨a, len, cap, m, n, D, Pl, rfl, _, hl, hm, hmm, _, hel⟩
  · exact ⟨[], ⟨none, 0, rfl, Nat.le_refl _, rfl, by simp, fun h0 => absurd h0 (by simp)⟩, by simp, by simp⟩
  · have hm' : m = cap := by simpa using hmm
    subst hm'
    obtain ⟨xs, hlen, hxs⟩ := list_of (n := len) (p := fun i y => ∃ c, c.length = d.sz ∧ d.K w y c ∧ fit y ∧ ∀ j u, c[j]? = some u → w.cell? (a.add (i * d.sz + j)) = some u) (fun i hi => by
      obtain ⟨cs', hcs, htr⟩ := hel i (by omega)
      obtain ⟨y, hK, hf⟩ := h.out enc w n cs' _ htr
      obtain ⟨hlc, hcell⟩ := cells_at hcs
      refine ⟨y, cs', d.K_len hK, hK, hf, fun j u hu => ?_⟩
      have := hcell j u hu
      rw [Go.Deep.add_add, hc] at this
      exact this)
    subst hlen
    refine ⟨xs, ⟨some a, m, rfl, hl, rfl, by unfold maxLen at hm; omega, fun _ => ⟨a, rfl, fun j p hj => ?_⟩⟩, by omega, fun x hmem => ?_⟩
    · obtain ⟨c, h1, h2, _, h3⟩ := hxs j p hj
      exact ⟨c, h1, h2, h3⟩
    · obtain ⟨i, hi, rfl⟩ := List.mem_iff_getElem.1 hmem
      obtain ⟨_, _, _, hf, _⟩ := hxs i _ (List.getElem?_eq_getElem hi)
      exact hf

/-- A slice's argument: its value, and what it reads as. -/
theorem arg_slice {α : Type} {P : Program} {t e : TypeId} {d : Kd α} {fit : List α → Prop} {H : Type} {enc : TypeId × Value → H} {w : World} {v : Value} {x : DataW H} {ps : List MemPlace} (ho : Opens P t (Kd.slice e d) fit) (h : DataW.Trod enc P w 0 (fun _ => true) true t v x ps) (hv : ∃ a n c, v = .slice a n c) :
    ∃ (A : Option Addr) (c : Nat) (l : List α), v = .slice A l.length c ∧ Kd.C d w A l.length l ∧ l.length ≤ c ∧ fit l := by
  obtain ⟨fuel, hf⟩ := h
  obtain ⟨a, n, c, rfl⟩ := hv
  obtain ⟨l, ⟨A, c', hcs, hlc, hC⟩, hfit⟩ := ho.out enc w fuel _ _ hf
  simp [Value.cells] at hcs
  obtain ⟨rfl, rfl, rfl⟩ := hcs
  exact ⟨a, c, l, rfl, hC, hlc, hfit⟩
end Go.Proofs.YtppbpefehpbejaaDoor.Open
end
