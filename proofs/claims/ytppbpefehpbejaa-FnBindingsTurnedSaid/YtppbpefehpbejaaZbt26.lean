/- Turned parts of bindings, one and many: what the program and the reference answer; the lists are at most 1048576 long. -/
import Derived.Test.YtppbpefehpbejaaZbt23
import Derived.Test.YtppbpefehpbejaaZbt24
import Derived.Test.YtppbpefehpbejaaZbt22
import Derived.Test.YtppbpefehpbejaaZbt25
import Derived.Test.YtppbpefehpbejaaZbt21
import Derived.Test.YtppbpefehpbejaaZbt0
import Derived.ProofKit
import Derived.Deep.Slices
import Derived.Lib.SmallJoins
import Derived.WalkKit
section
namespace Go.Proofs.Ytppbpefehpbejaa.P
open Go.RowKit Go.Proofs.YtppbpefehpbejaaW.PrintWords Go.Proofs.YtppbpefehpbejaaW.PrintLast Go.Proofs.YtppbpefehpbejaaW.PrintMore Go.Proofs.Ytppbpefehpbejaa.Base Go.Proofs.Ytppbpefehpbejaa.Order Go.Proofs.Ytppbpefehpbejaa.Far
set_option linter.unusedVariables false

/-- The part as natural numbers. -/
theorem part_nat {b : List Int} {f t : Int} (h : partB b f t = true) : f = ((f.toNat : Nat) : Int) ∧ t = ((t.toNat : Nat) : Int) ∧ f.toNat ≤ t.toNat ∧ t.toNat < b.length := by
  unfold partB at h
  have := of_decide_eq_true h
  omega
def turnR (b : List Int) (f t : Int) : List Int × Bool := if (bindS b && partB b f t) = true then (turn b f.toNat t.toNat, true) else ([], false)
theorem turnR_ok {b : List Int} {f t : Int} (hb : bindS b = true) (hp : partB b f t = true) : turnR b f t = (turn b f.toNat t.toNat, true) := by
  unfold turnR
  rw [hb, hp]
  rfl
theorem turnBoth_ev (b : List Int) (f t : Int) (hn : b.length ≤ 1048576) : Ev (fun k => spec_TurnPart.f k b f t) (turnR b f t) ∧ Ev (fun k => impl_TurnPart.f k b f t) (turnR b f t) := by
  simp only [spec_TurnPart.f, impl_TurnPart.f, turnR]
  cases hb : bindS b with
  | false =>
    refine ⟨Ev_bind (biPart_ev b f t hn) ?_, Ev_bind (isBinding_ev b hn) ?_⟩
    · rw [hb, Bool.false_and]
      exact Ev_neg (by decide) (Ev.now _)
    · rw [hb]
      exact Ev_neg (by decide) (Ev.now _)
  | true =>
    cases hp : partB b f t with
    | false =>
      refine ⟨Ev_bind (biPart_ev b f t hn) ?_, Ev_bind (isBinding_ev b hn) ?_⟩
      · rw [hp, Bool.and_false]
        exact Ev_neg (by decide) (Ev.now _)
      · rw [hb]
        refine Ev_pos rfl (Ev_some (isPart_eq b f t hb) ?_)
        rw [hp]
        exact Ev_neg (by decide) (Ev.now _)
    | true =>
      obtain ⟨ef, et, h1, h2⟩ := part_nat hp
      have hbd := ((bd_iff b).1 hb).1
      have hb8 := (bind_len hb).2
      have e1 := biTurn_ev hbd hb8 f.toNat t.toNat h1 h2
      have e2 := turned_ev hbd hb8 f.toNat t.toNat h1 h2
      rw [← ef, ← et] at e1 e2
      refine ⟨Ev_bind (biPart_ev b f t hn) ?_, Ev_bind (isBinding_ev b hn) ?_⟩
      · rw [hb, hp]
        exact Ev_pos rfl (Ev_bind e1 (Ev.now _))
      · rw [hb]
        refine Ev_pos rfl (Ev_some (isPart_eq b f t hb) ?_)
        rw [hp]
        exact Ev_pos rfl (Ev_bind e2 (Ev.now _))
/-- Part after part turned. -/
def foldT : List (List Int) → List Int → Option (List Int)
  | [], b => some b
  | t :: ts, b => if (decide (t.length = 2) && partB b (rd t 0) (rd t 1)) = true then foldT ts (turn b (rd t 0).toNat (rd t 1).toNat) else none
def endOf (o : Option (List Int)) : List Int × Bool := match o with
  | some e => (e, true)
  | none => ([], false)
theorem turn_bind {b : List Int} {f t : Int} (hb : bindS b = true) (hp : partB b f t = true) : bindS (turn b f.toNat t.toNat) = true := by
  obtain ⟨_, _, h1, h2⟩ := part_nat hp
  exact bind_of_bd (turn_bd ((bd_iff b).1 hb).1 h1 h2) (bind_len hb).1 (bind_len hb).2
theorem fold_bind : ∀ (ts : List (List Int)) (b e : List Int), bindS b = true → foldT ts b = some e → bindS e = true := by
  intro ts
  induction ts with
  | nil => intro b e hb h; obtain rfl := Option.some.inj h; exact hb
  | cons t ts ih =>
    intro b e hb h
    rw [foldT] at h
    by_cases hc : (decide (t.length = 2) && partB b (rd t 0) (rd t 1)) = true
    · rw [if_pos hc] at h
      rw [Bool.and_eq_true] at hc
      exact ih _ _ (turn_bind hb hc.2) h
    · rw [if_neg hc] at h
      cases h
theorem parts_l0 (ts : List (List Int)) (hn : ts.length ≤ 1048576) : ∀ (d i : Nat) (b : List Int), i + d = ts.length → bindS b = true →
    Ev (fun k => spec_TurnParts.l0 k b ts (ts.length : Int) (i : Int)) (endOf (foldT (ts.drop i) b)) ∧ Ev (fun k => impl_TurnParts.l0 k b ts (ts.length : Int) (i : Int)) (endOf (foldT (ts.drop i) b)) := by
  intro d
  induction d with
  | zero =>
    intro i b hi hb
    rw [List.drop_of_length_le (by omega)]
    refine ⟨Ev_step (fun k => ?_) (Ev.now _), Ev_step (fun k => ?_) (Ev.now _)⟩
    · rw [spec_TurnParts.l0, if_neg (by omega)]
      rfl
    · rw [impl_TurnParts.l0, if_neg (by omega)]
      rfl
  | succ d ih =>
    intro i b hi hb
    have h : i < ts.length := by omega
    have hb8 := (bind_len hb).2
    have er : rd_L2 ts (i : Int) = ts[i] := by
      unfold rd_L2
      rw [Int.toNat_natCast, List.getD_eq_getElem?_getD, List.getElem?_eq_getElem h]
      rfl
    have hs : ∀ k, spec_TurnParts.l0 (k + 1) b ts (ts.length : Int) (i : Int) = _ := fun k => by rw [spec_TurnParts.l0, if_pos (by omega), if_pos (by omega), if_pos (by omega), nextI i (by omega), er]
    have hp : ∀ k, impl_TurnParts.l0 (k + 1) b ts (ts.length : Int) (i : Int) = _ := fun k => by rw [impl_TurnParts.l0, if_pos (by omega), if_pos (by omega), if_pos (by omega), nextI i (by omega), er]
    rw [List.drop_eq_getElem_cons h, foldT]
    by_cases h2 : ts[i].length = 2
    · have h2' : (ts[i].length : Int) = 2 := by omega
      rw [decide_eq_true h2, Bool.true_and]
      cases hq : partB b (rd ts[i] 0) (rd ts[i] 1) with
      | false =>
        refine ⟨Ev_step hs (Ev_pos h2' (Ev_pos (by omega) (Ev_pos (by omega) (Ev_bind (biPart_ev b _ _ (by omega)) ?_)))), Ev_step hp (Ev_pos h2' (Ev_pos (by omega) (Ev_pos (by omega) (Ev_some (isPart_eq b _ _ hb) ?_))))⟩
        · rw [hb, hq]
          exact Ev_neg (by decide) (Ev.now _)
        · rw [hq]
          exact Ev_neg (by decide) (Ev.now _)
      | true =>
        obtain ⟨ef, et, hf, ht⟩ := part_nat hq
        have hbd := ((bd_iff b).1 hb).1
        have e1 := biTurn_ev hbd hb8 _ _ hf ht
        have e2 := turned_ev hbd hb8 _ _ hf ht
        rw [← ef, ← et] at e1 e2
        obtain ⟨h3, h4⟩ := ih (i + 1) _ (by omega) (turn_bind hb hq)
        refine ⟨Ev_step hs (Ev_pos h2' (Ev_pos (by omega) (Ev_pos (by omega) (Ev_bind (biPart_ev b _ _ (by omega)) ?_)))), Ev_step hp (Ev_pos h2' (Ev_pos (by omega) (Ev_pos (by omega) (Ev_some (isPart_eq b _ _ hb) ?_))))⟩
        · rw [hb, hq]
          exact Ev_pos rfl (Ev_bind e1 h3)
        · rw [hq]
          exact Ev_pos rfl (Ev_bind e2 h4)
    · rw [decide_eq_false h2, Bool.false_and]
      exact ⟨Ev_step hs (Ev_neg (by omega) (Ev.now _)), Ev_step hp (Ev_neg (by omega) (Ev.now _))⟩
theorem ownL (l : List Int) (h : l.length < 17592186044416) : spec_l1Own.f l = some l := by
  rw [spec_l1Own.f, Option.bind_some, List.nil_append, List.length_nil, Nat.zero_add, if_pos h]
def partsR (b : List Int) (ts : List (List Int)) : List Int × Bool := if (bindS b && decide (ts.length ≤ 40)) = true then endOf (foldT ts b) else ([], false)
theorem partsBoth_ev (b : List Int) (ts : List (List Int)) (hn : b.length ≤ 1048576) (ht : ts.length ≤ 1048576) : Ev (fun k => spec_TurnParts.f k b ts) (partsR b ts) ∧ Ev (fun k => impl_TurnParts.f k b ts) (partsR b ts) := by
  have hno : Ev (fun k => spec_TurnParts.j0 k b ts true) (([] : List Int), false) := Ev_step (fun k => by rw [spec_TurnParts.j0]) (Ev_pos rfl (Ev.now _))
  have hno' : Ev (fun k => impl_TurnParts.j0 k b ts true) (([] : List Int), false) := Ev_step (fun k => by rw [impl_TurnParts.j0]) (Ev_pos rfl (Ev.now _))
  simp only [spec_TurnParts.f, impl_TurnParts.f, partsR]
  cases hb : bindS b with
  | false =>
    refine ⟨Ev_bind (biGood_ev b hn) ?_, Ev_bind (isBinding_ev b hn) ?_⟩
    · rw [hb]
      exact Ev_neg (by decide) hno
    · rw [hb]
      exact Ev_neg (by decide) hno'
  | true =>
    have hb8 := (bind_len hb).2
    by_cases hc : (ts.length : Int) > 40
    · rw [decide_eq_false (show ¬ ts.length ≤ 40 by omega)]
      refine ⟨Ev_bind (biGood_ev b hn) ?_, Ev_bind (isBinding_ev b hn) ?_⟩
      · rw [hb, decide_eq_true hc]
        exact Ev_pos rfl hno
      · rw [hb, decide_eq_true hc]
        exact Ev_pos rfl hno'
    · obtain ⟨h1, h2⟩ := parts_l0 ts ht ts.length 0 b (by omega) hb
      rw [decide_eq_true (show ts.length ≤ 40 by omega)]
      refine ⟨Ev_bind (biGood_ev b hn) ?_, Ev_bind (isBinding_ev b hn) ?_⟩
      · rw [hb, decide_eq_false hc]
        exact Ev_pos rfl (Ev_step (fun k => by rw [spec_TurnParts.j0]) (Ev_neg (by decide) (Ev_some (ownL b (by omega)) h1)))
      · rw [hb, decide_eq_false hc]
        exact Ev_pos rfl (Ev_step (fun k => by rw [impl_TurnParts.j0]) (Ev_neg (by decide) (Ev_some (show clone_Int.f b = some b by rw [clone_Int.f, if_pos (by omega)]) h2)))
/-- The first turns lead to the right binding. -/
theorem fold_path {n : Nat} {o : Out} (g : Done n o) : ∀ (v : Nat) (b : List Int), o.lookup b = some (v : Int) → foldT (path n o v b) b = some (right n) := by
  intro v
  induction v with
  | zero =>
    intro b hb
    rcases g.par b _ hb with ⟨rfl, _⟩ | ⟨h, _⟩
    · rfl
    · exact absurd h (by decide)
  | succ v ih =>
    intro b hb
    obtain ⟨p, h1, h2, h3, h4⟩ := g.pick hb (by omega)
    have hbd := g.bd _ (lookup_mem hb)
    have := ih (turn b p.1 p.2) (by rw [h4]; congr 1; omega)
    rw [path, h1]
    simp only [foldT]
    have r0 : rd [(p.1 : Int), (p.2 : Int)] 0 = (p.1 : Int) := rfl
    have r1 : rd [(p.1 : Int), (p.2 : Int)] 1 = (p.2 : Int) := rfl
    have hq : partB b (p.1 : Int) (p.2 : Int) = true := by
      unfold partB
      rw [hbd.1]
      exact decide_eq_true (by omega)
    rw [r0, r1, hq]
    simp only [List.length_cons, List.length_nil, Int.toNat_natCast]
    exact this
end Go.Proofs.Ytppbpefehpbejaa.P
end

section
namespace Go.Proofs.Ytppbpefehpbejaa.P
open Go.RowKit Go.Proofs.YtppbpefehpbejaaW.PrintWords Go.Proofs.YtppbpefehpbejaaW.PrintLast Go.Proofs.YtppbpefehpbejaaW.PrintMore Go.Proofs.Ytppbpefehpbejaa.Base Go.Proofs.Ytppbpefehpbejaa.Order
set_option linter.unusedVariables false

def brkL (p : Int) : List Int → Int → Int
  | [], c => c
  | x :: xs, c => brkL x xs (if x = p + 1 then c else c + 1)
def brk (b : List Int) : Int := brkL 0 (b ++ [(b.length : Int) + 1]) 0
theorem brk_same : ∀ (k : Nat) (c b : Int) (y : List Int) (n i : Int), impl_BreaksOf.l0 k c b y n i = spec_BreaksOf.l0 k c b y n i := by
  intro k
  induction k with
  | zero => intros; rfl
  | succ k ih =>
    intro c b y n i
    rw [impl_BreaksOf.l0, spec_BreaksOf.l0]
    simp only [ih]
theorem brk_l0 (y : List Int) (hn : y.length ≤ 9) (hy : ∀ x ∈ y, -9 ≤ x ∧ x ≤ 9) : ∀ (n i : Nat) (c b : Int), i + n = y.length → 0 ≤ c → c ≤ i → -9 ≤ b → b ≤ 9 → Ev (fun k => spec_BreaksOf.l0 k c b y (y.length : Int) (i : Int)) (brkL b (y.drop i) c, true) := by
  intro n
  induction n with
  | zero =>
    intro i c b hi h0 hc hb1 hb2
    rw [List.drop_of_length_le (by omega)]
    refine Ev_step (fun k => ?_) (Ev.now _)
    rw [spec_BreaksOf.l0, if_neg (by omega)]
    rfl
  | succ n ih =>
    intro i c b hi h0 hc hb1 hb2
    have h : i < y.length := by omega
    have er : rd y (i : Int) = y[i] := by rw [rd_nat, getD_at y 0 h]
    have w1 : wrap64 (b + 1) = b + 1 := w64 (by omega) (by omega)
    have w2 : wrap64 (c + 1) = c + 1 := w64 (by omega) (by omega)
    have hx := hy y[i] (List.getElem_mem h)
    have hs : ∀ k, spec_BreaksOf.l0 (k + 1) c b y (y.length : Int) (i : Int) = if y[i] = b + 1 then spec_BreaksOf.l0 k c y[i] y (y.length : Int) ((i + 1 : Nat) : Int) else spec_BreaksOf.l0 k (c + 1) y[i] y (y.length : Int) ((i + 1 : Nat) : Int) := fun k => by
      rw [spec_BreaksOf.l0, if_pos (by omega), if_pos (by omega), if_pos (by omega), nextI i (by omega), er, w1, w2]
    rw [List.drop_eq_getElem_cons h, brkL]
    by_cases he : y[i] = b + 1
    · rw [if_pos he]
      exact Ev_step hs (Ev_pos he (ih (i + 1) c _ (by omega) h0 (by omega) hx.1 hx.2))
    · rw [if_neg he]
      exact Ev_step hs (Ev_neg he (ih (i + 1) (c + 1) _ (by omega) (by omega) (by omega) hx.1 hx.2))
theorem concat2_ev (l : List Int) (x : Int) (hn : l.length ≤ 1048576) : Ev (fun k => slices_Concat_int_int.f k [l, [x]]) (l ++ [x]) := by
  refine Ev.congr (f := fun k => slices_Concat_int_int.l0 k [l, [x]] 0 [l, [x]] 2 0) (fun k => by rw [slices_Concat_int_int.f]; rfl) ?_
  have r0 : rd_L2 [l, [x]] 0 = l := rfl
  have r1 : rd_L2 [l, [x]] 1 = [x] := rfl
  have n2 : (([l, [x]] : List (List Int)).length : Int) = 2 := rfl
  have n1 : (([x] : List Int).length : Int) = 1 := rfl
  have e0 : wrap64 (0 + (l.length : Int)) = (l.length : Int) := by rw [w64 (by omega) (by omega)]; omega
  have e1 : wrap64 ((l.length : Int) + 1) = (l.length : Int) + 1 := by rw [w64 (by omega) (by omega)]
  have i1 : wrap64 (0 + 1) = 1 := by unfold wrap64; omega
  have i2 : wrap64 (1 + 1) = 2 := by unfold wrap64; omega
  refine Ev_step (fun k => by rw [slices_Concat_int_int.l0, if_pos (by decide), if_pos (by decide), n2, if_pos (by decide), r0, e0, if_neg (by omega), i1]) ?_
  refine Ev_step (fun k => by rw [slices_Concat_int_int.l0, if_pos (by decide), if_pos (by decide), n2, if_pos (by decide), r1, n1, e1, if_neg (by omega), i2]) ?_
  refine Ev_step (fun k => by rw [slices_Concat_int_int.l0, if_neg (by decide), n2]) ?_
  refine Ev_some (a := []) (by rw [grow_Int.f, if_pos ⟨rfl, by omega, by omega⟩]) ?_
  refine Ev_step (fun k => by rw [slices_Concat_int_int.l1, if_pos (by decide), if_pos (by decide), n2, if_pos (by decide), r0, i1, if_pos (by simp only [List.length_nil]; omega), List.nil_append]) ?_
  refine Ev_step (fun k => by rw [slices_Concat_int_int.l1, if_pos (by decide), if_pos (by decide), n2, if_pos (by decide), r1, i2, if_pos (by simp only [List.length_cons, List.length_nil]; omega)]) ?_
  exact Ev_step (fun k => by rw [slices_Concat_int_int.l1, if_neg (by decide)]) (Ev.now _)
def brkR (b : List Int) : Int × Bool := if bindS b = true then (brk b, true) else (0, false)
theorem brkBoth_ev (b : List Int) (hn : b.length ≤ 1048576) : Ev (fun k => spec_BreaksOf.f k b) (brkR b) ∧ Ev (fun k => impl_BreaksOf.f k b) (brkR b) := by
  simp only [spec_BreaksOf.f, impl_BreaksOf.f, brkR]
  cases hb : bindS b with
  | false =>
    refine ⟨Ev_bind (biGood_ev b hn) ?_, Ev_bind (isBinding_ev b hn) ?_⟩
    · rw [hb]
      exact Ev_neg (by decide) (Ev.now _)
    · rw [hb]
      exact Ev_neg (by decide) (Ev.now _)
  | true =>
    have hl := bind_len hb
    have e : wrap64 ((b.length : Int) + 1) = (b.length : Int) + 1 := by rw [w64 (by omega) (by omega)]
    have hy : (b ++ [(b.length : Int) + 1]).length ≤ 9 := by rw [List.length_append]; simp only [List.length_cons, List.length_nil]; omega
    have hr : ∀ x ∈ b ++ [(b.length : Int) + 1], -9 ≤ x ∧ x ≤ 9 := by
      intro x hx
      rcases List.mem_append.1 hx with h | h
      · unfold bindS at hb
        rw [Bool.and_eq_true, Bool.and_eq_true] at hb
        have := of_decide_eq_true (List.all_eq_true.1 hb.2.1 x h)
        omega
      · have := List.mem_singleton.1 h
        omega
    have h0 := brk_l0 _ hy hr _ 0 0 0 (Nat.zero_add _) (Int.le_refl _) (Int.le_refl _) (by decide) (by decide)
    rw [List.drop_zero] at h0
    refine ⟨Ev_bind (biGood_ev b hn) ?_, Ev_bind (isBinding_ev b hn) ?_⟩
    · rw [hb]
      refine Ev_pos rfl (Ev_some (a := b) ?_ (Ev_pos (by omega) ?_))
      · rw [spec_l1Own.f]
        simp only [Option.bind_some, List.length_nil, List.nil_append]
        rw [if_pos (by omega)]
      · rw [e]
        exact h0
    · rw [hb]
      refine Ev_pos rfl ?_
      rw [e]
      exact Ev_bind (concat2_ev b _ hn) (Ev.congr (fun k => brk_same k _ _ _ _ _) h0)
end Go.Proofs.Ytppbpefehpbejaa.P
end

section
namespace Go.Proofs.Ytppbpefehpbejaa.P
open Go.RowKit Go.Proofs.YtppbpefehpbejaaW.PrintWords Go.Proofs.YtppbpefehpbejaaW.PrintLast Go.Proofs.YtppbpefehpbejaaW.PrintMore Go.Proofs.Ytppbpefehpbejaa.Base Go.Proofs.Ytppbpefehpbejaa.Order Go.Proofs.Ytppbpefehpbejaa.Far
set_option linter.unusedVariables false

def finA (b : List Int) : Bool := match impl_FewestCuts.f 300 b, spec_FewestCuts.f 300 b, impl_RankOfBinding.f 300 b, impl_CountTurned.f 300 b with
  | some (c, true), some (c', true), some (r, true), some (t, true) =>
    decide (c' = c) && (decide (r = (rank b : Int)) && ((impl_BindingOfRank.f 300 (b.length : Int) r == some (b, true)) && decide (0 ≤ brk b ∧ brk b ≤ (b.length : Int) + 1 ∧ brk b ≠ 1 ∧ t ≤ c ∧ c ≤ (b.length : Int) ∧ (brk b = 0 ↔ c = 0))))
  | _, _, _, _ => false
set_option maxRecDepth 100000 in
theorem finA_all : allB.all finA = true := by decide +kernel
structure Fin1 (b : List Int) (c t : Int) : Prop where
  ic : impl_FewestCuts.f 300 b = some (c, true)
  sc : spec_FewestCuts.f 300 b = some (c, true)
  rk : impl_RankOfBinding.f 300 b = some ((rank b : Int), true)
  un : impl_BindingOfRank.f 300 (b.length : Int) (rank b : Int) = some (b, true)
  ct : impl_CountTurned.f 300 b = some (t, true)
  ok : 0 ≤ brk b ∧ brk b ≤ (b.length : Int) + 1 ∧ brk b ≠ 1 ∧ t ≤ c ∧ c ≤ (b.length : Int) ∧ (brk b = 0 ↔ c = 0)
theorem fin1 {b : List Int} (h : b ∈ allB) : ∃ c t, Fin1 b c t := by
  have hf := List.all_eq_true.1 finA_all b h
  unfold finA at hf
  split at hf
  · rename_i c c' r t e1 e2 e3 e4
    simp only [Bool.and_eq_true, decide_eq_true_eq, beq_iff_eq] at hf
    obtain ⟨rfl, rfl, h1, h2⟩ := hf
    exact ⟨_, _, e1, e2, e3, h1, e4, h2⟩
  · cases hf
def finT (b : List Int) : Bool := (pairs b.length).all fun p => decide (brk b - brk (turn b p.1 p.2) ≤ 2 ∧ brk (turn b p.1 p.2) - brk b ≤ 2)
set_option maxRecDepth 100000 in
theorem finT_all : allB.all finT = true := by decide +kernel
def finR (n : Nat) (b : List Int) : Bool := decide (brk b = 0) == (b == right n)
set_option maxRecDepth 100000 in
theorem finR_all : ([1, 2, 3, 4].all fun n => (bds n).all (finR n)) = true := by decide +kernel
theorem brk_right {n : Nat} {b : List Int} (h : Bd n b) (h1 : 1 ≤ n) (h4 : n ≤ 4) : brk b = 0 ↔ b = right n := by
  have hn := List.all_eq_true.1 finR_all n (by rcases (by omega : n = 1 ∨ n = 2 ∨ n = 3 ∨ n = 4) with rfl | rfl | rfl | rfl <;> decide)
  have := List.all_eq_true.1 hn b (mem_bds h h1 h4)
  rw [finR, beq_iff_eq] at this
  rw [← beq_iff_eq (a := b), ← this, decide_eq_true_eq]
theorem brk_turn {b : List Int} (h : b ∈ allB) {f t : Nat} (hf : f ≤ t) (ht : t < b.length) : brk b - brk (turn b f t) ≤ 2 ∧ brk (turn b f t) - brk b ≤ 2 := by
  have := List.all_eq_true.1 (List.all_eq_true.1 finT_all b h) (f, t) (mem_pairs.2 ⟨hf, ht⟩)
  exact of_decide_eq_true this
/-- Each turn takes two breaks at most. -/
theorem brk_dist {n : Nat} (h1 : 1 ≤ n) (h4 : n ≤ 4) : ∀ (v : Nat) (b : List Int), Bd n b → (distO n).lookup b = some (v : Int) → brk b ≤ 2 * v := by
  have hD := (dist_all n).1
  intro v
  induction v with
  | zero =>
    intro b hb hv
    rcases hD.par b _ hv with ⟨h, _⟩ | ⟨h, _⟩
    · have := (brk_right hb h1 h4).2 h
      omega
    · exact absurd h (by decide)
  | succ v ih =>
    intro b hb hv
    rcases hD.par b _ hv with ⟨_, h⟩ | ⟨_, f, t, hf, ht, hu⟩
    · omega
    · have := ih _ (turn_bd hb hf ht) (by rw [hu]; congr 1; omega)
      have := brk_turn (mem_all hb h1 h4) hf (by rw [hb.1]; exact ht)
      omega
theorem dist_zero {n : Nat} (h1 : 1 ≤ n) (h4 : n ≤ 4) {b : List Int} {v : Int} (hb : Bd n b) (hv : (distO n).lookup b = some v) : v = 0 ↔ brk b = 0 := by
  have hD := (dist_all n).1
  rw [brk_right hb h1 h4]
  constructor
  · intro h
    rcases hD.par b _ hv with ⟨h, _⟩ | ⟨h, _⟩
    · exact h
    · omega
  · rintro rfl
    exact Option.some.inj (hv.symm.trans hD.zero)
end Go.Proofs.Ytppbpefehpbejaa.P
end

section
namespace Go.Proofs.Ytppbpefehpbejaa.P
open Go.RowKit Go.Proofs.YtppbpefehpbejaaW.PrintWords Go.Proofs.YtppbpefehpbejaaW.PrintLast Go.Proofs.YtppbpefehpbejaaW.PrintMore Go.Proofs.Ytppbpefehpbejaa.Base Go.Proofs.Ytppbpefehpbejaa.Order Go.Proofs.Ytppbpefehpbejaa.Far
set_option linter.unusedVariables false

section
variable {n : Nat} (hn : n ≤ 8) {x48 : List (List Int)} {x50 : Nat} {q : List Int} {d : Nat} {i : Nat} {r : List Int}
include hn
/-- The turns of one, from a first and a last place on. -/
theorem far_l5 (hd : d ≤ 20000000) {f : Nat} (hf : f < n) (hnext : ∀ (o : Out) (X : List (List Int)), (∃ dn, G n o i dn) → o[i]? = some (q, (d : Int)) → X.length ≤ o.length →
      Ev (fun k => spec_biFar.l4 k (n : Int) (arrOf (allOf n) ((rowsFrom n (f + 1)).foldl (put q d) o)) ((d : Int) + 1) (X ++ newsAll q d (rowsFrom n (f + 1)) o) q (n : Int) x48 (x48.length : Int) (x50 : Int)) r →
      Ev (fun k => spec_biFar.l4 k (n : Int) (arrOf (allOf n) o) ((d : Int) + 1) X q ((f + 1 : Nat) : Int) x48 (x48.length : Int) (x50 : Int)) r) :
    ∀ (dt t : Nat) (o : Out) (X : List (List Int)), t + dt = n → f ≤ t → (∃ dn, G n o i dn) → o[i]? = some (q, (d : Int)) → X.length ≤ o.length →
      Ev (fun k => spec_biFar.l4 k (n : Int) (arrOf (allOf n) ((restOf n f t).foldl (put q d) o)) ((d : Int) + 1) (X ++ newsAll q d (restOf n f t) o) q (n : Int) x48 (x48.length : Int) (x50 : Int)) r →
      Ev (fun k => spec_biFar.l5 k (n : Int) (arrOf (allOf n) o) ((d : Int) + 1) X q (f : Int) (t : Int) x48 (x48.length : Int) (x50 : Int)) r := by
  have ha := allOf_le hn
  intro dt
  induction dt with
  | zero =>
    intro t o X ht hft hg hi hX hr
    obtain rfl : t = n := by omega
    rw [rest_end] at hr
    refine Ev_step (fun k => ?_) (hnext o X hg hi hX hr)
    rw [spec_biFar.l5, if_neg (by omega), nextI f (by omega)]
  | succ dt ih =>
    intro t o X ht hft hg hi hX hr
    obtain ⟨dn, g⟩ := hg
    have hq := g.bd _ (List.mem_of_getElem? hi)
    have hb := turn_bd hq hft (by omega : t < n)
    have hlo := g.few
    rw [rest_cons (by omega), List.foldl_cons, newsAll, ← List.append_assoc] at hr
    have hi' : (put q d o (f, t))[i]? = some (q, (d : Int)) := by
      obtain ⟨s, hs⟩ := put_more q d o (f, t)
      rw [hs, List.getElem?_append_left (List.getElem?_eq_some_iff.1 hi).1]
      exact hi
    have hX' : (X ++ news q o (f, t)).length ≤ (put q d o (f, t)).length := by rw [put_news, List.length_append, List.length_append, List.length_map]; omega
    have hnx := ih (t + 1) (put q d o (f, t)) (X ++ news q o (f, t)) (by omega) (by omega) ⟨_, G.put g hi hft (by omega)⟩ hi' hX' hr
    have hrk := rank_lt hb
    have hat := arr_at hb o g.bd g.nd
    have hlen := arr_len (allOf n) o
    refine Ev_step (fun k => by rw [spec_biFar.l5, if_pos (by omega)]) ?_
    refine Ev_bind (biTurn_ev hq hn f t hft (by omega)) (Ev_bind (biRank_ev hb hn) (Ev_pos (by omega) (Ev_pos (by rw [hlen]; omega) ?_)))
    simp only [rd_nat, hat, nextI t (by omega)]
    cases hl : o.lookup (turn q f t) with
    | some v =>
      have hv := g.nn _ (lookup_mem hl)
      have e1 : put q d o (f, t) = o := by unfold put; rw [hl]; rfl
      have e2 : news q o (f, t) = [] := by unfold news; rw [hl]; rfl
      rw [e1, e2, List.append_nil] at hnx
      exact Ev_neg (by show ¬ v < 0; exact Int.not_lt.2 hv) hnx
    | none =>
      have e1 : put q d o (f, t) = o ++ [(turn q f t, (d : Int) + 1)] := by unfold put; rw [hl]; rfl
      have e2 : news q o (f, t) = [turn q f t] := by unfold news; rw [hl]; rfl
      rw [e1, e2, arrOf_snoc] at hnx
      exact Ev_pos (by decide) (Ev_pos (by omega) hnx)
theorem far_l4 (hd : d ≤ 20000000) :
    ∀ (df f : Nat) (o : Out) (X : List (List Int)), f + df = n → (∃ dn, G n o i dn) → o[i]? = some (q, (d : Int)) → X.length ≤ o.length →
      Ev (fun k => spec_biFar.l4 k (n : Int) (arrOf (allOf n) ((rowsFrom n f).foldl (put q d) o)) ((d : Int) + 1) (X ++ newsAll q d (rowsFrom n f) o) q (n : Int) x48 (x48.length : Int) (x50 : Int)) r →
      Ev (fun k => spec_biFar.l4 k (n : Int) (arrOf (allOf n) o) ((d : Int) + 1) X q (f : Int) x48 (x48.length : Int) (x50 : Int)) r := by
  intro df
  induction df with
  | zero =>
    intro f o X hf hg hi hX hr
    obtain rfl : f = n := by omega
    rw [rows_end, List.foldl_nil, newsAll, List.append_nil] at hr
    exact hr
  | succ df ih =>
    intro f o X hf hg hi hX hr
    refine Ev_step (fun k => by rw [spec_biFar.l4, if_pos (by omega)]) ?_
    rw [rows_rest (by omega)] at hr
    exact far_l5 hn hd (by omega) (fun o X hg hi hX hr => ih (f + 1) o X (by omega) hg hi hX hr) (n - f) f o X (by omega) (Nat.le_refl _) hg hi hX hr
end
/-- One row after the other. -/
theorem far_l3 {n : Nat} (hn : n ≤ 8) : ∀ (kk i : Nat) (o P : Out) (R X : List (List Int)) (d : Nat) (x48 : List (List Int)) (x50 : Nat), bfs n kk i o = some (distO n) → G n o i [] →
    o = P ++ (R.map (fun b => (b, (d : Int))) ++ X.map (fun b => (b, (d : Int) + 1))) → P.length = i → R = x48.drop x50 → x50 ≤ x48.length → x48.length ≤ o.length → x50 + d ≤ i → 0 < x48.length →
    Ev (fun k => spec_biFar.l3 k (n : Int) (arrOf (allOf n) o) ((d : Int) + 1) X x48 (x48.length : Int) (x50 : Int)) (arrOf (allOf n) (distO n)) := by
  have ha := allOf_le hn
  intro kk
  induction kk with
  | zero => intro i o P R X d x48 x50 h; cases h
  | succ kk ih =>
    -- a row that isn't at its end
    have one : ∀ (i : Nat) (o P : Out) (R X : List (List Int)) (d : Nat) (x48 : List (List Int)) (x50 : Nat), bfs n (kk + 1) i o = some (distO n) → G n o i [] →
        o = P ++ (R.map (fun b => (b, (d : Int))) ++ X.map (fun b => (b, (d : Int) + 1))) → P.length = i → R = x48.drop x50 → x50 < x48.length → x48.length ≤ o.length → x50 + d ≤ i →
        Ev (fun k => spec_biFar.l3 k (n : Int) (arrOf (allOf n) o) ((d : Int) + 1) X x48 (x48.length : Int) (x50 : Int)) (arrOf (allOf n) (distO n)) := by
      intro i o P R X d x48 x50 hb g ho hP hR hx hlen hd
      have hfew := g.few
      obtain ⟨q, R', rfl, hq, hR'⟩ : ∃ q R', R = q :: R' ∧ x48.getD x50 [] = q ∧ R' = x48.drop (x50 + 1) := by
        rw [List.drop_eq_getElem_cons hx] at hR
        exact ⟨_, _, hR, getD_at x48 [] hx, rfl⟩
      have hi : o[i]? = some (q, (d : Int)) := by
        rw [ho, List.getElem?_append_right (by omega), hP, Nat.sub_self]
        rfl
      have hil : i < o.length := (List.getElem?_eq_some_iff.1 hi).1
      rw [bfs, hi] at hb
      obtain ⟨g', s, hs⟩ := g.expand hi
      have hXl : X.length ≤ o.length := by rw [ho]; simp; omega
      have hlen' : x48.length ≤ (expand n (q, (d : Int)) o).length := by rw [hs, List.length_append]; omega
      have hnx := ih (i + 1) (expand n (q, (d : Int)) o) (P ++ [(q, (d : Int))]) R' (X ++ newsAll q d (pairs n) o) d x48 (x50 + 1) hb g' (by
        show (pairs n).foldl (put q (d : Int)) o = _
        rw [puts_news, ho]
        simp) (by rw [List.length_append, hP]; rfl) hR' (by omega) hlen' (by omega) (by omega)
      refine Ev_step (fun k => by rw [spec_biFar.l3, if_pos (by omega), if_pos (by omega), if_pos (by omega)]) ?_
      rw [show rd_L2 x48 (x50 : Int) = q from by unfold rd_L2; rw [Int.toNat_natCast]; exact hq]
      have e := far_l4 (x48 := x48) (x50 := x50) (r := arrOf (allOf n) (distO n)) hn (by omega : d ≤ 20000000) n 0 o X (by omega) ⟨[], g⟩ hi hXl
      refine e ?_
      rw [← pairs_rows]
      refine Ev_step (fun k => ?_) hnx
      rw [spec_biFar.l4, if_neg (by omega), w64 (x := (x50 : Int) + 1) (by omega) (by omega)]
      rfl
    intro i o P R X d x48 x50 hb g ho hP hR hx hlen hd h0
    rcases Nat.lt_or_ge x50 x48.length with h | h
    · exact one i o P R X d x48 x50 hb g ho hP hR h hlen hd
    · have hfew := g.few
      obtain rfl : R = [] := by rw [hR, List.drop_of_length_le h]
      refine Ev_step (fun k => by rw [spec_biFar.l3, if_neg (by omega)]) ?_
      cases X with
      | nil =>
        have hlo : o.length = i := by rw [ho, ← hP]; simp
        rw [bfs, List.getElem?_eq_none (by omega)] at hb
        refine Ev_step (fun k => by rw [spec_biFar.l2, if_neg (by simp)]) ?_
        rw [← Option.some.inj hb]
        exact Ev.now _
      | cons q X' =>
        have hXl : (q :: X').length ≤ o.length := by rw [ho]; simp
        have hil : i < o.length := by rw [ho, ← hP]; simp
        have e := one i o P (q :: X') [] (d + 1) (q :: X') 0 hb g (by
          rw [ho]
          simp) hP rfl (by simp) hXl (by
          omega)
        refine Ev_step (fun k => by rw [spec_biFar.l2, if_pos (by rw [List.length_cons]; omega), w64 (x := (d : Int) + 1 + 1) (by omega) (by omega)]) ?_
        exact e
theorem fill_l0 {n N : Nat} (hN : N ≤ 20000000) {r : List Int} (hr : Ev (fun k => spec_biFar.l1 k (n : Int) (List.replicate N (-1)) ([] : List Int) 1) r) : ∀ (d i : Nat), i + d = N → Ev (fun k => spec_biFar.l0 k (n : Int) (List.replicate i (-1) ++ List.replicate d 0) (N : Int) (i : Int)) r := by
  intro d
  induction d with
  | zero =>
    intro i hi
    obtain rfl : i = N := by omega
    refine Ev_step (fun k => by rw [spec_biFar.l0, if_neg (by omega)]) ?_
    simp only [List.replicate_zero, List.append_nil]
    exact hr
  | succ d ih =>
    intro i hi
    refine Ev_step (fun k => ?_) (ih (i + 1) (by omega))
    rw [spec_biFar.l0, if_pos (by omega), if_pos (by omega), if_pos (by simp; omega), w64 (x := (i : Int) + 1) (by omega) (by omega), Int.toNat_natCast, List.set_append_right _ _ (by simp), List.length_replicate, Nat.sub_self, List.replicate_succ, List.set_cons_zero, List.replicate_succ', List.append_assoc]
    rfl
theorem far_l1 {n : Nat} (hn : n ≤ 8) (h1 : 1 ≤ n) : ∀ (d i : Nat), i + d = n → Ev (fun k => spec_biFar.l1 k (n : Int) (List.replicate (allOf n) (-1)) (right i) ((i : Int) + 1)) (arrOf (allOf n) (distO n)) := by
  have ha := allOf_le hn
  intro d
  induction d with
  | zero =>
    intro i hi
    obtain rfl : i = n := by omega
    have hb := right_bd i
    have hr := rank_lt hb
    have hs := arrOf_snoc (allOf i) [] (right i, 0)
    have e0 : arrOf (allOf i) [] = List.replicate (allOf i) (-1) := rfl
    rw [e0] at hs
    refine Ev_step (fun k => by rw [spec_biFar.l1, if_neg (by omega)]) ?_
    refine Ev_bind (biRank_ev hb hn) (Ev_pos (by omega) (Ev_pos (by rw [List.length_replicate]; omega) ?_))
    have e := far_l3 hn (allOf i + 2) 0 [(right i, 0)] [] [right i] [] 0 [right i] 0 (dist_all i).2.2 (G.start i) rfl rfl rfl (Nat.zero_le _) (Nat.le_refl _) (Nat.le_refl _) Nat.zero_lt_one
    refine Ev_step (fun k => ?_) e
    rw [spec_biFar.l2, if_pos (by show (0 : Int) < 1; decide), Int.toNat_natCast]
    show spec_biFar.l3 k (i : Int) ((List.replicate (allOf i) (-1)).set (rank (right i)) 0) 1 [] [right i] _ 0 = _
    rw [← hs]
    rfl
  | succ d ih =>
    intro i hi
    refine Ev_step (fun k => ?_) (ih (i + 1) (by omega))
    rw [spec_biFar.l1, if_pos (by omega), if_pos (by rw [right_len]; omega), w64 (x := (i : Int) + 1 + 1) (by omega) (by omega), ← right_succ]
    rfl
theorem biFar_ev {n : Nat} (hn : n ≤ 8) (h1 : 1 ≤ n) : Ev (fun k => spec_biFar.f k (n : Int)) (arrOf (allOf n) (distO n)) := by
  have ha := allOf_le hn
  simp only [spec_biFar.f]
  refine Ev_bind (biAll_ev n hn) (Ev_pos (by omega) (Ev_pos (by omega) ?_))
  simp only [Option.bind_some, Int.toNat_natCast, List.length_replicate]
  have e := far_l1 hn h1 n 0 (by omega)
  have := fill_l0 (N := allOf n) (by omega) e (allOf n) 0 (by omega)
  simp only [List.replicate_zero, List.nil_append] at this
  exact this
end Go.Proofs.Ytppbpefehpbejaa.P
end

section
set_option linter.unusedVariables false
namespace Go.Proofs.Ytppbpefehpbejaa.P
open Go.RowKit Go.Proofs.YtppbpefehpbejaaW.PrintWords Go.Proofs.YtppbpefehpbejaaW.PrintLast Go.Proofs.YtppbpefehpbejaaW.PrintMore Go.Proofs.Ytppbpefehpbejaa.Base Go.Proofs.Ytppbpefehpbejaa.Order Go.Proofs.Ytppbpefehpbejaa.Far

theorem isFew_ev (l : List Int) (hn : l.length ≤ 1048576) : Ev (fun k => impl_isFew.f k l) (bindS l && decide (l.length ≤ 5)) := by
  simp only [impl_isFew.f]
  refine Ev_bind (isBinding_ev l hn) ?_
  cases hb : bindS l with
  | false => exact Ev_neg (by decide) (Ev.now _)
  | true =>
    rw [Bool.true_and, show decide (l.length ≤ 5) = decide ((l.length : Int) ≤ 5) from decide_eq_decide.2 (by omega)]
    exact Ev_pos rfl (Ev.now _)
theorem biFew_ev (l : List Int) (hn : l.length ≤ 1048576) : Ev (fun k => spec_biFew.f k l) (bindS l && decide (l.length ≤ 5)) := by
  simp only [spec_biFew.f]
  refine Ev_bind (biGood_ev l hn) ?_
  cases hb : bindS l with
  | false => exact Ev_neg (by decide) (Ev.now _)
  | true =>
    rw [Bool.true_and, show decide (l.length ≤ 5) = decide ((l.length : Int) ≤ 5) from decide_eq_decide.2 (by omega)]
    exact Ev_pos rfl (Ev.now _)
theorem few_open {l : List Int} (h : (bindS l && decide (l.length ≤ 5)) = true) : Bd l.length l ∧ 1 ≤ l.length ∧ l.length ≤ 5 ∧ bindS l = true := by
  rw [Bool.and_eq_true, decide_eq_true_eq] at h
  have := (bd_iff l).1 h.1
  exact ⟨this.1, this.2.1, h.2, h.1⟩
/-- How many turns: both answer it. -/
def fewR (l : List Int) : Int × Bool := if (bindS l && decide (l.length ≤ 5)) = true then (((distO l.length).lookup l).getD 0, true) else (0, false)
theorem fewImpl_ev (l : List Int) (hn : l.length ≤ 1048576) : Ev (fun k => impl_FewestTurns.f k l) (fewR l) := by
  simp only [impl_FewestTurns.f]
  refine Ev_bind (isFew_ev l hn) ?_
  unfold fewR
  cases h : (bindS l && decide (l.length ≤ 5)) with
  | false => exact Ev_neg (by decide) (Ev.now _)
  | true =>
    have := few_open h
    exact Ev_pos rfl (Ev_pos ⟨this.2.2.2, this.2.2.1⟩ (Ev.now _))
theorem fewSpec_ev (l : List Int) (hn : l.length ≤ 1048576) : Ev (fun k => spec_FewestTurns.f k l) (fewR l) := by
  simp only [spec_FewestTurns.f]
  refine Ev_bind (biFew_ev l hn) ?_
  unfold fewR
  cases h : (bindS l && decide (l.length ≤ 5)) with
  | false => exact Ev_neg (by decide) (Ev.now _)
  | true =>
    have hf := few_open h
    have hr := rank_lt hf.1
    have hD := (dist_all l.length).1
    obtain ⟨v, hv, _⟩ := hD.all l hf.1
    have ha := arr_at hf.1 (distO l.length) hD.bd hD.nd
    refine Ev_pos rfl (Ev_bind (biFar_ev (by omega) hf.2.1) (Ev_bind (biRank_ev hf.1 (by omega)) (Ev_pos (by omega) (Ev_pos (by rw [arr_len]; omega) ?_))))
    simp only [rd_nat, ha, hv, if_true]
    exact Ev.now _
end Go.Proofs.Ytppbpefehpbejaa.P
end

section
namespace Go.Proofs.Ytppbpefehpbejaa.P
open Go.RowKit Go.Proofs.YtppbpefehpbejaaW.PrintWords Go.Proofs.YtppbpefehpbejaaW.PrintLast Go.Proofs.YtppbpefehpbejaaW.PrintMore Go.Proofs.Ytppbpefehpbejaa.Base Go.Proofs.Ytppbpefehpbejaa.Order Go.Proofs.Ytppbpefehpbejaa.Far
set_option linter.unusedVariables false

/-- The parts that are still to be tried. -/
def rem (n f t : Nat) : List (Nat × Nat) := if t < f then rowsFrom n f else restOf n f t
theorem arr_look {n : Nat} {b : List Int} {v : Int} (hb : Bd n b) (h : (distO n).lookup b = some v) : (arrOf (allOf n) (distO n)).getD (rank b) 0 = v := by
  rw [arr_at hb _ (dist_all n).1.bd (dist_all n).1.nd, h]
  rfl
theorem first_l1 {n : Nat} (h1 : 1 ≤ n) (hn : n ≤ 8) {b : List Int} {d : Nat} (hb : Bd n b) (hd : (distO n).lookup b = some ((d + 1 : Nat) : Int)) {done : List (List Int)} (hl : done.length ≤ 20000000) {p : Nat × Nat} {r : List (List Int) × Bool}
    (hnext : Ev (fun k => spec_FirstTurns.l0 k (turn b p.1 p.2) (arrOf (allOf n) (distO n)) (done ++ [[(p.1 : Int), (p.2 : Int)]])) r) :
    ∀ (e f t : Nat), f * n + t + e = n * n → f < n → t < n → (rem n f t).find? (fun p => (distO n).lookup (turn b p.1 p.2) == some (((d + 1 : Nat) : Int) - 1)) = some p →
      Ev (fun k => spec_FirstTurns.l1 k b (arrOf (allOf n) (distO n)) done ((f * n + t : Nat) : Int)) r := by
  have hlen := hb.1
  have hnn : n * n ≤ 64 := Nat.mul_le_mul hn hn
  have w1 : wrap64 ((n : Int) * (n : Int)) = ((n * n : Nat) : Int) := by rw [← Int.natCast_mul, w64 (by omega) (by omega)]
  have hlt : ∀ f t, f < n → t < n → f * n + t < n * n := fun f t hf ht => by
    have : (f + 1) * n ≤ n * n := Nat.mul_le_mul_right _ hf
    rw [Nat.add_mul, Nat.one_mul] at this
    omega
  intro e
  induction e with
  | zero =>
    intro f t he hf ht _
    have := hlt f t hf ht
    omega
  | succ e ih =>
    intro f t he hf ht hp
    have hk := hlt f t hf ht
    have e1 : (f * n + t) / n = f := by rw [Nat.mul_comm, Nat.mul_add_div (by omega), Nat.div_eq_of_lt ht, Nat.add_zero]
    have e2 : (f * n + t) % n = t := by rw [Nat.mul_comm, Nat.mul_add_mod, Nat.mod_eq_of_lt ht]
    have e3 : Int.tdiv ((f * n + t : Nat) : Int) (n : Int) = (f : Int) := by
      show (((f * n + t) / n : Nat) : Int) = _
      rw [e1]
    have e4 : Int.tmod ((f * n + t : Nat) : Int) (n : Int) = (t : Int) := by
      show (((f * n + t) % n : Nat) : Int) = _
      rw [e2]
    have w2 : wrap64 (f : Int) = (f : Int) := w64 (by omega) (by omega)
    have hs : ∀ k, spec_FirstTurns.l1 (k + 1) b (arrOf (allOf n) (distO n)) done ((f * n + t : Nat) : Int) = _ := fun k => by
      rw [spec_FirstTurns.l1, hlen, w1, if_pos (by omega), if_neg (by omega), e3, e4, w2, nextI (f * n + t) (by omega)]
    refine Ev_step hs ?_
    clear hs e1 e2 e3 e4 w2 w1
    by_cases hft : t < f
    · have er0 : rem n f t = rowsFrom n f := if_pos hft
      have er : rem n f (t + 1) = rowsFrom n f := by
        by_cases h2 : t + 1 < f
        · exact if_pos h2
        · have h3 : t + 1 = f := Nat.le_antisymm hft (Nat.not_lt.1 h2)
          rw [show rem n f (t + 1) = restOf n f (t + 1) from if_neg h2, h3, rows_rest hf]
      rw [er0, ← er] at hp
      have hx := ih f (t + 1) (by omega) hf (Nat.lt_of_le_of_lt hft hf) hp
      rw [← Nat.add_assoc] at hx
      exact Ev_pos (Int.ofNat_lt.2 hft) hx
    · refine Ev_neg (fun h => hft (Int.ofNat_lt.1 h)) ?_
      have htb := turn_bd hb (f := f) (t := t) (by omega) ht
      obtain ⟨u, hu, _⟩ := (dist_all n).1.all _ htb
      have r1 := rank_lt htb
      have r2 := rank_lt hb
      have hal := arr_len (allOf n) (distO n)
      have q1 : (0 : Int) ≤ ((rank (turn b f t) : Nat) : Int) := Int.natCast_nonneg _
      have q2 : ((rank (turn b f t) : Nat) : Int) < ((arrOf (allOf n) (distO n)).length : Int) := by rw [hal]; exact Int.ofNat_lt.2 r1
      have q3 : (0 : Int) ≤ ((rank b : Nat) : Int) := Int.natCast_nonneg _
      have q4 : ((rank b : Nat) : Int) < ((arrOf (allOf n) (distO n)).length : Int) := by rw [hal]; exact Int.ofNat_lt.2 r2
      refine Ev_bind (biTurn_ev hb hn f t (by omega) ht) ?_
      refine Ev_bind (biRank_ev htb hn) ?_
      refine Ev_pos q1 ?_
      refine Ev_pos q2 ?_
      refine Ev_bind (biRank_ev hb hn) ?_
      refine Ev_pos q3 ?_
      refine Ev_pos q4 ?_
      rw [rd_nat, rd_nat, arr_look htb hu, arr_look hb hd]
      have hiff := (dist_all n).1.lt_iff hd (f := f) (t := t) (by omega) ht hu
      rw [rem, if_neg hft, rest_cons ht] at hp
      by_cases hq : u < ((d + 1 : Nat) : Int)
      · rw [List.find?_cons_of_pos (by rw [hu, hiff.1 hq]; simp)] at hp
        obtain rfl := Option.some.inj hp
        exact Ev_pos hq (Ev_pos (show done.length < 5864062014805 by omega) hnext)
      · rw [List.find?_cons_of_neg (by rw [hu]; intro h; exact hq (hiff.2 (Option.some.inj (beq_iff_eq.1 h))))] at hp
        refine Ev_neg hq ?_
        by_cases ht1 : t + 1 = n
        · rw [ht1, rest_end] at hp
          have hf1 : f + 1 < n := by
            rcases Nat.lt_or_ge (f + 1) n with h | h
            · exact h
            · rw [show f + 1 = n by omega, rows_end] at hp
              cases hp
          have hmul : (f + 1) * n = f * n + n := by rw [Nat.add_mul, Nat.one_mul]
          have := ih (f + 1) 0 (by omega) hf1 (by omega) (by rw [rem, if_pos (by omega)]; exact hp)
          rw [show (f + 1) * n + 0 = f * n + t + 1 by omega] at this
          exact this
        · have hx := ih f (t + 1) (by omega) hf (by omega) (by rw [rem, if_neg (by omega)]; exact hp)
          rw [← Nat.add_assoc] at hx
          exact hx
theorem first_l0 {n : Nat} (h1 : 1 ≤ n) (hn : n ≤ 8) : ∀ (d : Nat) (b : List Int) (done : List (List Int)), Bd n b → (distO n).lookup b = some (d : Int) → done.length + d ≤ 20000000 →
    Ev (fun k => spec_FirstTurns.l0 k b (arrOf (allOf n) (distO n)) done) (done ++ path n (distO n) d b, true) := by
  have hal := arr_len (allOf n) (distO n)
  intro d
  induction d with
  | zero =>
    intro b done hb hd hl
    have r2 := rank_lt hb
    refine Ev_step (fun k => by rw [spec_FirstTurns.l0]) (Ev_bind (biRank_ev hb hn) ?_)
    refine Ev_pos (Int.natCast_nonneg _) ?_
    refine Ev_pos (show ((rank b : Nat) : Int) < ((arrOf (allOf n) (distO n)).length : Int) by rw [hal]; exact Int.ofNat_lt.2 r2) ?_
    rw [rd_nat, arr_look hb hd, path, List.append_nil]
    exact Ev_neg (by decide) (Ev.now _)
  | succ d ih =>
    intro b done hb hd hl
    have r2 := rank_lt hb
    obtain ⟨p, hp1, hp2, hp3, hp4⟩ := (dist_all n).1.pick hd (by omega)
    refine Ev_step (fun k => by rw [spec_FirstTurns.l0]) (Ev_bind (biRank_ev hb hn) ?_)
    refine Ev_pos (Int.natCast_nonneg _) ?_
    refine Ev_pos (show ((rank b : Nat) : Int) < ((arrOf (allOf n) (distO n)).length : Int) by rw [hal]; exact Int.ofNat_lt.2 r2) ?_
    rw [rd_nat, arr_look hb hd, path, hp1]
    have hnx := ih (turn b p.1 p.2) (done ++ [[(p.1 : Int), (p.2 : Int)]]) (turn_bd hb hp2 hp3) (by rw [hp4]; congr 1; omega) (by rw [List.length_append, List.length_singleton]; omega)
    rw [List.append_assoc] at hnx
    have hz : (rem n 0 0).find? (fun p => (distO n).lookup (turn b p.1 p.2) == some (((d + 1 : Nat) : Int) - 1)) = some p := by
      rw [rem, if_neg (by omega), ← rows_rest (by omega), ← pairs_rows]
      exact hp1
    have := first_l1 h1 hn hb hd (by omega) hnx (n * n) 0 0 (by omega) (by omega) (by omega) hz
    rw [Nat.zero_mul] at this
    exact Ev_pos (show ((d + 1 : Nat) : Int) > 0 by omega) this
end Go.Proofs.Ytppbpefehpbejaa.P
end

section
namespace Go.Proofs.Ytppbpefehpbejaa.P
open Go.RowKit Go.Proofs.YtppbpefehpbejaaW.PrintWords Go.Proofs.YtppbpefehpbejaaW.PrintLast Go.Proofs.YtppbpefehpbejaaW.PrintMore Go.Proofs.Ytppbpefehpbejaa.Base Go.Proofs.Ytppbpefehpbejaa.Order Go.Proofs.Ytppbpefehpbejaa.Far
set_option linter.unusedVariables false

/-- The first turns: both answer them. -/
def firstR (l : List Int) : List (List Int) × Bool := if (bindS l && decide (l.length ≤ 5)) = true then (path l.length (distO l.length) (((distO l.length).lookup l).getD 0).toNat l, true) else ([], false)
theorem firstImpl_ev (l : List Int) (hn : l.length ≤ 1048576) : Ev (fun k => impl_FirstTurns.f k l) (firstR l) := by
  simp only [impl_FirstTurns.f]
  refine Ev_bind (isFew_ev l hn) ?_
  unfold firstR
  cases h : (bindS l && decide (l.length ≤ 5)) with
  | false => exact Ev_neg (by decide) (Ev.now _)
  | true =>
    have := few_open h
    exact Ev_pos rfl (Ev_pos ⟨this.2.2.2, this.2.2.1⟩ (Ev.now _))
theorem firstSpec_ev (l : List Int) (hn : l.length ≤ 1048576) : Ev (fun k => spec_FirstTurns.f k l) (firstR l) := by
  simp only [spec_FirstTurns.f]
  refine Ev_bind (biFew_ev l hn) ?_
  unfold firstR
  cases h : (bindS l && decide (l.length ≤ 5)) with
  | false => exact Ev_neg (by decide) (Ev.now _)
  | true =>
    have hf := few_open h
    obtain ⟨v, hv, h0⟩ := (dist_all l.length).1.all l hf.1
    obtain ⟨d, rfl⟩ := Int.eq_ofNat_of_zero_le h0
    have hle := dist_le hv
    have ha := allOf_le (m := l.length) (by omega)
    have hp := first_l0 hf.2.1 (by omega) d l [] hf.1 hv (by simp only [List.length_nil]; omega)
    rw [List.nil_append] at hp
    rw [hv]
    exact Ev_pos rfl (Ev_bind (biFar_ev (by omega) hf.2.1) hp)
theorem firstR_fits (l : List Int) : (firstR l).1.length ≤ 3840 ∧ ∀ x ∈ (firstR l).1, x.length = 2 := by
  unfold firstR
  cases h : (bindS l && decide (l.length ≤ 5)) with
  | false => exact ⟨Nat.zero_le _, fun x hx => by cases hx⟩
  | true =>
    have hf := few_open h
    obtain ⟨v, hv, h0⟩ := (dist_all l.length).1.all l hf.1
    obtain ⟨d, rfl⟩ := Int.eq_ofNat_of_zero_le h0
    have hle := dist_le hv
    have ha : allOf l.length ≤ 3840 := by
      rcases (by omega : l.length = 1 ∨ l.length = 2 ∨ l.length = 3 ∨ l.length = 4 ∨ l.length = 5) with h | h | h | h | h <;> rw [h] <;> decide
    have hp := (dist_all l.length).1.path_len d l hv
    rw [if_pos rfl, hv]
    show (path l.length (distO l.length) d l).length ≤ _ ∧ ∀ x ∈ path l.length (distO l.length) d l, x.length = 2
    exact ⟨by omega, hp.2⟩
end Go.Proofs.Ytppbpefehpbejaa.P
end

section
namespace Go.Proofs.Ytppbpefehpbejaa.P
open Go.RowKit Go.Proofs.YtppbpefehpbejaaW.PrintWords Go.Proofs.YtppbpefehpbejaaW.PrintLast Go.Proofs.YtppbpefehpbejaaW.PrintMore Go.Proofs.Ytppbpefehpbejaa.Base Go.Proofs.Ytppbpefehpbejaa.Order Go.Proofs.Ytppbpefehpbejaa.Far
set_option linter.unusedVariables false

theorem fSame_l0 (a : List Int) (hn : a.length ≤ 1048576) : ∀ n i : Nat, i + n = a.length → Ev (fun k => laws_fSame.l0 k a a (a.length : Int) (i : Int)) true := by
  intro n
  induction n with
  | zero =>
    intro i hi
    refine Ev_step (fun k => ?_) (Ev.now _)
    rw [laws_fSame.l0, if_neg (by omega)]
  | succ n ih =>
    intro i hi
    refine Ev_step (fun k => ?_) (ih (i + 1) (by omega))
    rw [laws_fSame.l0, if_pos (by omega), if_pos (by omega), if_pos (by omega), if_pos (by omega), if_pos rfl, nextI i (by omega)]
theorem fSame_ev (a : List Int) (hn : a.length ≤ 1048576) : Ev (fun k => laws_fSame.f k a a) true := by
  refine Ev.congr (f := fun k => laws_fSame.l0 k a a (a.length : Int) 0) (fun k => by rw [laws_fSame.f, if_pos rfl]) ?_
  exact fSame_l0 a hn a.length 0 (by omega)
theorem fRows_l0 (R : List (List Int)) (hn : R.length ≤ 1048576) (hr : ∀ x ∈ R, x.length ≤ 1048576) : ∀ n i : Nat, i + n = R.length → Ev (fun k => laws_fRows.l0 k R R (R.length : Int) (i : Int)) true := by
  intro n
  induction n with
  | zero =>
    intro i hi
    refine Ev_step (fun k => ?_) (Ev.now _)
    rw [laws_fRows.l0, if_neg (by omega)]
  | succ n ih =>
    intro i hi
    have h : i < R.length := by omega
    have er : rd_L2 R (i : Int) = R[i] := by
      unfold rd_L2
      rw [Int.toNat_natCast, List.getD_eq_getElem?_getD, List.getElem?_eq_getElem h]
      rfl
    refine Ev_step (fun k => by rw [laws_fRows.l0, if_pos (by omega), if_pos (by omega), if_pos (by omega), if_pos (by omega), er, nextI i (by omega)]) ?_
    exact Ev_bind (fSame_ev _ (hr _ (List.getElem_mem h))) (Ev_pos rfl (ih (i + 1) (by omega)))
theorem fRows_ev (R : List (List Int)) (hn : R.length ≤ 1048576) (hr : ∀ x ∈ R, x.length ≤ 1048576) : Ev (fun k => laws_fRows.f k R R) true := by
  refine Ev.congr (f := fun k => laws_fRows.l0 k R R (R.length : Int) 0) (fun k => by rw [laws_fRows.f, if_pos rfl]) ?_
  exact fRows_l0 R hn hr R.length 0 (by omega)
theorem bne_self {α : Type} [BEq α] [LawfulBEq α] (x : α) : ¬ (x != x) = true := by simp
theorem isBind_spec (b : List Int) (hn : b.length ≤ 1048576) : Ev (fun k => spec_IsBinding.f k b) (bindS b) := by
  simp only [spec_IsBinding.f]
  exact Ev_bind (biGood_ev b hn) (Ev.now _)
/-- What is answered at a list that may be drawn. -/
theorem small_facts {b : List Int} (hD : Drawn b) : ∃ c t, Ev (fun k => impl_FewestCuts.f k b) (c, bindS b) ∧ Ev (fun k => spec_FewestCuts.f k b) (c, bindS b) ∧ (∃ r, Ev (fun k => impl_RankOfBinding.f k b) (r, bindS b) ∧ Ev (fun k => spec_RankOfBinding.f k b) (r, bindS b) ∧ (bindS b = true → r = (rank b : Int))) ∧ (bindS b = true → Fin1 b c t) := by
  have hn : b.length ≤ 1048576 := by have := hD.1; omega
  cases hb : bindS b with
  | false =>
    have g := biGood_ev b hn
    have g2 := isBinding_ev b hn
    rw [hb] at g g2
    refine ⟨0, 0, ?_, ?_, ⟨0, ?_, ?_, fun h => by cases h⟩, fun h => by cases h⟩
    · simp only [impl_FewestCuts.f]
      exact Ev_bind g2 (Ev_neg (by decide) (Ev.now _))
    · simp only [spec_FewestCuts.f]
      exact Ev_bind g (Ev_neg (by decide) (Ev.now _))
    · simp only [impl_RankOfBinding.f]
      exact Ev_bind g2 (Ev_neg (by decide) (Ev.now _))
    · simp only [spec_RankOfBinding.f]
      exact Ev_bind g (Ev_neg (by decide) (Ev.now _))
  | true =>
    obtain ⟨c, t, hF⟩ := fin1 (hD.2 hb)
    refine ⟨c, t, Ev.of (fun k => impl_FewestCuts.mono _ k) hF.ic, Ev.of (fun k => spec_FewestCuts.mono _ k) hF.sc, ⟨(rank b : Int), Ev.of (fun k => impl_RankOfBinding.mono _ k) hF.rk, ?_, fun _ => rfl⟩, fun _ => hF⟩
    have g := biGood_ev b hn
    rw [hb] at g
    simp only [spec_RankOfBinding.f]
    exact Ev_bind g (Ev_pos rfl (Ev_bind (biRank_ev ((bd_iff b).1 hb).1 (bind_len hb).2) (Ev.now _)))
theorem bt_f {l0 l1 b : List Int} {R : List (List Int)} {few br c r : Int} {ok three : Bool} (hbig : laws_big.f l0 l1 = some false) (hn : b.length ≤ 9) (hok : ok = (three && decide (b.length ≤ 5))) (hR : Ev (fun k => laws_fRows.f k R R) true)
    (hd : Ev (fun k => spec_DrawFirstTurns.f k l0) b) (h1 : Ev (fun k => impl_FirstTurns.f k b) (R, ok)) (h2 : Ev (fun k => spec_FirstTurns.f k b) (R, ok)) (h3 : Ev (fun k => impl_FewestTurns.f k b) (few, ok)) (h4 : Ev (fun k => spec_FewestTurns.f k b) (few, ok))
    (h5 : Ev (fun k => impl_BreaksOf.f k b) (br, three)) (h6 : Ev (fun k => spec_BreaksOf.f k b) (br, three)) (h7 : Ev (fun k => impl_FewestCuts.f k b) (c, three)) (h8 : Ev (fun k => spec_FewestCuts.f k b) (c, three))
    (h9 : Ev (fun k => impl_RankOfBinding.f k b) (r, three)) (h10 : Ev (fun k => spec_RankOfBinding.f k b) (r, three)) (h11 : Ev (fun k => impl_IsBinding.f k b) three) (h12 : Ev (fun k => spec_IsBinding.f k b) three)
    (hj : Ev (fun k => laws_FnBindingsTurned.j0 k l1 b R ok few br three c r false) true) : Ev (fun k => laws_FnBindingsTurned.f k l0 l1) true := by
  simp only [laws_FnBindingsTurned.f]
  refine Ev_some hbig (Ev_neg (by decide) (Ev_bind hd (Ev_bind h1 (Ev_bind h2 (Ev_bind h3 (Ev_bind h4 (Ev_bind h5 (Ev_bind h6 (Ev_bind h7 (Ev_bind h8 (Ev_bind h9 (Ev_bind h10 (Ev_neg (bne_self _) (Ev_bind hR (Ev_pos rfl (Ev_neg (bne_self _) (Ev_pos rfl (Ev_neg (bne_self _) (Ev_pos rfl (Ev_neg (bne_self _) (Ev_pos rfl (Ev_neg (bne_self _) (Ev_pos rfl (Ev_neg (bne_self _) (Ev_bind h11 (Ev_neg (bne_self _) (Ev_bind h11 (Ev_bind h12 (Ev_neg (bne_self _) (Ev_neg (bne_self _) (Ev_neg (bne_self _) ?_)))))))))))))))))))))))))))))))
  cases three with
  | false =>
    obtain rfl : ok = false := hok
    exact Ev_neg Bool.false_ne_true (Ev_neg Bool.false_ne_true hj)
  | true =>
    rw [Bool.true_and] at hok
    have e : (ok != decide ((b.length : Int) ≤ 5)) = false := by
      rw [hok, show decide (b.length ≤ 5) = decide ((b.length : Int) ≤ 5) from decide_eq_decide.2 (by omega)]
      simp
    cases ok with
    | false => exact Ev_neg Bool.false_ne_true (Ev_pos rfl (by rw [e]; exact hj))
    | true => exact Ev_pos rfl (Ev_pos rfl (by rw [e]; exact hj))
theorem bt_j0 {l1 b : List Int} {R : List (List Int)} {few br c r : Int} {ok three : Bool} (hn : b.length ≤ 9) (hF : three = true → ∃ t, Fin1 b c t ∧ r = (rank b : Int) ∧ br = brk b)
    (hj : Ev (fun k => laws_FnBindingsTurned.j1 k l1 b R ok few br) true) : Ev (fun k => laws_FnBindingsTurned.j0 k l1 b R ok few br three c r false) true := by
  refine Ev_step (fun k => by rw [laws_FnBindingsTurned.j0]) (Ev_neg (by decide) ?_)
  cases three with
  | false => exact Ev_neg (by decide) hj
  | true =>
    obtain ⟨t, hf, rfl, rfl⟩ := hF rfl
    have hk := hf.ok
    have w1 : wrap64 ((b.length : Int) + 1) = (b.length : Int) + 1 := w64 (by omega) (by omega)
    have e : ¬ ((brk b == 0) != (c == 0)) = true := by
      have : (brk b == 0) = (c == 0) := by rw [Bool.eq_iff_iff, beq_iff_eq, beq_iff_eq]; exact hk.2.2.2.2.2
      rw [this]
      exact bne_self _
    refine Ev_pos rfl (Ev_bind (Ev.of (fun k => impl_BindingOfRank.mono _ _ k) hf.un) (Ev_bind (Ev.of (fun k => impl_CountTurned.mono _ k) hf.ct) (Ev_pos rfl (Ev_bind (fSame_ev b (by omega)) (Ev_pos rfl (Ev_pos rfl (Ev_neg (show ¬ brk b < 0 by omega) (Ev_neg (show ¬ brk b > wrap64 ((b.length : Int) + 1) by rw [w1]; omega) (Ev_neg (show ¬ brk b = 1 by omega) (Ev_neg (show ¬ c < t by omega) (Ev_neg (show ¬ c > (b.length : Int) by omega) (Ev_neg e hj))))))))))))
theorem bt_j1 {l1 b : List Int} {R : List (List Int)} {few br : Int} {ok : Bool} (h : ok = true → Bd b.length b ∧ 1 ≤ b.length ∧ b.length ≤ 4 ∧ br = brk b ∧ ∃ v : Nat, (distO b.length).lookup b = some (v : Int) ∧ few = v ∧ R = path b.length (distO b.length) v b)
    (hj : Ev (fun k => laws_FnBindingsTurned.j3 k l1) true) : Ev (fun k => laws_FnBindingsTurned.j1 k l1 b R ok few br) true := by
  cases ok with
  | false => exact Ev_step (fun k => by rw [laws_FnBindingsTurned.j1]) (Ev_neg (by decide) hj)
  | true =>
    obtain ⟨hb, h1, h4, rfl, v, hv, rfl, rfl⟩ := h rfl
    have hD := (dist_all b.length).1
    have hbs := bind_of_bd hb h1 (by omega)
    have hpl := (hD.path_len v b hv).1
    have hvn := dist_few h1 h4 hb hv
    have hp2 := (hD.path_len v b hv).2
    have hpe : partsR b (path b.length (distO b.length) v b) = (right b.length, true) := by
      unfold partsR
      rw [hbs, fold_path hD v b hv, decide_eq_true (by omega)]
      rfl
    have e1 := (partsBoth_ev b (path b.length (distO b.length) v b) (by omega) (by omega)).2
    rw [hpe] at e1
    have hrb := right_bd b.length
    have hrs := bind_of_bd hrb h1 (by omega)
    have e2 := (brkBoth_ev (right b.length) (by rw [right_len]; omega)).2
    have h0 := (brk_right hrb h1 h4).2 rfl
    rw [brkR, if_pos hrs, h0] at e2
    have hfar := farB_best hD
    have hmost : (v : Int) ≤ (farB (distO b.length)).2 := by
      rcases hfar.2 _ (lookup_mem hv) with h | h
      · exact Int.le_of_lt h
      · exact Int.le_of_eq h.1
    have e3 : ∀ k, impl_FarthestBinding.f k (b.length : Int) = some ((farB (distO b.length)).1, (farB (distO b.length)).2, true) := fun k => by
      rw [impl_FarthestBinding.f, if_pos (by omega), Int.toNat_natCast]
    have w1 : wrap64 ((b.length : Int) + 1) = (b.length : Int) + 1 := w64 (by omega) (by omega)
    have w2 : wrap64 (2 * (v : Int)) = 2 * (v : Int) := w64 (by omega) (by omega)
    have hbr := brk_dist h1 h4 v b hb hv
    have hz := dist_zero h1 h4 hb hv
    have e4 : (((v : Int) == 0) != (brk b == 0)) = false := by
      have : ((v : Int) == 0) = (brk b == 0) := by rw [Bool.eq_iff_iff, beq_iff_eq, beq_iff_eq]; exact hz
      rw [this]
      simp
    refine Ev_step (fun k => by rw [laws_FnBindingsTurned.j1]) (Ev_pos rfl (Ev_bind e1 (Ev_bind e2 (Ev_bind ⟨0, fun k _ => e3 k⟩ (Ev_pos (congrArg Int.ofNat hpl) (Ev_pos rfl (Ev_pos rfl (Ev_pos rfl (Ev_neg (show ¬ wrap64 (2 * (v : Int)) < brk b by rw [w2]; omega) (Ev_neg (show ¬ (v : Int) > wrap64 ((b.length : Int) + 1) by rw [w1]; omega) (Ev_pos rfl (Ev_neg (show ¬ (v : Int) > (farB (distO b.length)).2 by omega) ?_))))))))))))
    rw [e4]
    refine Ev_step (fun k => by rw [laws_FnBindingsTurned.j2]) (Ev_neg (by decide) ?_)
    cases v with
    | zero => exact Ev_neg (by decide) hj
    | succ v =>
      obtain ⟨p, q1, q2, q3, q4⟩ := hD.pick hv (by omega)
      have ep : path b.length (distO b.length) (v + 1) b = [(p.1 : Int), (p.2 : Int)] :: path b.length (distO b.length) v (turn b p.1 p.2) := by rw [path, q1]
      have r0 : rd_L2 ([(p.1 : Int), (p.2 : Int)] :: path b.length (distO b.length) v (turn b p.1 p.2)) 0 = [(p.1 : Int), (p.2 : Int)] := rfl
      have s0 : rd [(p.1 : Int), (p.2 : Int)] 0 = (p.1 : Int) := rfl
      have s1 : rd [(p.1 : Int), (p.2 : Int)] 1 = (p.2 : Int) := rfl
      have hq : partB b (p.1 : Int) (p.2 : Int) = true := by
        unfold partB
        exact decide_eq_true (by omega)
      have t1 := (turnBoth_ev b (p.1 : Int) (p.2 : Int) (by omega)).2
      rw [turnR_ok hbs hq, Int.toNat_natCast, Int.toNat_natCast] at t1
      have hnb := turn_bd hb q2 q3
      have hns := bind_of_bd hnb h1 (by omega)
      have t2 := fewImpl_ev (turn b p.1 p.2) (by rw [hnb.1]; omega)
      have ef : fewR (turn b p.1 p.2) = (((v + 1 : Nat) : Int) - 1, true) := by
        unfold fewR
        rw [hns, hnb.1, decide_eq_true (show b.length ≤ 5 by omega), q4]
        rfl
      rw [ef] at t2
      have w3 : wrap64 (((v + 1 : Nat) : Int) - 1) = ((v + 1 : Nat) : Int) - 1 := w64 (by omega) (by omega)
      rw [ep, r0, s0, s1]
      exact Ev_pos (by omega) (Ev_pos (by simp only [List.length_cons]; omega) (Ev_pos (show (0 : Int) < 2 by decide) (Ev_pos (show (1 : Int) < 2 by decide) (Ev_bind t1 (Ev_bind t2 (Ev_pos rfl (Ev_pos rfl (Ev_pos w3.symm hj))))))))
/-- The elements behind a turned part. -/
theorem bt_l0 {g e : List Int} {G : List (List Int)} {eleven : Bool} {a : List Int} {f t : Nat} (hg : g.length ≤ 9) (hf : f ≤ t) (ht : t < g.length) (hb : ∀ x ∈ g, -9 ≤ x ∧ x ≤ 9) (hj : Ev (fun k => laws_FnBindingsTurned.j8 k a G e eleven) true) : ∀ n i : Nat, i + n = g.length →
    Ev (fun k => laws_FnBindingsTurned.l0 k g (f : Int) (t : Int) a G e eleven (turn g f t) ((turn g f t).length : Int) (i : Int)) true := by
  have hl := turn_len hf ht
  have hat : ∀ j, -9 ≤ g.getD j 0 ∧ g.getD j 0 ≤ 9 := fun j => by
    rw [List.getD_eq_getElem?_getD]
    cases h : g[j]? with
    | none => exact ⟨by decide, by decide⟩
    | some x => exact hb x (List.mem_of_getElem? h)
  intro n
  induction n with
  | zero =>
    intro i hi
    refine Ev_step (fun k => by rw [laws_FnBindingsTurned.l0, if_neg (by omega)]) hj
  | succ n ih =>
    intro i hi
    have et := turn_at hf ht i
    have hx := hat (f + t - i)
    have nx := ih (i + 1) (by omega)
    have s7 : ∀ (fl : Bool) k, laws_FnBindingsTurned.j7 (k + 1) g (f : Int) (t : Int) a G e eleven (i : Int) (rd (turn g f t) (i : Int)) (turn g f t) ((turn g f t).length : Int) (i : Int) fl = _ := fun fl k => by rw [laws_FnBindingsTurned.j7, nextI i (by omega), rd_nat, rd_nat, et]
    by_cases h1 : i < f
    · refine Ev_step (fun k => by rw [laws_FnBindingsTurned.l0, if_pos (by omega), if_pos (by omega), if_pos (by omega), if_pos (by omega)]) ?_
      exact Ev_step (s7 true) (Ev_pos rfl (Ev_pos (by omega) (Ev_pos (by omega) (Ev_pos (by rw [if_neg (by omega)]) nx))))
    · by_cases h2 : t < i
      · refine Ev_step (fun k => by rw [laws_FnBindingsTurned.l0, if_pos (by omega), if_pos (by omega), if_pos (by omega), if_neg (by omega), decide_eq_true (show (i : Int) > (t : Int) by omega)]) ?_
        exact Ev_step (s7 true) (Ev_pos rfl (Ev_pos (by omega) (Ev_pos (by omega) (Ev_pos (by rw [if_neg (by omega)]) nx))))
      · have w1 : wrap64 (wrap64 ((f : Int) + (t : Int)) - (i : Int)) = ((f + t - i : Nat) : Int) := by rw [w64 (x := (f : Int) + (t : Int)) (by omega) (by omega), w64 (by omega) (by omega)]; omega
        refine Ev_step (fun k => by rw [laws_FnBindingsTurned.l0, if_pos (by omega), if_pos (by omega), if_pos (by omega), if_neg (by omega), decide_eq_false (show ¬ (i : Int) > (t : Int) by omega)]) ?_
        refine Ev_step (s7 false) (Ev_neg (by decide) ?_)
        rw [w1, rd_nat, if_pos (show f ≤ i ∧ i ≤ t by omega), w64 (x := -(g.getD (f + t - i) 0)) (by omega) (by omega)]
        exact Ev_pos (by omega) (Ev_pos (by omega) (Ev_pos rfl nx))
/-- Part after part. -/
theorem bt_l1 {e : List Int} {ts : List (List Int)} (hn : ts.length ≤ 1048576) : ∀ (n i : Nat) (b : List Int), i + n = ts.length → bindS b = true → foldT (ts.drop i) b = some e → Ev (fun k => laws_FnBindingsTurned.l1 k e b ts (ts.length : Int) (i : Int)) true := by
  intro n
  induction n with
  | zero =>
    intro i b hi hb h
    rw [List.drop_of_length_le (by omega)] at h
    obtain rfl := Option.some.inj h
    refine Ev_step (fun k => by rw [laws_FnBindingsTurned.l1, if_neg (by omega)]) ?_
    exact Ev_bind (fSame_ev b (by have := (bind_len hb).2; omega)) (Ev_pos rfl (Ev.now _))
  | succ n ih =>
    intro i b hi hb h
    have hl : i < ts.length := by omega
    have er : rd_L2 ts (i : Int) = ts[i] := by
      unfold rd_L2
      rw [Int.toNat_natCast, List.getD_eq_getElem?_getD, List.getElem?_eq_getElem hl]
      rfl
    rw [List.drop_eq_getElem_cons hl, foldT] at h
    by_cases hc : (decide (ts[i].length = 2) && partB b (rd ts[i] 0) (rd ts[i] 1)) = true
    · rw [if_pos hc] at h
      rw [Bool.and_eq_true, decide_eq_true_eq] at hc
      have t1 := (turnBoth_ev b (rd ts[i] 0) (rd ts[i] 1) (by have := (bind_len hb).2; omega)).2
      rw [turnR_ok hb hc.2] at t1
      refine Ev_step (fun k => by rw [laws_FnBindingsTurned.l1, if_pos (by omega), if_pos (by omega), if_pos (by omega), er, nextI i (by omega)]) ?_
      exact Ev_pos (by omega) (Ev_pos (by omega) (Ev_bind t1 (Ev_pos rfl (ih (i + 1) _ (by omega) (turn_bind hb hc.2) h))))
    · rw [if_neg hc] at h
      cases h
theorem bt_j8 {g : List Int} {ts : List (List Int)} (hn : ts.length ≤ 1048576) : Ev (fun k => laws_FnBindingsTurned.j8 k g ts (partsR g ts).1 (partsR g ts).2) true := by
  cases hp : (partsR g ts).2 with
  | false => exact Ev_step (fun k => by rw [laws_FnBindingsTurned.j8]) (Ev_neg (by decide) (Ev.now _))
  | true =>
    unfold partsR at hp ⊢
    by_cases hc : (bindS g && decide (ts.length ≤ 40)) = true
    · rw [if_pos hc] at hp ⊢
      rw [Bool.and_eq_true] at hc
      cases hf : foldT ts g with
      | none => rw [hf] at hp; cases hp
      | some e =>
        refine Ev_step (fun k => by rw [laws_FnBindingsTurned.j8]) (Ev_pos rfl ?_)
        exact bt_l1 hn ts.length 0 g (by omega) hc.1 hf
    · rw [if_neg hc] at hp
      cases hp
theorem bt_j4 {g a e : List Int} {f t : Int} {G : List (List Int)} {eleven : Bool} (hg : Drawn g) (hj : Ev (fun k => laws_FnBindingsTurned.j8 k a G e eleven) true) :
    Ev (fun k => laws_FnBindingsTurned.j4 k g f t (turnR g f t).1 (turnR g f t).2 a G e eleven false) true := by
  refine Ev_step (fun k => by rw [laws_FnBindingsTurned.j4]) (Ev_neg (by decide) ?_)
  by_cases hc : (bindS g && partB g f t) = true
  · have hc2 := hc
    rw [Bool.and_eq_true] at hc2
    obtain ⟨hb, hp⟩ := hc2
    obtain ⟨ef, et, hf, ht⟩ := part_nat hp
    rw [turnR_ok hb hp]
    have hbd := ((bd_iff g).1 hb).1
    have h8 := (bind_len hb).2
    have htb := turn_bind hb hp
    have hl := turn_len hf ht
    have t1 := (turnBoth_ev (turn g f.toNat t.toNat) f t (by rw [hl]; omega)).2
    have hp2 : partB (turn g f.toNat t.toNat) f t = true := by
      unfold partB at hp ⊢
      rw [hl]
      exact hp
    rw [turnR_ok htb hp2, turn_turn hf ht] at t1
    have b1 := (brkBoth_ev g (by omega)).2
    have b2 := (brkBoth_ev (turn g f.toNat t.toNat) (by rw [hl]; omega)).2
    rw [brkR, if_pos hb] at b1
    rw [brkR, if_pos htb] at b2
    have hbt := brk_turn (hg.2 hb) hf ht
    obtain ⟨_, _, hF⟩ := fin1 (hg.2 hb)
    have k0 := hF.ok
    have w1 : wrap64 (brk g - brk (turn g f.toNat t.toNat)) = brk g - brk (turn g f.toNat t.toNat) := w64 (by omega) (by omega)
    have w2 : wrap64 (brk (turn g f.toNat t.toNat) - brk g) = brk (turn g f.toNat t.toNat) - brk g := w64 (by omega) (by omega)
    have i1 := isBinding_ev (turn g f.toNat t.toNat) (by rw [hl]; omega)
    rw [htb] at i1
    refine Ev_pos rfl (Ev_bind t1 (Ev_bind b1 (Ev_bind b2 (Ev_bind i1 (Ev_pos rfl (Ev_pos rfl (Ev_bind (fSame_ev g (by omega)) (Ev_pos rfl (Ev_pos rfl (Ev_pos rfl (Ev_neg (show ¬ wrap64 (brk g - brk (turn g f.toNat t.toNat)) > 2 by rw [w1]; omega) ?_)))))))))))
    rw [w2, decide_eq_false (by omega)]
    refine Ev_step (fun k => by rw [laws_FnBindingsTurned.j5]) (Ev_neg (by decide) ?_)
    have := bt_l0 (g := g) (e := e) (G := G) (eleven := eleven) (a := a) (by omega) hf ht (fun x hx => by have := hbd.2.1 x hx; omega) hj g.length 0 (by omega)
    rw [← ef, ← et] at this
    exact this
  · unfold turnR
    rw [if_neg hc]
    exact Ev_neg (by decide) hj
theorem drawPart_ok {c : List Int} (hc : Bytes c) : ∃ g f t, Ev (fun k => spec_DrawTurnPart.f k c) (g, f, t) ∧ Drawn g := by
  obtain ⟨b, a1, s1, e1, hd, g1, g2⟩ := binding_ok hc (a := 0) 0 (by decide) (by decide)
  have h9 := hd.1
  have w : wrap64 ((b.length : Int) + 1) = (b.length : Int) + 1 := w64 (by omega) (by omega)
  obtain ⟨x2, a2, s2, e2, _, _, g3, g4⟩ := pick_ok hc (a := a1) s1 ((b.length : Int) + 1) (by omega) (by omega) (by omega)
  obtain ⟨x3, a3, s3, e3, _, _, g5, g6⟩ := pick_ok hc (a := a2) s2 9 (by omega) (by omega) (by decide)
  obtain ⟨x4, a4, s4, e4, _, _, g7, g8⟩ := pick_ok hc (a := a3) s3 4 (by omega) (by omega) (by decide)
  obtain ⟨x5, a5, s5, e5, _, _, g9, g10⟩ := pick_ok hc (a := a4) s4 9 (by omega) (by omega) (by decide)
  refine ⟨b, wrap64 (x2 - wrap64 (Int.tdiv x3 8)), wrap64 (wrap64 (wrap64 (x2 - wrap64 (Int.tdiv x3 8)) + x4) - wrap64 (Int.tdiv x5 8)), ?_, hd⟩
  simp only [spec_DrawTurnPart.f]
  refine Ev_bind e1 ?_
  simp only [w, e2, e3, e4, e5, Option.bind_some]
  exact Ev.now _
theorem drawParts_l0 {c b : List Int} (hc : Bytes c) (hb : b.length ≤ 9) : ∀ (n : Nat) (acc : List (List Int)) (a s : Int), 0 ≤ a → a + 4 * n ≤ 999900 → acc.length + n ≤ 100 → ∃ ts, Ev (fun k => spec_DrawTurnParts.l0 k b acc (n : Int) c a s) (b, ts) ∧ ts.length ≤ 101 := by
  have w : wrap64 ((b.length : Int) + 1) = (b.length : Int) + 1 := w64 (by omega) (by omega)
  intro n
  induction n with
  | zero =>
    intro acc a s h0 h1 hl
    obtain ⟨o, a1, s1, e1, _, _⟩ := one_ok hc (a := a) s 12 h0 (by omega) (by decide)
    cases o with
    | true =>
      refine ⟨acc ++ [[0]], Ev_step (fun k => by rw [spec_DrawTurnParts.l0, if_neg (by omega), e1]) ?_, by rw [List.length_append, List.length_singleton]; omega⟩
      exact Ev_bind (a := (true, a1, s1)) (Ev.now _) (Ev_pos rfl (Ev_pos (show acc.length < 5864062014805 by omega) (Ev.now _)))
    | false =>
      refine ⟨acc, Ev_step (fun k => by rw [spec_DrawTurnParts.l0, if_neg (by omega), e1]) ?_, by omega⟩
      exact Ev_bind (a := (false, a1, s1)) (Ev.now _) (Ev_neg Bool.false_ne_true (Ev.now _))
  | succ n ih =>
    intro acc a s h0 h1 hl
    obtain ⟨x, a1, s1, e1, hx0, hx1, g1, g2⟩ := pick_ok hc (a := a) s ((b.length : Int) + 1) h0 (by omega) (by omega)
    obtain ⟨y, hy⟩ : ∃ y, spec_l1Most.f 0 (wrap64 (x - 1)) = some y := by
      unfold spec_l1Most.f
      split
      · exact ⟨_, rfl⟩
      · exact ⟨_, rfl⟩
    have wn : wrap64 (((n + 1 : Nat) : Int) - 1) = (n : Int) := by rw [w64 (by omega) (by omega)]; omega
    obtain ⟨ts, h, hl2⟩ := ih (acc ++ [[y, x]]) a1 s1 (by omega) (by omega) (by rw [List.length_append, List.length_singleton]; omega)
    refine ⟨ts, Ev_step (fun k => by rw [spec_DrawTurnParts.l0, if_pos (by omega), w, e1, Option.bind_some]) ?_, hl2⟩
    simp only [hy, Option.bind_some, wn]
    exact Ev_pos (by omega) h
theorem drawParts_ok {c : List Int} (hc : Bytes c) : ∃ g ts, Ev (fun k => spec_DrawTurnParts.f k c) (g, ts) ∧ Drawn g ∧ ts.length ≤ 101 := by
  obtain ⟨b, a1, s1, e1, hd, g1, g2⟩ := binding_ok hc (a := 0) 0 (by decide) (by decide)
  obtain ⟨x2, a2, s2, e2, hx0, hx1, g3, g4⟩ := pick_ok hc (a := a1) s1 5 (by omega) (by omega) (by decide)
  obtain ⟨n, rfl⟩ := Int.eq_ofNat_of_zero_le hx0
  obtain ⟨ts, h, hl⟩ := drawParts_l0 hc hd.1 n [] a2 s2 (by omega) (by omega) (by simp only [List.length_nil]; omega)
  refine ⟨b, ts, ?_, hd, hl⟩
  simp only [spec_DrawTurnParts.f]
  refine Ev_bind e1 ?_
  simp only [e2, Option.bind_some]
  exact h
theorem turnR_len {b : List Int} {f t : Int} (h : b.length ≤ 9) : (turnR b f t).1.length ≤ 9 := by
  unfold turnR
  split
  · rename_i hc
    rw [Bool.and_eq_true] at hc
    obtain ⟨_, _, h1, h2⟩ := part_nat hc.2
    show (turn b f.toNat t.toNat).length ≤ 9
    rw [turn_len h1 h2]
    exact h
  · exact Nat.zero_le _
theorem partsR_len {b : List Int} {ts : List (List Int)} : (partsR b ts).1.length ≤ 9 := by
  unfold partsR
  split
  · rename_i hc
    rw [Bool.and_eq_true] at hc
    cases hf : foldT ts b with
    | none => exact Nat.zero_le _
    | some e =>
      have := (bind_len (fold_bind ts b e hc.1 hf)).2
      show e.length ≤ 9
      omega
  · exact Nat.zero_le _
theorem bt_j3 {c : List Int} (hc : Bytes c) : Ev (fun k => laws_FnBindingsTurned.j3 k c) true := by
  obtain ⟨g, f, t, h1, hg⟩ := drawPart_ok hc
  obtain ⟨a, ts, h2, ha, hl⟩ := drawParts_ok hc
  have h9 := hg.1
  have h9' := ha.1
  have t1 := turnBoth_ev g f t (by omega)
  have t2 := partsBoth_ev a ts (by omega) (by omega)
  have l1 := turnR_len (f := f) (t := t) h9
  have l2 := partsR_len (b := a) (ts := ts)
  refine Ev_step (fun k => by rw [laws_FnBindingsTurned.j3]) (Ev_bind h1 (Ev_bind t1.2 (Ev_bind t1.1 (Ev_bind h2 (Ev_bind t2.2 (Ev_bind t2.1 (Ev_neg (bne_self _) (Ev_bind (fSame_ev (turnR g f t).1 (by omega)) (Ev_pos rfl (Ev_neg (bne_self _) (Ev_bind (fSame_ev (partsR a ts).1 (by omega)) ?_)))))))))))
  exact bt_j4 hg (bt_j8 (g := a) (ts := ts) (by omega))
theorem firstTurns_draw {c : List Int} (hc : Bytes c) : ∃ b, Ev (fun k => spec_DrawFirstTurns.f k c) b ∧ Drawn b := by
  obtain ⟨b, a1, s1, e1, hd, g1, g2⟩ := binding_ok hc (a := 0) 0 (by decide) (by decide)
  refine ⟨b, ?_, hd⟩
  simp only [spec_DrawFirstTurns.f, spec_DrawIsBinding.f]
  exact Ev_bind (Ev_bind e1 (Ev.now _)) (Ev.now _)
end Go.Proofs.Ytppbpefehpbejaa.P
namespace Go.Proofs.Ytppbpefehpbejaa.Pure
open Go.RowKit Go.Proofs.YtppbpefehpbejaaW.PrintWords Go.Proofs.Ytppbpefehpbejaa.P Go.Proofs.Ytppbpefehpbejaa.Base Go.Proofs.Ytppbpefehpbejaa.Order Go.Proofs.Ytppbpefehpbejaa.Far

theorem FnBindingsTurned : laws_FnBindingsTurned.Pure := by
  intro l0 l1 ⟨hm0, hw0⟩ ⟨hm1, hw1⟩
  refine Ev.rounds (g := fun k => laws_FnBindingsTurned.f k l0 l1) ?_
  have hbg : ∃ B, laws_big.f l0 l1 = some B := by
    unfold laws_big.f
    split
    · exact ⟨_, rfl⟩
    · exact ⟨_, rfl⟩
  obtain ⟨B, hB⟩ := hbg
  cases B with
  | true =>
    simp only [laws_FnBindingsTurned.f]
    exact Ev_some hB (Ev_pos rfl (Ev.now _))
  | false =>
    obtain ⟨b, hd, hD⟩ := firstTurns_draw (Bytes.of hw0)
    have h9 := hD.1
    have hn : b.length ≤ 1048576 := by omega
    obtain ⟨c, t, q1, q2, ⟨r, q3, q4, q5⟩, q6⟩ := small_facts hD
    obtain ⟨s1, s2⟩ := brkBoth_ev b hn
    have hbr : brkR b = ((brkR b).1, bindS b) := by
      unfold brkR
      cases bindS b <;> rfl
    rw [hbr] at s1 s2
    have hR := firstR_fits b
    have e1 : firstR b = ((firstR b).1, (bindS b && decide (b.length ≤ 5))) := by
      unfold firstR
      cases (bindS b && decide (b.length ≤ 5)) <;> rfl
    have e2 : fewR b = ((fewR b).1, (bindS b && decide (b.length ≤ 5))) := by
      unfold fewR
      cases (bindS b && decide (b.length ≤ 5)) <;> rfl
    have p1 := firstImpl_ev b hn
    have p2 := firstSpec_ev b hn
    have p3 := fewImpl_ev b hn
    have p4 := fewSpec_ev b hn
    rw [e1] at p1 p2
    rw [e2] at p3 p4
    refine bt_f hB h9 rfl (fRows_ev _ (by have := hR.1; omega) (fun x hx => by have := hR.2 x hx; omega)) hd p1 p2 p3 p4 s2 s1 q1 q2 q3 q4 (isBinding_ev b hn) (isBind_spec b hn) (bt_j0 h9 (fun h => ⟨t, q6 h, q5 h, by unfold brkR; rw [if_pos h]⟩) (bt_j1 (fun h => ?_) (bt_j3 (Bytes.of hw1))))
    obtain ⟨hbd, h1, h5, hbs⟩ := few_open h
    have h4 : b.length ≤ 4 := by
      have hm := hD.2 hbs
      rcases List.mem_cons.1 hm with rfl | hm
      · exact absurd h5 (by decide)
      · have := small_len hm
        omega
    obtain ⟨v, hv, h0⟩ := (dist_all b.length).1.all b hbd
    obtain ⟨v, rfl⟩ := Int.eq_ofNat_of_zero_le h0
    refine ⟨hbd, h1, h4, by unfold brkR; rw [if_pos hbs], v, hv, ?_, ?_⟩
    · unfold fewR
      rw [if_pos h, hv]
      rfl
    · unfold firstR
      rw [if_pos h, hv]
      rfl
end Go.Proofs.Ytppbpefehpbejaa.Pure
end

section
namespace Go.Proofs.Ytppbpefehpbejaa.Open
open Go.ChangeShapes Go.WideShapes Go.ChangeAt Go.RowKit Go.Proofs.YtppbpefehpbejaaW.PrintWords
set_option linter.unusedVariables false

/-- Each reading of a value of type t is told by the kind d, and what it tells fits. -/
structure Opens {α : Type} (P : Program) (t : TypeId) (d : Kd α) (fit : α → Prop) : Prop where
  out : ∀ {H : Type} (enc : TypeId × Value → H) (w : World) (fuel : Nat) (cs : List Value) (x : DataW H × List MemPlace), DataW.trod enc P w 0 (fun _ => true) true fuel t cs = some x → ∃ y, d.K w y cs ∧ fit y
theorem opens_int {P : Program} {t : TypeId} {k : IntKind} (ht : P.underlying t = some (.int k)) : Opens P t (Kd.int k) (fun x => (Lit.int k x).wf = true) := by
  refine ⟨fun {H} enc w fuel cs x h => ?_⟩
  obtain ⟨n, rfl, _, hw⟩ := DataW.trod_int ht h
  exact ⟨n, rfl, hw⟩
theorem cells_at {w : World} {base n : Nat} {a : Addr} {cs : List Value} (h : w.cells? base a n = some cs) : cs.length = n ∧ ∀ i u, cs[i]? = some u → w.cell? (a.add i) = some u := by
  unfold World.cells? at h
  split at h
  · have hl := mapM_some_length h
    rw [List.length_range] at hl
    refine ⟨hl, fun i u hu => ?_⟩
    have hi : i < n := by have := (List.getElem?_eq_some_iff.1 hu).1; omega
    have := mapM_some_get h i i (by simp [hi])
    rw [this, hu]
  · cases h

theorem list_of {α : Type} {n : Nat} {p : Nat → α → Prop} (h : ∀ i, i < n → ∃ x, p i x) : ∃ xs : List α, xs.length = n ∧ ∀ i x, xs[i]? = some x → p i x := by
  induction n with
  | zero => exact ⟨[], rfl, by simp⟩
  | succ n ih =>
    obtain ⟨xs, hl, hx⟩ := ih (fun i hi => h i (by omega))
    obtain ⟨y, hy⟩ := h n (by omega)
    refine ⟨xs ++ [y], by simp [hl], fun i x hi => ?_⟩
    rcases Nat.lt_trichotomy i n with hlt | rfl | hgt
    · rw [List.getElem?_append_left (by omega)] at hi
      exact hx i x hi
    · rw [List.getElem?_append_right (by omega), hl] at hi
      simp at hi
      exact hi ▸ hy
    · rw [List.getElem?_eq_none (by simp; omega)] at hi
      cases hi

theorem opens_slice {α : Type} {P : Program} {t e : TypeId} {d : Kd α} {fit : α → Prop} (ht : P.underlying t = some (.slice e)) (hc : P.cellsOf e = d.sz) (h : Opens P e d fit) :
    Opens P t (Kd.slice e d) (fun xs => xs.length ≤ maxLen ∧ ∀ x, x ∈ xs → fit x) := by
  refine ⟨fun {H} enc w fuel cs x hx => ?_⟩
  rcases Go.Deep.open_slice ht hx with ⟨rfl, _⟩ | ⟨a, len, cap, m, n, D, Pl, rfl, _, hl, hm, hmm, _, hel⟩
  · exact ⟨[], ⟨none, 0, rfl, Nat.le_refl _, rfl, by simp, fun h0 => absurd h0 (by simp)⟩, by simp, by simp⟩
  · have hm' : m = cap := by simpa using hmm
    subst hm'
    obtain ⟨xs, hlen, hxs⟩ := list_of (n := len) (p := fun i y => ∃ c, c.length = d.sz ∧ d.K w y c ∧ fit y ∧ ∀ j u, c[j]? = some u → w.cell? (a.add (i * d.sz + j)) = some u) (fun i hi => by
      obtain ⟨cs', hcs, htr⟩ := hel i (by omega)
      obtain ⟨y, hK, hf⟩ := h.out enc w n cs' _ htr
      obtain ⟨hlc, hcell⟩ := cells_at hcs
      refine ⟨y, cs', d.K_len hK, hK, hf, fun j u hu => ?_⟩
      have := hcell j u hu
      rw [Go.Deep.add_add, hc] at this
      exact this)
    subst hlen
    refine ⟨xs, ⟨some a, m, rfl, hl, rfl, by unfold maxLen at hm; omega, fun _ => ⟨a, rfl, fun j p hj => ?_⟩⟩, by omega, fun x hmem => ?_⟩
    · obtain ⟨c, h1, h2, _, h3⟩ := hxs j p hj
      exact ⟨c, h1, h2, h3⟩
    · obtain ⟨i, hi, rfl⟩ := List.mem_iff_getElem.1 hmem
      obtain ⟨_, _, _, hf, _⟩ := hxs i _ (List.getElem?_eq_getElem hi)
      exact hf

/-- A slice's argument: its value, and what it reads as. -/
theorem arg_slice {α : Type} {P : Program} {t e : TypeId} {d : Kd α} {fit : List α → Prop} {H : Type} {enc : TypeId × Value → H} {w : World} {v : Value} {x : DataW H} {ps : List MemPlace} (ho : Opens P t (Kd.slice e d) fit) (h : DataW.Trod enc P w 0 (fun _ => true) true t v x ps) (hv : ∃ a n c, v = .slice a n c) :
    ∃ (A : Option Addr) (c : Nat) (l : List α), v = .slice A l.length c ∧ Kd.C d w A l.length l ∧ l.length ≤ c ∧ fit l := by
  obtain ⟨fuel, hf⟩ := h
  obtain ⟨a, n, c, rfl⟩ := hv
  obtain ⟨l, ⟨A, c', hcs, hlc, hC⟩, hfit⟩ := ho.out enc w fuel _ _ hf
  simp [Value.cells] at hcs
  obtain ⟨rfl, rfl, rfl⟩ := hcs
  exact ⟨a, c, l, rfl, hC, hlc, hfit⟩
end Go.Proofs.Ytppbpefehpbejaa.Open
end
