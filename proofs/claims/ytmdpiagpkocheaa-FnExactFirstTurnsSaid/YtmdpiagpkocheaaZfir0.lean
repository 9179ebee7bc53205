/- Small facts on wrapped numbers, lists and rounds; no condition. -/
import Derived.Test.YtmdpiagpkocheaaWWords
import Derived.ProofKit
import Derived.Deep.Slices
import Derived.Lib.SmallJoins
import Derived.WalkKit
/-! Small facts on wrapped numbers, lists and rounds; no condition. -/
section
namespace Go.Proofs.Ytmdpiagpkocheaa.Base
open Go.RowKit Go.Proofs.YtmdpiagpkocheaaW.PrintWords
set_option linter.unusedVariables false

theorem w64 {x : Int} (h1 : -4611686018427387904 ≤ x) (h2 : x ≤ 4611686018427387904) : wrap64 x = x := by
  unfold wrap64
  omega
theorem getD_at {α : Type} (l : List α) (z : α) {i : Nat} (h : i < l.length) : l.getD i z = l[i] := by
  rw [List.getD_eq_getElem?_getD, List.getElem?_eq_getElem h]
  rfl
/-- One place more of a list that is being copied. -/
theorem set_copied {α β : Type} (f : α → β) (xs : List α) (z : β) {i : Nat} (h : i < xs.length) :
    ((xs.take i).map f ++ List.replicate (xs.length - i) z).set i (f xs[i]) = (xs.take (i + 1)).map f ++ List.replicate (xs.length - (i + 1)) z := by
  have hl : ((xs.take i).map f).length = i := by rw [List.length_map, List.length_take]; omega
  have e : xs.length - i = (xs.length - (i + 1)) + 1 := by omega
  have t : (xs.take (i + 1)).map f = (xs.take i).map f ++ [f xs[i]] := by
    rw [List.take_add_one, List.getElem?_eq_getElem h, List.map_append]
    rfl
  rw [List.set_append_right _ _ (by omega), hl, Nat.sub_self, e, List.replicate_succ, List.set_cons_zero, t, List.append_assoc]
  rfl
theorem all_drop {α : Type} (p : α → Bool) (l : List α) (z : α) {i : Nat} (h : i < l.length) : (l.drop i).all p = (p (l.getD i z) && (l.drop (i + 1)).all p) := by
  rw [getD_at l z h, List.drop_eq_getElem_cons h, List.all_cons]
theorem Ev_at {α : Type} {g : Nat → Option α} {r : α} (h : Ev g r) : ∃ K, ∀ k, K ≤ k → g k = some r := h
/-- Two that answer, answer together. -/
theorem Ev_bind {α β : Type} {g : Nat → Option α} {f : Nat → α → Option β} {a : α} {r : β} (h : Ev g a) (k : Ev (fun n => f n a) r) : Ev (fun n => (g n).bind (f n)) r := Ev.bind h k
theorem Ev_some {α β : Type} {x : Option α} {f : Nat → α → Option β} {a : α} {r : β} (h : x = some a) (k : Ev (fun n => f n a) r) : Ev (fun n => x.bind (f n)) r := by
  subst h
  exact k
theorem Ev_pos {α : Type} {c : Prop} [Decidable c] {f g : Nat → Option α} {r : α} (h : c) (k : Ev f r) : Ev (fun n => if c then f n else g n) r := by
  simp only [if_pos h]
  exact k
theorem Ev_neg {α : Type} {c : Prop} [Decidable c] {f g : Nat → Option α} {r : α} (h : ¬ c) (k : Ev g r) : Ev (fun n => if c then f n else g n) r := by
  simp only [if_neg h]
  exact k
theorem getD_set_self {α : Type} (l : List α) (z v : α) {i : Nat} (h : i < l.length) : (l.set i v).getD i z = v := by
  rw [List.getD_eq_getElem?_getD, List.getElem?_set_self h]
  rfl
theorem set_drop {α : Type} (m l : List α) (v : α) {i : Nat} (hm : m.length = i) (h : i < l.length) : (m ++ l.drop i).set i v = (m ++ [v]) ++ l.drop (i + 1) := by
  rw [List.set_append_right _ _ (by omega), hm, Nat.sub_self, List.drop_eq_getElem_cons h, List.set_cons_zero, List.append_assoc]
  rfl
/-- One round, by the function's own equation. -/
theorem Ev_step {α : Type} {g f : Nat → Option α} {r : α} (h : ∀ k, g (k + 1) = f k) (k : Ev f r) : Ev g r := Ev.step h k
theorem Ev_ite_eq {α : Type} {β : Type} {x : Option β} {a b : β} {f : Nat → Option α} {r : α} (h : a = b) (k : Ev f r) : Ev f r := k
def inB (n lo hi : Int) : Bool := decide (lo ≤ n ∧ n ≤ hi)
end Go.Proofs.Ytmdpiagpkocheaa.Base
end

/-! Whatever reads as a datum of a type of numbers, bools, strings, slices and structs is told by that type's kind, and fits; no condition. -/
section
namespace Go.Proofs.Ytmdpiagpkocheaa.Open
open Go.ChangeShapes Go.WideShapes Go.ChangeAt Go.RowKit Go.Proofs.YtmdpiagpkocheaaW.PrintWords
set_option linter.unusedVariables false

/-- Each reading of a value of type t is told by the kind d, and what it tells fits. -/
structure Opens {α : Type} (P : Program) (t : TypeId) (d : Kd α) (fit : α → Prop) : Prop where
  out : ∀ {H : Type} (enc : TypeId × Value → H) (w : World) (fuel : Nat) (cs : List Value) (x : DataW H × List MemPlace), DataW.trod enc P w 0 (fun _ => true) true fuel t cs = some x → ∃ y, d.K w y cs ∧ fit y
/-- The same of a struct's last fields, from the cell o on. -/
structure OpensFs {α : Type} (P : Program) (fs : List Field) (o : Nat) (d : Kd α) (fit : α → Prop) : Prop where
  out : ∀ {H : Type} (enc : TypeId × Value → H) (w : World) (n : Nat) (cs : List Value), cs.length = o + d.sz → (∀ f, f ∈ fs → ∃ x, DataW.trod enc P w 0 (fun _ => true) true n f.type ((cs.drop f.offset).take (P.cellsOf f.type)) = some x) → ∃ y, d.K w y (cs.drop o) ∧ fit y

theorem opens_int {P : Program} {t : TypeId} {k : IntKind} (ht : P.underlying t = some (.int k)) : Opens P t (Kd.int k) (fun x => (Lit.int k x).wf = true) := by
  refine ⟨fun {H} enc w fuel cs x h => ?_⟩
  obtain ⟨n, rfl, _, hw⟩ := DataW.trod_int ht h
  exact ⟨n, rfl, hw⟩
theorem opens_bool {P : Program} {t : TypeId} (ht : P.underlying t = some .bool) : Opens P t Kd.bool (fun _ => True) := by
  refine ⟨fun {H} enc w fuel cs x h => ?_⟩
  obtain ⟨b, rfl, _⟩ := DataW.trod_bool ht h
  exact ⟨b, rfl, trivial⟩
theorem opens_string {P : Program} {t : TypeId} (ht : P.underlying t = some .string) : Opens P t Kd.string (fun s => s.size ≤ maxLen) := by
  refine ⟨fun {H} enc w fuel cs x h => ?_⟩
  obtain ⟨s, rfl, _, hs⟩ := DataW.trod_string ht h
  exact ⟨s, rfl, hs⟩

theorem cells_at {w : World} {base n : Nat} {a : Addr} {cs : List Value} (h : w.cells? base a n = some cs) : cs.length = n ∧ ∀ i u, cs[i]? = some u → w.cell? (a.add i) = some u := by
  unfold World.cells? at h
  split at h
  · have hl := mapM_some_length h
    rw [List.length_range] at hl
    refine ⟨hl, fun i u hu => ?_⟩
    have hi : i < n := by have := (List.getElem?_eq_some_iff.1 hu).1; omega
    have := mapM_some_get h i i (by simp [hi])
    rw [this, hu]
  · cases h

theorem list_of {α : Type} {n : Nat} {p : Nat → α → Prop} (h : ∀ i, i < n → ∃ x, p i x) : ∃ xs : List α, xs.length = n ∧ ∀ i x, xs[i]? = some x → p i x := by
  induction n with
  | zero => exact ⟨[], rfl, by simp⟩
  | succ n ih =>
    obtain ⟨xs, hl, hx⟩ := ih (fun i hi => h i (by omega))
    obtain ⟨y, hy⟩ := h n (by omega)
    refine ⟨xs ++ [y], by simp [hl], fun i x hi => ?_⟩
    rcases Nat.lt_trichotomy i n with hlt | rfl | hgt
    · rw [List.getElem?_append_left (by omega)] at hi
      exact hx i x hi
    · rw [List.getElem?_append_right (by omega), hl] at hi
      simp at hi
      exact hi ▸ hy
    · rw [List.getElem?_eq_none (by simp; omega)] at hi
      cases hi

theorem opens_slice {α : Type} {P : Program} {t e : TypeId} {d : Kd α} {fit : α → Prop} (ht : P.underlying t = some (.slice e)) (hc : P.cellsOf e = d.sz) (h : Opens P e d fit) :
    Opens P t (Kd.slice e d) (fun xs => xs.length ≤ maxLen ∧ ∀ x, x ∈ xs → fit x) := by
  refine ⟨fun {H} enc w fuel cs x hx => ?_⟩
  rcases Go.Deep.open_slice ht hx with ⟨rfl, _⟩ | ⟨a, len, cap, m, n, D, Pl, rfl, _, hl, hm, hmm, _, hel⟩
  · exact ⟨[], ⟨none, 0, rfl, Nat.le_refl _, rfl, by simp, fun h0 => absurd h0 (by simp)⟩, by simp, by simp⟩
  · have hm' : m = cap := by simpa using hmm
    subst hm'
    obtain ⟨xs, hlen, hxs⟩ := list_of (n := len) (p := fun i y => ∃ c, c.length = d.sz ∧ d.K w y c ∧ fit y ∧ ∀ j u, c[j]? = some u → w.cell? (a.add (i * d.sz + j)) = some u) (fun i hi => by
      obtain ⟨cs', hcs, htr⟩ := hel i (by omega)
      obtain ⟨y, hK, hf⟩ := h.out enc w n cs' _ htr
      obtain ⟨hlc, hcell⟩ := cells_at hcs
      refine ⟨y, cs', d.K_len hK, hK, hf, fun j u hu => ?_⟩
      have := hcell j u hu
      rw [Go.Deep.add_add, hc] at this
      exact this)
    subst hlen
    refine ⟨xs, ⟨some a, m, rfl, hl, rfl, by unfold maxLen at hm; omega, fun _ => ⟨a, rfl, fun j p hj => ?_⟩⟩, by omega, fun x hmem => ?_⟩
    · obtain ⟨c, h1, h2, _, h3⟩ := hxs j p hj
      exact ⟨c, h1, h2, h3⟩
    · obtain ⟨i, hi, rfl⟩ := List.mem_iff_getElem.1 hmem
      obtain ⟨_, _, _, hf, _⟩ := hxs i _ (List.getElem?_eq_getElem hi)
      exact hf

theorem opens_iso {α β : Type} {P : Program} {t : TypeId} {d : Kd α} {fit : α → Prop} (f : β → α) (g : α → β) (hfg : ∀ x, f (g x) = x) (h : Opens P t d fit) : Opens P t (Kd.iso d f) (fun y => fit (f y)) := by
  refine ⟨fun {H} enc w fuel cs x hx => ?_⟩
  obtain ⟨y, hK, hf⟩ := h.out enc w fuel cs x hx
  exact ⟨g y, show d.K w (f (g y)) cs by rw [hfg]; exact hK, by show fit (f (g y)); rw [hfg]; exact hf⟩

theorem opensFs_one {α : Type} {P : Program} {f : Field} {o : Nat} {d : Kd α} {fit : α → Prop} (ho : f.offset = o) (hc : P.cellsOf f.type = d.sz) (h : Opens P f.type d fit) : OpensFs P [f] o d fit := by
  refine ⟨fun {H} enc w n cs hl hx => ?_⟩
  obtain ⟨x, hx⟩ := hx f (by simp)
  subst ho
  rw [List.take_of_length_le (by rw [List.length_drop]; omega)] at hx
  exact h.out enc w n _ x hx
theorem opensFs_cons {α β : Type} {P : Program} {f : Field} {fs : List Field} {o : Nat} {d : Kd α} {d' : Kd β} {fit : α → Prop} {fit' : β → Prop} (ho : f.offset = o) (hc : P.cellsOf f.type = d.sz) (h : Opens P f.type d fit) (h' : OpensFs P fs (o + d.sz) d' fit') :
    OpensFs P (f :: fs) o (Kd.pair d d') (fun x => fit x.1 ∧ fit' x.2) := by
  refine ⟨fun {H} enc w n cs hl hx => ?_⟩
  have hl' : cs.length = o + (d.sz + d'.sz) := hl
  obtain ⟨x, hx0⟩ := hx f (by simp)
  obtain ⟨y', hK', hf'⟩ := h'.out enc w n cs (by omega) (fun g hg => hx g (by simp [hg]))
  subst ho
  obtain ⟨y, hK, hf⟩ := h.out enc w n _ x hx0
  refine ⟨(y, y'), ⟨_, _, ?_, hK, hK'⟩, hf, hf'⟩
  rw [hc, ← List.drop_drop, List.take_append_drop]
theorem opens_struct {α : Type} {P : Program} {t : TypeId} {fs : Array Field} {d : Kd α} {fit : α → Prop} (ht : P.underlying t = some (.struct fs)) (hc : P.cellsOf t = d.sz) (h : OpensFs P fs.toList 0 d fit) : Opens P t d fit := by
  refine ⟨fun {H} enc w fuel cs x hx => ?_⟩
  obtain ⟨xs, n, rfl, _, hl, hxl, hel⟩ := DataW.trod_struct ht hx
  refine h.out enc w n cs (by omega) (fun f hf => ?_)
  obtain ⟨i, hi, rfl⟩ := List.mem_iff_getElem.1 hf
  have hi' : i < fs.size := by simpa using hi
  have := hel i fs.toList[i] (by simp [hi'])
  exact ⟨xs[i]'(by omega), by rw [this, List.getElem?_eq_getElem (by omega)]⟩

/-- A slice's argument: its value, and what it reads as. -/
theorem arg_slice {α : Type} {P : Program} {t e : TypeId} {d : Kd α} {fit : List α → Prop} {H : Type} {enc : TypeId × Value → H} {w : World} {v : Value} {x : DataW H} {ps : List MemPlace} (ho : Opens P t (Kd.slice e d) fit) (h : DataW.Trod enc P w 0 (fun _ => true) true t v x ps) (hv : ∃ a n c, v = .slice a n c) :
    ∃ (A : Option Addr) (c : Nat) (l : List α), v = .slice A l.length c ∧ Kd.C d w A l.length l ∧ l.length ≤ c ∧ fit l := by
  obtain ⟨fuel, hf⟩ := h
  obtain ⟨a, n, c, rfl⟩ := hv
  obtain ⟨l, ⟨A, c', hcs, hlc, hC⟩, hfit⟩ := ho.out enc w fuel _ _ hf
  simp [Value.cells] at hcs
  obtain ⟨rfl, rfl, rfl⟩ := hcs
  exact ⟨a, c, l, rfl, hC, hlc, hfit⟩
/-- A struct's argument: its cells, and what they read as. -/
theorem arg_struct {α : Type} {P : Program} {t : TypeId} {d : Kd α} {fit : α → Prop} {H : Type} {enc : TypeId × Value → H} {w : World} {v : Value} {x : DataW H} {ps : List MemPlace} (ho : Opens P t d fit) (h : DataW.Trod enc P w 0 (fun _ => true) true t v x ps) (hv : ∃ cs, v = .agg cs) :
    ∃ (cs : List Value) (y : α), v = .agg cs.toArray ∧ d.K w y cs ∧ fit y := by
  obtain ⟨fuel, hf⟩ := h
  obtain ⟨cs, rfl⟩ := hv
  obtain ⟨y, hK, hfit⟩ := ho.out enc w fuel _ _ hf
  exact ⟨cs.toList, y, by simp, by simpa [Value.cells] using hK, hfit⟩
theorem agg_of_okWide {P : Program} {w : World} {r : Reach} {base : Nat} {t : TypeId} {v : Value} {fs : Array Field} (ht : P.underlying t = some (.struct fs)) (h : Value.okWide P w r base t v) : ∃ cs, v = .agg cs := by
  unfold Value.okWide at h
  rw [ht] at h
  obtain ⟨cs, rfl, _⟩ := h
  exact ⟨cs, rfl⟩
end Go.Proofs.Ytmdpiagpkocheaa.Open
end

/-! Places in rows of whole numbers; no condition but small numbers. -/
section
namespace Go.Proofs.Ytmdpiagpkocheaa.P
open Go.RowKit Go.Proofs.YtmdpiagpkocheaaW.PrintWords Go.Proofs.Ytmdpiagpkocheaa.Base
set_option linter.unusedVariables false

theorem rd_nat (l : List Int) (i : Nat) : rd l (i : Int) = l.getD i 0 := by unfold rd; rw [Int.toNat_natCast]
theorem nextI (n : Nat) (h : n ≤ 4000000) : wrap64 ((n : Int) + 1) = ((n + 1 : Nat) : Int) := by
  rw [w64 (by omega) (by omega)]; omega
end Go.Proofs.Ytmdpiagpkocheaa.P
end

/-! Numbers that are an order, and bindings: two ways to say that each leaf stands once; plain lists. -/
section
namespace Go.Proofs.Ytmdpiagpkocheaa.Order
set_option linter.unusedVariables false

/-- The leaf of a number, from 0 on. -/
def leaf (x : Int) : Int := (if x < 0 then -x else x) - 1
theorem leaf_eq (x y : Int) : leaf x = leaf y ↔ x = y ∨ x = -y := by
  unfold leaf
  split <;> split <;> omega
/-- None is 0 nor stands before, turned or not. -/
def fresh : List Int → List Int → Bool
  | _, [] => true
  | pre, x :: xs => x != 0 && (!pre.contains x && (!pre.contains (-x) && fresh (pre ++ [x]) xs))
theorem fresh_iff : ∀ (rest pre : List Int), fresh pre rest = true ↔ ((∀ x ∈ rest, x ≠ 0) ∧ (rest.map leaf).Nodup ∧ ∀ x ∈ rest, ∀ y ∈ pre, leaf x ≠ leaf y) := by
  intro rest
  induction rest with
  | nil => intro pre; simp [fresh]
  | cons a rest ih =>
    intro pre
    simp only [fresh, Bool.and_eq_true, bne_iff_ne, ne_eq, Bool.not_eq_true', ih (pre ++ [a])]
    have hc : ∀ z : Int, pre.contains z = false ↔ z ∉ pre := fun z => by
      rw [← Bool.not_eq_true, List.contains_iff_mem]
    rw [hc, hc]
    constructor
    · rintro ⟨h0, h1, h2, h3, h4, h5⟩
      refine ⟨fun x hx => ?_, ?_, fun x hx y hy => ?_⟩
      · rcases List.mem_cons.1 hx with rfl | hx
        · exact h0
        · exact h3 x hx
      · rw [List.map_cons, List.nodup_cons]
        refine ⟨fun hm => ?_, h4⟩
        obtain ⟨x, hx, e⟩ := List.mem_map.1 hm
        exact h5 x hx a (by simp) e
      · rcases List.mem_cons.1 hx with rfl | hx
        · intro e
          rcases (leaf_eq x y).1 e with rfl | e
          · exact h1 hy
          · exact h2 (by rw [e, Int.neg_neg]; exact hy)
        · exact h5 x hx y (List.mem_append_left _ hy)
    · rintro ⟨h1, h2, h3⟩
      rw [List.map_cons, List.nodup_cons] at h2
      refine ⟨h1 a (by simp), fun hm => h3 a (by simp) a hm rfl, fun hm => h3 a (by simp) (-a) hm ((leaf_eq a (-a)).2 (.inr (by omega))), fun x hx => h1 x (List.mem_cons_of_mem _ hx), h2.2, fun x hx y hy => ?_⟩
      rcases List.mem_append.1 hy with hy | hy
      · exact h3 x (List.mem_cons_of_mem _ hx) y hy
      · obtain rfl : y = a := by simpa using hy
        intro e
        exact h2.1 (List.mem_map.2 ⟨x, hx, e⟩)
/-- A list that has each number below n has at least n, and if it has just n, each stands once and no other does. -/
theorem has_all : ∀ (n : Nat) (ls : List Int), (∀ i : Nat, i < n → (i : Int) ∈ ls) → n ≤ ls.length ∧ (ls.length = n → ls.Nodup ∧ ∀ x ∈ ls, 0 ≤ x ∧ x < n) := by
  intro n
  induction n with
  | zero =>
    intro ls _
    refine ⟨Nat.zero_le _, fun h => ?_⟩
    obtain rfl := List.length_eq_zero_iff.1 h
    simp
  | succ n ih =>
    intro ls h
    have hm := h n (by omega)
    have hl := List.length_erase_of_mem hm
    have hp := List.length_pos_of_mem hm
    obtain ⟨h1, h2⟩ := ih (ls.erase (n : Int)) (fun i hi => (List.mem_erase_of_ne (by omega)).2 (h i (by omega)))
    refine ⟨by omega, fun e => ?_⟩
    obtain ⟨h3, h4⟩ := h2 (by omega)
    have perm := List.perm_cons_erase hm
    have nd : ((n : Int) :: ls.erase (n : Int)).Nodup := by
      rw [List.nodup_cons]
      exact ⟨fun hx => by have := (h4 _ hx).2; omega, h3⟩
    refine ⟨perm.nodup_iff.2 nd, fun x hx => ?_⟩
    rcases List.mem_cons.1 (perm.mem_iff.1 hx) with rfl | hx
    · omega
    · have := h4 x hx
      omega
/-- A list of numbers below n, each once, has at most n, and if it has just n, each is there. -/
theorem all_once : ∀ (n : Nat) (ls : List Int), ls.Nodup → (∀ x ∈ ls, 0 ≤ x ∧ x < n) → ls.length ≤ n ∧ (ls.length = n → ∀ i : Nat, i < n → (i : Int) ∈ ls) := by
  intro n
  induction n with
  | zero =>
    intro ls _ h
    cases ls with
    | nil => exact ⟨Nat.le_refl _, fun _ i hi => absurd hi (by omega)⟩
    | cons x xs => have := h x (by simp); omega
  | succ n ih =>
    intro ls nd h
    by_cases hm : (n : Int) ∈ ls
    · have hl := List.length_erase_of_mem hm
      have hp := List.length_pos_of_mem hm
      have perm := List.perm_cons_erase hm
      have nd2 := List.nodup_cons.1 (perm.nodup_iff.1 nd)
      obtain ⟨h1, h2⟩ := ih (ls.erase (n : Int)) nd2.2 (fun x hx => by
        have a := h x (List.mem_of_mem_erase hx)
        have b : x ≠ (n : Int) := fun e => nd2.1 (e ▸ hx)
        omega)
      refine ⟨by omega, fun e i hi => ?_⟩
      by_cases hi' : i = n
      · subst hi'; exact hm
      · exact List.mem_of_mem_erase (h2 (by omega) i (by omega))
    · obtain ⟨h1, h2⟩ := ih ls nd (fun x hx => by
        have a := h x hx
        have b : x ≠ (n : Int) := fun e => hm (e ▸ hx)
        omega)
      exact ⟨by omega, fun e => by omega⟩
/-- Each number below n is there. -/
def hasAll (ls : List Int) : Nat → Nat → Bool
  | 0, _ => true
  | n + 1, i => ls.contains (i : Int) && hasAll ls n (i + 1)
theorem hasAll_iff (ls : List Int) : ∀ n i : Nat, hasAll ls n i = true ↔ ∀ j : Nat, i ≤ j → j < i + n → (j : Int) ∈ ls := by
  intro n
  induction n with
  | zero => intro i; simp [hasAll]; intro j h1 h2; omega
  | succ n ih =>
    intro i
    simp only [hasAll, Bool.and_eq_true, ih (i + 1), List.contains_iff_mem]
    constructor
    · rintro ⟨h1, h2⟩ j h3 h4
      by_cases e : j = i
      · subst e; exact h1
      · exact h2 j (by omega) (by omega)
    · intro h
      exact ⟨h i (by omega) (by omega), fun j h3 h4 => h j (by omega) (by omega)⟩
/-- The reference's test of a binding. -/
def bindS (b : List Int) : Bool := decide (1 ≤ b.length ∧ b.length ≤ 8) && (b.all (fun x => decide (-(b.length : Int) ≤ x ∧ x ≤ b.length)) && fresh [] b)
/-- The program's. -/
def bindP (b : List Int) : Bool := b.all (fun x => decide (-8 ≤ x ∧ x ≤ 8)) && (decide (1 ≤ b.length ∧ b.length ≤ 8) && hasAll (b.map leaf) b.length 0)
theorem bind_eq (b : List Int) : bindP b = bindS b := by
  rw [Bool.eq_iff_iff]
  unfold bindP bindS
  simp only [Bool.and_eq_true, decide_eq_true_eq, List.all_eq_true, fresh_iff, hasAll_iff]
  constructor
  · rintro ⟨h1, h2, h3⟩
    obtain ⟨_, h4⟩ := has_all b.length (b.map leaf) (fun i hi => h3 i (by omega) (by omega))
    obtain ⟨h5, h6⟩ := h4 (by simp)
    refine ⟨h2, fun x hx => ?_, fun x hx => ?_, h5, fun x hx y hy => by cases hy⟩
    · have := h6 (leaf x) (List.mem_map_of_mem hx)
      unfold leaf at this
      split at this <;> omega
    · have := h6 (leaf x) (List.mem_map_of_mem hx)
      unfold leaf at this
      split at this <;> omega
  · rintro ⟨h1, h2, h3, h4, _⟩
    refine ⟨fun x hx => by have := h2 x hx; omega, h1, ?_⟩
    obtain ⟨_, h5⟩ := all_once b.length (b.map leaf) h4 (fun y hy => by
      obtain ⟨x, hx, rfl⟩ := List.mem_map.1 hy
      have a := h2 x hx
      have c := h3 x hx
      unfold leaf
      split <;> omega)
    exact fun j _ hj => h5 (by simp) j (by omega)
end Go.Proofs.Ytmdpiagpkocheaa.Order
end

/-! Parts of a binding turned, and that turns lead from the right binding to each; plain lists. -/
section
set_option linter.unusedVariables false
namespace Go.Proofs.Ytmdpiagpkocheaa.Far
open Go.Proofs.Ytmdpiagpkocheaa.Order

/-- A part turned. -/
def turn (b : List Int) (f t : Nat) : List Int := b.take f ++ (((b.drop f).take (t + 1 - f)).reverse.map (fun x => -x) ++ b.drop (t + 1))
theorem turn_len {b : List Int} {f t : Nat} (hf : f ≤ t) (ht : t < b.length) : (turn b f t).length = b.length := by
  unfold turn
  simp only [List.length_append, List.length_map, List.length_reverse, List.length_take, List.length_drop]
  omega
theorem turn_at {b : List Int} {f t : Nat} (hf : f ≤ t) (ht : t < b.length) (i : Nat) : (turn b f t).getD i 0 = if f ≤ i ∧ i ≤ t then -(b.getD (f + t - i) 0) else b.getD i 0 := by
  unfold turn
  simp only [List.getD_eq_getElem?_getD]
  by_cases h1 : i < f
  · rw [if_neg (by omega), List.getElem?_append_left (by rw [List.length_take]; omega), List.getElem?_take_of_lt h1]
  · have hl : (b.take f).length = f := by rw [List.length_take]; omega
    rw [List.getElem?_append_right (by omega), hl]
    by_cases h2 : i ≤ t
    · rw [if_pos (by omega), List.getElem?_append_left (by simp; omega), List.getElem?_map, List.getElem?_reverse (by simp; omega), List.length_take, List.length_drop]
      rw [List.getElem?_take_of_lt (by omega), List.getElem?_drop, show f + (min (t + 1 - f) (b.length - f) - 1 - (i - f)) = f + t - i by omega, List.getElem?_eq_getElem (by omega)]
      rfl
    · have hm : (((b.drop f).take (t + 1 - f)).reverse.map (fun x : Int => -x)).length = t + 1 - f := by simp; omega
      rw [if_neg (by omega), List.getElem?_append_right (by omega), hm, List.getElem?_drop, show t + 1 + (i - f - (t + 1 - f)) = i by omega]
theorem ext_at {a b : List Int} (hl : a.length = b.length) (h : ∀ i, i < b.length → a.getD i 0 = b.getD i 0) : a = b := by
  refine List.ext_getElem hl (fun i h1 h2 => ?_)
  have := h i h2
  rwa [Base.getD_at a 0 h1, Base.getD_at b 0 h2] at this
theorem turn_turn {b : List Int} {f t : Nat} (hf : f ≤ t) (ht : t < b.length) : turn (turn b f t) f t = b := by
  have hl := turn_len hf ht
  refine ext_at (by rw [turn_len hf (by omega), hl]) (fun i hi => ?_)
  rw [turn_at hf (by omega)]
  by_cases h : f ≤ i ∧ i ≤ t
  · rw [if_pos h, turn_at hf ht, if_pos (by omega), show f + t - (f + t - i) = i by omega, Int.neg_neg]
  · rw [if_neg h, turn_at hf ht, if_neg h]
/-- A binding of n leaves. -/
def Bd (n : Nat) (b : List Int) : Prop := b.length = n ∧ (∀ x ∈ b, x ≠ 0 ∧ -(n : Int) ≤ x ∧ x ≤ n) ∧ (b.map leaf).Nodup
theorem turn_perm {b : List Int} {f t : Nat} (hf : f ≤ t) : ((turn b f t).map leaf).Perm (b.map leaf) := by
  have e : b = b.take f ++ ((b.drop f).take (t + 1 - f) ++ b.drop (t + 1)) := by
    have : b.drop (t + 1) = (b.drop f).drop (t + 1 - f) := by rw [List.drop_drop]; congr 1; omega
    rw [this, List.take_append_drop, List.take_append_drop]
  conv => rhs; rw [e]
  unfold turn
  simp only [List.map_append, List.map_map]
  refine List.Perm.append_left _ (List.Perm.append_right _ ?_)
  have : (leaf ∘ fun x : Int => -x) = leaf := by
    funext x
    show leaf (-x) = leaf x
    exact (leaf_eq _ _).2 (by omega)
  rw [this]
  exact (List.reverse_perm _).map leaf
theorem turn_mem {b : List Int} {f t : Nat} {x : Int} (h : x ∈ turn b f t) : x ∈ b ∨ -x ∈ b := by
  unfold turn at h
  simp only [List.mem_append, List.mem_map, List.mem_reverse] at h
  rcases h with h | ⟨y, h, rfl⟩ | h
  · exact .inl (List.mem_of_mem_take h)
  · exact .inr (by rw [Int.neg_neg]; exact List.mem_of_mem_drop (List.mem_of_mem_take h))
  · exact .inl (List.mem_of_mem_drop h)
theorem turn_bd {n : Nat} {b : List Int} {f t : Nat} (h : Bd n b) (hf : f ≤ t) (ht : t < n) : Bd n (turn b f t) := by
  obtain ⟨h1, h2, h3⟩ := h
  refine ⟨by rw [turn_len hf (by omega), h1], fun x hx => ?_, (turn_perm hf).nodup_iff.2 h3⟩
  rcases turn_mem hx with hx | hx
  · exact h2 x hx
  · have := h2 _ hx
    omega
theorem bd_iff (b : List Int) : bindS b = true ↔ Bd b.length b ∧ 1 ≤ b.length ∧ b.length ≤ 8 := by
  unfold bindS Bd
  simp only [Bool.and_eq_true, decide_eq_true_eq, List.all_eq_true, fresh_iff]
  constructor
  · rintro ⟨h1, h2, h3, h4, _⟩
    exact ⟨⟨trivial, fun x hx => ⟨h3 x hx, h2 x hx⟩, h4⟩, h1⟩
  · rintro ⟨⟨_, h2, h4⟩, h1⟩
    exact ⟨h1, fun x hx => (h2 x hx).2, fun x hx => (h2 x hx).1, h4, fun x hx y hy => by cases hy⟩
theorem bind_of_bd {n : Nat} {b : List Int} (h : Bd n b) (h1 : 1 ≤ n) (h8 : n ≤ 8) : bindS b = true := by
  have hl := h.1
  subst hl
  exact (bd_iff b).2 ⟨h, h1, h8⟩
/-- The right binding. -/
def right (n : Nat) : List Int := (List.range n).map fun (k : Nat) => (k : Int) + 1
theorem right_len (n : Nat) : (right n).length = n := by simp [right]
theorem right_at (n i : Nat) (h : i < n) : (right n).getD i 0 = (i : Int) + 1 := by
  rw [List.getD_eq_getElem?_getD]
  simp [right, h]
theorem right_bd (n : Nat) : Bd n (right n) := by
  refine ⟨right_len n, fun x hx => ?_, ?_⟩
  · simp only [right, List.mem_map, List.mem_range] at hx
    obtain ⟨k, hk, rfl⟩ := hx
    omega
  · have e : (right n).map leaf = (List.range n).map (fun (k : Nat) => (k : Int)) := by
      unfold right
      rw [List.map_map]
      refine List.map_congr_left (fun k _ => ?_)
      simp only [Function.comp, leaf]
      rw [if_neg (by omega)]
      omega
    rw [e]
    refine List.Pairwise.map _ (fun a b h => ?_) List.nodup_range
    omega
/-- Where a leaf lies. -/
theorem find_leaf {n : Nat} {b : List Int} (h : Bd n b) {m : Nat} (hm : m < n) : ∃ p, p < n ∧ (b.getD p 0 = (m : Int) + 1 ∨ b.getD p 0 = -((m : Int) + 1)) := by
  obtain ⟨h1, h2, h3⟩ := h
  obtain ⟨_, hall⟩ := all_once n (b.map leaf) h3 (fun x hx => by
    obtain ⟨y, hy, rfl⟩ := List.mem_map.1 hx
    have := h2 y hy
    unfold leaf
    split <;> omega)
  have hin := hall (by rw [List.length_map, h1]) m hm
  obtain ⟨y, hy, e⟩ := List.mem_map.1 hin
  obtain ⟨p, hp, rfl⟩ := List.mem_iff_getElem.1 hy
  refine ⟨p, by omega, ?_⟩
  rw [Base.getD_at b 0 hp]
  unfold leaf at e
  split at e <;> omega
/-- What is closed under turns and holds the right one holds each. -/
theorem all_in {n : Nat} (S : List Int → Prop) (h0 : S (right n)) (hc : ∀ b f t, S b → Bd n b → f ≤ t → t < n → S (turn b f t)) : ∀ b, Bd n b → S b := by
  have key : ∀ d m, m + d = n → ∀ b, Bd n b → (∀ i, i < m → b.getD i 0 = (i : Int) + 1) → S b := by
    intro d
    induction d with
    | zero =>
      intro m hm b hb ha
      obtain rfl : m = n := by omega
      have : b = right m := ext_at (by rw [hb.1, right_len]) (fun i hi => by rw [right_len] at hi; rw [ha i hi, right_at m i hi])
      rw [this]
      exact h0
    | succ d ih =>
      intro m hm b hb ha
      have hl := hb.1
      obtain ⟨p, hp, hv⟩ := find_leaf hb (m := m) (by omega)
      have hpm : m ≤ p := by
        rcases Nat.lt_or_ge p m with h | h
        · have := ha p h
          omega
        · exact h
      have b1 := turn_bd hb hpm hp
      have at1 : ∀ i, i < m → (turn b m p).getD i 0 = (i : Int) + 1 := fun i hi => by rw [turn_at hpm (by omega), if_neg (by omega), ha i hi]
      have atm : (turn b m p).getD m 0 = -(b.getD p 0) := by rw [turn_at hpm (by omega), if_pos (by omega), show m + p - m = p by omega]
      have back : S (turn b m p) → S b := fun hs => by
        have := hc _ m p hs b1 hpm hp
        rwa [turn_turn hpm (by omega)] at this
      rcases hv with hv | hv
      · have b2 := turn_bd b1 (Nat.le_refl m) (by omega)
        have hl1 := b1.1
        have hs := ih (m + 1) (by omega) _ b2 (fun i hi => by
          rw [turn_at (Nat.le_refl m) (by omega)]
          by_cases e : i = m
          · subst e
            rw [if_pos (by omega), show i + i - i = i by omega, atm, hv, Int.neg_neg]
          · rw [if_neg (by omega)]
            exact at1 i (by omega))
        have := hc _ m m hs b2 (Nat.le_refl m) (by omega)
        rw [turn_turn (Nat.le_refl m) (by omega)] at this
        exact back this
      · refine back (ih (m + 1) (by omega) _ b1 (fun i hi => ?_))
        by_cases e : i = m
        · subst e
          rw [atm, hv, Int.neg_neg]
        · exact at1 i (by omega)
  exact fun b hb => key n 0 (by omega) b hb (fun i hi => absurd hi (by omega))
end Go.Proofs.Ytmdpiagpkocheaa.Far
end

/-! The rank of a binding: no two of one size have one, and it goes with the order number by number; plain lists. -/
section
set_option linter.unusedVariables false
namespace Go.Proofs.Ytmdpiagpkocheaa.Far
open Go.Proofs.Ytmdpiagpkocheaa.Order

/-- How many of the m numbers from lo on are so. -/
def cnt (p : Int → Bool) (lo : Int) : Nat → Nat
  | 0 => 0
  | m + 1 => cnt p lo m + if p (lo + (m : Int)) = true then 1 else 0
theorem cnt_le (p : Int → Bool) (lo : Int) {a b : Nat} (h : a ≤ b) : cnt p lo a ≤ cnt p lo b := by
  induction b with
  | zero => obtain rfl : a = 0 := by omega
            exact Nat.le_refl _
  | succ b ih =>
    rcases Nat.lt_or_ge b a with h' | h'
    · obtain rfl : a = b + 1 := by omega
      exact Nat.le_refl _
    · exact Nat.le_trans (ih h') (Nat.le_add_right _ _)
theorem cnt_lt (p : Int → Bool) (lo : Int) {a b : Nat} (h : a < b) (hp : p (lo + (a : Int)) = true) : cnt p lo a < cnt p lo b := by
  have := cnt_le p lo (a := a + 1) (b := b) h
  rw [cnt, if_pos hp] at this
  omega
theorem cnt_congr {p q : Int → Bool} (lo : Int) (m : Nat) (h : ∀ x, p x = q x) : cnt p lo m = cnt q lo m := by
  have : p = q := funext h
  rw [this]
/-- One number less. -/
theorem cnt_but (p : Int → Bool) (lo : Int) (c : Nat) (m : Nat) (hp : p (lo + (c : Int)) = true) : cnt (fun x => p x && x != lo + (c : Int)) lo m + (if c < m then 1 else 0) = cnt p lo m := by
  induction m with
  | zero => rfl
  | succ m ih =>
    rw [cnt, cnt]
    show cnt (fun x => p x && x != lo + (c : Int)) lo m + (if (p (lo + (m : Int)) && lo + (m : Int) != lo + (c : Int)) = true then 1 else 0) + _ = _
    by_cases e : m = c
    · subst e
      rw [if_neg (by omega)] at ih
      rw [if_pos hp, if_neg (by simp), if_pos (by omega)]
      omega
    · have hb : (lo + (m : Int) != lo + (c : Int)) = true := bne_iff_ne.2 (by omega)
      rw [hb, Bool.and_true]
      by_cases h2 : c < m
      · rw [if_pos h2] at ih
        rw [if_pos (show c < m + 1 by omega)]
        omega
      · rw [if_neg h2] at ih
        rw [if_neg (show ¬ c < m + 1 by omega)]
        omega
theorem cnt_true (lo : Int) (m : Nat) : cnt (fun _ => true) lo m = m := by
  induction m with
  | zero => rfl
  | succ m ih => rw [cnt, ih, if_pos rfl]
/-- Can a number come next? -/
def free (pre : List Int) (x : Int) : Bool := x != 0 && (!pre.contains x && !pre.contains (-x))
theorem free_iff (pre : List Int) (x : Int) : free pre x = true ↔ x ≠ 0 ∧ x ∉ pre ∧ -x ∉ pre := by
  unfold free
  simp
/-- How many can come next before x. -/
def digit (n : Nat) (pre : List Int) (x : Int) : Nat := cnt (free pre) (-(n : Int)) (x + n).toNat
theorem free_cons (pre : List Int) (a x : Int) : free (a :: pre) x = ((free pre x && x != a) && x != -a) := by
  rw [Bool.eq_iff_iff]
  simp only [Bool.and_eq_true, free_iff, bne_iff_ne, List.mem_cons, not_or]
  constructor
  · rintro ⟨h0, ⟨h1, h2⟩, h3, h4⟩
    exact ⟨⟨⟨h0, h2, h4⟩, h1⟩, fun e => h3 (by omega)⟩
  · rintro ⟨⟨⟨h0, h1, h3⟩, h2⟩, h4⟩
    exact ⟨h0, ⟨h2, h1⟩, fun e => h4 (by omega), h3⟩
/-- All that can come next. -/
theorem free_all {n : Nat} : ∀ (pre : List Int), (∀ x ∈ pre, x ≠ 0 ∧ -(n : Int) ≤ x ∧ x ≤ n) → (pre.map leaf).Nodup → cnt (free pre) (-(n : Int)) (2 * n + 1) + 2 * pre.length = 2 * n := by
  intro pre
  induction pre with
  | nil =>
    intro _ _
    have e : ∀ x, free [] x = ((fun _ : Int => true) x && x != -(n : Int) + ((n : Nat) : Int)) := fun x => by
      unfold free
      rw [show -(n : Int) + (n : Int) = 0 by omega]
      simp
    have := cnt_but (fun _ => true) (-(n : Int)) n (2 * n + 1) rfl
    rw [cnt_congr _ _ e]
    rw [cnt_true, if_pos (by omega)] at this
    simp only [List.length_nil]
    omega
  | cons a pre ih =>
    intro hb hn
    rw [List.map_cons, List.nodup_cons] at hn
    obtain ⟨hn2, hn1⟩ := hn
    have ha := hb a (by simp)
    have hi := ih (fun x hx => hb x (by simp [hx])) hn1
    have hna : ∀ y ∈ pre, y ≠ a ∧ y ≠ -a := fun y hy => by
      have h := mt (leaf_eq y a).2 (fun e => hn2 (e ▸ List.mem_map_of_mem hy))
      exact ⟨fun e => h (.inl e), fun e => h (.inr e)⟩
    have fa : free pre a = true := (free_iff _ _).2 ⟨ha.1, fun h => (hna _ h).1 rfl, fun h => (hna _ h).2 rfl⟩
    have fna : free pre (-a) = true := (free_iff _ _).2 ⟨by omega, fun h => (hna _ h).2 rfl, fun h => (hna _ h).1 (by omega)⟩
    have c1 := cnt_but (free pre) (-(n : Int)) (a + n).toNat (2 * n + 1) (by rw [show -(n : Int) + (((a + n).toNat : Nat) : Int) = a by omega]; exact fa)
    rw [show -(n : Int) + (((a + n).toNat : Nat) : Int) = a by omega, if_pos (by omega)] at c1
    have c2 := cnt_but (fun x => free pre x && x != a) (-(n : Int)) (-a + n).toNat (2 * n + 1) (by
      rw [show -(n : Int) + (((-a + n).toNat : Nat) : Int) = -a by omega, fna]
      simp
      omega)
    rw [show -(n : Int) + (((-a + n).toNat : Nat) : Int) = -a by omega, if_pos (by omega)] at c2
    rw [cnt_congr _ _ (free_cons pre a)]
    simp only [List.length_cons]
    omega
/-- How many bindings of so many leaves there are. -/
def allOf : Nat → Nat
  | 0 => 1
  | m + 1 => allOf m * (2 * (m + 1))
theorem allOf_pos : ∀ m, 1 ≤ allOf m
  | 0 => Nat.le_refl _
  | m + 1 => by rw [allOf]; exact Nat.mul_pos (allOf_pos m) (by omega)
/-- The rank, digit by digit. -/
def rk (n : Nat) : List Int → List Int → Nat → Nat
  | _, [], acc => acc
  | pre, x :: xs, acc => rk n (pre ++ [x]) xs (acc * (2 * (xs.length + 1)) + digit n pre x)
def rank (b : List Int) : Nat := rk b.length [] b 0
theorem rk_acc (n : Nat) : ∀ (rest pre : List Int) (acc : Nat), rk n pre rest acc = acc * allOf rest.length + rk n pre rest 0 := by
  intro rest
  induction rest with
  | nil => intro pre acc; simp [rk, allOf]
  | cons x xs ih =>
    intro pre acc
    rw [rk, ih, rk, ih (pre ++ [x]) (0 * _ + _), List.length_cons, allOf, Nat.zero_mul, Nat.zero_add, Nat.add_mul, Nat.add_assoc, Nat.mul_assoc, Nat.mul_comm (allOf _)]
/-- What may stand: a whole binding, cut in two. -/
def Cut (n : Nat) (pre rest : List Int) : Prop := Bd n (pre ++ rest)
theorem Cut.next {n : Nat} {pre xs : List Int} {x : Int} (h : Cut n pre (x :: xs)) : Cut n (pre ++ [x]) xs := by
  unfold Cut at *
  rw [List.append_assoc]
  exact h
theorem Cut.head {n : Nat} {pre xs : List Int} {x : Int} (h : Cut n pre (x :: xs)) : free pre x = true ∧ -(n : Int) ≤ x ∧ x ≤ n ∧ cnt (free pre) (-(n : Int)) (2 * n + 1) = 2 * (xs.length + 1) := by
  obtain ⟨h1, h2, h3⟩ := h
  rw [List.map_append, List.nodup_append] at h3
  obtain ⟨h4, h5, h6⟩ := h3
  have hx := h2 x (by simp)
  have hna : ∀ y ∈ pre, y ≠ x ∧ y ≠ -x := fun y hy => by
    have := h6 (leaf y) (List.mem_map_of_mem hy) (leaf x) (by simp)
    have h := mt (leaf_eq y x).2 this
    exact ⟨fun e => h (.inl e), fun e => h (.inr e)⟩
  have hc := free_all pre (fun y hy => h2 y (by simp [hy])) h4
  refine ⟨(free_iff _ _).2 ⟨hx.1, fun h => (hna _ h).1 rfl, fun h => (hna _ h).2 rfl⟩, hx.2.1, hx.2.2, ?_⟩
  rw [List.length_append, List.length_cons] at h1
  omega
theorem digit_lt {n : Nat} {pre xs : List Int} {x : Int} (h : Cut n pre (x :: xs)) : digit n pre x < 2 * (xs.length + 1) := by
  obtain ⟨h1, h2, h3, h4⟩ := h.head
  rw [← h4]
  exact cnt_lt _ _ (by omega) (by rw [show -(n : Int) + (((x + n).toNat : Nat) : Int) = x by omega]; exact h1)
theorem rk_lt {n : Nat} : ∀ (rest pre : List Int), Cut n pre rest → rk n pre rest 0 < allOf rest.length := by
  intro rest
  induction rest with
  | nil => intro pre _; exact Nat.zero_lt_one
  | cons x xs ih =>
    intro pre h
    have hd := digit_lt h
    have := ih (pre ++ [x]) h.next
    rw [rk, rk_acc, Nat.zero_mul, Nat.zero_add, List.length_cons, allOf]
    have h2 : (digit n pre x + 1) * allOf xs.length ≤ 2 * (xs.length + 1) * allOf xs.length := Nat.mul_le_mul_right _ hd
    rw [Nat.add_mul, Nat.one_mul] at h2
    rw [Nat.mul_comm (allOf xs.length)]
    omega
theorem rank_lt {n : Nat} {b : List Int} (h : Bd n b) : rank b < allOf n := by
  have := rk_lt b [] (n := n) h
  unfold rank
  rwa [h.1] at this ⊢
/-- Before, number by number. -/
def lexlt : List Int → List Int → Bool
  | [], [] => false
  | [], _ :: _ => true
  | _ :: _, [] => false
  | a :: r, b :: s => decide (a < b) || (a == b && lexlt r s)
theorem digit_mono {n : Nat} {pre xs ys : List Int} {x y : Int} (hx : Cut n pre (x :: xs)) (hy : Cut n pre (y :: ys)) (h : x < y) : digit n pre x < digit n pre y := by
  obtain ⟨h1, h2, h3, h4⟩ := hx.head
  exact cnt_lt _ _ (by omega) (by rw [show -(n : Int) + (((x + n).toNat : Nat) : Int) = x by omega]; exact h1)
theorem rk_lex {n : Nat} : ∀ (rest rest' pre : List Int), Cut n pre rest → Cut n pre rest' → lexlt rest rest' = true → rk n pre rest 0 < rk n pre rest' 0 := by
  intro rest
  induction rest with
  | nil =>
    intro rest' pre h h' hl
    cases rest' with
    | nil => cases hl
    | cons y ys =>
      have := h.1
      have := h'.1
      rw [List.length_append] at *
      simp at *
      omega
  | cons x xs ih =>
    intro rest' pre h h' hl
    cases rest' with
    | nil => cases hl
    | cons y ys =>
      have hlen : xs.length = ys.length := by
        have a := h.1
        have b := h'.1
        simp only [List.length_append, List.length_cons] at a b
        omega
      rw [lexlt, Bool.or_eq_true, decide_eq_true_eq, Bool.and_eq_true, beq_iff_eq] at hl
      rw [rk, rk, rk_acc, rk_acc n ys, Nat.zero_mul, Nat.zero_add, Nat.zero_mul, Nat.zero_add]
      rcases hl with hl | ⟨rfl, hl⟩
      · have h1 := digit_mono h h' hl
        have h2 := rk_lt xs _ h.next
        have h3 : (digit n pre x + 1) * allOf xs.length ≤ digit n pre y * allOf xs.length := Nat.mul_le_mul_right _ h1
        rw [Nat.add_mul, Nat.one_mul] at h3
        rw [← hlen]
        omega
      · have := ih ys _ h.next h'.next hl
        rw [← hlen]
        omega
theorem lex_total : ∀ (a b : List Int), a.length = b.length → lexlt a b = true ∨ a = b ∨ lexlt b a = true := by
  intro a
  induction a with
  | nil => intro b h; cases b with
    | nil => exact .inr (.inl rfl)
    | cons _ _ => cases h
  | cons x xs ih =>
    intro b h
    cases b with
    | nil => cases h
    | cons y ys =>
      simp only [lexlt, Bool.or_eq_true, decide_eq_true_eq, Bool.and_eq_true, beq_iff_eq]
      rcases Int.lt_trichotomy x y with h1 | rfl | h1
      · exact .inl (.inl h1)
      · rcases ih ys (by simpa using h) with h2 | rfl | h2
        · exact .inl (.inr ⟨rfl, h2⟩)
        · exact .inr (.inl rfl)
        · exact .inr (.inr (.inr ⟨rfl, h2⟩))
      · exact .inr (.inr (.inl h1))
theorem rank_lex {n : Nat} {b c : List Int} (hb : Bd n b) (hc : Bd n c) (h : lexlt b c = true) : rank b < rank c := by
  have := rk_lex b c [] (n := n) hb hc h
  unfold rank
  rwa [hb.1, hc.1]
theorem rank_inj {n : Nat} {b c : List Int} (hb : Bd n b) (hc : Bd n c) (h : rank b = rank c) : b = c := by
  rcases lex_total b c (by rw [hb.1, hc.1]) with h1 | h1 | h1
  · have := rank_lex hb hc h1
    omega
  · exact h1
  · have := rank_lex hc hb h1
    omega
end Go.Proofs.Ytmdpiagpkocheaa.Far
end

/-! The least number of turns, by a search in breadth: that it ends, what it finds, and the same as a row by ranks; plain lists. -/
section
set_option linter.unusedVariables false
namespace Go.Proofs.Ytmdpiagpkocheaa.Far
open Go.Proofs.Ytmdpiagpkocheaa.Order

/-- The parts, in order. -/
def pairs (n : Nat) : List (Nat × Nat) := (List.range n).flatMap fun f => (List.range' f (n - f)).map fun t => (f, t)
theorem mem_pairs {n : Nat} {p : Nat × Nat} : p ∈ pairs n ↔ p.1 ≤ p.2 ∧ p.2 < n := by
  unfold pairs
  simp only [List.mem_flatMap, List.mem_range, List.mem_map, List.mem_range'_1]
  constructor
  · rintro ⟨f, h1, t, h2, rfl⟩
    exact ⟨h2.1, by show t < n; omega⟩
  · intro ⟨h1, h2⟩
    exact ⟨p.1, by omega, p.2, ⟨h1, by omega⟩, rfl⟩
abbrev Out := List (List Int × Int)
theorem lookup_in {o : Out} (nd : (o.map (·.1)).Nodup) {e : List Int × Int} (h : e ∈ o) : o.lookup e.1 = some e.2 := by
  induction o with
  | nil => cases h
  | cons a o ih =>
    rw [List.map_cons, List.nodup_cons] at nd
    rw [List.lookup_cons]
    rcases List.mem_cons.1 h with rfl | h
    · rw [beq_self_eq_true]
    · have : (e.1 == a.1) = false := beq_eq_false_iff_ne.2 (fun e1 => nd.1 (e1 ▸ List.mem_map_of_mem h))
      rw [this]
      exact ih nd.2 h
theorem lookup_mem {o : Out} {b : List Int} {v : Int} (h : o.lookup b = some v) : (b, v) ∈ o := by
  induction o with
  | nil => cases h
  | cons a o ih =>
    rw [List.lookup_cons] at h
    cases e : b == a.1 with
    | true =>
      rw [e] at h
      obtain rfl := Option.some.inj h
      rw [beq_iff_eq] at e
      rw [e]
      exact List.mem_cons_self
    | false =>
      rw [e] at h
      exact List.mem_cons_of_mem _ (ih h)
theorem lookup_none {o : Out} {b : List Int} (h : o.lookup b = none) : ∀ e ∈ o, e.1 ≠ b := by
  intro e he heq
  induction o with
  | nil => cases he
  | cons a o ih =>
    rw [List.lookup_cons] at h
    cases e' : b == a.1 with
    | true => rw [e'] at h; cases h
    | false =>
      rw [e'] at h
      rcases List.mem_cons.1 he with rfl | he
      · rw [heq, beq_self_eq_true] at e'
        cases e'
      · exact ih h he
theorem lookup_snoc (o : Out) (b c : List Int) (v : Int) : (o ++ [(c, v)]).lookup b = (o.lookup b).or (if b == c then some v else none) := by
  rw [List.lookup_append]
  congr 1
  rw [List.lookup_cons]
  cases b == c <;> rfl
/-- A turn of one that is known: put behind, if it is new. -/
def put (q : List Int) (d : Int) (o : Out) (p : Nat × Nat) : Out := if (o.lookup (turn q p.1 p.2)).isSome = true then o else o ++ [(turn q p.1 p.2, d + 1)]
def expand (n : Nat) (e : List Int × Int) (o : Out) : Out := (pairs n).foldl (put e.1 e.2) o
def bfs (n : Nat) : Nat → Nat → Out → Option Out
  | 0, _, _ => none
  | k + 1, i, o => match o[i]? with
    | none => some o
    | some e => bfs n k (i + 1) (expand n e o)
/-- What holds while the i-th is being turned, dn of its turns being done. -/
structure G (n : Nat) (o : Out) (i : Nat) (dn : List (Nat × Nat)) : Prop where
  nd : (o.map (·.1)).Nodup
  bd : ∀ e ∈ o, Bd n e.1
  ne : o[0]? = some (right n, 0)
  srt : o.Pairwise (fun a b => a.2 ≤ b.2)
  nn : ∀ e ∈ o, 0 ≤ e.2
  cl : ∀ j e, j < i → o[j]? = some e → ∀ p : Nat × Nat, p.1 ≤ p.2 → p.2 < n → ∃ v, o.lookup (turn e.1 p.1 p.2) = some v ∧ v ≤ e.2 + 1
  cur : ∀ e, o[i]? = some e → (∀ x ∈ o, x.2 ≤ e.2 + 1) ∧ ∀ p ∈ dn, ∃ v, o.lookup (turn e.1 p.1 p.2) = some v ∧ v ≤ e.2 + 1
  par : ∀ e ∈ o, (e.1 = right n ∧ e.2 = 0) ∨ (0 < e.2 ∧ ∃ p : Nat × Nat, p.1 ≤ p.2 ∧ p.2 < n ∧ o.lookup (turn e.1 p.1 p.2) = some (e.2 - 1))
theorem G.start (n : Nat) : G n [(right n, 0)] 0 [] where
  nd := by simp
  bd := fun e he => by rw [List.mem_singleton.1 he]; exact right_bd n
  ne := rfl
  srt := List.pairwise_singleton _ _
  nn := fun e he => by rw [List.mem_singleton.1 he]; exact Int.le_refl _
  cl := fun j e h => absurd h (Nat.not_lt_zero _)
  cur := fun e he => by
    obtain rfl := Option.some.inj he
    exact ⟨fun x hx => by rw [List.mem_singleton.1 hx]; show (0 : Int) ≤ 0 + 1; decide, fun p hp => by cases hp⟩
  par := fun e he => by rw [List.mem_singleton.1 he]; exact .inl ⟨rfl, rfl⟩
theorem lookup_keep {o : Out} {b c : List Int} {v u : Int} (h : o.lookup b = some v) : (o ++ [(c, u)]).lookup b = some v := by
  rw [lookup_snoc, h]
  rfl
theorem G.put {n : Nat} {o : Out} {i : Nat} {dn : List (Nat × Nat)} {e : List Int × Int} {p : Nat × Nat} (g : G n o i dn) (he : o[i]? = some e) (h1 : p.1 ≤ p.2) (h2 : p.2 < n) :
    G n (put e.1 e.2 o p) i (dn ++ [p]) := by
  have hm : e ∈ o := List.mem_of_getElem? he
  obtain ⟨c1, c2⟩ := g.cur e he
  unfold Far.put
  cases hl : o.lookup (turn e.1 p.1 p.2) with
  | some v =>
    rw [if_pos (show (some v).isSome = true from rfl)]
    refine { g with cur := fun e' he' => ?_ }
    obtain rfl := Option.some.inj (he.symm.trans he')
    refine ⟨c1, fun q hq => ?_⟩
    rcases List.mem_append.1 hq with hq | hq
    · exact c2 q hq
    · rw [List.mem_singleton.1 hq]
      exact ⟨v, hl, c1 _ (lookup_mem hl)⟩
  | none =>
    rw [if_neg (by simp)]
    have hlt : i < o.length := by
      rcases Nat.lt_or_ge i o.length with h | h
      · exact h
      · rw [List.getElem?_eq_none h] at he; cases he
    have hb := g.bd e hm
    have hd := g.nn e hm
    have hnew : (o ++ [(turn e.1 p.1 p.2, e.2 + 1)]).lookup (turn e.1 p.1 p.2) = some (e.2 + 1) := by
      rw [lookup_snoc, hl, beq_self_eq_true]
      rfl
    have hat : ∀ j, j ≤ i → (o ++ [(turn e.1 p.1 p.2, e.2 + 1)])[j]? = o[j]? := fun j hj => List.getElem?_append_left (by omega)
    refine ⟨?_, ?_, ?_, ?_, ?_, ?_, ?_, ?_⟩
    · rw [List.map_append, List.nodup_append]
      refine ⟨g.nd, by simp, fun a ha b hb e' => ?_⟩
      obtain ⟨x, hx, rfl⟩ := List.mem_map.1 ha
      rw [List.map_singleton, List.mem_singleton] at hb
      exact lookup_none hl x hx (e'.trans hb)
    · intro x hx
      rcases List.mem_append.1 hx with hx | hx
      · exact g.bd x hx
      · rw [List.mem_singleton.1 hx]
        exact turn_bd hb h1 h2
    · rw [hat 0 (Nat.zero_le _)]
      exact g.ne
    · rw [List.pairwise_append]
      refine ⟨g.srt, List.pairwise_singleton _ _, fun a ha b hb => ?_⟩
      rw [List.mem_singleton.1 hb]
      exact c1 a ha
    · intro x hx
      rcases List.mem_append.1 hx with hx | hx
      · exact g.nn x hx
      · rw [List.mem_singleton.1 hx]
        show 0 ≤ e.2 + 1
        omega
    · intro j x hj hx q hq1 hq2
      rw [hat j (by omega)] at hx
      obtain ⟨v, hv, hle⟩ := g.cl j x hj hx q hq1 hq2
      exact ⟨v, lookup_keep hv, hle⟩
    · intro e' he'
      rw [hat i (Nat.le_refl _)] at he'
      obtain rfl := Option.some.inj (he.symm.trans he')
      refine ⟨fun x hx => ?_, fun q hq => ?_⟩
      · rcases List.mem_append.1 hx with hx | hx
        · exact c1 x hx
        · rw [List.mem_singleton.1 hx]
          exact Int.le_refl _
      · rcases List.mem_append.1 hq with hq | hq
        · obtain ⟨v, hv, hle⟩ := c2 q hq
          exact ⟨v, lookup_keep hv, hle⟩
        · rw [List.mem_singleton.1 hq]
          exact ⟨_, hnew, Int.le_refl _⟩
    · intro x hx
      rcases List.mem_append.1 hx with hx | hx
      · rcases g.par x hx with h | ⟨h, q, hq1, hq2, hq3⟩
        · exact .inl h
        · exact .inr ⟨h, q, hq1, hq2, lookup_keep hq3⟩
      · rw [List.mem_singleton.1 hx]
        refine .inr ⟨by show 0 < e.2 + 1; omega, p, h1, h2, ?_⟩
        show (o ++ _).lookup (turn (turn e.1 p.1 p.2) p.1 p.2) = some (e.2 + 1 - 1)
        rw [turn_turn h1 (by rw [hb.1]; exact h2), Int.add_sub_cancel]
        exact lookup_keep (lookup_in g.nd hm)
theorem put_more (q : List Int) (d : Int) (o : Out) (p : Nat × Nat) : ∃ s, put q d o p = o ++ s := by
  unfold put
  split
  · exact ⟨[], (List.append_nil _).symm⟩
  · exact ⟨_, rfl⟩
theorem G.puts {n : Nat} {i : Nat} {e : List Int × Int} : ∀ (ps : List (Nat × Nat)) (o : Out) (dn : List (Nat × Nat)), (∀ p ∈ ps, p.1 ≤ p.2 ∧ p.2 < n) → G n o i dn → o[i]? = some e → G n (ps.foldl (Far.put e.1 e.2) o) i (dn ++ ps) ∧ ∃ s, ps.foldl (Far.put e.1 e.2) o = o ++ s := by
  intro ps
  induction ps with
  | nil => intro o dn _ g he; exact ⟨by rw [List.append_nil]; exact g, [], (List.append_nil _).symm⟩
  | cons p ps ih =>
    intro o dn hp g he
    have h := hp p (by simp)
    obtain ⟨s, hs⟩ := put_more e.1 e.2 o p
    have he' : (Far.put e.1 e.2 o p)[i]? = some e := by
      rw [hs, List.getElem?_append_left]
      · exact he
      · rcases Nat.lt_or_ge i o.length with h | h
        · exact h
        · rw [List.getElem?_eq_none h] at he; cases he
    obtain ⟨g', s', hs'⟩ := ih (Far.put e.1 e.2 o p) (dn ++ [p]) (fun q hq => hp q (by simp [hq])) (g.put he h.1 h.2) he'
    refine ⟨by rw [List.append_assoc] at g'; exact g', s ++ s', ?_⟩
    rw [List.foldl_cons, hs', hs, List.append_assoc]
theorem G.expand {n : Nat} {i : Nat} {e : List Int × Int} {o : Out} (g : G n o i []) (he : o[i]? = some e) : G n (expand n e o) (i + 1) [] ∧ ∃ s, expand n e o = o ++ s := by
  obtain ⟨g', s, hs⟩ := G.puts (pairs n) o [] (fun p hp => mem_pairs.1 hp) g he
  refine ⟨?_, s, hs⟩
  have hlt : i < o.length := by
    rcases Nat.lt_or_ge i o.length with h | h
    · exact h
    · rw [List.getElem?_eq_none h] at he; cases he
  have he' : (Far.expand n e o)[i]? = some e := by
    show ((pairs n).foldl _ _)[i]? = _
    rw [hs, List.getElem?_append_left hlt]
    exact he
  obtain ⟨c1, c2⟩ := g'.cur e he'
  refine { g' with cl := fun j x hj hx p h1 h2 => ?_, cur := fun x hx => ⟨fun y hy => ?_, fun p hp => by cases hp⟩ }
  · rcases Nat.lt_or_ge j i with h | h
    · exact g'.cl j x h hx p h1 h2
    · obtain rfl : j = i := by omega
      obtain rfl := Option.some.inj (he'.symm.trans hx)
      exact c2 p (by rw [List.nil_append]; exact mem_pairs.2 ⟨h1, h2⟩)
  · have a := c1 y hy
    have hl2 : i + 1 < (Far.expand n e o).length := by
      rcases Nat.lt_or_ge (i + 1) (Far.expand n e o).length with h | h
      · exact h
      · rw [List.getElem?_eq_none h] at hx; cases hx
    have b : e.2 ≤ x.2 := by
      have := List.pairwise_iff_getElem.1 g'.srt i (i + 1) (Nat.lt_of_succ_lt hl2) hl2 (by omega)
      have e1 := List.getElem?_eq_getElem (Nat.lt_of_succ_lt hl2)
      have e2 := List.getElem?_eq_getElem hl2
      rw [← Option.some.inj (e1.symm.trans he'), ← Option.some.inj (e2.symm.trans hx)]
      exact this
    omega
theorem G.few {n : Nat} {i : Nat} {o : Out} {dn : List (Nat × Nat)} (g : G n o i dn) : o.length ≤ allOf n := by
  have := all_once (allOf n) (o.map fun e => ((rank e.1 : Nat) : Int)) ?_ ?_
  · rw [List.length_map] at this
    exact this.1
  · have nd := g.nd
    have bd := g.bd
    clear g
    induction o with
    | nil => exact List.nodup_nil
    | cons a o ih =>
      rw [List.map_cons, List.nodup_cons] at nd ⊢
      refine ⟨fun h => ?_, ih nd.2 (fun e he => bd e (by simp [he]))⟩
      obtain ⟨x, hx, e⟩ := List.mem_map.1 h
      have := rank_inj (bd x (by simp [hx])) (bd a (by simp)) (by omega)
      exact nd.1 (this ▸ List.mem_map_of_mem hx)
  · intro x hx
    obtain ⟨e, he, rfl⟩ := List.mem_map.1 hx
    have := rank_lt (g.bd e he)
    omega
/-- The whole: each binding with its least number of turns. -/
structure Done (n : Nat) (o : Out) : Prop where
  nd : (o.map (·.1)).Nodup
  bd : ∀ e ∈ o, Bd n e.1
  nn : ∀ e ∈ o, 0 ≤ e.2
  all : ∀ b, Bd n b → ∃ v, o.lookup b = some v ∧ 0 ≤ v
  near : ∀ b v f t u, o.lookup b = some v → f ≤ t → t < n → o.lookup (turn b f t) = some u → u ≤ v + 1
  par : ∀ b v, o.lookup b = some v → (b = right n ∧ v = 0) ∨ (0 < v ∧ ∃ f t, f ≤ t ∧ t < n ∧ o.lookup (turn b f t) = some (v - 1))
  zero : o.lookup (right n) = some 0
theorem G.done {n : Nat} {o : Out} (g : G n o o.length []) : Done n o := by
  have hz : o.lookup (right n) = some 0 := lookup_in g.nd (List.mem_of_getElem? g.ne)
  have cl : ∀ b v f t, o.lookup b = some v → f ≤ t → t < n → ∃ u, o.lookup (turn b f t) = some u ∧ u ≤ v + 1 := by
    intro b v f t hb hf ht
    obtain ⟨j, hj, e⟩ := List.mem_iff_getElem.1 (lookup_mem hb)
    obtain ⟨u, hu, hle⟩ := g.cl j (b, v) hj (by rw [List.getElem?_eq_getElem hj, e]) (f, t) hf ht
    exact ⟨u, hu, hle⟩
  refine ⟨g.nd, g.bd, g.nn, ?_, ?_, ?_, hz⟩
  · intro b hb
    have := all_in (n := n) (fun b => ∃ v, o.lookup b = some v ∧ 0 ≤ v) ⟨0, hz, Int.le_refl _⟩ (fun b f t ⟨v, hv, _⟩ _ hf ht => by
      obtain ⟨u, hu, _⟩ := cl b v f t hv hf ht
      exact ⟨u, hu, g.nn _ (lookup_mem hu)⟩) b hb
    exact this
  · intro b v f t u hb hf ht hu
    obtain ⟨u', hu', hle⟩ := cl b v f t hb hf ht
    obtain rfl := Option.some.inj (hu.symm.trans hu')
    exact hle
  · intro b v hb
    rcases g.par _ (lookup_mem hb) with h | ⟨h, p, h1, h2, h3⟩
    · exact .inl h
    · exact .inr ⟨h, p.1, p.2, h1, h2, h3⟩
/-- The search ends. -/
theorem bfs_ends {n : Nat} : ∀ (d i : Nat) (o : Out), G n o i [] → i ≤ o.length → allOf n + 1 - i ≤ d → ∃ o', Done n o' ∧ o'.length ≤ allOf n ∧ ∀ k, d ≤ k → bfs n k i o = some o' := by
  intro d
  induction d with
  | zero =>
    intro i o g hi hd
    have := g.few
    omega
  | succ d ih =>
    intro i o g hi hd
    cases he : o[i]? with
    | none =>
      have hl : i = o.length := by
        have := List.getElem?_eq_none_iff.1 he
        omega
      subst hl
      refine ⟨o, g.done, g.few, fun k hk => ?_⟩
      obtain ⟨k, rfl⟩ : ∃ m, k = m + 1 := ⟨k - 1, by omega⟩
      rw [bfs, he]
    | some e =>
      obtain ⟨g', s, hs⟩ := g.expand he
      have hlt : i < o.length := by
        rcases Nat.lt_or_ge i o.length with h | h
        · exact h
        · rw [List.getElem?_eq_none h] at he; cases he
      obtain ⟨o', h1, h2, h3⟩ := ih (i + 1) (expand n e o) g' (by rw [hs, List.length_append]; omega) (by omega)
      refine ⟨o', h1, h2, fun k hk => ?_⟩
      obtain ⟨k, rfl⟩ : ∃ m, k = m + 1 := ⟨k - 1, by omega⟩
      rw [bfs, he]
      exact h3 k (by omega)
/-- The row by ranks. -/
def arrOf (N : Nat) (o : Out) : List Int := o.foldl (fun a e => a.set (rank e.1) e.2) (List.replicate N (-1))
theorem arrOf_snoc (N : Nat) (o : Out) (e : List Int × Int) : arrOf N (o ++ [e]) = (arrOf N o).set (rank e.1) e.2 := by
  unfold arrOf
  rw [List.foldl_append]
  rfl
theorem arr_len (N : Nat) (o : Out) : (arrOf N o).length = N := by
  unfold arrOf
  have : ∀ (o : Out) (a : List Int), (o.foldl (fun a e => a.set (rank e.1) e.2) a).length = a.length := by
    intro o
    induction o with
    | nil => intro a; rfl
    | cons e o ih => intro a; rw [List.foldl_cons, ih, List.length_set]
  rw [this, List.length_replicate]
theorem snoc_ind {α : Type} {P : List α → Prop} (h0 : P []) (h1 : ∀ l a, P l → P (l ++ [a])) : ∀ l, P l := by
  intro l
  have : ∀ l : List α, P l.reverse := by
    intro l
    induction l with
    | nil => exact h0
    | cons a l ih => rw [List.reverse_cons]; exact h1 _ _ ih
  have := this l.reverse
  rwa [List.reverse_reverse] at this
theorem arr_at {n : Nat} {b : List Int} (hb : Bd n b) : ∀ (o : Out), (∀ e ∈ o, Bd n e.1) → (o.map (·.1)).Nodup → (arrOf (allOf n) o).getD (rank b) 0 = (o.lookup b).getD (-1) := by
  refine snoc_ind ?_ ?_
  · intro _ _
    have := rank_lt hb
    unfold arrOf
    rw [List.foldl_nil, List.getD_eq_getElem?_getD, List.getElem?_replicate, if_pos this]
    rfl
  · intro o e ih hbd nd
    rw [List.map_append, List.nodup_append] at nd
    have ih := ih (fun x hx => hbd x (by simp [hx])) nd.1
    have he := hbd e (by simp)
    rw [arrOf_snoc, show e = (e.1, e.2) from rfl, lookup_snoc]
    by_cases h : b = e.1
    · have hn : o.lookup b = none := by
        cases hl : o.lookup b with
        | none => rfl
        | some v => exact absurd rfl (nd.2.2 b (by have := List.mem_map_of_mem (f := fun x : List Int × Int => x.1) (lookup_mem hl); exact this) b (by simp [h]))
      rw [hn, h, beq_self_eq_true, List.getD_eq_getElem?_getD, List.getElem?_set_self (by rw [arr_len]; exact rank_lt he)]
      rfl
    · have : (b == e.1) = false := beq_eq_false_iff_ne.2 h
      rw [this, List.getD_eq_getElem?_getD, List.getElem?_set_ne (fun e' => h (rank_inj hb he e'.symm)), ← List.getD_eq_getElem?_getD, ih]
      cases o.lookup b <;> rfl
theorem arr_count {n : Nat} (v : Int) (hv : 0 ≤ v) : ∀ (o : Out), (∀ e ∈ o, Bd n e.1) → (o.map (·.1)).Nodup → (arrOf (allOf n) o).countP (· == v) = o.countP (fun e => e.2 == v) := by
  refine snoc_ind ?_ ?_
  · intro _ _
    unfold arrOf
    rw [List.foldl_nil, List.countP_nil, List.countP_eq_zero]
    intro a ha
    rw [List.mem_replicate] at ha
    rw [ha.2]
    simp
    omega
  · intro o e ih hbd nd
    rw [List.map_append, List.nodup_append] at nd
    have hb := (fun x hx => hbd x (List.mem_append_left _ hx) : ∀ x ∈ o, Bd n x.1)
    have ih := ih hb nd.1
    have he := hbd e (by simp)
    have ha := arr_at he o hb nd.1
    have hl : o.lookup e.1 = none := by
      cases hl : o.lookup e.1 with
      | none => rfl
      | some v => exact absurd rfl (nd.2.2 e.1 (by have := List.mem_map_of_mem (f := fun x : List Int × Int => x.1) (lookup_mem hl); exact this) e.1 (by simp))
    have hr : rank e.1 < (arrOf (allOf n) o).length := by rw [arr_len]; exact rank_lt he
    rw [hl] at ha
    rw [Base.getD_at _ 0 hr] at ha
    rw [arrOf_snoc, List.countP_set hr, ha, ih, List.countP_append, List.countP_singleton]
    have : ((Option.getD none (-1) : Int) == v) = false := beq_eq_false_iff_ne.2 (by show (-1 : Int) ≠ v; omega)
    rw [this]
    simp
end Go.Proofs.Ytmdpiagpkocheaa.Far
end

/-! The search in breadth as a whole, and its turns one by one; plain lists. -/
section
set_option linter.unusedVariables false
namespace Go.Proofs.Ytmdpiagpkocheaa.Far
open Go.Proofs.Ytmdpiagpkocheaa.Order

/-- Each binding with its least number of turns. -/
def distO (n : Nat) : Out := (bfs n (allOf n + 2) 0 [(right n, 0)]).getD []
theorem dist_all (n : Nat) : Done n (distO n) ∧ (distO n).length ≤ allOf n ∧ bfs n (allOf n + 2) 0 [(right n, 0)] = some (distO n) := by
  obtain ⟨o, h1, h2, h3⟩ := bfs_ends (allOf n + 1) 0 _ (G.start n) (Nat.zero_le _) (by omega)
  have h4 := h3 (allOf n + 2) (by omega)
  have : distO n = o := by
    unfold distO
    rw [h4]
    rfl
  rw [this]
  exact ⟨h1, h2, h4⟩
/-- The parts from a first place on. -/
def rowsFrom (n f : Nat) : List (Nat × Nat) := (List.range' f (n - f)).flatMap fun f => (List.range' f (n - f)).map fun t => (f, t)
/-- The parts from a first and a last place on. -/
def restOf (n f t : Nat) : List (Nat × Nat) := (List.range' t (n - t)).map (fun t => (f, t)) ++ rowsFrom n (f + 1)
theorem pairs_rows (n : Nat) : pairs n = rowsFrom n 0 := by
  unfold pairs rowsFrom
  rw [List.range_eq_range']
  rfl
theorem rows_end (n : Nat) : rowsFrom n n = [] := by simp [rowsFrom]
theorem rows_rest {n f : Nat} (h : f < n) : rowsFrom n f = restOf n f f := by
  unfold restOf
  have : n - f = (n - (f + 1)) + 1 := by omega
  conv => lhs; unfold rowsFrom; rw [this, List.range'_succ, List.flatMap_cons]
  rfl
theorem rest_end (n f : Nat) : restOf n f n = rowsFrom n (f + 1) := by simp [restOf]
theorem rest_cons {n f t : Nat} (h : t < n) : restOf n f t = (f, t) :: restOf n f (t + 1) := by
  unfold restOf
  have : n - t = (n - (t + 1)) + 1 := by omega
  rw [this, List.range'_succ, List.map_cons, List.cons_append]
/-- What a turn puts behind. -/
def news (q : List Int) (o : Out) (p : Nat × Nat) : List (List Int) := if (o.lookup (turn q p.1 p.2)).isSome = true then [] else [turn q p.1 p.2]
theorem put_news (q : List Int) (d : Int) (o : Out) (p : Nat × Nat) : put q d o p = o ++ (news q o p).map (fun b => (b, d + 1)) := by
  unfold put news
  split
  · rw [List.map_nil, List.append_nil]
  · rfl
/-- All that the turns of one put behind. -/
def newsAll (q : List Int) (d : Int) : List (Nat × Nat) → Out → List (List Int)
  | [], _ => []
  | p :: ps, o => news q o p ++ newsAll q d ps (put q d o p)
theorem puts_news (q : List Int) (d : Int) : ∀ (ps : List (Nat × Nat)) (o : Out), ps.foldl (put q d) o = o ++ (newsAll q d ps o).map (fun b => (b, d + 1)) := by
  intro ps
  induction ps with
  | nil => intro o; simp [newsAll]
  | cons p ps ih =>
    intro o
    rw [List.foldl_cons, ih, put_news, newsAll, List.map_append, List.append_assoc, ← put_news]
/-- Some of the turns of one are done, rest is left. -/
def St (n : Nat) (o : Out) (q : List Int) (d : Int) (rest : List (Nat × Nat)) (o2 : Out) : Prop := ∃ ps, ps ++ rest = pairs n ∧ o2 = ps.foldl (put q d) o
theorem St.start (n : Nat) (o : Out) (q : List Int) (d : Int) : St n o q d (rowsFrom n 0) o := ⟨[], (pairs_rows n).symm, rfl⟩
theorem St.good {n i : Nat} {o o2 : Out} {q : List Int} {d : Int} {rest : List (Nat × Nat)} (h : St n o q d rest o2) (g : G n o i []) (he : o[i]? = some (q, d)) : (∃ dn, G n o2 i dn) ∧ o2[i]? = some (q, d) := by
  obtain ⟨ps, hp, rfl⟩ := h
  obtain ⟨g', s, hs⟩ := G.puts ps o [] (fun p hp' => mem_pairs.1 (by rw [← hp]; exact List.mem_append_left _ hp')) g he
  refine ⟨⟨_, g'⟩, ?_⟩
  show (ps.foldl (put q d) o)[i]? = _
  rw [hs, List.getElem?_append_left (List.getElem?_eq_some_iff.1 he).1]
  exact he
theorem St.step {n : Nat} {o o2 : Out} {q : List Int} {d : Int} {p : Nat × Nat} {rest : List (Nat × Nat)} (h : St n o q d (p :: rest) o2) : St n o q d rest (put q d o2 p) := by
  obtain ⟨ps, hp, rfl⟩ := h
  refine ⟨ps ++ [p], by rw [List.append_assoc]; exact hp, ?_⟩
  rw [List.foldl_append]
  rfl
theorem St.done {n : Nat} {o o2 : Out} {q : List Int} {d : Int} (h : St n o q d [] o2) : o2 = expand n (q, d) o := by
  obtain ⟨ps, hp, rfl⟩ := h
  rw [List.append_nil] at hp
  rw [hp]
  rfl
/-- The numbers rise by one at most, place by place. -/
def Bnd (o : Out) : Prop := ∀ (j : Nat) (e : List Int × Int), o[j]? = some e → e.2 ≤ (j : Int)
theorem Bnd.put {o : Out} {i : Nat} {e : List Int × Int} (h : Bnd o) (he : o[i]? = some e) (p : Nat × Nat) : Bnd (put e.1 e.2 o p) := by
  unfold Far.put
  split
  · exact h
  · intro j x hx
    have hi := h i e he
    have hil := (List.getElem?_eq_some_iff.1 he).1
    rcases Nat.lt_or_ge j o.length with hj | hj
    · rw [List.getElem?_append_left hj] at hx
      exact h j x hx
    · rw [List.getElem?_append_right hj] at hx
      have hz := (List.getElem?_eq_some_iff.1 hx).1
      rw [List.length_singleton] at hz
      obtain hz : j - o.length = 0 := by omega
      rw [hz] at hx
      obtain rfl := Option.some.inj hx
      show e.2 + 1 ≤ (j : Int)
      omega
theorem St.bnd {n i : Nat} {o o2 : Out} {q : List Int} {d : Int} {rest : List (Nat × Nat)} (h : St n o q d rest o2) (hb : Bnd o) (he : o[i]? = some (q, d)) : Bnd o2 := by
  obtain ⟨ps, hps, rfl⟩ := h
  clear hps
  induction ps generalizing o with
  | nil => exact hb
  | cons p ps ih =>
    have he' : (put q d o p)[i]? = some (q, d) := by
      obtain ⟨s, hs⟩ := put_more q d o p
      rw [hs, List.getElem?_append_left (List.getElem?_eq_some_iff.1 he).1]
      exact he
    exact ih (Bnd.put hb he p) he'
theorem Bnd.start (n : Nat) : Bnd [(right n, 0)] := by
  intro j e h
  have hz := (List.getElem?_eq_some_iff.1 h).1
  rw [List.length_singleton] at hz
  obtain rfl : j = 0 := by omega
  obtain rfl := Option.some.inj h
  exact Int.le_refl _
end Go.Proofs.Ytmdpiagpkocheaa.Far
end

/-! First turns, and the farthest binding; plain lists. -/
section
set_option linter.unusedVariables false
namespace Go.Proofs.Ytmdpiagpkocheaa.Far
open Go.Proofs.Ytmdpiagpkocheaa.Order

theorem expand_bnd {n i : Nat} {e : List Int × Int} {o : Out} (h : Bnd o) (he : o[i]? = some e) : Bnd (expand n e o) := by
  unfold expand
  have : ∀ (ps : List (Nat × Nat)) (o : Out), Bnd o → o[i]? = some e → Bnd (ps.foldl (put e.1 e.2) o) := by
    intro ps
    induction ps with
    | nil => intro o h _; exact h
    | cons p ps ih =>
      intro o h he
      refine ih _ (Bnd.put h he p) ?_
      obtain ⟨s, hs⟩ := put_more e.1 e.2 o p
      rw [hs, List.getElem?_append_left (List.getElem?_eq_some_iff.1 he).1]
      exact he
  exact this _ o h he
theorem bfs_bnd {n : Nat} : ∀ (k i : Nat) (o o' : Out), Bnd o → bfs n k i o = some o' → Bnd o' := by
  intro k
  induction k with
  | zero => intro i o o' _ h; cases h
  | succ k ih =>
    intro i o o' hb h
    rw [bfs] at h
    split at h
    · obtain rfl := Option.some.inj h
      exact hb
    · rename_i e he
      exact ih _ _ _ (expand_bnd hb he) h
/-- How far it is at most. -/
theorem dist_le {n : Nat} {b : List Int} {v : Int} (h : (distO n).lookup b = some v) : v ≤ (allOf n : Int) := by
  have hb := bfs_bnd _ _ _ _ (Bnd.start n) (dist_all n).2.2
  obtain ⟨j, hj, e⟩ := List.mem_iff_getElem.1 (lookup_mem h)
  have := hb j (b, v) (by rw [List.getElem?_eq_getElem hj, e])
  have := (dist_all n).2.1
  simp only at *
  omega
/-- A turn comes nearer just if it comes nearer by one. -/
theorem Done.lt_iff {n : Nat} {o : Out} (g : Done n o) {b : List Int} {v u : Int} {f t : Nat} (hb : o.lookup b = some v) (hf : f ≤ t) (ht : t < n) (hu : o.lookup (turn b f t) = some u) : u < v ↔ u = v - 1 := by
  have h1 := g.near (turn b f t) u f t v hu hf ht (by rw [turn_turn hf (by rw [(g.bd _ (lookup_mem hb)).1]; exact ht)]; exact hb)
  omega
/-- The first turn that comes nearer. -/
def pick (n : Nat) (o : Out) (b : List Int) (v : Int) : Option (Nat × Nat) := (pairs n).find? (fun p => o.lookup (turn b p.1 p.2) == some (v - 1))
theorem Done.pick {n : Nat} {o : Out} (g : Done n o) {b : List Int} {v : Int} (hb : o.lookup b = some v) (hv : 0 < v) : ∃ p, pick n o b v = some p ∧ p.1 ≤ p.2 ∧ p.2 < n ∧ o.lookup (turn b p.1 p.2) = some (v - 1) := by
  rcases g.par b v hb with ⟨_, h⟩ | ⟨_, f, t, h1, h2, h3⟩
  · omega
  · cases hp : Far.pick n o b v with
    | none =>
      have := List.find?_eq_none.1 hp (f, t) (mem_pairs.2 ⟨h1, h2⟩)
      rw [h3] at this
      simp at this
    | some p =>
      have a := List.find?_some hp
      have b := mem_pairs.1 (List.mem_of_find?_eq_some hp)
      exact ⟨p, rfl, b.1, b.2, by simpa using a⟩
/-- The first turns, all. -/
def path (n : Nat) (o : Out) : Nat → List Int → List (List Int)
  | 0, _ => []
  | v + 1, b => match pick n o b ((v + 1 : Nat) : Int) with
    | none => []
    | some p => [(p.1 : Int), (p.2 : Int)] :: path n o v (turn b p.1 p.2)
theorem Done.path_len {n : Nat} {o : Out} (g : Done n o) : ∀ (v : Nat) (b : List Int), o.lookup b = some (v : Int) → (path n o v b).length = v ∧ ∀ r ∈ path n o v b, r.length = 2 := by
  intro v
  induction v with
  | zero => intro b _; exact ⟨rfl, fun r hr => by cases hr⟩
  | succ v ih =>
    intro b hb
    obtain ⟨p, h1, h2, h3, h4⟩ := g.pick hb (by omega)
    have := ih (turn b p.1 p.2) (by rw [h4]; congr 1; omega)
    rw [path, h1]
    refine ⟨by simp [this.1], fun r hr => ?_⟩
    rcases List.mem_cons.1 hr with rfl | hr
    · rfl
    · exact this.2 r hr
/-- The farthest one, the first of them. -/
def Best (o : Out) (b : List Int) (m : Int) : Prop := (b, m) ∈ o ∧ ∀ e ∈ o, e.2 < m ∨ e.2 = m ∧ lexlt e.1 b = false
theorem lex_irrefl : ∀ a : List Int, lexlt a a = false
  | [] => rfl
  | a :: r => by
    rw [lexlt, lex_irrefl r, Bool.and_false, Bool.or_false]
    exact decide_eq_false (by omega)
theorem Best.one {n : Nat} {o : Out} (hbd : ∀ e ∈ o, Bd n e.1) {b c : List Int} {m k : Int} (h : Best o b m) (h' : Best o c k) : b = c ∧ m = k := by
  have e : m = k := by
    have a1 := h.2 _ h'.1
    have a2 := h'.2 _ h.1
    simp only at a1 a2
    omega
  subst e
  refine ⟨?_, rfl⟩
  have a1 := h.2 _ h'.1
  have a2 := h'.2 _ h.1
  simp only at a1 a2
  rcases lex_total b c (by rw [(hbd _ h.1).1, (hbd _ h'.1).1]) with h1 | h1 | h1
  · rcases a2 with a2 | a2
    · omega
    · rw [a2.2] at h1; cases h1
  · exact h1
  · rcases a1 with a1 | a1
    · omega
    · rw [a1.2] at h1; cases h1
theorem lex_trans : ∀ (a b c : List Int), lexlt a b = true → lexlt b c = true → lexlt a c = true := by
  intro a
  induction a with
  | nil =>
    intro b c h1 h2
    cases b with
    | nil => cases h1
    | cons y ys => cases c with
      | nil => cases h2
      | cons z zs => rfl
  | cons x xs ih =>
    intro b c h1 h2
    cases b with
    | nil => cases h1
    | cons y ys =>
      cases c with
      | nil => cases h2
      | cons z zs =>
        simp only [lexlt, Bool.or_eq_true, decide_eq_true_eq, Bool.and_eq_true, beq_iff_eq] at h1 h2 ⊢
        rcases h1 with h1 | ⟨h1, h1'⟩
        · rcases h2 with h2 | ⟨h2, _⟩
          · exact .inl (by omega)
          · exact .inl (by omega)
        · rcases h2 with h2 | ⟨h2, h2'⟩
          · exact .inl (by omega)
          · exact .inr ⟨by omega, ih ys zs h1' h2'⟩
/-- The farthest one of those that have come; rem is still to come. -/
def Bst (o rem : Out) (b : List Int) (m : Int) : Prop := (b = [] ∧ m = -1 ∨ (b, m) ∈ o) ∧ ∀ e ∈ o, e ∈ rem ∨ e.2 < m ∨ e.2 = m ∧ lexlt e.1 b = false
theorem Bst.start (o : Out) : Bst o o [] (-1) := ⟨.inl ⟨rfl, rfl⟩, fun e he => .inl he⟩
theorem Bst.take {o rem rem' : Out} {b q : List Int} {m d : Int} (h : Bst o rem b m) (hp : rem.Perm ((q, d) :: rem')) (hm : (q, d) ∈ o) (hb : m < d ∨ d = m ∧ lexlt q b = true) : Bst o rem' q d := by
  refine ⟨.inr hm, fun e he => ?_⟩
  rcases h.2 e he with h1 | h1 | ⟨h1, h2⟩
  · rcases List.mem_cons.1 (hp.mem_iff.1 h1) with rfl | h1
    · exact .inr (.inr ⟨rfl, lex_irrefl _⟩)
    · exact .inl h1
  · rcases hb with hb | hb <;> exact .inr (.inl (by omega))
  · rcases hb with hb | ⟨hb, hl⟩
    · exact .inr (.inl (by omega))
    · refine .inr (.inr ⟨by omega, ?_⟩)
      cases hx : lexlt e.1 q with
      | false => rfl
      | true => rw [lex_trans _ _ _ hx hl] at h2; cases h2
theorem Bst.pass {o rem rem' : Out} {b q : List Int} {m d : Int} (h : Bst o rem b m) (hp : rem.Perm ((q, d) :: rem')) (hb : d < m ∨ d = m ∧ lexlt q b = false) : Bst o rem' b m := by
  refine ⟨h.1, fun e he => ?_⟩
  rcases h.2 e he with h1 | h1
  · rcases List.mem_cons.1 (hp.mem_iff.1 h1) with rfl | h1
    · exact .inr hb
    · exact .inl h1
  · exact .inr h1
theorem Bst.best {n : Nat} {o : Out} {b : List Int} {m : Int} (g : Done n o) (h : Bst o [] b m) : Best o b m := by
  have h0 := h.2 _ (lookup_mem g.zero)
  refine ⟨?_, fun e he => (h.2 e he).resolve_left (fun h => by cases h)⟩
  rcases h.1 with ⟨_, h1⟩ | h1
  · rcases h0 with h0 | h0 | h0
    · cases h0
    · simp only at h0; omega
    · simp only at h0; omega
  · exact h1
/-- There is one. -/
theorem best_is {n : Nat} {o : Out} (g : Done n o) : ∃ e : List Int × Int, Best o e.1 e.2 := by
  have : ∀ l : Out, (∀ e ∈ l, e ∈ o) → ∃ b m, (b = [] ∧ m = -1 ∨ (b, m) ∈ o) ∧ ∀ e ∈ l, e.2 < m ∨ e.2 = m ∧ lexlt e.1 b = false := by
    intro l
    induction l with
    | nil => intro _; exact ⟨[], -1, .inl ⟨rfl, rfl⟩, fun e he => by cases he⟩
    | cons a l ih =>
      intro hl
      obtain ⟨b, m, h1, h2⟩ := ih (fun e he => hl e (by simp [he]))
      by_cases hb : m < a.2 ∨ a.2 = m ∧ lexlt a.1 b = true
      · refine ⟨a.1, a.2, .inr (hl a (by simp)), fun e he => ?_⟩
        rcases List.mem_cons.1 he with rfl | he
        · exact .inr ⟨rfl, lex_irrefl _⟩
        · rcases h2 e he with h3 | ⟨h3, h4⟩
          · rcases hb with hb | hb <;> exact .inl (by omega)
          · rcases hb with hb | ⟨hb, hl'⟩
            · exact .inl (by omega)
            · refine .inr ⟨by omega, ?_⟩
              cases hx : lexlt e.1 a.1 with
              | false => rfl
              | true => rw [lex_trans _ _ _ hx hl'] at h4; cases h4
      · refine ⟨b, m, h1, fun e he => ?_⟩
        rcases List.mem_cons.1 he with rfl | he
        · rcases Int.lt_trichotomy m e.2 with h | h | h
          · exact absurd (.inl h) hb
          · refine .inr ⟨h.symm, ?_⟩
            cases hx : lexlt e.1 b with
            | false => rfl
            | true => exact absurd (.inr ⟨h.symm, hx⟩) hb
          · exact .inl h
        · exact h2 e he
  obtain ⟨b, m, h1, h2⟩ := this o (fun _ h => h)
  exact ⟨(b, m), Bst.best g ⟨h1, fun e he => .inr (h2 e he)⟩⟩
/-- The farthest one of all. -/
def farB (o : Out) : List Int × Int := o.foldl (fun s e => if s.2 < e.2 ∨ e.2 = s.2 ∧ lexlt e.1 s.1 = true then e else s) ([], -1)
theorem farB_best {n : Nat} {o : Out} (g : Done n o) : Best o (farB o).1 (farB o).2 := by
  have : ∀ (l pre : Out) (s : List Int × Int), o = pre ++ l → Bst o l s.1 s.2 → Bst o [] (l.foldl (fun s e => if s.2 < e.2 ∨ e.2 = s.2 ∧ lexlt e.1 s.1 = true then e else s) s).1 (l.foldl (fun s e => if s.2 < e.2 ∨ e.2 = s.2 ∧ lexlt e.1 s.1 = true then e else s) s).2 := by
    intro l
    induction l with
    | nil => intro _ s _ h; exact h
    | cons e l ih =>
      intro pre s ho h
      rw [List.foldl_cons]
      refine ih (pre ++ [e]) _ (by rw [List.append_assoc]; exact ho) ?_
      split
      · rename_i hc
        exact h.take (List.Perm.refl _) (by rw [ho]; simp) hc
      · rename_i hc
        refine h.pass (List.Perm.refl _) ?_
        rcases Int.lt_trichotomy s.2 e.2 with h1 | h1 | h1
        · exact absurd (.inl h1) hc
        · refine .inr ⟨h1.symm, ?_⟩
          cases hx : lexlt e.1 s.1 with
          | false => rfl
          | true => exact absurd (.inr ⟨h1.symm, hx⟩) hc
        · exact .inl h1
  exact Bst.best g (this o [] ([], -1) rfl (Bst.start o))
theorem farB_is {n : Nat} {o : Out} (g : Done n o) {b : List Int} {m : Int} (h : Bst o [] b m) : b = (farB o).1 ∧ m = (farB o).2 := Best.one g.bd (Bst.best g h) (farB_best g)
end Go.Proofs.Ytmdpiagpkocheaa.Far
end
