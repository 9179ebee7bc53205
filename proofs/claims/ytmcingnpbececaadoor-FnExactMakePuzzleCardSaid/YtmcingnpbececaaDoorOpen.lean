/- Whatever reads as a datum of a type of numbers, bools, strings, slices and structs is told by that type's kind, and fits; no condition. -/
import Derived.Test.YtmcingnpbececaaDoorWWords
import Derived.ProofKit
import Derived.Deep.Slices
import Derived.Lib.SmallJoins
import Derived.WalkKit
namespace Go.Proofs.YtmcingnpbececaaDoor.Open
open Go.ChangeShapes Go.WideShapes Go.ChangeAt Go.RowKit Go.Proofs.YtmcingnpbececaaDoorW.PrintWords
set_option linter.unusedVariables false

/-- Each reading of a value of type t is told by the kind d, and what it tells fits. -/
structure Opens {α : Type} (P : Program) (t : TypeId) (d : Kd α) (fit : α → Prop) : Prop where
  out : ∀ {H : Type} (enc : TypeId × Value → H) (w : World) (fuel : Nat) (cs : List Value) (x : DataW H × List MemPlace), DataW.trod enc P w 0 (fun _ => true) true fuel t cs = some x → ∃ y, d.K w y cs ∧ fit y
/-- The same of a struct's last fields, from the cell o on. -/
structure OpensFs {α : Type} (P : Program) (fs : List Field) (o : Nat) (d : Kd α) (fit : α → Prop) : Prop where
  out : ∀ {H : Type} (enc : TypeId × Value → H) (w : World) (n : Nat) (cs : List Value), cs.length = o + d.sz → (∀ f, f ∈ fs → ∃ x, DataW.trod enc P w 0 (fun _ => true) true n f.type ((cs.drop f.offset).take (P.cellsOf f.type)) = some x) → ∃ y, d.K w y (cs.drop o) ∧ fit y

theorem opens_int {P : Program} {t : TypeId} {k : IntKind} (ht : P.underlying t = some (.int k)) : Opens P t (Kd.int k) (fun x => (Lit.int k x).wf = true) := by
  refine ⟨fun {H} enc w fuel cs x h => ?_⟩
  obtain ⟨n, rfl, _, hw⟩ := DataW.trod_int ht h
  exact ⟨n, rfl, hw⟩
theorem opens_bool {P : Program} {t : TypeId} (ht : P.underlying t = some .bool) : Opens P t Kd.bool (fun _ => True) := by
  refine ⟨fun {H} enc w fuel cs x h => ?_⟩
  obtain ⟨b, rfl, _⟩ := DataW.trod_bool ht h
  exact ⟨b, rfl, trivial⟩
theorem opens_string {P : Program} {t : TypeId} (ht : P.underlying t = some .string) : Opens P t Kd.string (fun s => s.size ≤ maxLen) := by
  refine ⟨fun {H} enc w fuel cs x h => ?_⟩
  obtain ⟨s, rfl, _, hs⟩ := DataW.trod_string ht h
  exact ⟨s, rfl, hs⟩

theorem cells_at {w : World} {base n : Nat} {a : Addr} {cs : List Value} (h : w.cells? base a n = some cs) : cs.length = n ∧ ∀ i u, cs[i]? = some u → w.cell? (a.add i) = some u := by
  unfold World.cells? at h
  split at h
  · have hl := mapM_some_length h
    rw [List.length_range] at hl
    refine ⟨hl, fun i u hu => ?_⟩
    have hi : i < n := by have := (List.getElem?_eq_some_iff.1 hu).1; omega
    have := mapM_some_get h i i (by simp [hi])
    rw [this, hu]
  · cases h

theorem list_of {α : Type} {n : Nat} {p : Nat → α → Prop} (h : ∀ i, i < n → ∃ x, p i x) : ∃ xs : List α, xs.length = n ∧ ∀ i x, xs[i]? = some x → p i x := by
  induction n with
  | zero => exact ⟨[], rfl, by simp⟩
  | succ n ih =>
    obtain ⟨xs, hl, hx⟩ := ih (fun i hi => h i (by omega))
    obtain ⟨y, hy⟩ := h n (by omega)
    refine ⟨xs ++ [y], by simp [hl], fun i x hi => ?_⟩
    rcases Nat.lt_trichotomy i n with hlt | rfl | hgt
    · rw [List.getElem?_append_left (by omega)] at hi
      exact hx i x hi
    · rw [List.getElem?_append_right (by omega), hl] at hi
      simp at hi
      exact hi ▸ hy
    · rw [List.getElem?_eq_none (by simp; omega)] at hi
      cases hi

theorem opens_slice {α : Type} {P : Program} {t e : TypeId} {d : Kd α} {fit : α → Prop} (ht : P.underlying t = some (.slice e)) (hc : P.cellsOf e = d.sz) (h : Opens P e d fit) :
    Opens P t (Kd.slice e d) (fun xs => xs.length ≤ maxLen ∧ ∀ x, x ∈ xs → fit x) := by
  refine ⟨fun {H} enc w fuel cs x hx => ?_⟩
  rcases Go.Deep.open_slice ht hx with ⟨rfl, _⟩ | ⟨a, len, cap, m, n, D, Pl, rfl, _, hl, hm, hmm, _, hel⟩
  · exact ⟨[], ⟨none, 0, rfl, Nat.le_refl _, rfl, by simp, fun h0 => absurd h0 (by simp)⟩, by simp, by simp⟩
  · have hm' : m = cap := by simpa using hmm
    subst hm'
    obtain ⟨xs, hlen, hxs⟩ := list_of (n := len) (p := fun i y => ∃ c, c.length = d.sz ∧ d.K w y c ∧ fit y ∧ ∀ j u, c[j]? = some u → w.cell? (a.add (i * d.sz + j)) = some u) (fun i hi => by
      obtain ⟨cs', hcs, htr⟩ := hel i (by omega)
      obtain ⟨y, hK, hf⟩ := h.out enc w n cs' _ htr
      obtain ⟨hlc, hcell⟩ := cells_at hcs
      refine ⟨y, cs', d.K_len hK, hK, hf, fun j u hu => ?_⟩
      have := hcell j u hu
      rw [Go.Deep.add_add, hc] at this
      exact this)
    subst hlen
    refine ⟨xs, ⟨some a, m, rfl, hl, rfl, by unfold maxLen at hm; omega, fun _ => ⟨a, rfl, fun j p hj => ?_⟩⟩, by omega, fun x hmem => ?_⟩
    · obtain ⟨c, h1, h2, _, h3⟩ := hxs j p hj
      exact ⟨c, h1, h2, h3⟩
    · obtain ⟨i, hi, rfl⟩ := List.mem_iff_getElem.1 hmem
      obtain ⟨_, _, _, hf, _⟩ := hxs i _ (List.getElem?_eq_getElem hi)
      exact hf

theorem opens_iso {α β : Type} {P : Program} {t : TypeId} {d : Kd α} {fit : α → Prop} (f : β → α) (g : α → β) (hfg : ∀ x, f (g x) = x) (h : Opens P t d fit) : Opens P t (Kd.iso d f) (fun y => fit (f y)) := by
  refine ⟨fun {H} enc w fuel cs x hx => ?_⟩
  obtain ⟨y, hK, hf⟩ := h.out enc w fuel cs x hx
  exact ⟨g y, show d.K w (f (g y)) cs by rw [hfg]; exact hK, by show fit (f (g y)); rw [hfg]; exact hf⟩

theorem opensFs_one {α : Type} {P : Program} {f : Field} {o : Nat} {d : Kd α} {fit : α → Prop} (ho : f.offset = o) (hc : P.cellsOf f.type = d.sz) (h : Opens P f.type d fit) : OpensFs P [f] o d fit := by
  refine ⟨fun {H} enc w n cs hl hx => ?_⟩
  obtain ⟨x, hx⟩ := hx f (by simp)
  subst ho
  rw [List.take_of_length_le (by rw [List.length_drop]; omega)] at hx
  exact h.out enc w n _ x hx
theorem opensFs_cons {α β : Type} {P : Program} {f : Field} {fs : List Field} {o : Nat} {d : Kd α} {d' : Kd β} {fit : α → Prop} {fit' : β → Prop} (ho : f.offset = o) (hc : P.cellsOf f.type = d.sz) (h : Opens P f.type d fit) (h' : OpensFs P fs (o + d.sz) d' fit') :
    OpensFs P (f :: fs) o (Kd.pair d d') (fun x => fit x.1 ∧ fit' x.2) := by
  refine ⟨fun {H} enc w n cs hl hx => ?_⟩
  have hl' : cs.length = o + (d.sz + d'.sz) := hl
  obtain ⟨x, hx0⟩ := hx f (by simp)
  obtain ⟨y', hK', hf'⟩ := h'.out enc w n cs (by omega) (fun g hg => hx g (by simp [hg]))
  subst ho
  obtain ⟨y, hK, hf⟩ := h.out enc w n _ x hx0
  refine ⟨(y, y'), ⟨_, _, ?_, hK, hK'⟩, hf, hf'⟩
  rw [hc, ← List.drop_drop, List.take_append_drop]
theorem opens_struct {α : Type} {P : Program} {t : TypeId} {fs : Array Field} {d : Kd α} {fit : α → Prop} (ht : P.underlying t = some (.struct fs)) (hc : P.cellsOf t = d.sz) (h : OpensFs P fs.toList 0 d fit) : Opens P t d fit := by
  refine ⟨fun {H} enc w fuel cs x hx => ?_⟩
  obtain ⟨xs, n, rfl, _, hl, hxl, hel⟩ := DataW.trod_struct ht hx
  refine h.out enc w n cs (by omega) (fun f hf => ?_)
  obtain ⟨i, hi, rfl⟩ := List.mem_iff_getElem.1 hf
  have hi' : i < fs.size := by simpa using hi
  have := hel i fs.toList[i] (by simp [hi'])
  exact ⟨xs[i]'(by omega), by rw [this, List.getElem?_eq_getElem (by omega)]⟩

/-- A slice's argument: its value, and what it reads as. -/
theorem arg_slice {α : Type} {P : Program} {t e : TypeId} {d : Kd α} {fit : List α → Prop} {H : Type} {enc : TypeId × Value → H} {w : World} {v : Value} {x : DataW H} {ps : List MemPlace} (ho : Opens P t (Kd.slice e d) fit) (h : DataW.Trod enc P w 0 (fun _ => true) true t v x ps) (hv : ∃ a n c, v = .slice a n c) :
    ∃ (A : Option Addr) (c : Nat) (l : List α), v = .slice A l.length c ∧ Kd.C d w A l.length l ∧ l.length ≤ c ∧ fit l := by
  obtain ⟨fuel, hf⟩ := h
  obtain ⟨a, n, c, rfl⟩ := hv
  obtain ⟨l, ⟨A, c', hcs, hlc, hC⟩, hfit⟩ := ho.out enc w fuel _ _ hf
  simp [Value.cells] at hcs
  obtain ⟨rfl, rfl, rfl⟩ := hcs
  exact ⟨a, c, l, rfl, hC, hlc, hfit⟩
/-- A struct's argument: its cells, and what they read as. -/
theorem arg_struct {α : Type} {P : Program} {t : TypeId} {d : Kd α} {fit : α → Prop} {H : Type} {enc : TypeId × Value → H} {w : World} {v : Value} {x : DataW H} {ps : List MemPlace} (ho : Opens P t d fit) (h : DataW.Trod enc P w 0 (fun _ => true) true t v x ps) (hv : ∃ cs, v = .agg cs) :
    ∃ (cs : List Value) (y : α), v = .agg cs.toArray ∧ d.K w y cs ∧ fit y := by
  obtain ⟨fuel, hf⟩ := h
  obtain ⟨cs, rfl⟩ := hv
  obtain ⟨y, hK, hfit⟩ := ho.out enc w fuel _ _ hf
  exact ⟨cs.toList, y, by simp, by simpa [Value.cells] using hK, hfit⟩
theorem agg_of_okWide {P : Program} {w : World} {r : Reach} {base : Nat} {t : TypeId} {v : Value} {fs : Array Field} (ht : P.underlying t = some (.struct fs)) (h : Value.okWide P w r base t v) : ∃ cs, v = .agg cs := by
  unfold Value.okWide at h
  rw [ht] at h
  obtain ⟨cs, rfl, _⟩ := h
  exact ⟨cs, rfl⟩
end Go.Proofs.YtmcingnpbececaaDoor.Open
