/- slices.Clone makes a row of its own with the same elements; asked that these take at most 2^47 bytes. -/
import Derived.Test.YtmdpiagpkocheaaZtps1
import Derived.Lib.SliceRun
import Derived.Test.YtmdpiagpkocheaaZtps2
import Derived.Test.YtmdpiagpkocheaaZtps0
import Derived.Test.YtmdpiagpkocheaaWKept
import Derived.Test.YtmdpiagpkocheaaWMore
/-! slices.Clone makes a row of its own with the same elements; asked that these take at most 2^47 bytes. -/
section
namespace Go.Proofs.Ytmdpiagpkocheaa.P
open Go.RowKit Go.Proofs.YtmdpiagpkocheaaW.PrintWords Go.Proofs.YtmdpiagpkocheaaW.PrintLast Go.Proofs.YtmdpiagpkocheaaW.PrintMore
set_option linter.unusedVariables false
set_option linter.unusedSimpArgs false

def clone_Int.f (l0 : List Int) : Option (List Int) := if l0.length < 17592186044416 then some l0 else none
theorem info_cloneInt : (Try.prog.info? 3).map (fun i => (i.zero, i.size, i.bytes)) = some (some (.int .i64 0), 1, 8) := by kernel_rfl
set_option maxHeartbeats 8000000 in
set_option maxRecDepth 100000 in
theorem clone_Int.calls (A0 : Option Addr) (c0 : Nat) (l0 : List Int) (r : List Int) (w : World) (hr0 : Kd.C (Kd.int .i64) w A0 l0.length l0) (hc0 : l0.length ≤ c0) (h : clone_Int.f l0 = some r) :
    Calls Try.prog 36 #[.slice A0 l0.length c0] w fun e w' => ∃ v0_ : Value, e = .returned (v0_) ∧ Kd.R (Kd.int .i64) 3 w' w.heap.size (fun _ => True) v0_ r ∧ Below w.heap.size w w' := by
  unfold clone_Int.f at h
  by_cases c2 : l0.length < 17592186044416
  · rw [if_pos c2] at h
    obtain rfl := Option.some.inj h
    have hnil := fun W => Lib.run_eql_slice_nil (P := Try.prog) W 22 3 A0 l0.length c0 0 0 Try.underlying22
    have HR0 := Aside0.mk hr0
    have LMc2 := Aside0.mk c2
    have HB := Aside0.mk (Below.refl w.heap.size w)
    clear hr0 c2 h hc0
    cases A0 with
    | none =>
      have e : l0 = [] := by
        cases l0 with
        | nil => rfl
        | cons x l =>
          obtain ⟨ad, he, _⟩ := HR0.out.2.2 (by simp)
          cases he
      subst e
      simp only [Option.isNone_none, List.length_nil] at hnil
      simp only [List.length_nil]
      go_enter Try.func36, Try.ntmps36
      go_wp2
      go_ret
      exact ⟨_, rfl, Kd.R_nil _ _ _ _ _, HB.out⟩
    | some ad =>
      simp only [Option.isNone_some] at hnil
      go_enter Try.func36, Try.ntmps36
      go_wp2_with (first | ((with_reducible refine gate_dst (N := 5) rfl ?_); refine Kd.R_lit (Kd.int .i64) _ 3 ?hg (N := 5) ?hd (xs := ([] : List Int)) (inner := []) (ok := fun _ => True) (okp := fun _ => True) ?hr ?hp (fun _ hk => hk) trivial (Below.refl _ _) (Nat.le_refl _) (by simp) ?_; (case hd => rfl); (case hg => rfl); (case hr => first | (go_simp; done) | (go_simp; rfl)); (case hp => exact (Reps.none _ _)); intro v195 w3 ho4 hb hg_ hnew_; clear hg_ hnew_; have n0_ := Aside0.mk (Kd.R_lower ho4 (below_size (by repeat (first | (with_reducible first | exact HB.out | apply below_alloc | apply pw_below_drewN | apply below_drew1) | exact HB.out)))); have n1_ := Aside0.mk (below_step (by repeat (first | (with_reducible first | exact HB.out | apply below_alloc | apply pw_below_drewN | apply below_drew1) | exact HB.out)) hb); clear HB; have HO196 := n0_; have HB := n1_; clear n0_ n1_; clear hb ho4) | ((with_reducible refine gate_builtin (b := .append) (xs := #[.tmp 5, .tmp 6]) rfl ?_); at_builtin; refine Kd.R_append_rows (Kd.int .i64) (w0 := w) w.heap.size rfl (.tmp 5) (.tmp 6) 22 3 (.int .i64 0) 8 rfl Try.underlying22 info_cloneInt rfl (by decide) (by omega) v195 [] l0 _ _ _ (fun _ => True) (fun _ => False) rfl rfl ?aO ?aR (fun _ _ h => h) (fun _ h => h.elim) ?aF ?aB ?aS ?aL ?_; (case aR => repeat (first | exact (Kd.C_below HR0.out HB.out) | (with_reducible refine Kd.C_alloc ?_ _) | (with_reducible refine Kd.C_drewN ?_ _) | (with_reducible refine Kd.C_drew ?_))); (case aB => exact (by repeat (first | (with_reducible first | exact HB.out | apply below_alloc | apply pw_below_drewN | apply below_drew1) | exact HB.out))); (case aF => exact (fun _ _ => trivial)); (case aO => exact (by (with_reducible repeat (first | apply Kd.R_alloc | apply Kd.R_drewN | apply Kd.R_drew)); exact HO196.out)); (case aS => exact (below_size (by repeat (first | (with_reducible first | exact HB.out | apply below_alloc | apply pw_below_drewN | apply below_drew1) | exact HB.out)))); (case aL => have := LMc2.out; simp; omega); intro v198 w5 ho hb hg hat; rw [List.nil_append] at ho; have n0_ := Aside0.mk (hb); have n1_ := Aside0.mk (ho); clear HB; clear HO196; have HB := n0_; have HO199 := n1_; clear n0_ n1_; clear ho hb hg hat))
      go_ret
      exact ⟨_, rfl, by (with_reducible repeat (first | apply Kd.R_alloc | apply Kd.R_drewN | apply Kd.R_drew)); exact HO199.out, by repeat (first | (with_reducible first | exact HB.out | apply below_alloc | apply pw_below_drewN | apply below_drew1) | exact HB.out)⟩
  · rw [if_neg c2] at h
    cases h
end Go.Proofs.Ytmdpiagpkocheaa.P
end

/-! Rows of rows: marks that are laid row by row; the rows are apart. -/
section
namespace Go.Proofs.Ytmdpiagpkocheaa.P
open Go.RowKit Go.Proofs.YtmdpiagpkocheaaW.PrintWords Go.Proofs.YtmdpiagpkocheaaW.PrintLast Go.Proofs.YtmdpiagpkocheaaW.PrintMore Go.Proofs.Ytmdpiagpkocheaa.Base
set_option linter.unusedVariables false
set_option linter.unusedSimpArgs false

/-- n marks from a on. -/
def mkF (a n : Nat) : List Int := (List.range n).map fun (j : Nat) => ((a + j : Nat) : Int)
theorem mkF_len (a n : Nat) : (mkF a n).length = n := by simp [mkF]
theorem mkF_succ (a n : Nat) : mkF a (n + 1) = mkF a n ++ [((a + n : Nat) : Int)] := by simp [mkF, List.range_succ]
theorem markF_l0 (l : List Int) (a : Nat) (hn : a + l.length ≤ 4000000) : ∀ n i : Nat, i + n = l.length → Ev (fun k => laws_markIntS.l0 k (mkF a i ++ l.drop i) ((a + i : Nat) : Int) (i : Int)) (((a + l.length : Nat) : Int), mkF a l.length) := by
  intro n
  induction n with
  | zero =>
    intro i hi
    obtain rfl : i = l.length := by omega
    refine Ev_step (fun k => ?_) (Ev.now _)
    have hl : (mkF a l.length ++ l.drop l.length).length = l.length := by simp [mkF_len]
    rw [laws_markIntS.l0, hl, if_neg (by omega), List.drop_length, List.append_nil]
  | succ n ih =>
    intro i hi
    have h : i < l.length := by omega
    refine Ev_step (fun k => ?_) (ih (i + 1) (by omega))
    have hl : (mkF a i ++ l.drop i).length = l.length := by simp [mkF_len]; omega
    have w1 : wrap64 (((a + i : Nat) : Int) + 1) = ((a + (i + 1) : Nat) : Int) := by rw [w64 (by omega) (by omega)]; omega
    rw [laws_markIntS.l0, hl, if_pos (by omega), if_pos (by omega), Int.toNat_natCast, w1, nextI i (by omega), set_drop _ _ _ (mkF_len a i) h, ← mkF_succ]
theorem markF_ev (l : List Int) (a : Nat) (hn : a + l.length ≤ 4000000) : Ev (fun k => laws_markIntS.f k l (a : Int)) (((a + l.length : Nat) : Int), mkF a l.length) := by
  have := markF_l0 l a hn l.length 0 (by omega)
  refine Ev.congr (fun k => ?_) this
  rw [laws_markIntS.f]
  have e : mkF a 0 ++ l.drop 0 = l := by simp [mkF]
  rw [e]
  rfl
/-- The numbers of rows. -/
def tot : List (List Int) → Nat
  | [] => 0
  | r :: rs => r.length + tot rs
/-- Marks, row by row. -/
def mkFF : Nat → List (List Int) → List (List Int)
  | _, [] => []
  | a, r :: rs => mkF a r.length :: mkFF (a + r.length) rs
theorem tot_append : ∀ (p q : List (List Int)), tot (p ++ q) = tot p + tot q
  | [], q => by simp [tot]
  | r :: p, q => by rw [List.cons_append, tot, tot, tot_append p q]; omega
theorem mkFF_append : ∀ (p q : List (List Int)) (a : Nat), mkFF a (p ++ q) = mkFF a p ++ mkFF (a + tot p) q
  | [], q, a => by simp [mkFF, tot]
  | r :: p, q, a => by rw [List.cons_append, mkFF, mkFF, mkFF_append p q, tot, List.cons_append, Nat.add_assoc]
theorem mkFF_len : ∀ (p : List (List Int)) (a : Nat), (mkFF a p).length = p.length
  | [], a => rfl
  | r :: p, a => by rw [mkFF, List.length_cons, mkFF_len p, List.length_cons]

set_option maxHeartbeats 8000000 in
set_option maxRecDepth 100000 in
theorem markIntSS_calls (P0 : Nat → Prop) (u : Value) (l0 : List (List Int)) (a : Nat) (a1 : Int) (ea : a1 = ((a : Nat) : Int)) (ha : a + tot l0 ≤ 4000000) (hl : l0.length ≤ 4000000) (w0 w : World) (hB : Below w0.heap.size w0 w) (hS : Kd.S (Kd.slice 3 (Kd.int .i64)) 22 w w0.heap.size P0 u l0) :
    Calls Try.prog 17 #[u, .int .i64 a1] w fun e w' => ∃ m : Int, e = .returned (.int .i64 m) ∧ m = ((a + tot l0 : Nat) : Int) ∧ Kd.S (Kd.slice 3 (Kd.int .i64)) 22 w' w0.heap.size P0 u (mkFF a l0) ∧ Below w0.heap.size w0 w' ∧ Kept w w' P0 := by
  obtain ⟨A, c, rfl⟩ := Kd.S_slice hS
  have HO := Aside0.mk hS
  have HK := Aside0.mk (Kept.refl w P0)
  have HB := Aside0.mk hB
  have HA := Aside0.mk ha
  have HL := Aside0.mk hl
  have EA := Aside0.mk ea
  clear hS hB ha hl ea
  go_enter Try.func17, Try.ntmps17
  go_wp2
  go_loopg [1, 5] l0.length (fun kq v1 v5 w' => ∃ (pre rest : List (List Int)) (m i : Int), v1 = .int .i64 m ∧ v5 = .int .i64 i ∧ Aside0 (l0 = pre ++ rest ∧ rest.length ≤ kq ∧ m = ((a + tot pre : Nat) : Int) ∧ i = (pre.length : Int)) ∧ Aside0 (Kd.S (Kd.slice 3 (Kd.int .i64)) 22 w' w0.heap.size P0 (.slice A l0.length c) (mkFF a pre ++ rest)) ∧ Aside0 (Kept w w' P0) ∧ Aside0 (Below w0.heap.size w0 w'))
  case atStart => exact ⟨[], l0, a1, 0, rfl, rfl, ⟨rfl, Nat.le_refl _, EA.out, rfl⟩, HO, HK, HB⟩
  case round =>
    clear HO HK HB
    obtain ⟨pre, rest, m, i, rfl, rfl, HC, HO, HK, HB⟩ := hrel
    have hlen : (mkFF a pre ++ rest).length = l0.length := by rw [List.length_append, mkFF_len, HC.out.1, List.length_append]
    cases rest with
    | nil =>
      have hc : decide (i < (l0.length : Int)) = false := decide_eq_false (by rw [HC.out.1, List.append_nil, HC.out.2.2.2]; omega)
      clear hlen
      go_wp2
      go_ret
      have e : l0 = pre := by rw [HC.out.1, List.append_nil]
      have h := HO.out
      rw [List.append_nil, ← e] at h
      exact ⟨_, rfl, by rw [HC.out.2.2.1, e], h, HB.out, HK.out⟩
    | cons r rs =>
      have hpl : pre.length < l0.length := by rw [HC.out.1, List.length_append, List.length_cons]; omega
      have hi : i.toNat = pre.length := by rw [HC.out.2.2.2]; rfl
      have h0 : 0 ≤ i := by rw [HC.out.2.2.2]; omega
      have h1 : i < (l0.length : Int) := by rw [HC.out.2.2.2]; omega
      obtain ⟨g, cap, eg, gb, gl, _⟩ := Kd.S_form HO.out (by rw [hlen]; omega)
      rw [hlen] at eg
      injection eg with ea en ec
      subst ea ec
      have hget : (mkFF a pre ++ r :: rs).getD i.toNat [] = r := by
        rw [hi, List.getD_eq_getElem?_getD, List.getElem?_append_right (by rw [mkFF_len]; exact Nat.le_refl _), mkFF_len, Nat.sub_self]
        rfl
      obtain ⟨oki, cs, hcl, hM, hcc, hoki, hH⟩ := Kd.S_lend HO.out [] i h0 h1
      rw [hget] at hM
      obtain ⟨v, rfl, hR⟩ := hM
      have hx : wr.cell? ⟨g, i.toNat, none⟩ = some v := by simpa [Kd.slice] using hcc 0 v rfl
      have HR := Aside0.mk hR
      have HH := Aside0.mk hH
      have HOK := Aside0.mk hoki
      have HI := Aside0.mk hi
      obtain ⟨fl, hfl0⟩ := markF_ev r (a + tot pre) (by have := HA.out; rw [HC.out.1, tot_append, tot] at this; omega)
      have HF := Aside0.mk (hfl0 fl (Nat.le_refl _))
      rw [← HC.out.2.2.1] at HF
      clear hfl0 hcc hR hH hoki hget hlen gb gl hcl hi
      have hc : decide (i < (l0.length : Int)) = true := decide_eq_true h1
      have p := eq_true h0
      have q := eq_true h1
      clear hpl h0 h1
      go_wp2_with (go_at_call 16; (refine (laws_markIntS.calls fl oki v r _ _ _ w0 _ HB.out HR.out HF.out).mono ?_); rintro e w1 ⟨rfl, hR1, hB1, hK1⟩; have HR1 := Aside0.mk hR1; have HB1 := Aside0.mk hB1; have HK1 := Aside0.mk hK1; clear hR1 hB1 hK1)
      have hw : wrap64 (i + 1) = i + 1 := w64 (by have := HC.out.2.2.2; omega) (by have := HL.out; have := HC.out.2.2.2; have := congrArg List.length HC.out.1; rw [List.length_append, List.length_cons] at this; omega)
      rw [hw]
      have HR2 := Aside0.mk (show Kd.R (Kd.int .i64) 3 w1 w0.heap.size oki v (mkF (a + tot pre) r.length) from Kd.R_mono (Kd.R_tight rfl HR1.out) (fun k hk => HR.out.1 k hk.symm))
      have HO1 := Aside0.mk (Kd.H_back (Kd.H_kept HH.out HK1.out (fun k _ h => h)) (x' := mkF (a + tot pre) r.length) ⟨v, rfl, HR2.out⟩ (fun _ h => h))
      go_roundg (gk - 1)
      case measure => have h := HC.out.2.1; rw [List.length_cons] at h; omega
      case rel =>
        refine ⟨pre ++ [r], rs, _, _, rfl, rfl, ⟨by rw [HC.out.1, List.append_assoc]; rfl, by have h := HC.out.2.1; rw [List.length_cons] at h; omega, by rw [tot_append, tot, tot]; omega, by rw [HC.out.2.2.2, List.length_append, List.length_singleton]; omega⟩, ⟨?_⟩, ⟨HK.out.then_ HK1.out (fun k hk => .inl (HOK.out k hk).1)⟩, HB1⟩
        have h := HO1.out
        rw [HI.out] at h
        have e : (mkFF a pre ++ r :: rs).set pre.length (mkF (a + tot pre) r.length) = mkFF a (pre ++ [r]) ++ rs := by
          rw [mkFF_append, mkFF, mkFF, List.append_assoc, List.set_append_right _ _ (by rw [mkFF_len]; exact Nat.le_refl _), mkFF_len, Nat.sub_self]
          rfl
        rw [e] at h
        exact h
/-- What a caller is told that looks at the rows no more; asked that the marks are few. -/
def laws_markIntSS.f (k : Nat) (l0 : List (List Int)) (a1 : Int) : Option Int := if 0 ≤ a1 ∧ a1 + (tot l0 : Int) ≤ 4000000 ∧ l0.length ≤ 4000000 then some (a1 + (tot l0 : Int)) else none
theorem laws_markIntSS.mono : ∀ a0 a1 k, LeO (laws_markIntSS.f k a0 a1) (laws_markIntSS.f (k + 1) a0 a1) := fun _ _ _ => LeO.refl _
theorem laws_markIntSS.calls (k : Nat) (l0 : List (List Int)) (a1 r : Int) (P0 : Nat → Prop) (u : Value) (w0 w : World) (hB : Below w0.heap.size w0 w) (hS : Kd.S (Kd.slice 3 (Kd.int .i64)) 22 w w0.heap.size P0 u l0) (h : laws_markIntSS.f k l0 a1 = some r) :
    Calls Try.prog 17 #[u, .int .i64 a1] w fun e w' => e = .returned (.int .i64 r) ∧ Below w0.heap.size w0 w' ∧ Kept w w' P0 := by
  unfold laws_markIntSS.f at h
  by_cases hc : 0 ≤ a1 ∧ a1 + (tot l0 : Int) ≤ 4000000 ∧ l0.length ≤ 4000000
  · rw [if_pos hc] at h
    obtain rfl := Option.some.inj h
    obtain ⟨a, rfl⟩ := Int.eq_ofNat_of_zero_le hc.1
    refine (markIntSS_calls P0 u l0 a _ rfl (by omega) hc.2.2 w0 w hB hS).mono ?_
    rintro e w' ⟨m, rfl, hm, _, h1, h2⟩
    exact ⟨by rw [hm, Int.natCast_add], h1, h2⟩
  · rw [if_neg hc] at h
    cases h
end Go.Proofs.Ytmdpiagpkocheaa.P
end

/-! Tests of bounds; no condition. -/
section
namespace Go.Proofs.Ytmdpiagpkocheaa.P
open Go.RowKit Go.Proofs.YtmdpiagpkocheaaW.PrintWords Go.Proofs.YtmdpiagpkocheaaW.PrintLast Go.Proofs.YtmdpiagpkocheaaW.PrintMore Go.Proofs.Ytmdpiagpkocheaa.Base

theorem l1In_eq (n lo hi : Int) : spec_l1In.f n lo hi = some (inB n lo hi) := by
  unfold spec_l1In.f inB
  by_cases h : lo ≤ n <;> simp [h]
theorem within_eq (n lo hi : Int) : impl_within.f n lo hi = some (inB n lo hi) := by
  unfold impl_within.f inB
  by_cases h : lo ≤ n <;> simp [h]
end Go.Proofs.Ytmdpiagpkocheaa.P
end

/-! All numbers are within bounds, by the reference; the lists are at most 1048576 long. -/
section
namespace Go.Proofs.Ytmdpiagpkocheaa.P
open Go.RowKit Go.Proofs.YtmdpiagpkocheaaW.PrintWords Go.Proofs.YtmdpiagpkocheaaW.PrintLast Go.Proofs.YtmdpiagpkocheaaW.PrintMore Go.Proofs.Ytmdpiagpkocheaa.Base
set_option linter.unusedVariables false

theorem l1All_l0 (l : List Int) (lo hi : Int) (hn : l.length ≤ 1048576) : ∀ n i : Nat, i + n = l.length → Ev (fun k => spec_l1All.l0 k lo hi l (l.length : Int) (i : Int)) ((l.drop i).all fun x => decide (lo ≤ x ∧ x ≤ hi)) := by
  intro n
  induction n with
  | zero =>
    intro i hi
    refine Ev_step (fun k => ?_) (Ev.now _)
    rw [spec_l1All.l0, if_neg (by omega), List.drop_of_length_le (by omega)]
    rfl
  | succ n ih =>
    intro i hi
    have h : i < l.length := by omega
    refine Ev_step (fun k => by rw [spec_l1All.l0, if_pos (by omega), if_pos (by omega), if_pos (by omega), rd_nat, nextI i (by omega)]) ?_
    refine Ev_some (l1In_eq _ _ _) ?_
    rw [all_drop _ l 0 h]
    unfold inB
    cases decide (lo ≤ l.getD i 0 ∧ l.getD i 0 ≤ _) with
    | true => exact Ev_pos rfl (by rw [Bool.true_and]; exact ih (i + 1) (by omega))
    | false => exact Ev_neg (by decide) (Ev.now _)
theorem l1All_ev (l : List Int) (lo hi : Int) (hn : l.length ≤ 1048576) : Ev (fun k => spec_l1All.f k l lo hi) (l.all fun x => decide (lo ≤ x ∧ x ≤ hi)) :=
  Ev.congr (fun k => by rw [spec_l1All.f]; rfl) (l1All_l0 l lo hi hn l.length 0 (by omega))
end Go.Proofs.Ytmdpiagpkocheaa.P
end

/-! Rows of whole numbers are equal to themselves; the lists are at most 1048576 long. -/
section
namespace Go.Proofs.Ytmdpiagpkocheaa.P
open Go.RowKit Go.Proofs.YtmdpiagpkocheaaW.PrintWords Go.Proofs.YtmdpiagpkocheaaW.PrintLast Go.Proofs.YtmdpiagpkocheaaW.PrintMore Go.Proofs.Ytmdpiagpkocheaa.Base
set_option linter.unusedVariables false

theorem eqIntS_l0 (l : List Int) (hn : l.length ≤ 1048576) : ∀ n i : Nat, i + n = l.length → Ev (fun k => laws_eqIntS.l0 k l l (i : Int)) true := by
  intro n
  induction n with
  | zero =>
    intro i hi
    refine Ev_step (fun k => ?_) (Ev.now _)
    rw [laws_eqIntS.l0, if_neg (by omega)]
  | succ n ih =>
    intro i hi
    refine Ev_step (fun k => ?_) (ih (i + 1) (by omega))
    rw [laws_eqIntS.l0, if_pos (by omega), if_pos (by omega), if_pos (by omega), if_pos rfl, nextI i (by omega)]
theorem eqIntS_ev (l : List Int) (hn : l.length ≤ 1048576) : Ev (fun k => laws_eqIntS.f k l l) true :=
  Ev.congr (fun k => by rw [laws_eqIntS.f, if_pos rfl]; rfl) (eqIntS_l0 l hn l.length 0 (by omega))
end Go.Proofs.Ytmdpiagpkocheaa.P
end

/-! Rows of whole numbers: marks that are laid; the lists are at most 1048576 long. -/
section
namespace Go.Proofs.Ytmdpiagpkocheaa.P
open Go.RowKit Go.Proofs.YtmdpiagpkocheaaW.PrintWords Go.Proofs.YtmdpiagpkocheaaW.PrintLast Go.Proofs.YtmdpiagpkocheaaW.PrintMore Go.Proofs.Ytmdpiagpkocheaa.Base
set_option linter.unusedVariables false

/-- The first n marks. -/
def mkI (n : Nat) : List Int := (List.range n).map fun (j : Nat) => 1 + (j : Int)
theorem mkI_len (n : Nat) : (mkI n).length = n := by simp [mkI]
theorem mkI_succ (n : Nat) : mkI (n + 1) = mkI n ++ [1 + (n : Int)] := by simp [mkI, List.range_succ]
theorem mkI_at (n i : Nat) (h : i < n) : (mkI n).getD i 0 = 1 + (i : Int) := by
  rw [List.getD_eq_getElem?_getD]
  simp [mkI, h]
theorem markIntS_l0 (l : List Int) (hn : l.length ≤ 1048576) : ∀ n i : Nat, i + n = l.length → Ev (fun k => laws_markIntS.l0 k (mkI i ++ l.drop i) (1 + (i : Int)) (i : Int)) (1 + (l.length : Int), mkI l.length) := by
  intro n
  induction n with
  | zero =>
    intro i hi
    obtain rfl : i = l.length := by omega
    refine Ev_step (fun k => ?_) (Ev.now _)
    have hl : (mkI l.length ++ l.drop l.length).length = l.length := by simp [mkI_len]
    rw [laws_markIntS.l0, hl, if_neg (by omega), List.drop_length, List.append_nil]
  | succ n ih =>
    intro i hi
    have h : i < l.length := by omega
    refine Ev_step (fun k => ?_) (ih (i + 1) (by omega))
    have hl : (mkI i ++ l.drop i).length = l.length := by simp [mkI_len]; omega
    have w1 : wrap64 (1 + (i : Int) + 1) = 1 + ((i + 1 : Nat) : Int) := by rw [w64 (by omega) (by omega)]; omega
    rw [laws_markIntS.l0, hl, if_pos (by omega), if_pos (by omega), Int.toNat_natCast, w1, nextI i (by omega), set_drop _ _ _ (mkI_len i) h, ← mkI_succ]
theorem markIntS_ev (l : List Int) (hn : l.length ≤ 1048576) : Ev (fun k => laws_markIntS.f k l 1) (1 + (l.length : Int), mkI l.length) := by
  have := markIntS_l0 l hn l.length 0 (by omega)
  refine Ev.congr (fun k => ?_) this
  rw [laws_markIntS.f]
  have e : mkI 0 ++ l.drop 0 = l := by simp [mkI]
  rw [e]
  rfl
end Go.Proofs.Ytmdpiagpkocheaa.P
end

/-! Rows of whole numbers: marks that are held; the lists are at most 1048576 long. -/
section
namespace Go.Proofs.Ytmdpiagpkocheaa.P
open Go.RowKit Go.Proofs.YtmdpiagpkocheaaW.PrintWords Go.Proofs.YtmdpiagpkocheaaW.PrintLast Go.Proofs.YtmdpiagpkocheaaW.PrintMore Go.Proofs.Ytmdpiagpkocheaa.Base
set_option linter.unusedVariables false

theorem heldIntS_l0 (m : Nat) (hn : m ≤ 1048576) : ∀ n i : Nat, i + n = m → Ev (fun k => laws_heldIntS.l0 k (mkI m) (1 + (i : Int)) (i : Int)) (1 + (m : Int)) := by
  intro n
  induction n with
  | zero =>
    intro i hi
    obtain rfl : i = m := by omega
    refine Ev_step (fun k => ?_) (Ev.now _)
    rw [laws_heldIntS.l0, mkI_len, if_neg (by omega)]
  | succ n ih =>
    intro i hi
    refine Ev_step (fun k => ?_) (ih (i + 1) (by omega))
    have w1 : wrap64 (1 + (i : Int) + 1) = 1 + ((i + 1 : Nat) : Int) := by rw [w64 (by omega) (by omega)]; omega
    rw [laws_heldIntS.l0, mkI_len, if_pos (by omega), if_pos (by omega), rd_nat, mkI_at m i (by omega), if_pos rfl, w1, nextI i (by omega)]
theorem heldIntS_ev (m : Nat) (hn : m ≤ 1048576) : Ev (fun k => laws_heldIntS.f k (mkI m) 1) (1 + (m : Int)) :=
  Ev.congr (fun k => by rw [laws_heldIntS.f]; rfl) (heldIntS_l0 m hn m 0 (by omega))
end Go.Proofs.Ytmdpiagpkocheaa.P
end

/-! Rows of whole numbers are copied; the lists are at most 1048576 long. -/
section
namespace Go.Proofs.Ytmdpiagpkocheaa.P
open Go.RowKit Go.Proofs.YtmdpiagpkocheaaW.PrintWords Go.Proofs.YtmdpiagpkocheaaW.PrintLast Go.Proofs.YtmdpiagpkocheaaW.PrintMore Go.Proofs.Ytmdpiagpkocheaa.Base
set_option linter.unusedVariables false

theorem toIntS_l0 (xs : List Int) (hn : xs.length ≤ 1048576) : ∀ n i : Nat, i + n = xs.length → Ev (fun k => laws_toIntS.l0 k xs ((xs.take i).map id ++ List.replicate (xs.length - i) 0) (i : Int)) xs := by
  intro n
  induction n with
  | zero =>
    intro i hi
    refine Ev_step (fun k => ?_) (Ev.now _)
    rw [laws_toIntS.l0, if_neg (by omega), List.map_id, List.take_of_length_le (by omega), show xs.length - i = 0 by omega, List.replicate_zero, List.append_nil]
  | succ n ih =>
    intro i hi
    have h : i < xs.length := by omega
    refine Ev_step (fun k => ?_) (ih (i + 1) (by omega))
    have hl : (List.map id (xs.take i) ++ List.replicate (xs.length - i) (0 : Int)).length = xs.length := by simp; omega
    rw [laws_toIntS.l0, if_pos (by omega), if_pos (by omega), if_pos (by rw [hl]; omega), nextI i (by omega), rd_nat, getD_at xs _ h, Int.toNat_natCast]
    have e := set_copied id xs (0 : Int) h
    rw [id] at e
    rw [e]
theorem toIntS_ev (xs : List Int) (hn : xs.length ≤ 1048576) : Ev (fun k => laws_toIntS.f k xs) xs := by
  have := toIntS_l0 xs hn xs.length 0 (by omega)
  simp only [List.take_zero, List.map_nil, List.nil_append, Nat.sub_zero] at this
  refine Ev.congr (fun k => ?_) this
  rw [laws_toIntS.f, if_pos (by omega), if_pos (by omega), Int.toNat_natCast]
  rfl
end Go.Proofs.Ytmdpiagpkocheaa.P
end

/-! Rows of whole numbers are copied, and searched by the reference; the lists are at most 1048576 long. -/
section
namespace Go.Proofs.Ytmdpiagpkocheaa.P
open Go.RowKit Go.Proofs.YtmdpiagpkocheaaW.PrintWords Go.Proofs.YtmdpiagpkocheaaW.PrintLast Go.Proofs.YtmdpiagpkocheaaW.PrintMore Go.Proofs.Ytmdpiagpkocheaa.Base
set_option linter.unusedVariables false

theorem has_drop (l : List Int) (x : Int) {i : Nat} (h : i < l.length) : (l.drop i).contains x = (x == l.getD i 0 || (l.drop (i + 1)).contains x) := by
  rw [List.drop_eq_getElem_cons h, List.contains_cons, getD_at l 0 h]
theorem l1Has_l0 (l : List Int) (x : Int) (hn : l.length ≤ 1048576) : ∀ n i : Nat, i + n = l.length → Ev (fun k => spec_l1Has.l0 k x l (l.length : Int) (i : Int)) ((l.drop i).contains x) := by
  intro n
  induction n with
  | zero =>
    intro i hi
    refine Ev_step (fun k => ?_) (Ev.now _)
    rw [spec_l1Has.l0, if_neg (by omega), List.drop_of_length_le (by omega)]
    rfl
  | succ n ih =>
    intro i hi
    have h : i < l.length := by omega
    refine Ev_step (fun k => by rw [spec_l1Has.l0, if_pos (by omega), if_pos (by omega), if_pos (by omega), rd_nat, nextI i (by omega)]) ?_
    rw [has_drop l x h]
    by_cases e : l.getD i 0 = x
    · rw [e, beq_self_eq_true, Bool.true_or]
      exact Ev_pos rfl (Ev.now _)
    · rw [beq_false_of_ne (fun h => e h.symm), Bool.false_or]
      exact Ev_neg e (ih (i + 1) (by omega))
theorem l1Has_ev (l : List Int) (x : Int) (hn : l.length ≤ 1048576) : Ev (fun k => spec_l1Has.f k l x) (l.contains x) :=
  Ev.congr (fun k => by rw [spec_l1Has.f]; rfl) (l1Has_l0 l x hn l.length 0 (by omega))
end Go.Proofs.Ytmdpiagpkocheaa.P
end

/-! What is a binding: the program and the reference answer the same; the lists are at most 1048576 long. -/
section
namespace Go.Proofs.Ytmdpiagpkocheaa.P
open Go.RowKit Go.Proofs.YtmdpiagpkocheaaW.PrintWords Go.Proofs.YtmdpiagpkocheaaW.PrintLast Go.Proofs.YtmdpiagpkocheaaW.PrintMore Go.Proofs.Ytmdpiagpkocheaa.Base Go.Proofs.Ytmdpiagpkocheaa.Order
set_option linter.unusedVariables false

theorem index_l0 (l : List Int) (x : Int) (hn : l.length ≤ 1048576) : ∀ n i : Nat, i + n = l.length → ∃ r : Int, Ev (fun k => slices_Index_int_int.l0 k l x (l.length : Int) (i : Int)) r ∧ decide (r ≥ 0) = (l.drop i).contains x := by
  intro n
  induction n with
  | zero =>
    intro i hi
    refine ⟨-1, Ev_step (fun k => ?_) (Ev.now _), ?_⟩
    · rw [slices_Index_int_int.l0, if_neg (by omega)]
    · rw [List.drop_of_length_le (by omega)]
      rfl
  | succ n ih =>
    intro i hi
    have h : i < l.length := by omega
    have hs : ∀ k, slices_Index_int_int.l0 (k + 1) l x (l.length : Int) (i : Int) = if x = l.getD i 0 then some (i : Int) else slices_Index_int_int.l0 k l x (l.length : Int) ((i + 1 : Nat) : Int) := fun k => by
      rw [slices_Index_int_int.l0, if_pos (by omega), if_pos (by omega), if_pos (by omega), rd_nat, nextI i (by omega)]
    rw [has_drop l x h]
    by_cases e : x = l.getD i 0
    · refine ⟨i, Ev_step hs (Ev_pos e (Ev.now _)), ?_⟩
      rw [← e, beq_self_eq_true, Bool.true_or]
      exact decide_eq_true (by omega)
    · obtain ⟨r, h1, h2⟩ := ih (i + 1) (by omega)
      refine ⟨r, Ev_step hs (Ev_neg e h1), ?_⟩
      rw [beq_false_of_ne e, Bool.false_or]
      exact h2
theorem contains_ev (l : List Int) (x : Int) (hn : l.length ≤ 1048576) : Ev (fun k => slices_Contains_int_int.f k l x) (l.contains x) := by
  obtain ⟨r, h1, h2⟩ := index_l0 l x hn l.length 0 (by omega)
  rw [List.drop_zero] at h2
  simp only [slices_Contains_int_int.f]
  refine Ev_bind (Ev.congr (fun k => by rw [slices_Index_int_int.f]; rfl) h1) ?_
  rw [← h2]
  exact Ev.now _
theorem isOrder_l0 (ls : List Int) (hn : ls.length ≤ 1048576) : ∀ n i : Nat, i + n = ls.length → Ev (fun k => impl_isOrder.l0 k ls (ls.length : Int) (ls.length : Int) (i : Int)) (hasAll ls n i) := by
  intro n
  induction n with
  | zero =>
    intro i hi
    refine Ev_step (fun k => ?_) (Ev.now _)
    rw [impl_isOrder.l0, if_neg (by omega), beq_self_eq_true]
    rfl
  | succ n ih =>
    intro i hi
    refine Ev_step (fun k => by rw [impl_isOrder.l0, if_pos (by omega), nextI i (by omega)]) ?_
    refine Ev_bind (contains_ev ls (i : Int) hn) ?_
    rw [hasAll]
    cases ls.contains (i : Int) with
    | true => exact Ev_pos rfl (by rw [Bool.true_and]; exact ih (i + 1) (by omega))
    | false => exact Ev_neg (by decide) (Ev.now _)
theorem isOrder_ev (ls : List Int) (hn : ls.length ≤ 1048576) : Ev (fun k => impl_isOrder.f k ls (ls.length : Int)) (hasAll ls ls.length 0) :=
  Ev.congr (fun k => by rw [impl_isOrder.f]; rfl) (isOrder_l0 ls hn ls.length 0 (by omega))
theorem leafOf_eq (x : Int) (h : -8 ≤ x ∧ x ≤ 8) : impl_leafOf.f x = some (leaf x + 1) := by
  rw [impl_leafOf.f, w64 (x := -x) (by omega) (by omega)]
  unfold mx leaf
  congr 1
  split <;> split <;> omega
theorem take_succ_map (f : Int → Int) (l : List Int) {i : Nat} (h : i < l.length) : (l.take (i + 1)).map f = (l.take i).map f ++ [f (l.getD i 0)] := by
  rw [List.take_add_one, List.getElem?_eq_getElem h, List.map_append, getD_at l 0 h]
  rfl
theorem isBinding_l0 (b : List Int) (hn : b.length ≤ 1048576) : ∀ n i : Nat, i + n = b.length → Ev (fun k => impl_IsBinding.l0 k b ((b.take i).map leaf) b (b.length : Int) (i : Int))
    ((b.drop i).all (fun x => decide (-8 ≤ x ∧ x ≤ 8)) && (decide (1 ≤ b.length ∧ b.length ≤ 8) && hasAll (b.map leaf) b.length 0)) := by
  intro n
  induction n with
  | zero =>
    intro i hi
    refine Ev_step (fun k => by rw [impl_IsBinding.l0, if_neg (by omega)]) ?_
    rw [List.drop_of_length_le (by omega), List.take_of_length_le (by omega), List.all_nil, Bool.true_and]
    refine Ev_some (within_eq _ _ _) ?_
    have e : inB (b.length : Int) 1 8 = decide (1 ≤ b.length ∧ b.length ≤ 8) := by
      unfold inB
      exact decide_eq_decide.2 (by omega)
    rw [e]
    by_cases h : 1 ≤ b.length ∧ b.length ≤ 8
    · rw [decide_eq_true h, Bool.true_and]
      refine Ev_pos rfl ?_
      have := isOrder_ev (b.map leaf) (by rw [List.length_map]; exact hn)
      simp only [List.length_map] at this ⊢
      exact Ev_bind this (Ev.now _)
    · rw [decide_eq_false h, Bool.false_and]
      exact Ev_neg (by decide) (Ev.now _)
  | succ n ih =>
    intro i hi
    have h : i < b.length := by omega
    refine Ev_step (fun k => by rw [impl_IsBinding.l0, if_pos (by omega), if_pos (by omega), if_pos (by omega), rd_nat, nextI i (by omega)]) ?_
    refine Ev_some (within_eq _ _ _) ?_
    rw [all_drop (fun x => decide (-8 ≤ x ∧ x ≤ 8)) b 0 h]
    by_cases e : -8 ≤ b.getD i 0 ∧ b.getD i 0 ≤ 8
    · rw [show inB (b.getD i 0) (-8) 8 = true from decide_eq_true e, decide_eq_true e, Bool.true_and]
      refine Ev_pos rfl (Ev_some (leafOf_eq _ e) (Ev_pos (by rw [List.length_map, List.length_take]; omega) ?_))
      have hl : -1 ≤ leaf (b.getD i 0) ∧ leaf (b.getD i 0) ≤ 7 := by unfold leaf; split <;> omega
      rw [show leaf (b.getD i 0) + 1 - 1 = leaf (b.getD i 0) by omega, w64 (by omega) (by omega), ← take_succ_map leaf b h]
      exact ih (i + 1) (by omega)
    · rw [show inB (b.getD i 0) (-8) 8 = false from decide_eq_false e, decide_eq_false e, Bool.false_and, Bool.false_and]
      exact Ev_neg (by decide) (Ev.now _)
theorem isBinding_ev (b : List Int) (hn : b.length ≤ 1048576) : Ev (fun k => impl_IsBinding.f k b) (bindS b) := by
  rw [← bind_eq]
  exact Ev.congr (fun k => by rw [impl_IsBinding.f]; rfl) (isBinding_l0 b hn b.length 0 (by omega))
theorem take_one (l : List Int) {i : Nat} (h : i < l.length) : l.take (i + 1) = l.take i ++ [l.getD i 0] := by
  rw [List.take_add_one, List.getElem?_eq_getElem h, getD_at l 0 h]
  rfl
theorem biGood_l0 (b : List Int) (hn : b.length ≤ 8) (hb : ∀ x ∈ b, -8 ≤ x ∧ x ≤ 8) : ∀ n i : Nat, i + n = b.length → Ev (fun k => spec_biGood.l0 k b b (b.length : Int) (i : Int)) (fresh (b.take i) (b.drop i)) := by
  intro n
  induction n with
  | zero =>
    intro i hi
    refine Ev_step (fun k => ?_) (Ev.now _)
    rw [spec_biGood.l0, if_neg (by omega), List.drop_of_length_le (by omega)]
    rfl
  | succ n ih =>
    intro i hi
    have h : i < b.length := by omega
    have hx : -8 ≤ b.getD i 0 ∧ b.getD i 0 ≤ 8 := by rw [getD_at b 0 h]; exact hb _ (List.getElem_mem h)
    have ht : (b.take i).length ≤ 1048576 := by rw [List.length_take]; omega
    refine Ev_step (fun k => by rw [spec_biGood.l0, if_pos (by omega), if_pos (by omega), if_pos (by omega), rd_nat, nextI i (by omega), w64 (x := -(b.getD i 0)) (by omega) (by omega), Int.toNat_natCast]) ?_
    have e := ih (i + 1) (by omega)
    rw [take_one b h] at e
    rw [List.drop_eq_getElem_cons h, ← getD_at b 0 h, fresh]
    by_cases h0 : b.getD i 0 = 0
    · rw [show (b.getD i 0 != 0) = false by rw [h0]; rfl, Bool.false_and]
      exact Ev_pos h0 (Ev.now _)
    · rw [show (b.getD i 0 != 0) = true from bne_iff_ne.2 h0, Bool.true_and]
      refine Ev_neg h0 (Ev_pos (by omega) (Ev_bind (l1Has_ev _ _ ht) ?_))
      cases (b.take i).contains (b.getD i 0) with
      | true => exact Ev_pos rfl (Ev.now _)
      | false =>
        refine Ev_neg (by decide) (Ev_bind (l1Has_ev _ _ ht) ?_)
        cases (b.take i).contains (-(b.getD i 0)) with
        | true => exact Ev_pos rfl (Ev.now _)
        | false => exact Ev_neg (by decide) e
theorem biGood_ev (b : List Int) (hn : b.length ≤ 1048576) : Ev (fun k => spec_biGood.f k b) (bindS b) := by
  simp only [spec_biGood.f]
  refine Ev_some (l1In_eq _ _ _) ?_
  have e : inB (b.length : Int) 1 8 = decide (1 ≤ b.length ∧ b.length ≤ 8) := by
    unfold inB
    exact decide_eq_decide.2 (by omega)
  rw [e]
  unfold bindS
  by_cases h : 1 ≤ b.length ∧ b.length ≤ 8
  · rw [decide_eq_true h, Bool.true_and]
    refine Ev_pos rfl ?_
    rw [w64 (x := -(b.length : Int)) (by omega) (by omega)]
    refine Ev_bind (l1All_ev b _ _ hn) (Ev_step (fun k => by rw [spec_biGood.j0]) ?_)
    cases ha : b.all (fun x => decide (-(b.length : Int) ≤ x ∧ x ≤ b.length)) with
    | false => exact Ev_pos rfl (Ev.now _)
    | true =>
      refine Ev_neg (by decide) ?_
      rw [Bool.true_and]
      exact biGood_l0 b h.2 (fun x hx => by have := of_decide_eq_true (List.all_eq_true.1 ha x hx); omega) b.length 0 (by omega)
  · rw [decide_eq_false h, Bool.false_and]
    exact Ev_neg (by decide) (Ev_step (fun k => by rw [spec_biGood.j0]) (Ev_pos rfl (Ev.now _)))
end Go.Proofs.Ytmdpiagpkocheaa.P
end

/-! A part of a binding: the program and the reference tell the same. -/
section
namespace Go.Proofs.Ytmdpiagpkocheaa.P
open Go.RowKit Go.Proofs.YtmdpiagpkocheaaW.PrintWords Go.Proofs.YtmdpiagpkocheaaW.PrintLast Go.Proofs.YtmdpiagpkocheaaW.PrintMore Go.Proofs.Ytmdpiagpkocheaa.Base Go.Proofs.Ytmdpiagpkocheaa.Order
set_option linter.unusedVariables false

theorem bind_len {b : List Int} (h : bindS b = true) : 1 ≤ b.length ∧ b.length ≤ 8 := by
  unfold bindS at h
  rw [Bool.and_eq_true, decide_eq_true_eq] at h
  exact h.1
/-- Is there a part? -/
def partB (b : List Int) (f t : Int) : Bool := decide (0 ≤ f ∧ f ≤ t ∧ t ≤ (b.length : Int) - 1)
theorem biPart_ev (b : List Int) (f t : Int) (hn : b.length ≤ 1048576) : Ev (fun k => spec_biPart.f k b f t) (bindS b && partB b f t) := by
  simp only [spec_biPart.f]
  refine Ev_bind (biGood_ev b hn) ?_
  cases hb : bindS b with
  | false => exact Ev_neg (by decide) (Ev.now _)
  | true =>
    have hl := bind_len hb
    rw [Bool.true_and, w64 (x := (b.length : Int) - 1) (by omega) (by omega)]
    refine Ev_pos rfl (Ev_some (l1In_eq _ _ _) ?_)
    unfold inB partB
    by_cases h : 0 ≤ f ∧ f ≤ (b.length : Int) - 1
    · rw [decide_eq_true h]
      refine Ev_pos rfl (Ev_some (l1In_eq _ _ _) ?_)
      unfold inB
      rw [show decide (0 ≤ f ∧ f ≤ t ∧ t ≤ (b.length : Int) - 1) = decide (f ≤ t ∧ t ≤ (b.length : Int) - 1) from decide_eq_decide.2 (by omega)]
      exact Ev.now _
    · rw [decide_eq_false h, show decide (0 ≤ f ∧ f ≤ t ∧ t ≤ (b.length : Int) - 1) = false from decide_eq_false (by omega)]
      exact Ev_neg (by decide) (Ev.now _)
theorem isPart_eq (b : List Int) (f t : Int) (hb : bindS b = true) : impl_isPartOf.f b f t = some (partB b f t) := by
  have hl := bind_len hb
  rw [impl_isPartOf.f, w64 (x := (b.length : Int) - 1) (by omega) (by omega), within_eq]
  simp only [Option.bind_some]
  unfold inB partB
  by_cases h : 0 ≤ t ∧ t ≤ (b.length : Int) - 1
  · rw [decide_eq_true h, if_pos rfl, within_eq]
    simp only [Option.bind_some]
    unfold inB
    rw [show decide (0 ≤ f ∧ f ≤ t ∧ t ≤ (b.length : Int) - 1) = decide (0 ≤ f ∧ f ≤ t) from decide_eq_decide.2 (by omega)]
  · rw [decide_eq_false h, show decide (0 ≤ f ∧ f ≤ t ∧ t ≤ (b.length : Int) - 1) = false from decide_eq_false (by omega)]
    rfl
end Go.Proofs.Ytmdpiagpkocheaa.P
end

/-! Rows of rows of whole numbers: copied, equal to themselves, told by size; at most 1048576 long. -/
section
namespace Go.Proofs.Ytmdpiagpkocheaa.P
open Go.RowKit Go.Proofs.YtmdpiagpkocheaaW.PrintWords Go.Proofs.YtmdpiagpkocheaaW.PrintLast Go.Proofs.YtmdpiagpkocheaaW.PrintMore Go.Proofs.Ytmdpiagpkocheaa.Base
set_option linter.unusedVariables false

/-- Rows that are not too great. -/
def Fine (l : List (List Int)) : Prop := l.length ≤ 1048576 ∧ ∀ r, r ∈ l → r.length ≤ 1048576
theorem rdL (l : List (List Int)) (i : Nat) (h : i < l.length) : rd_L1 l (i : Int) = l[i] := by
  unfold rd_L1
  rw [Int.toNat_natCast, List.getD_eq_getElem?_getD, List.getElem?_eq_getElem h]
  rfl
theorem Fine.at {l : List (List Int)} (hl : Fine l) (i : Nat) (h : i < l.length) : (rd_L1 l (i : Int)).length ≤ 1048576 := by
  rw [rdL l i h]
  exact hl.2 _ (List.getElem_mem h)
theorem toIntSS_l0 (xs : List (List Int)) (hn : Fine xs) : ∀ n i : Nat, i + n = xs.length → Ev (fun k => laws_toIntSS.l0 k xs ((xs.take i).map id ++ List.replicate (xs.length - i) []) (i : Int)) xs := by
  have hn1 := hn.1
  intro n
  induction n with
  | zero =>
    intro i hi
    refine Ev_step (fun k => ?_) (Ev.now _)
    rw [laws_toIntSS.l0, if_neg (by omega), List.map_id, List.take_of_length_le (by omega), show xs.length - i = 0 by omega, List.replicate_zero, List.append_nil]
  | succ n ih =>
    intro i hi
    have h : i < xs.length := by omega
    have hl : (List.map id (xs.take i) ++ List.replicate (xs.length - i) ([] : List Int)).length = xs.length := by simp; omega
    refine Ev_step (fun k => by rw [laws_toIntSS.l0, if_pos (by omega), if_pos (by omega), hl, nextI i (by omega), Int.toNat_natCast]) ?_
    refine Ev_bind (toIntS_ev _ (hn.at i h)) (Ev_pos (by omega) ?_)
    have e := set_copied id xs ([] : List Int) h
    rw [id] at e
    rw [rdL xs i h, e]
    exact ih (i + 1) (by omega)
theorem toIntSS_ev (xs : List (List Int)) (hn : Fine xs) : Ev (fun k => laws_toIntSS.f k xs) xs := by
  have hn1 := hn.1
  have := toIntSS_l0 xs hn xs.length 0 (by omega)
  simp only [List.take_zero, List.map_nil, List.nil_append, Nat.sub_zero] at this
  refine Ev.congr (fun k => ?_) this
  rw [laws_toIntSS.f, if_pos (by omega), if_pos (by omega), Int.toNat_natCast]
  rfl
theorem eqIntSS_l0 (l : List (List Int)) (hn : Fine l) : ∀ n i : Nat, i + n = l.length → Ev (fun k => laws_eqIntSS.l0 k l l (i : Int)) true := by
  have hn1 := hn.1
  intro n
  induction n with
  | zero =>
    intro i hi
    refine Ev_step (fun k => ?_) (Ev.now _)
    rw [laws_eqIntSS.l0, if_neg (by omega)]
  | succ n ih =>
    intro i hi
    refine Ev_step (fun k => by rw [laws_eqIntSS.l0, if_pos (by omega), if_pos (by omega), if_pos (by omega), nextI i (by omega)]) ?_
    exact Ev_bind (eqIntS_ev _ (hn.at i (by omega))) (Ev_pos rfl (ih (i + 1) (by omega)))
theorem eqIntSS_ev (l : List (List Int)) (hn : Fine l) : Ev (fun k => laws_eqIntSS.f k l l) true :=
  Ev.congr (fun k => by rw [laws_eqIntSS.f, if_pos rfl]; rfl) (eqIntSS_l0 l hn l.length 0 (by omega))
theorem szIntS_eq (l : List Int) (a : Int) (hm : l.length ≤ maxLen) (h0 : 0 ≤ a) (h1 : a ≤ 1048576) : laws_szIntS.f l a = some (if a < (l.length : Int) then -1 else a - (l.length : Int)) := by
  have e : wrap64 (a - (l.length : Int)) = a - (l.length : Int) := by unfold maxLen at hm; unfold wrap64; omega
  rw [laws_szIntS.f, e]
  by_cases h : a < (l.length : Int)
  · rw [if_pos (by omega), if_pos h]
  · rw [if_neg (by omega), if_neg h]
theorem szIntSS_l0 (l : List (List Int)) (hl : l.length ≤ 1048576) (hr : ∀ r, r ∈ l → r.length ≤ maxLen) : ∀ (n i : Nat) (a : Int), i + n = l.length → 0 ≤ a → a ≤ 1048576 → ∃ s, Ev (fun k => laws_szIntSS.l0 k l a (i : Int)) s ∧ (0 ≤ s → (tot (l.drop i) : Int) ≤ a) := by
  intro n
  induction n with
  | zero =>
    intro i a hi h0 h1
    refine ⟨a, Ev_step (fun k => ?_) (Ev.now _), fun _ => ?_⟩
    · rw [laws_szIntSS.l0, if_neg (by omega)]
    · rw [List.drop_of_length_le (by omega), tot]
      exact h0
  | succ n ih =>
    intro i a hi h0 h1
    have h : i < l.length := by omega
    have hx := szIntS_eq l[i] a (hr _ (List.getElem_mem h)) h0 h1
    by_cases hc : a < (l[i].length : Int)
    · refine ⟨-1, Ev_step (fun k => by rw [laws_szIntSS.l0, if_pos (by omega), if_pos (by omega), rdL l i h]) ?_, fun h => absurd h (by decide)⟩
      rw [if_pos hc] at hx
      exact Ev_some hx (Ev_pos (by decide) (Ev.now _))
    · rw [if_neg hc] at hx
      obtain ⟨s, hs, h2⟩ := ih (i + 1) (a - (l[i].length : Int)) (by omega) (by omega) (by omega)
      refine ⟨s, Ev_step (fun k => by rw [laws_szIntSS.l0, if_pos (by omega), if_pos (by omega), rdL l i h, nextI i (by omega)]) (Ev_some hx (Ev_neg (show ¬ (a - (l[i].length : Int) < 0) by omega) hs)), fun h3 => ?_⟩
      have := h2 h3
      rw [List.drop_eq_getElem_cons h, tot, Int.natCast_add]
      omega
theorem szIntSS_ev (l : List (List Int)) (hl : l.length ≤ maxLen) (hr : ∀ r, r ∈ l → r.length ≤ maxLen) : ∃ s, Ev (fun k => laws_szIntSS.f k l 1048576) s ∧ (0 ≤ s → l.length + tot l ≤ 1048576) := by
  have e : wrap64 (1048576 - (l.length : Int)) = 1048576 - (l.length : Int) := by unfold maxLen at hl; unfold wrap64; omega
  by_cases h : (1048576 : Int) < (l.length : Int)
  · refine ⟨-1, ⟨0, fun k _ => ?_⟩, fun h => absurd h (by decide)⟩
    show laws_szIntSS.f k l 1048576 = _
    rw [laws_szIntSS.f, e, if_pos (by omega)]
  · obtain ⟨s, hs, h2⟩ := szIntSS_l0 l (by omega) hr l.length 0 (1048576 - (l.length : Int)) (by omega) (by omega) (by omega)
    refine ⟨s, Ev.congr (fun k => ?_) hs, fun h3 => ?_⟩
    · rw [laws_szIntSS.f, e, if_neg (by omega)]
      rfl
    · have := h2 h3
      rw [List.drop_zero] at this
      omega
theorem tot_mem : ∀ {l : List (List Int)} {r : List Int}, r ∈ l → r.length ≤ tot l
  | a :: l, r, h => by
    rw [tot]
    rcases List.mem_cons.1 h with rfl | h
    · exact Nat.le_add_right _ _
    · exact Nat.le_trans (tot_mem h) (Nat.le_add_left _ _)
theorem Fine.of {l : List (List Int)} (h : l.length + tot l ≤ 1048576) : Fine l := ⟨by omega, fun r hr => by have := tot_mem hr; omega⟩
end Go.Proofs.Ytmdpiagpkocheaa.P
end
