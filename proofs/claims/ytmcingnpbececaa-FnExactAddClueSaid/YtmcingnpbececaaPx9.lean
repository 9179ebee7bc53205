/- Lean functions with the answers of the program's Go functions, and for each the proof that the Go code comes to these answers; no condition. -/
import Derived.Test.YtmcingnpbececaaPx0
import Derived.Test.YtmcingnpbececaaPx1
import Derived.Test.YtmcingnpbececaaPx3
import Derived.Test.YtmcingnpbececaaPx4
import Derived.Test.YtmcingnpbececaaPx6
import Derived.Test.YtmcingnpbececaaPx7
import Derived.Test.YtmcingnpbececaaPx8
namespace Go.Proofs.Ytmcingnpbececaa.P
open Go.RowKit Go.Proofs.YtmcingnpbececaaW.PrintWords Go.Proofs.YtmcingnpbececaaW.PrintLast Go.Proofs.YtmcingnpbececaaW.PrintMore
attribute [local go_sem] max2_int min2_int max_two min_two max_three min_three max_four min_four   -- for this text's walks alone
set_option linter.unusedVariables false
set_option linter.unusedSimpArgs false

structure Up3_ (w W : World) : Prop where mk :: (out : Below w.heap.size w W)
instance (w : World) : Nonempty (Up3_ w w) := ⟨⟨Below.refl _ _⟩⟩
instance (w W : World) (n : Nat) [h : Nonempty (Up3_ w W)] : Nonempty (Up3_ w (W.drewN n)) := h.elim fun h => ⟨⟨pw_below_drewN h.out n⟩⟩
instance (w W : World) (n : Obj) [h : Nonempty (Up3_ w W)] : Nonempty (Up3_ w (W.alloc n)) := h.elim fun h => ⟨⟨below_alloc h.out n⟩⟩
instance (w W : World) [h : Nonempty (Up3_ w W)] : Nonempty (Up3_ w W.drew) := h.elim fun h => ⟨⟨below_drew1 h.out⟩⟩
theorem uk3_ {w W : World} {g : Nat} {o : Obj} (h : w.heap[g]? = some o) [u : Nonempty (Up3_ w W)] : W.heap[g]? = some o := u.elim fun u => blk_below h u.out
theorem ur3_ {α : Type} {d : Kd α} {e : Nat} {w W : World} {b : Nat} {ok : Nat → Prop} {v : Value} {xs : List α} (h : d.R e w b ok v xs) [u : Nonempty (Up3_ w W)] : d.R e W b ok v xs := u.elim fun u => Kd.R_below h u.out
theorem uc3_ {α : Type} {d : Kd α} {w W : World} {A : Option Addr} {n : Nat} {xs : List α} (h : d.C w A n xs) [u : Nonempty (Up3_ w W)] : d.C W A n xs := u.elim fun u => Kd.C_below h u.out
theorem ub3_ {w0 w W : World} (h : Below w0.heap.size w0 w) [u : Nonempty (Up3_ w W)] : Below w0.heap.size w0 W := u.elim fun u => below_step h u.out
theorem ukb3_ {w W W2 : World} {g : Nat} {o : Obj} (h : w.heap[g]? = some o) (hb : Below W.heap.size W W2) [u : Nonempty (Up3_ w W)] : W2.heap[g]? = some o := blk_below (uk3_ h) hb
theorem ukl3_ {w W : World} {g : Nat} {o : Obj} (h : w.heap[g]? = some o) [u : Nonempty (Up3_ w W)] : g < W.heap.size := blk_lt (uk3_ h)
theorem ubs3_ {w W : World} {g j : Nat} {v : Value} (h : Below w.heap.size w W) (hg : Aside0 (w.heap.size ≤ g)) : Below w.heap.size w (W.setCell ⟨g, j, none⟩ v) := Go.Proofs.YtmcingnpbececaaW.PrintWords.below_set h hg.out
theorem us3_ : type_of% @List.setIfInBounds_toArray.{0} := @List.setIfInBounds_toArray.{0}
theorem ut3_ : type_of% @List.set_cons_zero.{0} := @List.set_cons_zero.{0}
theorem uv3_ : type_of% @List.set_cons_succ.{0} := @List.set_cons_succ.{0}
theorem A3_ {p : Prop} (h : p) : Aside0 p := ⟨h⟩
theorem ba3_ : type_of% @below_alloc := @below_alloc
theorem bn3_ : type_of% @pw_below_drewN := @pw_below_drewN
theorem bd3_ : type_of% @below_drew1 := @below_drew1
theorem ra3_ : type_of% @Kd.R_alloc := @Kd.R_alloc
theorem rn3_ : type_of% @Kd.R_drewN := @Kd.R_drewN
theorem rd3_ : type_of% @Kd.R_drew := @Kd.R_drew
theorem kn3_ : type_of% @blk_drewN := @blk_drewN
theorem kd3_ : type_of% @blk_drew := @blk_drew
theorem ka3_ : type_of% @blk_alloc := @blk_alloc
theorem kb3_ : type_of% @blk_below := @blk_below
theorem re3_ : type_of% @Kd.R_elder' := @Kd.R_elder'
theorem bt3_ : type_of% @below_step := @below_step
/-! ### laws_FnExactAddClue: function 3 -/
mutual
def laws_FnExactAddClue.j0 : Nat → Bool → Bool → Bool → List (S26) → Int → Int → Int → List (S34) → List (S34) → List (S34) → Option (Bool)
 | 0, _, _, _, _, _, _, _, _, _, _ => none
 | k + 1, x7, x10, x46, x187000, x188000, x188001, x188002, x200000, x204000, x212000 => if x46 = true then (some false) else ((laws_toPuzzle.f k x187000).bind fun t213 => ((laws_eqPuzzle.f k x204000 t213).bind fun t216 => (if t216 = true then ((laws_markPuzzle.f k x204000 1).bind fun bt217 => (if bt217.1 < 0 then (laws_FnExactAddClue.j1 k x7 true x187000 x188000 x188001 x188002 x200000 x212000) else ((laws_eqPuzzle.f k x212000 x200000).bind fun t219 => (if t219 = true then (laws_FnExactAddClue.j1 k x7 (x10 != x7) x187000 x188000 x188001 x188002 x200000 x212000) else (laws_FnExactAddClue.j1 k x7 true x187000 x188000 x188001 x188002 x200000 x212000))))) else (some false))))
def laws_FnExactAddClue.j1 : Nat → Bool → Bool → List (S26) → Int → Int → Int → List (S34) → List (S34) → Option (Bool)
 | 0, _, _, _, _, _, _, _, _ => none
 | k + 1, x7, x67, x187000, x188000, x188001, x188002, x200000, x212000 => if x67 = true then (some false) else ((laws_markPuzzle.f k x212000 1).bind fun bt220 => ((laws_heldPuzzle.f k bt220.2 1).bind fun t222 => (if t222 < 0 then (some false) else (if t222 = bt220.1 then ((laws_toPuzzle.f k x187000).bind fun t223 => ((laws_toClue.f x188000 x188001 x188002).bind fun bt226 => ((impl_AddClue.f k t223 bt226.1 bt226.2.1 bt226.2.2).bind fun bt229 => ((laws_eqPuzzle.f k bt229.1 x200000).bind fun t234 => (if t234 = true then (laws_FnExactAddClue.j2 k bt220.1 (bt229.2 != x7) bt220.2) else (laws_FnExactAddClue.j2 k bt220.1 true bt220.2)))))) else (some false)))))
def laws_FnExactAddClue.j2 : Nat → Int → Bool → List (S34) → Option (Bool)
 | 0, _, _, _ => none
 | k + 1, x12, x95, x212000 => if x95 = true then (some false) else ((laws_heldPuzzle.f k x212000 1).bind fun t235 => (if t235 < 0 then (some false) else (if t235 = x12 then (some true) else (some false))))
end
def laws_FnExactAddClue.f (k : Nat) (l0_0 : List (S26)) (a1_0 : Int) (a1_1 : Int) (a1_2 : Int) : Option (Bool) := (laws_szPuzzle.f l0_0 1048576).bind fun t188 => (if t188 < 0 then (some true) else ((laws_toPuzzle.f k l0_0).bind fun t189 => ((laws_toClue.f a1_0 a1_1 a1_2).bind fun bt192 => ((spec_AddClue.f k t189 bt192.1 bt192.2.1 bt192.2.2).bind fun bt195 => ((laws_toPuzzle.f k l0_0).bind fun t200 => ((laws_toClue.f a1_0 a1_1 a1_2).bind fun bt204 => ((impl_AddClue.f k t200 bt204.1 bt204.2.1 bt204.2.2).bind fun bt207 => ((laws_eqPuzzle.f k bt207.1 bt195.1).bind fun t212 => (if t212 = true then (laws_FnExactAddClue.j0 k bt195.2 bt207.2 (bt207.2 != bt195.2) l0_0 a1_0 a1_1 a1_2 bt195.1 t200 bt207.1) else (laws_FnExactAddClue.j0 k bt195.2 bt207.2 true l0_0 a1_0 a1_1 a1_2 bt195.1 t200 bt207.1))))))))))
theorem laws_FnExactAddClue.mono_l : ∀ k, (∀ y0 y1 y2 y3 y4 y5 y6 y7 y8 y9, LeO (laws_FnExactAddClue.j0 k y0 y1 y2 y3 y4 y5 y6 y7 y8 y9) (laws_FnExactAddClue.j0 (k + 1) y0 y1 y2 y3 y4 y5 y6 y7 y8 y9)) ∧ (∀ y0 y1 y2 y3 y4 y5 y6 y7, LeO (laws_FnExactAddClue.j1 k y0 y1 y2 y3 y4 y5 y6 y7) (laws_FnExactAddClue.j1 (k + 1) y0 y1 y2 y3 y4 y5 y6 y7)) ∧ (∀ y0 y1 y2, LeO (laws_FnExactAddClue.j2 k y0 y1 y2) (laws_FnExactAddClue.j2 (k + 1) y0 y1 y2))
 | 0 => ⟨fun _ _ _ _ _ _ _ _ _ _ r h => by simp [laws_FnExactAddClue.j0] at h, fun _ _ _ _ _ _ _ _ r h => by simp [laws_FnExactAddClue.j1] at h, fun _ _ _ r h => by simp [laws_FnExactAddClue.j2] at h⟩
 | k + 1 => by
  obtain ⟨ih0, ih1, ih2⟩ := laws_FnExactAddClue.mono_l k
  refine ⟨?_, ?_, ?_⟩
  ·intro y0 y1 y2 y3 y4 y5 y6 y7 y8 y9
   unfold laws_FnExactAddClue.j0
   repeat' first
   | (with_reducible exact ih0 _ _ _ _ _ _ _ _ _ _)
   | (with_reducible exact ih1 _ _ _ _ _ _ _ _)
   | (with_reducible exact ih2 _ _ _)
   | (with_reducible exact impl_AddClue.mono _ _ _ _ _)
   | (with_reducible exact laws_eqPuzzle.mono _ _ _)
   | (with_reducible exact laws_heldPuzzle.mono _ _ _)
   | (with_reducible exact laws_markPuzzle.mono _ _ _)
   | (with_reducible exact laws_toPuzzle.mono _ _)
   | (with_reducible exact spec_AddClue.mono _ _ _ _ _)
   | (with_reducible exact LeO.refl _)
   | (with_reducible exact LeO.none _)
   | (with_reducible refine LeO.ite ?_ ?_)
   | (with_reducible refine LeO.bind ?_ (fun _ => ?_))
   | exact ih0 _ _ _ _ _ _ _ _ _ _
   | exact ih1 _ _ _ _ _ _ _ _
   | exact ih2 _ _ _
   | exact impl_AddClue.mono _ _ _ _ _
   | exact laws_eqPuzzle.mono _ _ _
   | exact laws_heldPuzzle.mono _ _ _
   | exact laws_markPuzzle.mono _ _ _
   | exact laws_toPuzzle.mono _ _
   | exact spec_AddClue.mono _ _ _ _ _
   | exact LeO.none _
   | refine LeO.ite ?_ ?_
   | refine LeO.bind ?_ (fun _ => ?_)
  ·intro y0 y1 y2 y3 y4 y5 y6 y7
   unfold laws_FnExactAddClue.j1
   repeat' first
   | (with_reducible exact ih0 _ _ _ _ _ _ _ _ _ _)
   | (with_reducible exact ih1 _ _ _ _ _ _ _ _)
   | (with_reducible exact ih2 _ _ _)
   | (with_reducible exact impl_AddClue.mono _ _ _ _ _)
   | (with_reducible exact laws_eqPuzzle.mono _ _ _)
   | (with_reducible exact laws_heldPuzzle.mono _ _ _)
   | (with_reducible exact laws_markPuzzle.mono _ _ _)
   | (with_reducible exact laws_toPuzzle.mono _ _)
   | (with_reducible exact spec_AddClue.mono _ _ _ _ _)
   | (with_reducible exact LeO.refl _)
   | (with_reducible exact LeO.none _)
   | (with_reducible refine LeO.ite ?_ ?_)
   | (with_reducible refine LeO.bind ?_ (fun _ => ?_))
   | exact ih0 _ _ _ _ _ _ _ _ _ _
   | exact ih1 _ _ _ _ _ _ _ _
   | exact ih2 _ _ _
   | exact impl_AddClue.mono _ _ _ _ _
   | exact laws_eqPuzzle.mono _ _ _
   | exact laws_heldPuzzle.mono _ _ _
   | exact laws_markPuzzle.mono _ _ _
   | exact laws_toPuzzle.mono _ _
   | exact spec_AddClue.mono _ _ _ _ _
   | exact LeO.none _
   | refine LeO.ite ?_ ?_
   | refine LeO.bind ?_ (fun _ => ?_)
  ·intro y0 y1 y2
   unfold laws_FnExactAddClue.j2
   repeat' first
   | (with_reducible exact ih0 _ _ _ _ _ _ _ _ _ _)
   | (with_reducible exact ih1 _ _ _ _ _ _ _ _)
   | (with_reducible exact ih2 _ _ _)
   | (with_reducible exact impl_AddClue.mono _ _ _ _ _)
   | (with_reducible exact laws_eqPuzzle.mono _ _ _)
   | (with_reducible exact laws_heldPuzzle.mono _ _ _)
   | (with_reducible exact laws_markPuzzle.mono _ _ _)
   | (with_reducible exact laws_toPuzzle.mono _ _)
   | (with_reducible exact spec_AddClue.mono _ _ _ _ _)
   | (with_reducible exact LeO.refl _)
   | (with_reducible exact LeO.none _)
   | (with_reducible refine LeO.ite ?_ ?_)
   | (with_reducible refine LeO.bind ?_ (fun _ => ?_))
   | exact ih0 _ _ _ _ _ _ _ _ _ _
   | exact ih1 _ _ _ _ _ _ _ _
   | exact ih2 _ _ _
   | exact impl_AddClue.mono _ _ _ _ _
   | exact laws_eqPuzzle.mono _ _ _
   | exact laws_heldPuzzle.mono _ _ _
   | exact laws_markPuzzle.mono _ _ _
   | exact laws_toPuzzle.mono _ _
   | exact spec_AddClue.mono _ _ _ _ _
   | exact LeO.none _
   | refine LeO.ite ?_ ?_
   | refine LeO.bind ?_ (fun _ => ?_)
theorem laws_FnExactAddClue.mono : ∀ a0 a1 a2 a3 k, LeO (laws_FnExactAddClue.f k a0 a1 a2 a3) (laws_FnExactAddClue.f (k + 1) a0 a1 a2 a3) := by
 intro a0 a1 a2 a3 k
 obtain ⟨ih0, ih1, ih2⟩ := laws_FnExactAddClue.mono_l k
 unfold laws_FnExactAddClue.f
 repeat' first
   | (with_reducible exact ih0 _ _ _ _ _ _ _ _ _ _)
   | (with_reducible exact ih1 _ _ _ _ _ _ _ _)
   | (with_reducible exact ih2 _ _ _)
   | (with_reducible exact impl_AddClue.mono _ _ _ _ _)
   | (with_reducible exact laws_eqPuzzle.mono _ _ _)
   | (with_reducible exact laws_heldPuzzle.mono _ _ _)
   | (with_reducible exact laws_markPuzzle.mono _ _ _)
   | (with_reducible exact laws_toPuzzle.mono _ _)
   | (with_reducible exact spec_AddClue.mono _ _ _ _ _)
   | (with_reducible exact LeO.refl _)
   | (with_reducible exact LeO.none _)
   | (with_reducible refine LeO.ite ?_ ?_)
   | (with_reducible refine LeO.bind ?_ (fun _ => ?_))
   | exact ih0 _ _ _ _ _ _ _ _ _ _
   | exact ih1 _ _ _ _ _ _ _ _
   | exact ih2 _ _ _
   | exact impl_AddClue.mono _ _ _ _ _
   | exact laws_eqPuzzle.mono _ _ _
   | exact laws_heldPuzzle.mono _ _ _
   | exact laws_markPuzzle.mono _ _ _
   | exact laws_toPuzzle.mono _ _
   | exact spec_AddClue.mono _ _ _ _ _
   | exact LeO.none _
   | refine LeO.ite ?_ ?_
   | refine LeO.bind ?_ (fun _ => ?_)
def laws_FnExactAddClue.T5 : Bool × List (List Nat × List Nat) := (true, [([], []), ([0], [0]), ([], []), ([2, 1], [2]), ([1, 3, 3], [1, 3]), ([4], [4]), ([5], [5]), ([5], [5]), ([], []), ([8, 6, 4, 0, 1, 2, 3, 4, 5, 6, 8], [6, 8]), ([7, 9, 0, 1, 2, 3, 4, 5, 6, 7, 8, 9], [7])])
def laws_FnExactAddClue.B5 : List Nat := [0, 1, 0, 7, 15, 31, 63, 63, 0, 383, 1023]
theorem laws_FnExactAddClue.tab5 : rtab .any (opsOf Try.f3 5) = laws_FnExactAddClue.T5 := by kernel_rfl
theorem laws_FnExactAddClue.bits5 : waitsOk laws_FnExactAddClue.T5.2 laws_FnExactAddClue.B5 = true := by kernel_rfl
def laws_FnExactAddClue.T7 : Bool × List (List Nat × List Nat) := (true, [([], []), ([], []), ([1], [1]), ([0, 2, 2], [0, 2]), ([3], [3]), ([4], [4]), ([4], [4]), ([], []), ([7, 5, 3, 0, 1, 2, 3, 4, 5, 7], [5, 7]), ([6, 8, 0, 1, 2, 3, 4, 5, 6, 7, 8], [6])])
def laws_FnExactAddClue.B7 : List Nat := [0, 0, 2, 7, 15, 31, 31, 0, 191, 511]
theorem laws_FnExactAddClue.tab7 : rtab .any (opsOf Try.f3 7) = laws_FnExactAddClue.T7 := by kernel_rfl
theorem laws_FnExactAddClue.bits7 : waitsOk laws_FnExactAddClue.T7.2 laws_FnExactAddClue.B7 = true := by kernel_rfl
def laws_FnExactAddClue.T24 : Bool × List (List Nat × List Nat) := (true, [([], []), ([0], [0]), ([], []), ([2, 1], [2]), ([1, 3, 3], [1, 3]), ([4], [4]), ([5], [5]), ([5], [5]), ([], []), ([8, 6, 4, 0, 1, 2, 3, 4, 5, 6, 8], [6, 8]), ([7, 9, 0, 1, 2, 3, 4, 5, 6, 7, 8, 9], [7])])
def laws_FnExactAddClue.B24 : List Nat := [0, 1, 0, 7, 15, 31, 63, 63, 0, 383, 1023]
theorem laws_FnExactAddClue.tab24 : rtab .any (opsOf Try.f3 24) = laws_FnExactAddClue.T24 := by kernel_rfl
theorem laws_FnExactAddClue.bits24 : waitsOk laws_FnExactAddClue.T24.2 laws_FnExactAddClue.B24 = true := by kernel_rfl
set_option maxHeartbeats 8000000 in
set_option maxRecDepth 100000 in
theorem laws_FnExactAddClue.calls (k : Nat) (A0_0 : Option Addr) (c0_0 : Nat) (l0_0 : List (S26)) (a1_0 : Int) (a1_1 : Int) (a1_2 : Int) (r : Bool) (w : World) (hr0_0 : Kd.C k26 w A0_0 l0_0.length l0_0) (hc0_0 : l0_0.length ≤ c0_0) (h : laws_FnExactAddClue.f k l0_0 a1_0 a1_1 a1_2 = some r) :
  Calls Try.prog 3 #[.agg #[.slice A0_0 l0_0.length c0_0], .agg #[.int .i64 a1_0, .int .i64 a1_1, .int .i64 a1_2]] w fun e w' => e = .returned (.bool r) ∧ Below w.heap.size w w' := by
 have hu24 := Try.underlying24
 have hu26 := Try.underlying26
 have hu30 := Try.underlying30
 have HR0_0 := A3_ hr0_0
 have HC0_0 := A3_ hc0_0
 clear hr0_0 hc0_0
 have HB := A3_ (Below.refl w.heap.size w)
 have H : ((laws_szPuzzle.f l0_0 1048576).bind fun t188 => (if t188 < 0 then (some true) else ((laws_toPuzzle.f k l0_0).bind fun t189 => ((laws_toClue.f a1_0 a1_1 a1_2).bind fun bt192 => ((spec_AddClue.f k t189 bt192.1 bt192.2.1 bt192.2.2).bind fun bt195 => ((laws_toPuzzle.f k l0_0).bind fun t200 => ((laws_toClue.f a1_0 a1_1 a1_2).bind fun bt204 => ((impl_AddClue.f k t200 bt204.1 bt204.2.1 bt204.2.2).bind fun bt207 => ((laws_eqPuzzle.f k bt207.1 bt195.1).bind fun t212 => (if t212 = true then (j0 k bt195.2 bt207.2 (bt207.2 != bt195.2) l0_0 a1_0 a1_1 a1_2 bt195.1 t200 bt207.1) else (j0 k bt195.2 bt207.2 true l0_0 a1_0 a1_1 a1_2 bt195.1 t200 bt207.1))))))))))) = some r := h
 clear h
 replace H := Option.bind_eq_some_iff.mp H
 obtain ⟨t188, A30, H⟩ := H
 replace H : (if t188 < 0 then (some true) else ((laws_toPuzzle.f k l0_0).bind fun t189 => ((laws_toClue.f a1_0 a1_1 a1_2).bind fun bt192 => ((spec_AddClue.f k t189 bt192.1 bt192.2.1 bt192.2.2).bind fun bt195 => ((laws_toPuzzle.f k l0_0).bind fun t200 => ((laws_toClue.f a1_0 a1_1 a1_2).bind fun bt204 => ((impl_AddClue.f k t200 bt204.1 bt204.2.1 bt204.2.2).bind fun bt207 => ((laws_eqPuzzle.f k bt207.1 bt195.1).bind fun t212 => (if t212 = true then (j0 k bt195.2 bt207.2 (bt207.2 != bt195.2) l0_0 a1_0 a1_1 a1_2 bt195.1 t200 bt207.1) else (j0 k bt195.2 bt207.2 true l0_0 a1_0 a1_1 a1_2 bt195.1 t200 bt207.1)))))))))) = some r := H
 have A3 := A3_ A30
 clear A30
 by_cases c4 : t188 < 0
 ·rw [if_pos c4] at H
  have c4b0 : decide (t188 < 0) = true := decide_eq_true c4
  clear c4
  obtain rfl := Option.some.inj H
  go_enter Try.func3, Try.ntmps3
  go_wp2_with (first | ((with_reducible refine gate_dst (N := 2) rfl ?_); refine box_event ?hg (N := 2) ?hd (cs := #[.slice A0_0 l0_0.length c0_0]) (t := 24) ?hr ?_; (case hd => rfl); (case hg => rfl); (case hr => first | (go_simp; done) | (go_simp; rfl)); intro gb186 hg w5 hbox hb; have n0_ := A3_ (bt3_ (by exact ub3_ HB.out) hb); have n1_ := A3_ (hbox); have n2_ := A3_ ((by rw [hg]; exact (below_size (by exact ub3_ HB.out)) : w.heap.size ≤ gb186)); have n3_ := A3_ ((by rw [hg]; exact (below_size (by exact ub3_ HB.out)) : w.heap.size ≤ gb186)); clear HB; have HB := n0_; have BK186 := n1_; have GW186 := n2_; have GE186 := n3_; clear n0_ n1_ n2_ n3_; clear hb hbox hg) | ((with_reducible refine gate_dst (N := 3) rfl ?_); refine box_event ?hg (N := 3) ?hd (cs := #[.int .i64 a1_0, .int .i64 a1_1, .int .i64 a1_2]) (t := 26) ?hr ?_; (case hd => rfl); (case hg => rfl); (case hr => first | (go_simp; done) | (go_simp; rfl)); intro gb187 hg w6 hbox hb; have n1_ := A3_ (bt3_ (by repeat (first | (with_reducible first | exact HB.out | apply ba3_ | apply bn3_ | apply bd3_ | refine ubs3_ ?_ (by assumption)) | exact HB.out)) hb); have n2_ := A3_ (hbox); have n3_ := A3_ ((by rw [hg]; exact (below_size (by repeat (first | (with_reducible first | exact HB.out | apply ba3_ | apply bn3_ | apply bd3_ | refine ubs3_ ?_ (by assumption)) | exact HB.out))) : w.heap.size ≤ gb187)); have n4_ := A3_ ((by rw [hg]; exact (below_size (by repeat (first | (with_reducible first | exact HB.out | apply ba3_ | apply bn3_ | apply bd3_ | refine ubs3_ ?_ (by assumption)) | exact HB.out))) : w.heap.size ≤ gb187)); have n5_ := A3_ ((by rw [hg]; exact Nat.ne_of_lt (ukl3_ BK186.out) : gb186 ≠ gb187)); have n6_ := A3_ ((by rw [hg]; exact Nat.ne_of_gt (ukl3_ BK186.out) : gb187 ≠ gb186)); clear HB; replace BK186 := A3_ (ukb3_ BK186.out hb); have HB := n1_; have BK187 := n2_; have GW187 := n3_; have GE187 := n4_; have NB186_187 := n5_; have NB187_186 := n6_; clear n1_ n2_ n3_ n4_ n5_ n6_; clear hb hbox hg; have hnb7 := NB186_187.out; have hnc7 := NB187_186.out; have hcz8_0 : w6.cell? ⟨gb186, 0, none⟩ = some (.slice A0_0 l0_0.length c0_0) := (blk_cell BK186.out 0).trans rfl; have hfz8_0 := blk_frozen BK186.out 0) | ((with_reducible refine gate_callee (f := 5) rfl ?_); refine goesL_ (some 18) rfl rfl Try.func5 (by kernel_rfl) rfl #[.agg #[.slice A0_0 l0_0.length c0_0], .int .i64 1048576] rfl (by (try simp only [List.map_toArray, List.map_cons, List.map_nil]); first | done | rfl | (simp only [List.length_drop, List.length_take]; rfl)) ?_; (with_reducible refine (laws_szPuzzle.calls _ _ l0_0 1048576 t188 _ ?side1 ?side2 A3.out).mono ?_); (case side1 => exact uc3_ ((Kd.C_below HR0_0.out HB.out))); (case side2 => exact HC0_0.out); rintro e w9 ⟨rfl, hb⟩; refine ⟨_, rfl, ?_⟩; have n2_ := A3_ (bt3_ (by repeat (first | (with_reducible first | exact HB.out | apply ba3_ | apply bn3_ | apply bd3_ | refine ubs3_ ?_ (by assumption)) | exact HB.out)) hb); clear HB; replace BK186 := A3_ (ukb3_ BK186.out hb); replace BK187 := A3_ (ukb3_ BK187.out hb); have HB := n2_; clear n2_; (try clear hb); (try clear hb2); (try clear hk); (try clear hi)))
  go_ret
  exact ⟨by first | rfl | (simp [errW_none, errW_some] <;> rfl) | (simp [*, errW_none, errW_some] <;> rfl), by repeat (first | (with_reducible first | exact HB.out | apply ba3_ | apply bn3_ | apply bd3_ | refine ubs3_ ?_ (by assumption)) | exact HB.out)⟩
 ·rw [if_neg c4] at H
  have c4b0 : decide (t188 < 0) = false := decide_eq_false c4
  clear c4
  replace H := Option.bind_eq_some_iff.mp H
  obtain ⟨t189, A100, H⟩ := H
  replace H : ((laws_toClue.f a1_0 a1_1 a1_2).bind fun bt192 => ((spec_AddClue.f k t189 bt192.1 bt192.2.1 bt192.2.2).bind fun bt195 => ((laws_toPuzzle.f k l0_0).bind fun t200 => ((laws_toClue.f a1_0 a1_1 a1_2).bind fun bt204 => ((impl_AddClue.f k t200 bt204.1 bt204.2.1 bt204.2.2).bind fun bt207 => ((laws_eqPuzzle.f k bt207.1 bt195.1).bind fun t212 => (if t212 = true then (j0 k bt195.2 bt207.2 (bt207.2 != bt195.2) l0_0 a1_0 a1_1 a1_2 bt195.1 t200 bt207.1) else (j0 k bt195.2 bt207.2 true l0_0 a1_0 a1_1 a1_2 bt195.1 t200 bt207.1)))))))) = some r := H
  have A10 := A3_ A100
  clear A100
  replace H := Option.bind_eq_some_iff.mp H
  obtain ⟨⟨t192, t193, t194⟩, A110, H⟩ := H
  replace H : ((spec_AddClue.f k t189 t192 t193 t194).bind fun bt195 => ((laws_toPuzzle.f k l0_0).bind fun t200 => ((laws_toClue.f a1_0 a1_1 a1_2).bind fun bt204 => ((impl_AddClue.f k t200 bt204.1 bt204.2.1 bt204.2.2).bind fun bt207 => ((laws_eqPuzzle.f k bt207.1 bt195.1).bind fun t212 => (if t212 = true then (j0 k bt195.2 bt207.2 (bt207.2 != bt195.2) l0_0 a1_0 a1_1 a1_2 bt195.1 t200 bt207.1) else (j0 k bt195.2 bt207.2 true l0_0 a1_0 a1_1 a1_2 bt195.1 t200 bt207.1))))))) = some r := H
  have A11 := A3_ A110
  clear A110
  replace H := Option.bind_eq_some_iff.mp H
  obtain ⟨⟨t195, t198⟩, A120, H⟩ := H
  replace H : ((laws_toPuzzle.f k l0_0).bind fun t200 => ((laws_toClue.f a1_0 a1_1 a1_2).bind fun bt204 => ((impl_AddClue.f k t200 bt204.1 bt204.2.1 bt204.2.2).bind fun bt207 => ((laws_eqPuzzle.f k bt207.1 t195).bind fun t212 => (if t212 = true then (j0 k t198 bt207.2 (bt207.2 != t198) l0_0 a1_0 a1_1 a1_2 t195 t200 bt207.1) else (j0 k t198 bt207.2 true l0_0 a1_0 a1_1 a1_2 t195 t200 bt207.1)))))) = some r := H
  have A12 := A3_ A120
  clear A120
  replace H := Option.bind_eq_some_iff.mp H
  obtain ⟨t200, A130, H⟩ := H
  replace H : ((laws_toClue.f a1_0 a1_1 a1_2).bind fun bt204 => ((impl_AddClue.f k t200 bt204.1 bt204.2.1 bt204.2.2).bind fun bt207 => ((laws_eqPuzzle.f k bt207.1 t195).bind fun t212 => (if t212 = true then (j0 k t198 bt207.2 (bt207.2 != t198) l0_0 a1_0 a1_1 a1_2 t195 t200 bt207.1) else (j0 k t198 bt207.2 true l0_0 a1_0 a1_1 a1_2 t195 t200 bt207.1))))) = some r := H
  have A13 := A3_ A130
  clear A130
  replace H := Option.bind_eq_some_iff.mp H
  obtain ⟨⟨t204, t205, t206⟩, A140, H⟩ := H
  replace H : ((impl_AddClue.f k t200 t204 t205 t206).bind fun bt207 => ((laws_eqPuzzle.f k bt207.1 t195).bind fun t212 => (if t212 = true then (j0 k t198 bt207.2 (bt207.2 != t198) l0_0 a1_0 a1_1 a1_2 t195 t200 bt207.1) else (j0 k t198 bt207.2 true l0_0 a1_0 a1_1 a1_2 t195 t200 bt207.1)))) = some r := H
  have A14 := A3_ A140
  clear A140
  replace H := Option.bind_eq_some_iff.mp H
  obtain ⟨⟨t207, t210⟩, A150, H⟩ := H
  replace H : ((laws_eqPuzzle.f k t207 t195).bind fun t212 => (if t212 = true then (j0 k t198 t210 (t210 != t198) l0_0 a1_0 a1_1 a1_2 t195 t200 t207) else (j0 k t198 t210 true l0_0 a1_0 a1_1 a1_2 t195 t200 t207))) = some r := H
  have A15 := A3_ A150
  clear A150
  have HC16 := A3_ H
  clear H
  go_enter Try.func3, Try.ntmps3
  try go_wp2_with (first | ((with_reducible refine gate_dst (N := 2) rfl ?_); refine box_event ?hg (N := 2) ?hd (cs := #[.slice A0_0 l0_0.length c0_0]) (t := 24) ?hr ?_; (case hd => rfl); (case hg => rfl); (case hr => first | (go_simp; done) | (go_simp; rfl)); intro gb186 hg w17 hbox hb; have n0_ := A3_ (bt3_ (by exact ub3_ HB.out) hb); have n1_ := A3_ (hbox); have n2_ := A3_ ((by rw [hg]; exact (below_size (by exact ub3_ HB.out)) : w.heap.size ≤ gb186)); have n3_ := A3_ ((by rw [hg]; exact (below_size (by exact ub3_ HB.out)) : w.heap.size ≤ gb186)); clear HB; have HB := n0_; have BK186 := n1_; have GW186 := n2_; have GE186 := n3_; clear n0_ n1_ n2_ n3_; clear hb hbox hg) | ((with_reducible refine gate_dst (N := 3) rfl ?_); refine box_event ?hg (N := 3) ?hd (cs := #[.int .i64 a1_0, .int .i64 a1_1, .int .i64 a1_2]) (t := 26) ?hr ?_; (case hd => rfl); (case hg => rfl); (case hr => first | (go_simp; done) | (go_simp; rfl)); intro gb187 hg w18 hbox hb; have n1_ := A3_ (bt3_ (by repeat (first | (with_reducible first | exact HB.out | apply ba3_ | apply bn3_ | apply bd3_ | refine ubs3_ ?_ (by assumption)) | exact HB.out)) hb); have n2_ := A3_ (hbox); have n3_ := A3_ ((by rw [hg]; exact (below_size (by repeat (first | (with_reducible first | exact HB.out | apply ba3_ | apply bn3_ | apply bd3_ | refine ubs3_ ?_ (by assumption)) | exact HB.out))) : w.heap.size ≤ gb187)); have n4_ := A3_ ((by rw [hg]; exact (below_size (by repeat (first | (with_reducible first | exact HB.out | apply ba3_ | apply bn3_ | apply bd3_ | refine ubs3_ ?_ (by assumption)) | exact HB.out))) : w.heap.size ≤ gb187)); have n5_ := A3_ ((by rw [hg]; exact Nat.ne_of_lt (ukl3_ BK186.out) : gb186 ≠ gb187)); have n6_ := A3_ ((by rw [hg]; exact Nat.ne_of_gt (ukl3_ BK186.out) : gb187 ≠ gb186)); clear HB; replace BK186 := A3_ (ukb3_ BK186.out hb); have HB := n1_; have BK187 := n2_; have GW187 := n3_; have GE187 := n4_; have NB186_187 := n5_; have NB187_186 := n6_; clear n1_ n2_ n3_ n4_ n5_ n6_; clear hb hbox hg; have hnb19 := NB186_187.out; have hnc19 := NB187_186.out; have hcz20_0 : w18.cell? ⟨gb186, 0, none⟩ = some (.slice A0_0 l0_0.length c0_0) := (blk_cell BK186.out 0).trans rfl; have hfz20_0 := blk_frozen BK186.out 0) | ((with_reducible refine gate_callee (f := 5) rfl ?_); refine goesL_ (some 18) rfl rfl Try.func5 (by kernel_rfl) rfl #[.agg #[.slice A0_0 l0_0.length c0_0], .int .i64 1048576] rfl (by (try simp only [List.map_toArray, List.map_cons, List.map_nil]); first | done | rfl | (simp only [List.length_drop, List.length_take]; rfl)) ?_; (with_reducible refine (laws_szPuzzle.calls _ _ l0_0 1048576 t188 _ ?side1 ?side2 A3.out).mono ?_); (case side1 => exact uc3_ ((Kd.C_below HR0_0.out HB.out))); (case side2 => exact HC0_0.out); rintro e w21 ⟨rfl, hb⟩; refine ⟨_, rfl, ?_⟩; have n2_ := A3_ (bt3_ (by repeat (first | (with_reducible first | exact HB.out | apply ba3_ | apply bn3_ | apply bd3_ | refine ubs3_ ?_ (by assumption)) | exact HB.out)) hb); clear HB; replace BK186 := A3_ (ukb3_ BK186.out hb); replace BK187 := A3_ (ukb3_ BK187.out hb); have HB := n2_; clear n2_; (try clear hb); (try clear hb2); (try clear hk); (try clear hi)))
  have n0_ := A3_ (kd3_ BK186.out)
  have n1_ := A3_ (kd3_ BK187.out)
  have n2_ := A3_ (bd3_ HB.out)
  clear BK186
  clear BK187
  clear HB
  have BK186 := n0_
  have BK187 := n1_
  have HB := n2_
  clear n0_ n1_ n2_
  refine start_ (n := 11) (S := fun w' => w'.cell? ⟨gb186, 0, none⟩ = some (.slice A0_0 l0_0.length c0_0) ∧ w'.cell? ⟨gb187, 0, none⟩ = some (.int .i64 a1_0) ∧ w'.cell? ⟨gb187, 1, none⟩ = some (.int .i64 a1_1) ∧ w'.cell? ⟨gb187, 2, none⟩ = some (.int .i64 a1_2)) (ds := []) #[false, false, false, false, false, false, false, false, false, false, false] (by kernel_rfl) rfl rfl ⟨(blk_cell BK186.out 0).trans rfl, (blk_cell BK187.out 0).trans rfl, (blk_cell BK187.out 1).trans rfl, (blk_cell BK187.out 2).trans rfl⟩ (fun hHeld => ?_); refine with_tabW laws_FnExactAddClue.tab5 laws_FnExactAddClue.bits5 (fun HT_ HW_ => ?_)
  generalize w21.drew = w22 at BK186 BK187 HB hHeld ⊢
  refine take_ (i := 0) (N := some 22) (v := ?_) (a' := ?_) #[true, false, false, false, false, false, false, false, false, false, false] rfl rfl (take_ofW HT_.out HW_.out (by kernel_rfl)) (fun _ _ _ h => h) (Or.inl ⟨by rfl, ?_⟩) hHeld ?_ ?_
  rotate_left
  ·rintro w' ⟨s0, s1, s2, s3⟩
   go_simp
   with_reducible rfl
  rotate_left
  ·simp only [Act.put, us3_, ut3_, uv3_, i64_w, i32_w]
   rfl
  refine take_ (i := 2) (N := some 24) (v := ?_) (a' := ?_) #[true, false, true, false, false, false, false, false, false, false, false] rfl rfl (take_ofW HT_.out HW_.out (by kernel_rfl)) (fun _ _ _ h => h) (Or.inl ⟨by rfl, ?_⟩) hHeld ?_ ?_
  rotate_left
  ·rintro w' ⟨s0, s1, s2, s3⟩
   go_simp
   with_reducible rfl
  rotate_left
  ·simp only [Act.put, us3_, ut3_, uv3_, i64_w, i32_w]
   rfl
  refine join_ (σ := Value × Value × Nat) 2 #[true, true, true, true, true, true, true, true, true, false, false] (fun s_ => [(23, .agg #[s_.1]), (25, .agg #[.int .i64 t192, .int .i64 t193, .int .i64 t194]), (26, .tuple #[.agg #[s_.2.1], .bool t198]), (6, .pointer (some ⟨s_.2.2, 0, none⟩)), (21, .tuple #[.agg #[s_.2.1], .bool t198]), (27, .agg #[s_.2.1]), (28, .bool t198)]) (fun s_ w' => (w'.cell? ⟨gb186, 0, none⟩ = some (.slice A0_0 l0_0.length c0_0) ∧ w'.cell? ⟨gb187, 0, none⟩ = some (.int .i64 a1_0) ∧ w'.cell? ⟨gb187, 1, none⟩ = some (.int .i64 a1_1) ∧ w'.cell? ⟨gb187, 2, none⟩ = some (.int .i64 a1_2)) ∧ (Kd.R k34 34 w' w.heap.size (fun k_ => some k_ ≠ (s_.2.1 : Value).ownBlock) s_.1 t189) ∧ (Kd.R k34 34 w' w.heap.size (fun k_ => some k_ ≠ (s_.1 : Value).ownBlock) s_.2.1 t195) ∧ (w'.heap[gb186]? = some (.cells #[.slice A0_0 l0_0.length c0_0] 24 (0, 0))) ∧ (w'.heap[gb187]? = some (.cells #[.int .i64 a1_0, .int .i64 a1_1, .int .i64 a1_2] 26 (0, 0))) ∧ (w'.heap[s_.2.2]? = some (.cells #[.slice none 0 0] 30 (0, 0))) ∧ (w.heap.size ≤ s_.2.2) ∧ (w.heap.size ≤ s_.2.2) ∧ (gb186 ≠ s_.2.2) ∧ (s_.2.2 ≠ gb186) ∧ (gb187 ≠ s_.2.2) ∧ (s_.2.2 ≠ gb187) ∧ (Below w.heap.size w w')) ?_ ?_
  rotate_left
  ·intro hCont
   refine two_ (i := 1) (j := 8) (Ni := some 23) (Nj := some 6) #[true, true, true, false, false, false, false, false, false, false, false] #[true, false, true, false, false, false, false, false, true, false, false] rfl rfl rfl rfl (two_of HT_.out (by kernel_rfl)) (by decide) (by decide) (fun K hK => ?_) (fun K hK => ?_)
   ·skip
    refine goes_ Try.func7 (by kernel_rfl) rfl #[.agg #[.slice A0_0 l0_0.length c0_0]] (by rfl) rfl rfl (by (try simp only [List.map_toArray, List.map_cons, List.map_nil]); first | done | rfl | (simp only [List.length_drop, List.length_take]; rfl)) ?_
    with_reducible refine (laws_toPuzzle.calls k _ _ l0_0 t189 _ ?side1 ?side2 A10.out).mono ?_
    (case side1 => repeat (first | exact (Kd.C_below HR0_0.out HB.out) | (with_reducible refine Kd.C_alloc ?_ _) | (with_reducible refine Kd.C_drewN ?_ _) | (with_reducible refine Kd.C_drew ?_)))
    (case side2 => exact HC0_0.out)
    rintro e w23 ⟨v190, rfl, ho0, hb⟩
    refine ⟨_, rfl, ?_⟩
    have n0_ := A3_ (Kd.R_lower ho0 (below_size (by repeat (first | (with_reducible first | exact HB.out | apply ba3_ | apply bn3_ | apply bd3_ | refine ubs3_ ?_ (by assumption)) | exact HB.out))))
    have n3_ := A3_ (bt3_ (by repeat (first | (with_reducible first | exact HB.out | apply ba3_ | apply bn3_ | apply bd3_ | refine ubs3_ ?_ (by assumption)) | exact HB.out)) hb)
    clear HB
    have HO191 := n0_
    replace BK186 := A3_ (ukb3_ BK186.out hb)
    replace BK187 := A3_ (ukb3_ BK187.out hb)
    have HB := n3_
    clear n0_ n3_
    (try clear hb)
    (try clear hb2)
    (try clear hk)
    (try clear hi)
    (try clear ho0)
    refine hK.out _ _ ⟨(blk_cell BK186.out 0).trans rfl, (blk_cell BK187.out 0).trans rfl, (blk_cell BK187.out 1).trans rfl, (blk_cell BK187.out 2).trans rfl⟩ (fun hHeld => ?_)
    clear hK K
    refine norm_ (a' := ?_) ?_ ?_
    rotate_left
    ·show Act.put _ (some 23) _ = _
     simp only [Act.put, us3_, ut3_, uv3_, i64_w, i32_w]
     rfl
    refine two_ (i := 3) (j := 8) (Ni := some 25) (Nj := some 6) #[true, true, true, true, false, false, false, false, false, false, false] #[true, true, true, false, false, false, false, false, true, false, false] rfl rfl rfl rfl (two_of HT_.out (by kernel_rfl)) (by decide) (by decide) (fun K hK => ?_) (fun K hK => ?_)
    ·skip
     refine goes_ Try.func8 (by kernel_rfl) rfl #[.agg #[.int .i64 a1_0, .int .i64 a1_1, .int .i64 a1_2]] (by rfl) rfl rfl (by (try simp only [List.map_toArray, List.map_cons, List.map_nil]); first | done | rfl | (simp only [List.length_drop, List.length_take]; rfl)) ?_
     with_reducible refine (laws_toClue.calls a1_0 a1_1 a1_2 t192 t193 t194 _ A11.out).mono ?_
     rintro e w24 ⟨rfl, hb⟩
     refine ⟨_, rfl, ?_⟩
     have n0_ := A3_ (Kd.R_below (by exact ur3_ HO191.out) hb)
     have n3_ := A3_ (bt3_ (by repeat (first | (with_reducible first | exact HB.out | apply ba3_ | apply bn3_ | apply bd3_ | refine ubs3_ ?_ (by assumption)) | exact HB.out)) hb)
     clear HO191
     clear HB
     have HO191 := n0_
     replace BK186 := A3_ (ukb3_ BK186.out hb)
     replace BK187 := A3_ (ukb3_ BK187.out hb)
     have HB := n3_
     clear n0_ n3_
     (try clear hb)
     (try clear hb2)
     (try clear hk)
     (try clear hi)
     obtain ⟨Ao25, co25, eo25⟩ := Kd.R_slice HO191.out
     (first | subst eo25 | (injection eo25 with f1_ f2_ f3_; have f4_ := f1_.symm; have f5_ := f3_.symm; clear f1_ f2_ f3_; subst f4_; subst f5_))
     refine hK.out _ _ ⟨(blk_cell BK186.out 0).trans rfl, (blk_cell BK187.out 0).trans rfl, (blk_cell BK187.out 1).trans rfl, (blk_cell BK187.out 2).trans rfl⟩ (fun hHeld => ?_)
     clear hK K
     refine norm_ (a' := ?_) ?_ ?_
     rotate_left
     ·show Act.put _ (some 25) _ = _
      simp only [Act.put, us3_, ut3_, uv3_, i64_w, i32_w]
      rfl
     refine two_ (i := 4) (j := 8) (Ni := some 26) (Nj := some 6) #[true, true, true, true, true, false, false, false, false, false, false] #[true, true, true, true, false, false, false, false, true, false, false] rfl rfl rfl rfl (two_of HT_.out (by kernel_rfl)) (by decide) (by decide) (fun K hK => ?_) (fun K hK => ?_)
     ·skip
      refine goes_ Try.func6 (by kernel_rfl) rfl #[.agg #[.slice Ao25 t189.length co25], .agg #[.int .i64 t192, .int .i64 t193, .int .i64 t194]] (by rfl) rfl rfl (by (try simp only [List.map_toArray, List.map_cons, List.map_nil]); first | done | rfl | (simp only [List.length_drop, List.length_take]; rfl)) ?_
      with_reducible refine (spec_AddClue.calls k _ _ t189 t192 t193 t194 t195 t198 _ ?side1 ?side2 A12.out).mono ?_
      (case side1 => repeat (first | exact (Kd.R_reads' HO191.out).2.2 | (with_reducible refine Kd.C_alloc ?_ _) | (with_reducible refine Kd.C_drewN ?_ _) | (with_reducible refine Kd.C_drew ?_)))
      (case side2 => exact (Kd.R_reads' HO191.out).2.1)
      rintro e w26 ⟨v196, rfl, ho0, hb⟩
      refine ⟨_, rfl, ?_⟩
      have n0_ := A3_ (re3_ (by exact ur3_ HO191.out) (Kd.R_base ho0) hb)
      have n1_ := A3_ (Kd.R_lower (Kd.R_new' ho0 (Kd.R_lt (by exact ur3_ HO191.out))) (below_size (by repeat (first | (with_reducible first | exact HB.out | apply ba3_ | apply bn3_ | apply bd3_ | refine ubs3_ ?_ (by assumption)) | exact HB.out))))
      have n4_ := A3_ (bt3_ (by repeat (first | (with_reducible first | exact HB.out | apply ba3_ | apply bn3_ | apply bd3_ | refine ubs3_ ?_ (by assumption)) | exact HB.out)) hb)
      clear HO191
      clear HB
      have HO191 := n0_
      have HO197 := n1_
      replace BK186 := A3_ (ukb3_ BK186.out hb)
      replace BK187 := A3_ (ukb3_ BK187.out hb)
      have HB := n4_
      clear n0_ n1_ n4_
      (try clear hb)
      (try clear hb2)
      (try clear hk)
      (try clear hi)
      (try clear ho0)
      refine hK.out _ _ ⟨(blk_cell BK186.out 0).trans rfl, (blk_cell BK187.out 0).trans rfl, (blk_cell BK187.out 1).trans rfl, (blk_cell BK187.out 2).trans rfl⟩ (fun hHeld => ?_)
      clear hK K
      refine norm_ (a' := ?_) ?_ ?_
      rotate_left
      ·show Act.put _ (some 26) _ = _
       simp only [Act.put, us3_, ut3_, uv3_, i64_w, i32_w]
       rfl
      refine pure_ (i := 5) (N := some 21) (v := ?_) (a' := ?_) #[true, true, true, true, true, true, false, false, false, false, false] rfl rfl (any_of HT_.out (by kernel_rfl)) (fun _ _ _ h => h) (Or.inl ⟨by rfl, ?_⟩) ?_ ?_
      rotate_left
      ·intro w'
       go_simp
       with_reducible rfl
      rotate_left
      ·simp only [Act.put, us3_, ut3_, uv3_, i64_w, i32_w]
       rfl
      refine pure_ (i := 6) (N := some 27) (v := ?_) (a' := ?_) #[true, true, true, true, true, true, true, false, false, false, false] rfl rfl (any_of HT_.out (by kernel_rfl)) (fun _ _ _ h => h) (Or.inl ⟨by rfl, ?_⟩) ?_ ?_
      rotate_left
      ·intro w'
       go_simp
       with_reducible rfl
      rotate_left
      ·simp only [Act.put, us3_, ut3_, uv3_, i64_w, i32_w]
       rfl
      refine pure_ (i := 7) (N := some 28) (v := ?_) (a' := ?_) #[true, true, true, true, true, true, true, true, false, false, false] rfl rfl (any_of HT_.out (by kernel_rfl)) (fun _ _ _ h => h) (Or.inl ⟨by rfl, ?_⟩) ?_ ?_
      rotate_left
      ·intro w'
       go_simp
       with_reducible rfl
      rotate_left
      ·simp only [Act.put, us3_, ut3_, uv3_, i64_w, i32_w]
       rfl
      refine one_ (i := 8) (N := some 6) #[true, true, true, true, true, true, true, true, true, false, false] rfl rfl (one_of HT_.out (by kernel_rfl)) (by decide) (fun K hK => ?_)
      refine box_step ?hg (N := 6) ?hd (cs := #[.slice none 0 0]) (t := 30) ?hr ?_; (case hd => rfl); (case hg => rfl); (case hr => first | (go_simp; done) | (go_simp; rfl))
      intro gb199 hg w27 hbox hb
      have n0_ := A3_ (Kd.R_below (by exact ur3_ HO191.out) hb)
      have n1_ := A3_ (Kd.R_below (by exact ur3_ HO197.out) hb)
      have n4_ := A3_ (bt3_ (by repeat (first | (with_reducible first | exact HB.out | apply ba3_ | apply bn3_ | apply bd3_ | refine ubs3_ ?_ (by assumption)) | exact HB.out)) hb)
      have n5_ := A3_ (hbox)
      have n6_ := A3_ ((by rw [hg]; exact (below_size (by repeat (first | (with_reducible first | exact HB.out | apply ba3_ | apply bn3_ | apply bd3_ | refine ubs3_ ?_ (by assumption)) | exact HB.out))) : w.heap.size ≤ gb199))
      have n7_ := A3_ ((by rw [hg]; exact (below_size (by repeat (first | (with_reducible first | exact HB.out | apply ba3_ | apply bn3_ | apply bd3_ | refine ubs3_ ?_ (by assumption)) | exact HB.out))) : w.heap.size ≤ gb199))
      have n8_ := A3_ ((by rw [hg]; exact Nat.ne_of_lt (ukl3_ BK186.out) : gb186 ≠ gb199))
      have n9_ := A3_ ((by rw [hg]; exact Nat.ne_of_gt (ukl3_ BK186.out) : gb199 ≠ gb186))
      have n10_ := A3_ ((by rw [hg]; exact Nat.ne_of_lt (ukl3_ BK187.out) : gb187 ≠ gb199))
      have n11_ := A3_ ((by rw [hg]; exact Nat.ne_of_gt (ukl3_ BK187.out) : gb199 ≠ gb187))
      clear HO191
      clear HO197
      clear HB
      have HO191 := n0_
      have HO197 := n1_
      replace BK186 := A3_ (ukb3_ BK186.out hb)
      replace BK187 := A3_ (ukb3_ BK187.out hb)
      have HB := n4_
      have BK199 := n5_
      have GW199 := n6_
      have GE199 := n7_
      have NB186_199 := n8_
      have NB199_186 := n9_
      have NB187_199 := n10_
      have NB199_187 := n11_
      clear n0_ n1_ n4_ n5_ n6_ n7_ n8_ n9_ n10_ n11_
      clear hb hbox hg
      refine hK.out _ _ ⟨(blk_cell BK186.out 0).trans rfl, (blk_cell BK187.out 0).trans rfl, (blk_cell BK187.out 1).trans rfl, (blk_cell BK187.out 2).trans rfl⟩ (fun hHeld => ?_)
      clear hK K
      refine norm_ (a' := ?_) ?_ ?_
      rotate_left
      ·show Act.put _ (some 6) _ = _
       simp only [Act.put, us3_, ut3_, uv3_, i64_w, i32_w]
       rfl
      exact norm_ (by simp only [putAll, Act.put, List.setIfInBounds_toArray, List.set_cons_zero, List.set_cons_succ]) (hCont (.slice Ao25 t189.length co25, v196, gb199) _ ⟨hHeld, (by (with_reducible repeat (first | apply ra3_ | apply rn3_ | apply rd3_)); exact Kd.R_mono HO191.out (fun _ hk => hk.2)), (by (with_reducible repeat (first | apply ra3_ | apply rn3_ | apply rd3_)); exact Kd.R_mono HO197.out (fun _ hk => hk.2)), (by exact uk3_ BK186.out), (by exact uk3_ BK187.out), (by exact uk3_ BK199.out), GW199.out, GE199.out, NB186_199.out, NB199_186.out, NB187_199.out, NB199_187.out, (by repeat (first | (with_reducible first | exact HB.out | apply ba3_ | apply bn3_ | apply bd3_ | refine ubs3_ ?_ (by assumption)) | exact HB.out))⟩)
     ·skip
      refine box_step ?hg (N := 6) ?hd (cs := #[.slice none 0 0]) (t := 30) ?hr ?_; (case hd => rfl); (case hg => rfl); (case hr => first | (go_simp; done) | (go_simp; rfl))
      intro gb199 hg w25 hbox hb
      have n0_ := A3_ (Kd.R_below (by exact ur3_ HO191.out) hb)
      have n3_ := A3_ (bt3_ (by repeat (first | (with_reducible first | exact HB.out | apply ba3_ | apply bn3_ | apply bd3_ | refine ubs3_ ?_ (by assumption)) | exact HB.out)) hb)
      have n4_ := A3_ (hbox)
      have n5_ := A3_ ((by rw [hg]; exact (below_size (by repeat (first | (with_reducible first | exact HB.out | apply ba3_ | apply bn3_ | apply bd3_ | refine ubs3_ ?_ (by assumption)) | exact HB.out))) : w.heap.size ≤ gb199))
      have n6_ := A3_ ((by rw [hg]; exact (below_size (by repeat (first | (with_reducible first | exact HB.out | apply ba3_ | apply bn3_ | apply bd3_ | refine ubs3_ ?_ (by assumption)) | exact HB.out))) : w.heap.size ≤ gb199))
      have n7_ := A3_ ((by rw [hg]; exact Nat.ne_of_lt (ukl3_ BK186.out) : gb186 ≠ gb199))
      have n8_ := A3_ ((by rw [hg]; exact Nat.ne_of_gt (ukl3_ BK186.out) : gb199 ≠ gb186))
      have n9_ := A3_ ((by rw [hg]; exact Nat.ne_of_lt (ukl3_ BK187.out) : gb187 ≠ gb199))
      have n10_ := A3_ ((by rw [hg]; exact Nat.ne_of_gt (ukl3_ BK187.out) : gb199 ≠ gb187))
      clear HO191
      clear HB
      have HO191 := n0_
      replace BK186 := A3_ (ukb3_ BK186.out hb)
      replace BK187 := A3_ (ukb3_ BK187.out hb)
      have HB := n3_
      have BK199 := n4_
      have GW199 := n5_
      have GE199 := n6_
      have NB186_199 := n7_
      have NB199_186 := n8_
      have NB187_199 := n9_
      have NB199_187 := n10_
      clear n0_ n3_ n4_ n5_ n6_ n7_ n8_ n9_ n10_
      clear hb hbox hg
      obtain ⟨Ao26, co26, eo26⟩ := Kd.R_slice HO191.out
      (first | subst eo26 | (injection eo26 with f1_ f2_ f3_; have f4_ := f1_.symm; have f5_ := f3_.symm; clear f1_ f2_ f3_; subst f4_; subst f5_))
      refine hK.out _ _ ⟨(blk_cell BK186.out 0).trans rfl, (blk_cell BK187.out 0).trans rfl, (blk_cell BK187.out 1).trans rfl, (blk_cell BK187.out 2).trans rfl⟩ (fun hHeld => ?_)
      clear hK K
      refine norm_ (a' := ?_) ?_ ?_
      rotate_left
      ·show Act.put _ (some 6) _ = _
       simp only [Act.put, us3_, ut3_, uv3_, i64_w, i32_w]
       rfl
      refine one_ (i := 4) (N := some 26) #[true, true, true, true, true, false, false, false, true, false, false] rfl rfl (one_of HT_.out (by kernel_rfl)) (by decide) (fun K hK => ?_)
      refine goes_ Try.func6 (by kernel_rfl) rfl #[.agg #[.slice Ao26 t189.length co26], .agg #[.int .i64 t192, .int .i64 t193, .int .i64 t194]] (by rfl) rfl rfl (by (try simp only [List.map_toArray, List.map_cons, List.map_nil]); first | done | rfl | (simp only [List.length_drop, List.length_take]; rfl)) ?_
      with_reducible refine (spec_AddClue.calls k _ _ t189 t192 t193 t194 t195 t198 _ ?side1 ?side2 A12.out).mono ?_
      (case side1 => repeat (first | exact (Kd.R_reads' HO191.out).2.2 | (with_reducible refine Kd.C_alloc ?_ _) | (with_reducible refine Kd.C_drewN ?_ _) | (with_reducible refine Kd.C_drew ?_)))
      (case side2 => exact (Kd.R_reads' HO191.out).2.1)
      rintro e w27 ⟨v196, rfl, ho0, hb⟩
      refine ⟨_, rfl, ?_⟩
      have n0_ := A3_ (re3_ (by exact ur3_ HO191.out) (Kd.R_base ho0) hb)
      have n1_ := A3_ (Kd.R_lower (Kd.R_new' ho0 (Kd.R_lt (by exact ur3_ HO191.out))) (below_size (by repeat (first | (with_reducible first | exact HB.out | apply ba3_ | apply bn3_ | apply bd3_ | refine ubs3_ ?_ (by assumption)) | exact HB.out))))
      have n5_ := A3_ (bt3_ (by repeat (first | (with_reducible first | exact HB.out | apply ba3_ | apply bn3_ | apply bd3_ | refine ubs3_ ?_ (by assumption)) | exact HB.out)) hb)
      clear HO191
      clear HB
      have HO191 := n0_
      have HO197 := n1_
      replace BK186 := A3_ (ukb3_ BK186.out hb)
      replace BK187 := A3_ (ukb3_ BK187.out hb)
      replace BK199 := A3_ (ukb3_ BK199.out hb)
      have HB := n5_
      clear n0_ n1_ n5_
      (try clear hb)
      (try clear hb2)
      (try clear hk)
      (try clear hi)
      (try clear ho0)
      refine hK.out _ _ ⟨(blk_cell BK186.out 0).trans rfl, (blk_cell BK187.out 0).trans rfl, (blk_cell BK187.out 1).trans rfl, (blk_cell BK187.out 2).trans rfl⟩ (fun hHeld => ?_)
      clear hK K
      refine norm_ (a' := ?_) ?_ ?_
      rotate_left
      ·show Act.put _ (some 26) _ = _
       simp only [Act.put, us3_, ut3_, uv3_, i64_w, i32_w]
       rfl
      refine pure_ (i := 5) (N := some 21) (v := ?_) (a' := ?_) #[true, true, true, true, true, true, false, false, true, false, false] rfl rfl (any_of HT_.out (by kernel_rfl)) (fun _ _ _ h => h) (Or.inl ⟨by rfl, ?_⟩) ?_ ?_
      rotate_left
      ·intro w'
       go_simp
       with_reducible rfl
      rotate_left
      ·simp only [Act.put, us3_, ut3_, uv3_, i64_w, i32_w]
       rfl
      refine pure_ (i := 6) (N := some 27) (v := ?_) (a' := ?_) #[true, true, true, true, true, true, true, false, true, false, false] rfl rfl (any_of HT_.out (by kernel_rfl)) (fun _ _ _ h => h) (Or.inl ⟨by rfl, ?_⟩) ?_ ?_
      rotate_left
      ·intro w'
       go_simp
       with_reducible rfl
      rotate_left
      ·simp only [Act.put, us3_, ut3_, uv3_, i64_w, i32_w]
       rfl
      refine pure_ (i := 7) (N := some 28) (v := ?_) (a' := ?_) #[true, true, true, true, true, true, true, true, true, false, false] rfl rfl (any_of HT_.out (by kernel_rfl)) (fun _ _ _ h => h) (Or.inl ⟨by rfl, ?_⟩) ?_ ?_
      rotate_left
      ·intro w'
       go_simp
       with_reducible rfl
      rotate_left
      ·simp only [Act.put, us3_, ut3_, uv3_, i64_w, i32_w]
       rfl
      exact norm_ (by simp only [putAll, Act.put, List.setIfInBounds_toArray, List.set_cons_zero, List.set_cons_succ]) (hCont (.slice Ao26 t189.length co26, v196, gb199) _ ⟨hHeld, (by (with_reducible repeat (first | apply ra3_ | apply rn3_ | apply rd3_)); exact Kd.R_mono HO191.out (fun _ hk => hk.2)), (by (with_reducible repeat (first | apply ra3_ | apply rn3_ | apply rd3_)); exact Kd.R_mono HO197.out (fun _ hk => hk.2)), (by exact uk3_ BK186.out), (by exact uk3_ BK187.out), (by exact uk3_ BK199.out), GW199.out, GE199.out, NB186_199.out, NB199_186.out, NB187_199.out, NB199_187.out, (by repeat (first | (with_reducible first | exact HB.out | apply ba3_ | apply bn3_ | apply bd3_ | refine ubs3_ ?_ (by assumption)) | exact HB.out))⟩)
    ·skip
     refine box_step ?hg (N := 6) ?hd (cs := #[.slice none 0 0]) (t := 30) ?hr ?_; (case hd => rfl); (case hg => rfl); (case hr => first | (go_simp; done) | (go_simp; rfl))
     intro gb199 hg w24 hbox hb
     have n0_ := A3_ (Kd.R_below (by exact ur3_ HO191.out) hb)
     have n3_ := A3_ (bt3_ (by repeat (first | (with_reducible first | exact HB.out | apply ba3_ | apply bn3_ | apply bd3_ | refine ubs3_ ?_ (by assumption)) | exact HB.out)) hb)
     have n4_ := A3_ (hbox)
     have n5_ := A3_ ((by rw [hg]; exact (below_size (by repeat (first | (with_reducible first | exact HB.out | apply ba3_ | apply bn3_ | apply bd3_ | refine ubs3_ ?_ (by assumption)) | exact HB.out))) : w.heap.size ≤ gb199))
     have n6_ := A3_ ((by rw [hg]; exact (below_size (by repeat (first | (with_reducible first | exact HB.out | apply ba3_ | apply bn3_ | apply bd3_ | refine ubs3_ ?_ (by assumption)) | exact HB.out))) : w.heap.size ≤ gb199))
     have n7_ := A3_ ((by rw [hg]; exact Nat.ne_of_lt (ukl3_ BK186.out) : gb186 ≠ gb199))
     have n8_ := A3_ ((by rw [hg]; exact Nat.ne_of_gt (ukl3_ BK186.out) : gb199 ≠ gb186))
     have n9_ := A3_ ((by rw [hg]; exact Nat.ne_of_lt (ukl3_ BK187.out) : gb187 ≠ gb199))
     have n10_ := A3_ ((by rw [hg]; exact Nat.ne_of_gt (ukl3_ BK187.out) : gb199 ≠ gb187))
     clear HO191
     clear HB
     have HO191 := n0_
     replace BK186 := A3_ (ukb3_ BK186.out hb)
     replace BK187 := A3_ (ukb3_ BK187.out hb)
     have HB := n3_
     have BK199 := n4_
     have GW199 := n5_
     have GE199 := n6_
     have NB186_199 := n7_
     have NB199_186 := n8_
     have NB187_199 := n9_
     have NB199_187 := n10_
     clear n0_ n3_ n4_ n5_ n6_ n7_ n8_ n9_ n10_
     clear hb hbox hg
     refine hK.out _ _ ⟨(blk_cell BK186.out 0).trans rfl, (blk_cell BK187.out 0).trans rfl, (blk_cell BK187.out 1).trans rfl, (blk_cell BK187.out 2).trans rfl⟩ (fun hHeld => ?_)
     clear hK K
     refine norm_ (a' := ?_) ?_ ?_
     rotate_left
     ·show Act.put _ (some 6) _ = _
      simp only [Act.put, us3_, ut3_, uv3_, i64_w, i32_w]
      rfl
     refine one_ (i := 3) (N := some 25) #[true, true, true, true, false, false, false, false, true, false, false] rfl rfl (one_of HT_.out (by kernel_rfl)) (by decide) (fun K hK => ?_)
     refine goes_ Try.func8 (by kernel_rfl) rfl #[.agg #[.int .i64 a1_0, .int .i64 a1_1, .int .i64 a1_2]] (by rfl) rfl rfl (by (try simp only [List.map_toArray, List.map_cons, List.map_nil]); first | done | rfl | (simp only [List.length_drop, List.length_take]; rfl)) ?_
     with_reducible refine (laws_toClue.calls a1_0 a1_1 a1_2 t192 t193 t194 _ A11.out).mono ?_
     rintro e w25 ⟨rfl, hb⟩
     refine ⟨_, rfl, ?_⟩
     have n0_ := A3_ (Kd.R_below (by exact ur3_ HO191.out) hb)
     have n4_ := A3_ (bt3_ (by repeat (first | (with_reducible first | exact HB.out | apply ba3_ | apply bn3_ | apply bd3_ | refine ubs3_ ?_ (by assumption)) | exact HB.out)) hb)
     clear HO191
     clear HB
     have HO191 := n0_
     replace BK186 := A3_ (ukb3_ BK186.out hb)
     replace BK187 := A3_ (ukb3_ BK187.out hb)
     replace BK199 := A3_ (ukb3_ BK199.out hb)
     have HB := n4_
     clear n0_ n4_
     (try clear hb)
     (try clear hb2)
     (try clear hk)
     (try clear hi)
     obtain ⟨Ao26, co26, eo26⟩ := Kd.R_slice HO191.out
     (first | subst eo26 | (injection eo26 with f1_ f2_ f3_; have f4_ := f1_.symm; have f5_ := f3_.symm; clear f1_ f2_ f3_; subst f4_; subst f5_))
     refine hK.out _ _ ⟨(blk_cell BK186.out 0).trans rfl, (blk_cell BK187.out 0).trans rfl, (blk_cell BK187.out 1).trans rfl, (blk_cell BK187.out 2).trans rfl⟩ (fun hHeld => ?_)
     clear hK K
     refine norm_ (a' := ?_) ?_ ?_
     rotate_left
     ·show Act.put _ (some 25) _ = _
      simp only [Act.put, us3_, ut3_, uv3_, i64_w, i32_w]
      rfl
     refine one_ (i := 4) (N := some 26) #[true, true, true, true, true, false, false, false, true, false, false] rfl rfl (one_of HT_.out (by kernel_rfl)) (by decide) (fun K hK => ?_)
     refine goes_ Try.func6 (by kernel_rfl) rfl #[.agg #[.slice Ao26 t189.length co26], .agg #[.int .i64 t192, .int .i64 t193, .int .i64 t194]] (by rfl) rfl rfl (by (try simp only [List.map_toArray, List.map_cons, List.map_nil]); first | done | rfl | (simp only [List.length_drop, List.length_take]; rfl)) ?_
     with_reducible refine (spec_AddClue.calls k _ _ t189 t192 t193 t194 t195 t198 _ ?side1 ?side2 A12.out).mono ?_
     (case side1 => repeat (first | exact (Kd.R_reads' HO191.out).2.2 | (with_reducible refine Kd.C_alloc ?_ _) | (with_reducible refine Kd.C_drewN ?_ _) | (with_reducible refine Kd.C_drew ?_)))
     (case side2 => exact (Kd.R_reads' HO191.out).2.1)
     rintro e w27 ⟨v196, rfl, ho0, hb⟩
     refine ⟨_, rfl, ?_⟩
     have n0_ := A3_ (re3_ (by exact ur3_ HO191.out) (Kd.R_base ho0) hb)
     have n1_ := A3_ (Kd.R_lower (Kd.R_new' ho0 (Kd.R_lt (by exact ur3_ HO191.out))) (below_size (by repeat (first | (with_reducible first | exact HB.out | apply ba3_ | apply bn3_ | apply bd3_ | refine ubs3_ ?_ (by assumption)) | exact HB.out))))
     have n5_ := A3_ (bt3_ (by repeat (first | (with_reducible first | exact HB.out | apply ba3_ | apply bn3_ | apply bd3_ | refine ubs3_ ?_ (by assumption)) | exact HB.out)) hb)
     clear HO191
     clear HB
     have HO191 := n0_
     have HO197 := n1_
     replace BK186 := A3_ (ukb3_ BK186.out hb)
     replace BK187 := A3_ (ukb3_ BK187.out hb)
     replace BK199 := A3_ (ukb3_ BK199.out hb)
     have HB := n5_
     clear n0_ n1_ n5_
     (try clear hb)
     (try clear hb2)
     (try clear hk)
     (try clear hi)
     (try clear ho0)
     refine hK.out _ _ ⟨(blk_cell BK186.out 0).trans rfl, (blk_cell BK187.out 0).trans rfl, (blk_cell BK187.out 1).trans rfl, (blk_cell BK187.out 2).trans rfl⟩ (fun hHeld => ?_)
     clear hK K
     refine norm_ (a' := ?_) ?_ ?_
     rotate_left
     ·show Act.put _ (some 26) _ = _
      simp only [Act.put, us3_, ut3_, uv3_, i64_w, i32_w]
      rfl
     refine pure_ (i := 5) (N := some 21) (v := ?_) (a' := ?_) #[true, true, true, true, true, true, false, false, true, false, false] rfl rfl (any_of HT_.out (by kernel_rfl)) (fun _ _ _ h => h) (Or.inl ⟨by rfl, ?_⟩) ?_ ?_
     rotate_left
     ·intro w'
      go_simp
      with_reducible rfl
     rotate_left
     ·simp only [Act.put, us3_, ut3_, uv3_, i64_w, i32_w]
      rfl
     refine pure_ (i := 6) (N := some 27) (v := ?_) (a' := ?_) #[true, true, true, true, true, true, true, false, true, false, false] rfl rfl (any_of HT_.out (by kernel_rfl)) (fun _ _ _ h => h) (Or.inl ⟨by rfl, ?_⟩) ?_ ?_
     rotate_left
     ·intro w'
      go_simp
      with_reducible rfl
     rotate_left
     ·simp only [Act.put, us3_, ut3_, uv3_, i64_w, i32_w]
      rfl
     refine pure_ (i := 7) (N := some 28) (v := ?_) (a' := ?_) #[true, true, true, true, true, true, true, true, true, false, false] rfl rfl (any_of HT_.out (by kernel_rfl)) (fun _ _ _ h => h) (Or.inl ⟨by rfl, ?_⟩) ?_ ?_
     rotate_left
     ·intro w'
      go_simp
      with_reducible rfl
     rotate_left
     ·simp only [Act.put, us3_, ut3_, uv3_, i64_w, i32_w]
      rfl
     exact norm_ (by simp only [putAll, Act.put, List.setIfInBounds_toArray, List.set_cons_zero, List.set_cons_succ]) (hCont (.slice Ao26 t189.length co26, v196, gb199) _ ⟨hHeld, (by (with_reducible repeat (first | apply ra3_ | apply rn3_ | apply rd3_)); exact Kd.R_mono HO191.out (fun _ hk => hk.2)), (by (with_reducible repeat (first | apply ra3_ | apply rn3_ | apply rd3_)); exact Kd.R_mono HO197.out (fun _ hk => hk.2)), (by exact uk3_ BK186.out), (by exact uk3_ BK187.out), (by exact uk3_ BK199.out), GW199.out, GE199.out, NB186_199.out, NB199_186.out, NB187_199.out, NB199_187.out, (by repeat (first | (with_reducible first | exact HB.out | apply ba3_ | apply bn3_ | apply bd3_ | refine ubs3_ ?_ (by assumption)) | exact HB.out))⟩)
   ·skip
    refine box_step ?hg (N := 6) ?hd (cs := #[.slice none 0 0]) (t := 30) ?hr ?_; (case hd => rfl); (case hg => rfl); (case hr => first | (go_simp; done) | (go_simp; rfl))
    intro gb199 hg w23 hbox hb
    have n2_ := A3_ (bt3_ (by repeat (first | (with_reducible first | exact HB.out | apply ba3_ | apply bn3_ | apply bd3_ | refine ubs3_ ?_ (by assumption)) | exact HB.out)) hb)
    have n3_ := A3_ (hbox)
    have n4_ := A3_ ((by rw [hg]; exact (below_size (by repeat (first | (with_reducible first | exact HB.out | apply ba3_ | apply bn3_ | apply bd3_ | refine ubs3_ ?_ (by assumption)) | exact HB.out))) : w.heap.size ≤ gb199))
    have n5_ := A3_ ((by rw [hg]; exact (below_size (by repeat (first | (with_reducible first | exact HB.out | apply ba3_ | apply bn3_ | apply bd3_ | refine ubs3_ ?_ (by assumption)) | exact HB.out))) : w.heap.size ≤ gb199))
    have n6_ := A3_ ((by rw [hg]; exact Nat.ne_of_lt (ukl3_ BK186.out) : gb186 ≠ gb199))
    have n7_ := A3_ ((by rw [hg]; exact Nat.ne_of_gt (ukl3_ BK186.out) : gb199 ≠ gb186))
    have n8_ := A3_ ((by rw [hg]; exact Nat.ne_of_lt (ukl3_ BK187.out) : gb187 ≠ gb199))
    have n9_ := A3_ ((by rw [hg]; exact Nat.ne_of_gt (ukl3_ BK187.out) : gb199 ≠ gb187))
    clear HB
    replace BK186 := A3_ (ukb3_ BK186.out hb)
    replace BK187 := A3_ (ukb3_ BK187.out hb)
    have HB := n2_
    have BK199 := n3_
    have GW199 := n4_
    have GE199 := n5_
    have NB186_199 := n6_
    have NB199_186 := n7_
    have NB187_199 := n8_
    have NB199_187 := n9_
    clear n2_ n3_ n4_ n5_ n6_ n7_ n8_ n9_
    clear hb hbox hg
    refine hK.out _ _ ⟨(blk_cell BK186.out 0).trans rfl, (blk_cell BK187.out 0).trans rfl, (blk_cell BK187.out 1).trans rfl, (blk_cell BK187.out 2).trans rfl⟩ (fun hHeld => ?_)
    clear hK K
    refine norm_ (a' := ?_) ?_ ?_
    rotate_left
    ·show Act.put _ (some 6) _ = _
     simp only [Act.put, us3_, ut3_, uv3_, i64_w, i32_w]
     rfl
    refine one_ (i := 1) (N := some 23) #[true, true, true, false, false, false, false, false, true, false, false] rfl rfl (one_of HT_.out (by kernel_rfl)) (by decide) (fun K hK => ?_)
    refine goes_ Try.func7 (by kernel_rfl) rfl #[.agg #[.slice A0_0 l0_0.length c0_0]] (by rfl) rfl rfl (by (try simp only [List.map_toArray, List.map_cons, List.map_nil]); first | done | rfl | (simp only [List.length_drop, List.length_take]; rfl)) ?_
    with_reducible refine (laws_toPuzzle.calls k _ _ l0_0 t189 _ ?side1 ?side2 A10.out).mono ?_
    (case side1 => repeat (first | exact (Kd.C_below HR0_0.out HB.out) | (with_reducible refine Kd.C_alloc ?_ _) | (with_reducible refine Kd.C_drewN ?_ _) | (with_reducible refine Kd.C_drew ?_)))
    (case side2 => exact HC0_0.out)
    rintro e w24 ⟨v190, rfl, ho0, hb⟩
    refine ⟨_, rfl, ?_⟩
    have n0_ := A3_ (Kd.R_lower ho0 (below_size (by repeat (first | (with_reducible first | exact HB.out | apply ba3_ | apply bn3_ | apply bd3_ | refine ubs3_ ?_ (by assumption)) | exact HB.out))))
    have n4_ := A3_ (bt3_ (by repeat (first | (with_reducible first | exact HB.out | apply ba3_ | apply bn3_ | apply bd3_ | refine ubs3_ ?_ (by assumption)) | exact HB.out)) hb)
    clear HB
    have HO191 := n0_
    replace BK186 := A3_ (ukb3_ BK186.out hb)
    replace BK187 := A3_ (ukb3_ BK187.out hb)
    replace BK199 := A3_ (ukb3_ BK199.out hb)
    have HB := n4_
    clear n0_ n4_
    (try clear hb)
    (try clear hb2)
    (try clear hk)
    (try clear hi)
    (try clear ho0)
    refine hK.out _ _ ⟨(blk_cell BK186.out 0).trans rfl, (blk_cell BK187.out 0).trans rfl, (blk_cell BK187.out 1).trans rfl, (blk_cell BK187.out 2).trans rfl⟩ (fun hHeld => ?_)
    clear hK K
    refine norm_ (a' := ?_) ?_ ?_
    rotate_left
    ·show Act.put _ (some 23) _ = _
     simp only [Act.put, us3_, ut3_, uv3_, i64_w, i32_w]
     rfl
    refine one_ (i := 3) (N := some 25) #[true, true, true, true, false, false, false, false, true, false, false] rfl rfl (one_of HT_.out (by kernel_rfl)) (by decide) (fun K hK => ?_)
    refine goes_ Try.func8 (by kernel_rfl) rfl #[.agg #[.int .i64 a1_0, .int .i64 a1_1, .int .i64 a1_2]] (by rfl) rfl rfl (by (try simp only [List.map_toArray, List.map_cons, List.map_nil]); first | done | rfl | (simp only [List.length_drop, List.length_take]; rfl)) ?_
    with_reducible refine (laws_toClue.calls a1_0 a1_1 a1_2 t192 t193 t194 _ A11.out).mono ?_
    rintro e w25 ⟨rfl, hb⟩
    refine ⟨_, rfl, ?_⟩
    have n0_ := A3_ (Kd.R_below (by exact ur3_ HO191.out) hb)
    have n4_ := A3_ (bt3_ (by repeat (first | (with_reducible first | exact HB.out | apply ba3_ | apply bn3_ | apply bd3_ | refine ubs3_ ?_ (by assumption)) | exact HB.out)) hb)
    clear HO191
    clear HB
    have HO191 := n0_
    replace BK186 := A3_ (ukb3_ BK186.out hb)
    replace BK187 := A3_ (ukb3_ BK187.out hb)
    replace BK199 := A3_ (ukb3_ BK199.out hb)
    have HB := n4_
    clear n0_ n4_
    (try clear hb)
    (try clear hb2)
    (try clear hk)
    (try clear hi)
    obtain ⟨Ao26, co26, eo26⟩ := Kd.R_slice HO191.out
    (first | subst eo26 | (injection eo26 with f1_ f2_ f3_; have f4_ := f1_.symm; have f5_ := f3_.symm; clear f1_ f2_ f3_; subst f4_; subst f5_))
    refine hK.out _ _ ⟨(blk_cell BK186.out 0).trans rfl, (blk_cell BK187.out 0).trans rfl, (blk_cell BK187.out 1).trans rfl, (blk_cell BK187.out 2).trans rfl⟩ (fun hHeld => ?_)
    clear hK K
    refine norm_ (a' := ?_) ?_ ?_
    rotate_left
    ·show Act.put _ (some 25) _ = _
     simp only [Act.put, us3_, ut3_, uv3_, i64_w, i32_w]
     rfl
    refine one_ (i := 4) (N := some 26) #[true, true, true, true, true, false, false, false, true, false, false] rfl rfl (one_of HT_.out (by kernel_rfl)) (by decide) (fun K hK => ?_)
    refine goes_ Try.func6 (by kernel_rfl) rfl #[.agg #[.slice Ao26 t189.length co26], .agg #[.int .i64 t192, .int .i64 t193, .int .i64 t194]] (by rfl) rfl rfl (by (try simp only [List.map_toArray, List.map_cons, List.map_nil]); first | done | rfl | (simp only [List.length_drop, List.length_take]; rfl)) ?_
    with_reducible refine (spec_AddClue.calls k _ _ t189 t192 t193 t194 t195 t198 _ ?side1 ?side2 A12.out).mono ?_
    (case side1 => repeat (first | exact (Kd.R_reads' HO191.out).2.2 | (with_reducible refine Kd.C_alloc ?_ _) | (with_reducible refine Kd.C_drewN ?_ _) | (with_reducible refine Kd.C_drew ?_)))
    (case side2 => exact (Kd.R_reads' HO191.out).2.1)
    rintro e w27 ⟨v196, rfl, ho0, hb⟩
    refine ⟨_, rfl, ?_⟩
    have n0_ := A3_ (re3_ (by exact ur3_ HO191.out) (Kd.R_base ho0) hb)
    have n1_ := A3_ (Kd.R_lower (Kd.R_new' ho0 (Kd.R_lt (by exact ur3_ HO191.out))) (below_size (by repeat (first | (with_reducible first | exact HB.out | apply ba3_ | apply bn3_ | apply bd3_ | refine ubs3_ ?_ (by assumption)) | exact HB.out))))
    have n5_ := A3_ (bt3_ (by repeat (first | (with_reducible first | exact HB.out | apply ba3_ | apply bn3_ | apply bd3_ | refine ubs3_ ?_ (by assumption)) | exact HB.out)) hb)
    clear HO191
    clear HB
    have HO191 := n0_
    have HO197 := n1_
    replace BK186 := A3_ (ukb3_ BK186.out hb)
    replace BK187 := A3_ (ukb3_ BK187.out hb)
    replace BK199 := A3_ (ukb3_ BK199.out hb)
    have HB := n5_
    clear n0_ n1_ n5_
    (try clear hb)
    (try clear hb2)
    (try clear hk)
    (try clear hi)
    (try clear ho0)
    refine hK.out _ _ ⟨(blk_cell BK186.out 0).trans rfl, (blk_cell BK187.out 0).trans rfl, (blk_cell BK187.out 1).trans rfl, (blk_cell BK187.out 2).trans rfl⟩ (fun hHeld => ?_)
    clear hK K
    refine norm_ (a' := ?_) ?_ ?_
    rotate_left
    ·show Act.put _ (some 26) _ = _
     simp only [Act.put, us3_, ut3_, uv3_, i64_w, i32_w]
     rfl
    refine pure_ (i := 5) (N := some 21) (v := ?_) (a' := ?_) #[true, true, true, true, true, true, false, false, true, false, false] rfl rfl (any_of HT_.out (by kernel_rfl)) (fun _ _ _ h => h) (Or.inl ⟨by rfl, ?_⟩) ?_ ?_
    rotate_left
    ·intro w'
     go_simp
     with_reducible rfl
    rotate_left
    ·simp only [Act.put, us3_, ut3_, uv3_, i64_w, i32_w]
     rfl
    refine pure_ (i := 6) (N := some 27) (v := ?_) (a' := ?_) #[true, true, true, true, true, true, true, false, true, false, false] rfl rfl (any_of HT_.out (by kernel_rfl)) (fun _ _ _ h => h) (Or.inl ⟨by rfl, ?_⟩) ?_ ?_
    rotate_left
    ·intro w'
     go_simp
     with_reducible rfl
    rotate_left
    ·simp only [Act.put, us3_, ut3_, uv3_, i64_w, i32_w]
     rfl
    refine pure_ (i := 7) (N := some 28) (v := ?_) (a' := ?_) #[true, true, true, true, true, true, true, true, true, false, false] rfl rfl (any_of HT_.out (by kernel_rfl)) (fun _ _ _ h => h) (Or.inl ⟨by rfl, ?_⟩) ?_ ?_
    rotate_left
    ·intro w'
     go_simp
     with_reducible rfl
    rotate_left
    ·simp only [Act.put, us3_, ut3_, uv3_, i64_w, i32_w]
     rfl
    exact norm_ (by simp only [putAll, Act.put, List.setIfInBounds_toArray, List.set_cons_zero, List.set_cons_succ]) (hCont (.slice Ao26 t189.length co26, v196, gb199) _ ⟨hHeld, (by (with_reducible repeat (first | apply ra3_ | apply rn3_ | apply rd3_)); exact Kd.R_mono HO191.out (fun _ hk => hk.2)), (by (with_reducible repeat (first | apply ra3_ | apply rn3_ | apply rd3_)); exact Kd.R_mono HO197.out (fun _ hk => hk.2)), (by exact uk3_ BK186.out), (by exact uk3_ BK187.out), (by exact uk3_ BK199.out), GW199.out, GE199.out, NB186_199.out, NB199_186.out, NB187_199.out, NB199_187.out, (by repeat (first | (with_reducible first | exact HB.out | apply ba3_ | apply bn3_ | apply bd3_ | refine ubs3_ ?_ (by assumption)) | exact HB.out))⟩)
  rintro ⟨v190, v196, gb199⟩ w28 ⟨hS_, h0_, h1_, h2_, h3_, h4_, h5_, h6_, h7_, h8_, h9_, h10_, h11_⟩
  have n0_ : Aside0 (Kd.R k34 34 w28 w.heap.size (fun k_ => some k_ ≠ (v196 : Value).ownBlock) v190 t189) := ⟨h0_⟩
  have n1_ : Aside0 (Kd.R k34 34 w28 w.heap.size (fun k_ => some k_ ≠ (v190 : Value).ownBlock) v196 t195) := ⟨h1_⟩
  have n2_ : Aside0 (w28.heap[gb186]? = some (.cells #[.slice A0_0 l0_0.length c0_0] 24 (0, 0))) := ⟨h2_⟩
  have n3_ : Aside0 (w28.heap[gb187]? = some (.cells #[.int .i64 a1_0, .int .i64 a1_1, .int .i64 a1_2] 26 (0, 0))) := ⟨h3_⟩
  have n4_ : Aside0 (w28.heap[gb199]? = some (.cells #[.slice none 0 0] 30 (0, 0))) := ⟨h4_⟩
  have n5_ : Aside0 (w.heap.size ≤ gb199) := ⟨h5_⟩
  have n6_ : Aside0 (w.heap.size ≤ gb199) := ⟨h6_⟩
  have n7_ : Aside0 (gb186 ≠ gb199) := ⟨h7_⟩
  have n8_ : Aside0 (gb199 ≠ gb186) := ⟨h8_⟩
  have n9_ : Aside0 (gb187 ≠ gb199) := ⟨h9_⟩
  have n10_ : Aside0 (gb199 ≠ gb187) := ⟨h10_⟩
  have n11_ : Aside0 (Below w.heap.size w w28) := ⟨h11_⟩
  clear BK186
  clear BK187
  clear HB
  clear h0_ h1_ h2_ h3_ h4_ h5_ h6_ h7_ h8_ h9_ h10_ h11_
  have HO191 := n0_
  have HO197 := n1_
  have BK186 := n2_
  have BK187 := n3_
  have BK199 := n4_
  have GW199 := n5_
  have GE199 := n6_
  have NB186_199 := n7_
  have NB199_186 := n8_
  have NB187_199 := n9_
  have NB199_187 := n10_
  have HB := n11_
  clear n0_ n1_ n2_ n3_ n4_ n5_ n6_ n7_ n8_ n9_ n10_ n11_
  have hHeld : w28.cell? ⟨gb186, 0, none⟩ = some (.slice A0_0 l0_0.length c0_0) ∧ w28.cell? ⟨gb187, 0, none⟩ = some (.int .i64 a1_0) ∧ w28.cell? ⟨gb187, 1, none⟩ = some (.int .i64 a1_1) ∧ w28.cell? ⟨gb187, 2, none⟩ = some (.int .i64 a1_2) := hS_
  obtain ⟨Ao29, co29, eo29⟩ := Kd.R_slice HO197.out
  (first | subst eo29 | (injection eo29 with f1_ f2_ f3_; have f4_ := f1_.symm; have f5_ := f3_.symm; clear f1_ f2_ f3_; subst f4_; subst f5_))
  refine norm_ (a' := ?_) ?_ ?_
  rotate_left
  ·simp only [putAll, Act.put, List.setIfInBounds_toArray, List.set_cons_zero, List.set_cons_succ]
   rfl
  refine one_ (i := 9) (N := none) #[true, true, true, true, true, true, true, true, true, true, false] rfl rfl (one_of HT_.out (by kernel_rfl)) (by decide) (fun K hK => ?_)
  have hs30 : w28.cell? ⟨gb199, 0, none⟩ = some (.slice none 0 0) := (blk_cell BK199.out 0).trans rfl
  have hfs30 := blk_frozen BK199.out 0
  have hns30_0 := NB186_199.out
  have hns30_1 := NB187_199.out
  have hms30_0 := NB199_186.out
  have hms30_1 := NB199_187.out
  refine skip_ (w1 := ?_) (by rfl) rfl ?_ ?_
  rotate_left
  ·go_simp
   rfl
  refine hK.out _ _ ⟨((cell_far (p := ⟨gb199, _, none⟩) NB186_199.out _).trans (hHeld.1)), ((cell_far (p := ⟨gb199, _, none⟩) NB187_199.out _).trans (hHeld.2.1)), ((cell_far (p := ⟨gb199, _, none⟩) NB187_199.out _).trans (hHeld.2.2.1)), ((cell_far (p := ⟨gb199, _, none⟩) NB187_199.out _).trans (hHeld.2.2.2))⟩ (fun hHeld => ?_)
  clear hK K
  refine pure_ (i := 10) (N := some 7) (v := ?_) (a' := ?_) #[true, true, true, true, true, true, true, true, true, true, true] rfl rfl (any_of HT_.out (by kernel_rfl)) (fun _ _ _ h => h) (Or.inl ⟨by rfl, ?_⟩) ?_ ?_
  rotate_left
  ·intro w'
   go_simp
   with_reducible rfl
  rotate_left
  ·simp only [Act.put, us3_, ut3_, uv3_, i64_w, i32_w]
   rfl
  refine done_ (done_of HT_.out (by kernel_rfl)) ?_
  have hnb31 := NB186_199.out
  have hnc31 := NB199_186.out
  have hcz32_0 : w28.cell? ⟨gb186, 0, none⟩ = some (.slice A0_0 l0_0.length c0_0) := (blk_cell BK186.out 0).trans rfl
  have hfz32_0 := blk_frozen BK186.out 0
  try go_wp2_with (first | ((with_reducible refine gate_callee (f := 7) rfl ?_); refine goesL_ (some 30) rfl rfl Try.func7 (by kernel_rfl) rfl #[.agg #[.slice A0_0 l0_0.length c0_0]] rfl (by (try simp only [List.map_toArray, List.map_cons, List.map_nil]); first | done | rfl | (simp only [List.length_drop, List.length_take]; rfl)) ?_; (with_reducible refine (laws_toPuzzle.calls k _ _ l0_0 t200 _ ?side1 ?side2 A13.out).mono ?_); (case side1 => exact Kd.C_below HR0_0.out (by repeat (first | (with_reducible first | exact HB.out | apply ba3_ | apply bn3_ | apply bd3_ | refine ubs3_ ?_ (by assumption)) | exact HB.out))); (case side2 => exact HC0_0.out); rintro e w33 ⟨v201, rfl, ho0, hb⟩; refine ⟨_, rfl, ?_⟩; have n0_ := A3_ (re3_ (by (with_reducible repeat (first | apply ra3_ | apply rn3_ | apply rd3_)); exact (Kd.R_mono (Kd.R_far (p := ⟨gb199, 0, none⟩) (Kd.R_types HO191.out BK199.out (by decide)) (fun _ hk => hk.2) (.slice Ao29 t195.length co29)) (fun _ h_ => h_.1))) (Kd.R_base ho0) hb); have n1_ := A3_ (re3_ (by (with_reducible repeat (first | apply ra3_ | apply rn3_ | apply rd3_)); exact (Kd.R_mono (Kd.R_far (p := ⟨gb199, 0, none⟩) (Kd.R_types HO197.out BK199.out (by decide)) (fun _ hk => hk.2) (.slice Ao29 t195.length co29)) (fun _ h_ => h_.1))) (Kd.R_base ho0) hb); have n2_ := A3_ (Kd.R_lower (Kd.R_new' (Kd.R_new' ho0 (Kd.R_lt (by (with_reducible repeat (first | apply ra3_ | apply rn3_ | apply rd3_)); exact (Kd.R_mono (Kd.R_far (p := ⟨gb199, 0, none⟩) (Kd.R_types HO191.out BK199.out (by decide)) (fun _ hk => hk.2) (.slice Ao29 t195.length co29)) (fun _ h_ => h_.1))))) (Kd.R_lt (by (with_reducible repeat (first | apply ra3_ | apply rn3_ | apply rd3_)); exact (Kd.R_mono (Kd.R_far (p := ⟨gb199, 0, none⟩) (Kd.R_types HO197.out BK199.out (by decide)) (fun _ hk => hk.2) (.slice Ao29 t195.length co29)) (fun _ h_ => h_.1))))) (below_size (by repeat (first | (with_reducible first | exact HB.out | apply ba3_ | apply bn3_ | apply bd3_ | refine ubs3_ ?_ (by assumption)) | exact HB.out)))); have n3_ := A3_ (kb3_ (g := gb186) (o := .cells #[.slice A0_0 l0_0.length c0_0] 24 (0, 0)) (by (with_reducible repeat (first | refine kn3_ ?_ _ | refine kd3_ ?_ | refine ka3_ ?_ _)); refine blk_far ?_ NB186_199.out _; (with_reducible repeat (first | refine kn3_ ?_ _ | refine kd3_ ?_ | refine ka3_ ?_ _)); exact BK186.out) hb); have n4_ := A3_ (kb3_ (g := gb187) (o := .cells #[.int .i64 a1_0, .int .i64 a1_1, .int .i64 a1_2] 26 (0, 0)) (by (with_reducible repeat (first | refine kn3_ ?_ _ | refine kd3_ ?_ | refine ka3_ ?_ _)); refine blk_far ?_ NB187_199.out _; (with_reducible repeat (first | refine kn3_ ?_ _ | refine kd3_ ?_ | refine ka3_ ?_ _)); exact BK187.out) hb); have n5_ := A3_ (kb3_ (g := gb199) (o := .cells #[.slice Ao29 t195.length co29] 30 (0, 0)) (by (with_reducible repeat (first | refine kn3_ ?_ _ | refine kd3_ ?_ | refine ka3_ ?_ _)); refine blk_put (cs := #[.slice none 0 0]) ?_ 0 _ rfl; (with_reducible repeat (first | refine kn3_ ?_ _ | refine kd3_ ?_ | refine ka3_ ?_ _)); exact BK199.out) hb); have n6_ := A3_ (bt3_ (by repeat (first | (with_reducible first | exact HB.out | apply ba3_ | apply bn3_ | apply bd3_ | refine ubs3_ ?_ (by assumption)) | exact HB.out)) hb); clear HO191; clear HO197; clear BK186; clear BK187; clear BK199; clear HB; have HO191 := n0_; have HO197 := n1_; have HO202 := n2_; have BK186 := n3_; have BK187 := n4_; have BK199 := n5_; have HB := n6_; clear n0_ n1_ n2_ n3_ n4_ n5_ n6_; (try clear hb); (try clear hb2); (try clear hk); (try clear hi); (try clear ho0)) | ((with_reducible refine gate_dst (N := 8) rfl ?_); refine box_event ?hg (N := 8) ?hd (cs := #[.slice none 0 0]) (t := 30) ?hr ?_; (case hd => rfl); (case hg => rfl); (case hr => first | (go_simp; done) | (go_simp; rfl)); intro gb203 hg w34 hbox hb; have n0_ := A3_ (Kd.R_below (by exact ur3_ HO191.out) hb); have n1_ := A3_ (Kd.R_below (by exact ur3_ HO197.out) hb); have n2_ := A3_ (Kd.R_below (by exact ur3_ HO202.out) hb); have n6_ := A3_ (bt3_ (by repeat (first | (with_reducible first | exact HB.out | apply ba3_ | apply bn3_ | apply bd3_ | refine ubs3_ ?_ (by assumption)) | exact HB.out)) hb); have n7_ := A3_ (hbox); have n8_ := A3_ ((by rw [hg]; exact (below_size (by repeat (first | (with_reducible first | exact HB.out | apply ba3_ | apply bn3_ | apply bd3_ | refine ubs3_ ?_ (by assumption)) | exact HB.out))) : w.heap.size ≤ gb203)); have n9_ := A3_ ((by rw [hg]; exact (below_size (by repeat (first | (with_reducible first | exact HB.out | apply ba3_ | apply bn3_ | apply bd3_ | refine ubs3_ ?_ (by assumption)) | exact HB.out))) : w.heap.size ≤ gb203)); have n10_ := A3_ ((by rw [hg]; exact Nat.ne_of_lt (ukl3_ BK186.out) : gb186 ≠ gb203)); have n11_ := A3_ ((by rw [hg]; exact Nat.ne_of_gt (ukl3_ BK186.out) : gb203 ≠ gb186)); have n12_ := A3_ ((by rw [hg]; exact Nat.ne_of_lt (ukl3_ BK187.out) : gb187 ≠ gb203)); have n13_ := A3_ ((by rw [hg]; exact Nat.ne_of_gt (ukl3_ BK187.out) : gb203 ≠ gb187)); have n14_ := A3_ ((by rw [hg]; exact Nat.ne_of_lt (ukl3_ BK199.out) : gb199 ≠ gb203)); have n15_ := A3_ ((by rw [hg]; exact Nat.ne_of_gt (ukl3_ BK199.out) : gb203 ≠ gb199)); clear HO191; clear HO197; clear HO202; clear HB; have HO191 := n0_; have HO197 := n1_; have HO202 := n2_; replace BK186 := A3_ (ukb3_ BK186.out hb); replace BK187 := A3_ (ukb3_ BK187.out hb); replace BK199 := A3_ (ukb3_ BK199.out hb); have HB := n6_; have BK203 := n7_; have GW203 := n8_; have GE203 := n9_; have NB186_203 := n10_; have NB203_186 := n11_; have NB187_203 := n12_; have NB203_187 := n13_; have NB199_203 := n14_; have NB203_199 := n15_; clear n0_ n1_ n2_ n6_ n7_ n8_ n9_ n10_ n11_ n12_ n13_ n14_ n15_; clear hb hbox hg; obtain ⟨Ao35, co35, eo35⟩ := Kd.R_slice HO202.out; subst eo35; have hnb36 := NB203_186.out; have hnc36 := NB186_203.out; have hnb37 := NB203_187.out; have hnc37 := NB187_203.out; have hnb38 := NB203_199.out; have hnc38 := NB199_203.out; have hcz39_0 : w34.cell? ⟨gb203, 0, none⟩ = some (.slice none 0 0) := (blk_cell BK203.out 0).trans rfl; have hfz39_0 := blk_frozen BK203.out 0))
  have n0_ : Aside0 (Kd.R k34 34 (w34.setCell ⟨gb203, 0, none⟩ (.slice Ao35 t200.length co35)) w.heap.size (fun k_ => some k_ ≠ (.slice Ao29 t195.length co29 : Value).ownBlock ∧ some k_ ≠ (.slice Ao35 t200.length co35 : Value).ownBlock) v190 t189) := ⟨by (with_reducible repeat (first | apply ra3_ | apply rn3_ | apply rd3_)); exact Kd.R_mono (Kd.R_far (p := ⟨gb203, 0, none⟩) (Kd.R_types HO191.out BK203.out (by decide)) (fun _ hk => hk.2) (.slice Ao35 t200.length co35)) (fun _ hk => ⟨hk.1.1, hk.1.2⟩)⟩
  have n1_ : Aside0 (Kd.R k34 34 (w34.setCell ⟨gb203, 0, none⟩ (.slice Ao35 t200.length co35)) w.heap.size (fun k_ => some k_ ≠ (v190 : Value).ownBlock ∧ some k_ ≠ (.slice Ao35 t200.length co35 : Value).ownBlock) (.slice Ao29 t195.length co29) t195) := ⟨by (with_reducible repeat (first | apply ra3_ | apply rn3_ | apply rd3_)); exact Kd.R_mono (Kd.R_far (p := ⟨gb203, 0, none⟩) (Kd.R_types HO197.out BK203.out (by decide)) (fun _ hk => hk.2) (.slice Ao35 t200.length co35)) (fun _ hk => ⟨hk.1.1, hk.1.2⟩)⟩
  have n2_ : Aside0 (Kd.R k34 34 (w34.setCell ⟨gb203, 0, none⟩ (.slice Ao35 t200.length co35)) w.heap.size (fun k_ => some k_ ≠ (v190 : Value).ownBlock ∧ some k_ ≠ (.slice Ao29 t195.length co29 : Value).ownBlock) (.slice Ao35 t200.length co35) t200) := ⟨by (with_reducible repeat (first | apply ra3_ | apply rn3_ | apply rd3_)); exact Kd.R_mono (Kd.R_far (p := ⟨gb203, 0, none⟩) (Kd.R_types HO202.out BK203.out (by decide)) (fun _ hk => hk.2) (.slice Ao35 t200.length co35)) (fun _ hk => ⟨hk.1.1.2, hk.1.2⟩)⟩
  have n3_ : Aside0 ((w34.setCell ⟨gb203, 0, none⟩ (.slice Ao35 t200.length co35)).heap[gb186]? = some (.cells #[.slice A0_0 l0_0.length c0_0] 24 (0, 0))) := ⟨by (with_reducible repeat (first | refine kn3_ ?_ _ | refine kd3_ ?_ | refine ka3_ ?_ _)); refine blk_far ?_ NB186_203.out _; (with_reducible repeat (first | refine kn3_ ?_ _ | refine kd3_ ?_ | refine ka3_ ?_ _)); exact BK186.out⟩
  have n4_ : Aside0 ((w34.setCell ⟨gb203, 0, none⟩ (.slice Ao35 t200.length co35)).heap[gb187]? = some (.cells #[.int .i64 a1_0, .int .i64 a1_1, .int .i64 a1_2] 26 (0, 0))) := ⟨by (with_reducible repeat (first | refine kn3_ ?_ _ | refine kd3_ ?_ | refine ka3_ ?_ _)); refine blk_far ?_ NB187_203.out _; (with_reducible repeat (first | refine kn3_ ?_ _ | refine kd3_ ?_ | refine ka3_ ?_ _)); exact BK187.out⟩
  have n5_ : Aside0 ((w34.setCell ⟨gb203, 0, none⟩ (.slice Ao35 t200.length co35)).heap[gb199]? = some (.cells #[.slice Ao29 t195.length co29] 30 (0, 0))) := ⟨by (with_reducible repeat (first | refine kn3_ ?_ _ | refine kd3_ ?_ | refine ka3_ ?_ _)); refine blk_far ?_ NB199_203.out _; (with_reducible repeat (first | refine kn3_ ?_ _ | refine kd3_ ?_ | refine ka3_ ?_ _)); exact BK199.out⟩
  have n6_ : Aside0 ((w34.setCell ⟨gb203, 0, none⟩ (.slice Ao35 t200.length co35)).heap[gb203]? = some (.cells #[.slice Ao35 t200.length co35] 30 (0, 0))) := ⟨by (with_reducible repeat (first | refine kn3_ ?_ _ | refine kd3_ ?_ | refine ka3_ ?_ _)); refine blk_put (cs := #[.slice none 0 0]) ?_ 0 _ rfl; (with_reducible repeat (first | refine kn3_ ?_ _ | refine kd3_ ?_ | refine ka3_ ?_ _)); exact BK203.out⟩
  have n7_ : Aside0 (Below w.heap.size w (w34.setCell ⟨gb203, 0, none⟩ (.slice Ao35 t200.length co35))) := ⟨by repeat (first | (with_reducible first | exact HB.out | apply ba3_ | apply bn3_ | apply bd3_ | refine ubs3_ ?_ (by assumption)) | exact HB.out)⟩
  (try clear HO191)
  (try clear HO197)
  (try clear HO202)
  (try clear BK186)
  (try clear BK187)
  (try clear BK199)
  (try clear BK203)
  (try clear HB)
  generalize (w34.setCell ⟨gb203, 0, none⟩ (.slice Ao35 t200.length co35)) = w40 at n0_ n1_ n2_ n3_ n4_ n5_ n6_ n7_ ⊢
  have HO191 := n0_
  have HO197 := n1_
  have HO202 := n2_
  have BK186 := n3_
  have BK187 := n4_
  have BK199 := n5_
  have BK203 := n6_
  have HB := n7_
  clear n0_ n1_ n2_ n3_ n4_ n5_ n6_ n7_
  have n0_ := A3_ (rd3_ HO191.out)
  have n1_ := A3_ (rd3_ HO197.out)
  have n2_ := A3_ (rd3_ HO202.out)
  have n3_ := A3_ (kd3_ BK186.out)
  have n4_ := A3_ (kd3_ BK187.out)
  have n5_ := A3_ (kd3_ BK199.out)
  have n6_ := A3_ (kd3_ BK203.out)
  have n7_ := A3_ (bd3_ HB.out)
  clear HO191
  clear HO197
  clear HO202
  clear BK186
  clear BK187
  clear BK199
  clear BK203
  clear HB
  have HO191 := n0_
  have HO197 := n1_
  have HO202 := n2_
  have BK186 := n3_
  have BK187 := n4_
  have BK199 := n5_
  have BK203 := n6_
  have HB := n7_
  clear n0_ n1_ n2_ n3_ n4_ n5_ n6_ n7_
  refine start_ (n := 10) (S := fun w' => w'.cell? ⟨gb203, 0, none⟩ = some (.slice Ao35 t200.length co35) ∧ w'.cell? ⟨gb187, 0, none⟩ = some (.int .i64 a1_0) ∧ w'.cell? ⟨gb187, 1, none⟩ = some (.int .i64 a1_1) ∧ w'.cell? ⟨gb187, 2, none⟩ = some (.int .i64 a1_2)) (ds := []) #[false, false, false, false, false, false, false, false, false, false] (by kernel_rfl) rfl rfl ⟨(blk_cell BK203.out 0).trans rfl, (blk_cell BK187.out 0).trans rfl, (blk_cell BK187.out 1).trans rfl, (blk_cell BK187.out 2).trans rfl⟩ (fun hHeld => ?_); refine with_tabW laws_FnExactAddClue.tab7 laws_FnExactAddClue.bits7 (fun HT_ HW_ => ?_)
  generalize w40.drew = w41 at HO191 HO197 HO202 BK186 BK187 BK199 BK203 HB hHeld ⊢
  refine take_ (i := 0) (N := some 32) (v := ?_) (a' := ?_) #[true, false, false, false, false, false, false, false, false, false] rfl rfl (take_ofW HT_.out HW_.out (by kernel_rfl)) (fun _ _ _ h => h) (Or.inl ⟨by rfl, ?_⟩) hHeld ?_ ?_
  rotate_left
  ·rintro w' ⟨s0, s1, s2, s3⟩
   go_simp
   with_reducible rfl
  rotate_left
  ·simp only [Act.put, us3_, ut3_, uv3_, i64_w, i32_w]
   rfl
  refine take_ (i := 1) (N := some 33) (v := ?_) (a' := ?_) #[true, true, false, false, false, false, false, false, false, false] rfl rfl (take_ofW HT_.out HW_.out (by kernel_rfl)) (fun _ _ _ h => h) (Or.inl ⟨by rfl, ?_⟩) hHeld ?_ ?_
  rotate_left
  ·rintro w' ⟨s0, s1, s2, s3⟩
   go_simp
   with_reducible rfl
  rotate_left
  ·simp only [Act.put, us3_, ut3_, uv3_, i64_w, i32_w]
   rfl
  refine join_ (σ := Value × Nat) 2 #[true, true, true, true, true, true, true, true, false, false] (fun s_ => [(34, .agg #[.int .i64 t204, .int .i64 t205, .int .i64 t206]), (35, .tuple #[.agg #[s_.1], .bool t210]), (9, .pointer (some ⟨s_.2, 0, none⟩)), (31, .tuple #[.agg #[s_.1], .bool t210]), (36, .agg #[s_.1]), (37, .bool t210)]) (fun s_ w' => (w'.cell? ⟨gb203, 0, none⟩ = some (.slice Ao35 t200.length co35) ∧ w'.cell? ⟨gb187, 0, none⟩ = some (.int .i64 a1_0) ∧ w'.cell? ⟨gb187, 1, none⟩ = some (.int .i64 a1_1) ∧ w'.cell? ⟨gb187, 2, none⟩ = some (.int .i64 a1_2)) ∧ (Kd.R k34 34 w' w.heap.size (fun k_ => some k_ ≠ (.slice Ao29 t195.length co29 : Value).ownBlock ∧ some k_ ≠ (.slice Ao35 t200.length co35 : Value).ownBlock ∧ some k_ ≠ (s_.1 : Value).ownBlock) v190 t189) ∧ (Kd.R k34 34 w' w.heap.size (fun k_ => some k_ ≠ (v190 : Value).ownBlock ∧ some k_ ≠ (.slice Ao35 t200.length co35 : Value).ownBlock ∧ some k_ ≠ (s_.1 : Value).ownBlock) (.slice Ao29 t195.length co29) t195) ∧ (Kd.R k34 34 w' w.heap.size (fun k_ => some k_ ≠ (v190 : Value).ownBlock ∧ some k_ ≠ (.slice Ao29 t195.length co29 : Value).ownBlock ∧ some k_ ≠ (s_.1 : Value).ownBlock) (.slice Ao35 t200.length co35) t200) ∧ (Kd.R k34 34 w' w.heap.size (fun k_ => some k_ ≠ (v190 : Value).ownBlock ∧ some k_ ≠ (.slice Ao29 t195.length co29 : Value).ownBlock ∧ some k_ ≠ (.slice Ao35 t200.length co35 : Value).ownBlock) s_.1 t207) ∧ (w'.heap[gb186]? = some (.cells #[.slice A0_0 l0_0.length c0_0] 24 (0, 0))) ∧ (w'.heap[gb187]? = some (.cells #[.int .i64 a1_0, .int .i64 a1_1, .int .i64 a1_2] 26 (0, 0))) ∧ (w'.heap[gb199]? = some (.cells #[.slice Ao29 t195.length co29] 30 (0, 0))) ∧ (w'.heap[gb203]? = some (.cells #[.slice Ao35 t200.length co35] 30 (0, 0))) ∧ (w'.heap[s_.2]? = some (.cells #[.slice none 0 0] 30 (0, 0))) ∧ (w.heap.size ≤ s_.2) ∧ (w.heap.size ≤ s_.2) ∧ (gb186 ≠ s_.2) ∧ (s_.2 ≠ gb186) ∧ (gb187 ≠ s_.2) ∧ (s_.2 ≠ gb187) ∧ (gb199 ≠ s_.2) ∧ (s_.2 ≠ gb199) ∧ (gb203 ≠ s_.2) ∧ (s_.2 ≠ gb203) ∧ (Below w.heap.size w w')) ?_ ?_
  rotate_left
  ·intro hCont
   refine two_ (i := 2) (j := 7) (Ni := some 34) (Nj := some 9) #[true, true, true, false, false, false, false, false, false, false] #[true, true, false, false, false, false, false, true, false, false] rfl rfl rfl rfl (two_of HT_.out (by kernel_rfl)) (by decide) (by decide) (fun K hK => ?_) (fun K hK => ?_)
   ·skip
    refine goes_ Try.func8 (by kernel_rfl) rfl #[.agg #[.int .i64 a1_0, .int .i64 a1_1, .int .i64 a1_2]] (by rfl) rfl rfl (by (try simp only [List.map_toArray, List.map_cons, List.map_nil]); first | done | rfl | (simp only [List.length_drop, List.length_take]; rfl)) ?_
    with_reducible refine (laws_toClue.calls a1_0 a1_1 a1_2 t204 t205 t206 _ A14.out).mono ?_
    rintro e w42 ⟨rfl, hb⟩
    refine ⟨_, rfl, ?_⟩
    have n0_ := A3_ (Kd.R_below (by exact ur3_ HO191.out) hb)
    have n1_ := A3_ (Kd.R_below (by exact ur3_ HO197.out) hb)
    have n2_ := A3_ (Kd.R_below (by exact ur3_ HO202.out) hb)
    have n7_ := A3_ (bt3_ (by repeat (first | (with_reducible first | exact HB.out | apply ba3_ | apply bn3_ | apply bd3_ | refine ubs3_ ?_ (by assumption)) | exact HB.out)) hb)
    clear HO191
    clear HO197
    clear HO202
    clear HB
    have HO191 := n0_
    have HO197 := n1_
    have HO202 := n2_
    replace BK186 := A3_ (ukb3_ BK186.out hb)
    replace BK187 := A3_ (ukb3_ BK187.out hb)
    replace BK199 := A3_ (ukb3_ BK199.out hb)
    replace BK203 := A3_ (ukb3_ BK203.out hb)
    have HB := n7_
    clear n0_ n1_ n2_ n7_
    (try clear hb)
    (try clear hb2)
    (try clear hk)
    (try clear hi)
    refine hK.out _ _ ⟨(blk_cell BK203.out 0).trans rfl, (blk_cell BK187.out 0).trans rfl, (blk_cell BK187.out 1).trans rfl, (blk_cell BK187.out 2).trans rfl⟩ (fun hHeld => ?_)
    clear hK K
    refine norm_ (a' := ?_) ?_ ?_
    rotate_left
    ·show Act.put _ (some 34) _ = _
     simp only [Act.put, us3_, ut3_, uv3_, i64_w, i32_w]
     rfl
    refine two_ (i := 3) (j := 7) (Ni := some 35) (Nj := some 9) #[true, true, true, true, false, false, false, false, false, false] #[true, true, true, false, false, false, false, true, false, false] rfl rfl rfl rfl (two_of HT_.out (by kernel_rfl)) (by decide) (by decide) (fun K hK => ?_) (fun K hK => ?_)
    ·skip
     refine goes_ Try.func9 (by kernel_rfl) rfl #[.agg #[.slice Ao35 t200.length co35], .agg #[.int .i64 t204, .int .i64 t205, .int .i64 t206]] (by rfl) rfl rfl (by (try simp only [List.map_toArray, List.map_cons, List.map_nil]); first | done | rfl | (simp only [List.length_drop, List.length_take]; rfl)) ?_
     with_reducible refine (impl_AddClue.calls k _ _ t200 t204 t205 t206 t207 t210 _ ?side1 ?side2 A15.out).mono ?_
     (case side1 => repeat (first | exact (Kd.R_reads' HO202.out).2.2 | (with_reducible refine Kd.C_alloc ?_ _) | (with_reducible refine Kd.C_drewN ?_ _) | (with_reducible refine Kd.C_drew ?_)))
     (case side2 => exact (Kd.R_reads' HO202.out).2.1)
     rintro e w43 ⟨v208, rfl, ho0, hb⟩
     refine ⟨_, rfl, ?_⟩
     have n0_ := A3_ (re3_ (by exact ur3_ HO191.out) (Kd.R_base ho0) hb)
     have n1_ := A3_ (re3_ (by exact ur3_ HO197.out) (Kd.R_base ho0) hb)
     have n2_ := A3_ (re3_ (by exact ur3_ HO202.out) (Kd.R_base ho0) hb)
     have n3_ := A3_ (Kd.R_lower (Kd.R_new' (Kd.R_new' (Kd.R_new' ho0 (Kd.R_lt (by exact ur3_ HO191.out))) (Kd.R_lt (by exact ur3_ HO197.out))) (Kd.R_lt (by exact ur3_ HO202.out))) (below_size (by repeat (first | (with_reducible first | exact HB.out | apply ba3_ | apply bn3_ | apply bd3_ | refine ubs3_ ?_ (by assumption)) | exact HB.out))))
     have n8_ := A3_ (bt3_ (by repeat (first | (with_reducible first | exact HB.out | apply ba3_ | apply bn3_ | apply bd3_ | refine ubs3_ ?_ (by assumption)) | exact HB.out)) hb)
     clear HO191
     clear HO197
     clear HO202
     clear HB
     have HO191 := n0_
     have HO197 := n1_
     have HO202 := n2_
     have HO209 := n3_
     replace BK186 := A3_ (ukb3_ BK186.out hb)
     replace BK187 := A3_ (ukb3_ BK187.out hb)
     replace BK199 := A3_ (ukb3_ BK199.out hb)
     replace BK203 := A3_ (ukb3_ BK203.out hb)
     have HB := n8_
     clear n0_ n1_ n2_ n3_ n8_
     (try clear hb)
     (try clear hb2)
     (try clear hk)
     (try clear hi)
     (try clear ho0)
     refine hK.out _ _ ⟨(blk_cell BK203.out 0).trans rfl, (blk_cell BK187.out 0).trans rfl, (blk_cell BK187.out 1).trans rfl, (blk_cell BK187.out 2).trans rfl⟩ (fun hHeld => ?_)
     clear hK K
     refine norm_ (a' := ?_) ?_ ?_
     rotate_left
     ·show Act.put _ (some 35) _ = _
      simp only [Act.put, us3_, ut3_, uv3_, i64_w, i32_w]
      rfl
     refine pure_ (i := 4) (N := some 31) (v := ?_) (a' := ?_) #[true, true, true, true, true, false, false, false, false, false] rfl rfl (any_of HT_.out (by kernel_rfl)) (fun _ _ _ h => h) (Or.inl ⟨by rfl, ?_⟩) ?_ ?_
     rotate_left
     ·intro w'
      go_simp
      with_reducible rfl
     rotate_left
     ·simp only [Act.put, us3_, ut3_, uv3_, i64_w, i32_w]
      rfl
     refine pure_ (i := 5) (N := some 36) (v := ?_) (a' := ?_) #[true, true, true, true, true, true, false, false, false, false] rfl rfl (any_of HT_.out (by kernel_rfl)) (fun _ _ _ h => h) (Or.inl ⟨by rfl, ?_⟩) ?_ ?_
     rotate_left
     ·intro w'
      go_simp
      with_reducible rfl
     rotate_left
     ·simp only [Act.put, us3_, ut3_, uv3_, i64_w, i32_w]
      rfl
     refine pure_ (i := 6) (N := some 37) (v := ?_) (a' := ?_) #[true, true, true, true, true, true, true, false, false, false] rfl rfl (any_of HT_.out (by kernel_rfl)) (fun _ _ _ h => h) (Or.inl ⟨by rfl, ?_⟩) ?_ ?_
     rotate_left
     ·intro w'
      go_simp
      with_reducible rfl
     rotate_left
     ·simp only [Act.put, us3_, ut3_, uv3_, i64_w, i32_w]
      rfl
     refine one_ (i := 7) (N := some 9) #[true, true, true, true, true, true, true, true, false, false] rfl rfl (one_of HT_.out (by kernel_rfl)) (by decide) (fun K hK => ?_)
     refine box_step ?hg (N := 9) ?hd (cs := #[.slice none 0 0]) (t := 30) ?hr ?_; (case hd => rfl); (case hg => rfl); (case hr => first | (go_simp; done) | (go_simp; rfl))
     intro gb211 hg w44 hbox hb
     have n0_ := A3_ (Kd.R_below (by exact ur3_ HO191.out) hb)
     have n1_ := A3_ (Kd.R_below (by exact ur3_ HO197.out) hb)
     have n2_ := A3_ (Kd.R_below (by exact ur3_ HO202.out) hb)
     have n3_ := A3_ (Kd.R_below (by exact ur3_ HO209.out) hb)
     have n8_ := A3_ (bt3_ (by repeat (first | (with_reducible first | exact HB.out | apply ba3_ | apply bn3_ | apply bd3_ | refine ubs3_ ?_ (by assumption)) | exact HB.out)) hb)
     have n9_ := A3_ (hbox)
     have n10_ := A3_ ((by rw [hg]; exact (below_size (by repeat (first | (with_reducible first | exact HB.out | apply ba3_ | apply bn3_ | apply bd3_ | refine ubs3_ ?_ (by assumption)) | exact HB.out))) : w.heap.size ≤ gb211))
     have n11_ := A3_ ((by rw [hg]; exact (below_size (by repeat (first | (with_reducible first | exact HB.out | apply ba3_ | apply bn3_ | apply bd3_ | refine ubs3_ ?_ (by assumption)) | exact HB.out))) : w.heap.size ≤ gb211))
     have n12_ := A3_ ((by rw [hg]; exact Nat.ne_of_lt (ukl3_ BK186.out) : gb186 ≠ gb211))
     have n13_ := A3_ ((by rw [hg]; exact Nat.ne_of_gt (ukl3_ BK186.out) : gb211 ≠ gb186))
     have n14_ := A3_ ((by rw [hg]; exact Nat.ne_of_lt (ukl3_ BK187.out) : gb187 ≠ gb211))
     have n15_ := A3_ ((by rw [hg]; exact Nat.ne_of_gt (ukl3_ BK187.out) : gb211 ≠ gb187))
     have n16_ := A3_ ((by rw [hg]; exact Nat.ne_of_lt (ukl3_ BK199.out) : gb199 ≠ gb211))
     have n17_ := A3_ ((by rw [hg]; exact Nat.ne_of_gt (ukl3_ BK199.out) : gb211 ≠ gb199))
     have n18_ := A3_ ((by rw [hg]; exact Nat.ne_of_lt (ukl3_ BK203.out) : gb203 ≠ gb211))
     have n19_ := A3_ ((by rw [hg]; exact Nat.ne_of_gt (ukl3_ BK203.out) : gb211 ≠ gb203))
     clear HO191
     clear HO197
     clear HO202
     clear HO209
     clear HB
     have HO191 := n0_
     have HO197 := n1_
     have HO202 := n2_
     have HO209 := n3_
     replace BK186 := A3_ (ukb3_ BK186.out hb)
     replace BK187 := A3_ (ukb3_ BK187.out hb)
     replace BK199 := A3_ (ukb3_ BK199.out hb)
     replace BK203 := A3_ (ukb3_ BK203.out hb)
     have HB := n8_
     have BK211 := n9_
     have GW211 := n10_
     have GE211 := n11_
     have NB186_211 := n12_
     have NB211_186 := n13_
     have NB187_211 := n14_
     have NB211_187 := n15_
     have NB199_211 := n16_
     have NB211_199 := n17_
     have NB203_211 := n18_
     have NB211_203 := n19_
     clear n0_ n1_ n2_ n3_ n8_ n9_ n10_ n11_ n12_ n13_ n14_ n15_ n16_ n17_ n18_ n19_
     clear hb hbox hg
     refine hK.out _ _ ⟨(blk_cell BK203.out 0).trans rfl, (blk_cell BK187.out 0).trans rfl, (blk_cell BK187.out 1).trans rfl, (blk_cell BK187.out 2).trans rfl⟩ (fun hHeld => ?_)
     clear hK K
     refine norm_ (a' := ?_) ?_ ?_
     rotate_left
     ·show Act.put _ (some 9) _ = _
      simp only [Act.put, us3_, ut3_, uv3_, i64_w, i32_w]
      rfl
     exact norm_ (by simp only [putAll, Act.put, List.setIfInBounds_toArray, List.set_cons_zero, List.set_cons_succ]) (hCont (v208, gb211) _ ⟨hHeld, (by (with_reducible repeat (first | apply ra3_ | apply rn3_ | apply rd3_)); exact Kd.R_mono HO191.out (fun _ hk => ⟨hk.1.1, ⟨hk.1.2, hk.2⟩⟩)), (by (with_reducible repeat (first | apply ra3_ | apply rn3_ | apply rd3_)); exact Kd.R_mono HO197.out (fun _ hk => ⟨hk.1.1, ⟨hk.1.2, hk.2⟩⟩)), (by (with_reducible repeat (first | apply ra3_ | apply rn3_ | apply rd3_)); exact Kd.R_mono HO202.out (fun _ hk => ⟨hk.1.1, ⟨hk.1.2, hk.2⟩⟩)), (by (with_reducible repeat (first | apply ra3_ | apply rn3_ | apply rd3_)); exact Kd.R_mono HO209.out (fun _ hk => ⟨hk.1.1.2, ⟨hk.1.2, hk.2⟩⟩)), (by exact uk3_ BK186.out), (by exact uk3_ BK187.out), (by exact uk3_ BK199.out), (by exact uk3_ BK203.out), (by exact uk3_ BK211.out), GW211.out, GE211.out, NB186_211.out, NB211_186.out, NB187_211.out, NB211_187.out, NB199_211.out, NB211_199.out, NB203_211.out, NB211_203.out, (by repeat (first | (with_reducible first | exact HB.out | apply ba3_ | apply bn3_ | apply bd3_ | refine ubs3_ ?_ (by assumption)) | exact HB.out))⟩)
    ·skip
     refine box_step ?hg (N := 9) ?hd (cs := #[.slice none 0 0]) (t := 30) ?hr ?_; (case hd => rfl); (case hg => rfl); (case hr => first | (go_simp; done) | (go_simp; rfl))
     intro gb211 hg w43 hbox hb
     have n0_ := A3_ (Kd.R_below (by exact ur3_ HO191.out) hb)
     have n1_ := A3_ (Kd.R_below (by exact ur3_ HO197.out) hb)
     have n2_ := A3_ (Kd.R_below (by exact ur3_ HO202.out) hb)
     have n7_ := A3_ (bt3_ (by repeat (first | (with_reducible first | exact HB.out | apply ba3_ | apply bn3_ | apply bd3_ | refine ubs3_ ?_ (by assumption)) | exact HB.out)) hb)
     have n8_ := A3_ (hbox)
     have n9_ := A3_ ((by rw [hg]; exact (below_size (by repeat (first | (with_reducible first | exact HB.out | apply ba3_ | apply bn3_ | apply bd3_ | refine ubs3_ ?_ (by assumption)) | exact HB.out))) : w.heap.size ≤ gb211))
     have n10_ := A3_ ((by rw [hg]; exact (below_size (by repeat (first | (with_reducible first | exact HB.out | apply ba3_ | apply bn3_ | apply bd3_ | refine ubs3_ ?_ (by assumption)) | exact HB.out))) : w.heap.size ≤ gb211))
     have n11_ := A3_ ((by rw [hg]; exact Nat.ne_of_lt (ukl3_ BK186.out) : gb186 ≠ gb211))
     have n12_ := A3_ ((by rw [hg]; exact Nat.ne_of_gt (ukl3_ BK186.out) : gb211 ≠ gb186))
     have n13_ := A3_ ((by rw [hg]; exact Nat.ne_of_lt (ukl3_ BK187.out) : gb187 ≠ gb211))
     have n14_ := A3_ ((by rw [hg]; exact Nat.ne_of_gt (ukl3_ BK187.out) : gb211 ≠ gb187))
     have n15_ := A3_ ((by rw [hg]; exact Nat.ne_of_lt (ukl3_ BK199.out) : gb199 ≠ gb211))
     have n16_ := A3_ ((by rw [hg]; exact Nat.ne_of_gt (ukl3_ BK199.out) : gb211 ≠ gb199))
     have n17_ := A3_ ((by rw [hg]; exact Nat.ne_of_lt (ukl3_ BK203.out) : gb203 ≠ gb211))
     have n18_ := A3_ ((by rw [hg]; exact Nat.ne_of_gt (ukl3_ BK203.out) : gb211 ≠ gb203))
     clear HO191
     clear HO197
     clear HO202
     clear HB
     have HO191 := n0_
     have HO197 := n1_
     have HO202 := n2_
     replace BK186 := A3_ (ukb3_ BK186.out hb)
     replace BK187 := A3_ (ukb3_ BK187.out hb)
     replace BK199 := A3_ (ukb3_ BK199.out hb)
     replace BK203 := A3_ (ukb3_ BK203.out hb)
     have HB := n7_
     have BK211 := n8_
     have GW211 := n9_
     have GE211 := n10_
     have NB186_211 := n11_
     have NB211_186 := n12_
     have NB187_211 := n13_
     have NB211_187 := n14_
     have NB199_211 := n15_
     have NB211_199 := n16_
     have NB203_211 := n17_
     have NB211_203 := n18_
     clear n0_ n1_ n2_ n7_ n8_ n9_ n10_ n11_ n12_ n13_ n14_ n15_ n16_ n17_ n18_
     clear hb hbox hg
     refine hK.out _ _ ⟨(blk_cell BK203.out 0).trans rfl, (blk_cell BK187.out 0).trans rfl, (blk_cell BK187.out 1).trans rfl, (blk_cell BK187.out 2).trans rfl⟩ (fun hHeld => ?_)
     clear hK K
     refine norm_ (a' := ?_) ?_ ?_
     rotate_left
     ·show Act.put _ (some 9) _ = _
      simp only [Act.put, us3_, ut3_, uv3_, i64_w, i32_w]
      rfl
     refine one_ (i := 3) (N := some 35) #[true, true, true, true, false, false, false, true, false, false] rfl rfl (one_of HT_.out (by kernel_rfl)) (by decide) (fun K hK => ?_)
     refine goes_ Try.func9 (by kernel_rfl) rfl #[.agg #[.slice Ao35 t200.length co35], .agg #[.int .i64 t204, .int .i64 t205, .int .i64 t206]] (by rfl) rfl rfl (by (try simp only [List.map_toArray, List.map_cons, List.map_nil]); first | done | rfl | (simp only [List.length_drop, List.length_take]; rfl)) ?_
     with_reducible refine (impl_AddClue.calls k _ _ t200 t204 t205 t206 t207 t210 _ ?side1 ?side2 A15.out).mono ?_
     (case side1 => repeat (first | exact (Kd.R_reads' HO202.out).2.2 | (with_reducible refine Kd.C_alloc ?_ _) | (with_reducible refine Kd.C_drewN ?_ _) | (with_reducible refine Kd.C_drew ?_)))
     (case side2 => exact (Kd.R_reads' HO202.out).2.1)
     rintro e w44 ⟨v208, rfl, ho0, hb⟩
     refine ⟨_, rfl, ?_⟩
     have n0_ := A3_ (re3_ (by exact ur3_ HO191.out) (Kd.R_base ho0) hb)
     have n1_ := A3_ (re3_ (by exact ur3_ HO197.out) (Kd.R_base ho0) hb)
     have n2_ := A3_ (re3_ (by exact ur3_ HO202.out) (Kd.R_base ho0) hb)
     have n3_ := A3_ (Kd.R_lower (Kd.R_new' (Kd.R_new' (Kd.R_new' ho0 (Kd.R_lt (by exact ur3_ HO191.out))) (Kd.R_lt (by exact ur3_ HO197.out))) (Kd.R_lt (by exact ur3_ HO202.out))) (below_size (by repeat (first | (with_reducible first | exact HB.out | apply ba3_ | apply bn3_ | apply bd3_ | refine ubs3_ ?_ (by assumption)) | exact HB.out))))
     have n9_ := A3_ (bt3_ (by repeat (first | (with_reducible first | exact HB.out | apply ba3_ | apply bn3_ | apply bd3_ | refine ubs3_ ?_ (by assumption)) | exact HB.out)) hb)
     clear HO191
     clear HO197
     clear HO202
     clear HB
     have HO191 := n0_
     have HO197 := n1_
     have HO202 := n2_
     have HO209 := n3_
     replace BK186 := A3_ (ukb3_ BK186.out hb)
     replace BK187 := A3_ (ukb3_ BK187.out hb)
     replace BK199 := A3_ (ukb3_ BK199.out hb)
     replace BK203 := A3_ (ukb3_ BK203.out hb)
     replace BK211 := A3_ (ukb3_ BK211.out hb)
     have HB := n9_
     clear n0_ n1_ n2_ n3_ n9_
     (try clear hb)
     (try clear hb2)
     (try clear hk)
     (try clear hi)
     (try clear ho0)
     refine hK.out _ _ ⟨(blk_cell BK203.out 0).trans rfl, (blk_cell BK187.out 0).trans rfl, (blk_cell BK187.out 1).trans rfl, (blk_cell BK187.out 2).trans rfl⟩ (fun hHeld => ?_)
     clear hK K
     refine norm_ (a' := ?_) ?_ ?_
     rotate_left
     ·show Act.put _ (some 35) _ = _
      simp only [Act.put, us3_, ut3_, uv3_, i64_w, i32_w]
      rfl
     refine pure_ (i := 4) (N := some 31) (v := ?_) (a' := ?_) #[true, true, true, true, true, false, false, true, false, false] rfl rfl (any_of HT_.out (by kernel_rfl)) (fun _ _ _ h => h) (Or.inl ⟨by rfl, ?_⟩) ?_ ?_
     rotate_left
     ·intro w'
      go_simp
      with_reducible rfl
     rotate_left
     ·simp only [Act.put, us3_, ut3_, uv3_, i64_w, i32_w]
      rfl
     refine pure_ (i := 5) (N := some 36) (v := ?_) (a' := ?_) #[true, true, true, true, true, true, false, true, false, false] rfl rfl (any_of HT_.out (by kernel_rfl)) (fun _ _ _ h => h) (Or.inl ⟨by rfl, ?_⟩) ?_ ?_
     rotate_left
     ·intro w'
      go_simp
      with_reducible rfl
     rotate_left
     ·simp only [Act.put, us3_, ut3_, uv3_, i64_w, i32_w]
      rfl
     refine pure_ (i := 6) (N := some 37) (v := ?_) (a' := ?_) #[true, true, true, true, true, true, true, true, false, false] rfl rfl (any_of HT_.out (by kernel_rfl)) (fun _ _ _ h => h) (Or.inl ⟨by rfl, ?_⟩) ?_ ?_
     rotate_left
     ·intro w'
      go_simp
      with_reducible rfl
     rotate_left
     ·simp only [Act.put, us3_, ut3_, uv3_, i64_w, i32_w]
      rfl
     exact norm_ (by simp only [putAll, Act.put, List.setIfInBounds_toArray, List.set_cons_zero, List.set_cons_succ]) (hCont (v208, gb211) _ ⟨hHeld, (by (with_reducible repeat (first | apply ra3_ | apply rn3_ | apply rd3_)); exact Kd.R_mono HO191.out (fun _ hk => ⟨hk.1.1, ⟨hk.1.2, hk.2⟩⟩)), (by (with_reducible repeat (first | apply ra3_ | apply rn3_ | apply rd3_)); exact Kd.R_mono HO197.out (fun _ hk => ⟨hk.1.1, ⟨hk.1.2, hk.2⟩⟩)), (by (with_reducible repeat (first | apply ra3_ | apply rn3_ | apply rd3_)); exact Kd.R_mono HO202.out (fun _ hk => ⟨hk.1.1, ⟨hk.1.2, hk.2⟩⟩)), (by (with_reducible repeat (first | apply ra3_ | apply rn3_ | apply rd3_)); exact Kd.R_mono HO209.out (fun _ hk => ⟨hk.1.1.2, ⟨hk.1.2, hk.2⟩⟩)), (by exact uk3_ BK186.out), (by exact uk3_ BK187.out), (by exact uk3_ BK199.out), (by exact uk3_ BK203.out), (by exact uk3_ BK211.out), GW211.out, GE211.out, NB186_211.out, NB211_186.out, NB187_211.out, NB211_187.out, NB199_211.out, NB211_199.out, NB203_211.out, NB211_203.out, (by repeat (first | (with_reducible first | exact HB.out | apply ba3_ | apply bn3_ | apply bd3_ | refine ubs3_ ?_ (by assumption)) | exact HB.out))⟩)
   ·skip
    refine box_step ?hg (N := 9) ?hd (cs := #[.slice none 0 0]) (t := 30) ?hr ?_; (case hd => rfl); (case hg => rfl); (case hr => first | (go_simp; done) | (go_simp; rfl))
    intro gb211 hg w42 hbox hb
    have n0_ := A3_ (Kd.R_below (by exact ur3_ HO191.out) hb)
    have n1_ := A3_ (Kd.R_below (by exact ur3_ HO197.out) hb)
    have n2_ := A3_ (Kd.R_below (by exact ur3_ HO202.out) hb)
    have n7_ := A3_ (bt3_ (by repeat (first | (with_reducible first | exact HB.out | apply ba3_ | apply bn3_ | apply bd3_ | refine ubs3_ ?_ (by assumption)) | exact HB.out)) hb)
    have n8_ := A3_ (hbox)
    have n9_ := A3_ ((by rw [hg]; exact (below_size (by repeat (first | (with_reducible first | exact HB.out | apply ba3_ | apply bn3_ | apply bd3_ | refine ubs3_ ?_ (by assumption)) | exact HB.out))) : w.heap.size ≤ gb211))
    have n10_ := A3_ ((by rw [hg]; exact (below_size (by repeat (first | (with_reducible first | exact HB.out | apply ba3_ | apply bn3_ | apply bd3_ | refine ubs3_ ?_ (by assumption)) | exact HB.out))) : w.heap.size ≤ gb211))
    have n11_ := A3_ ((by rw [hg]; exact Nat.ne_of_lt (ukl3_ BK186.out) : gb186 ≠ gb211))
    have n12_ := A3_ ((by rw [hg]; exact Nat.ne_of_gt (ukl3_ BK186.out) : gb211 ≠ gb186))
    have n13_ := A3_ ((by rw [hg]; exact Nat.ne_of_lt (ukl3_ BK187.out) : gb187 ≠ gb211))
    have n14_ := A3_ ((by rw [hg]; exact Nat.ne_of_gt (ukl3_ BK187.out) : gb211 ≠ gb187))
    have n15_ := A3_ ((by rw [hg]; exact Nat.ne_of_lt (ukl3_ BK199.out) : gb199 ≠ gb211))
    have n16_ := A3_ ((by rw [hg]; exact Nat.ne_of_gt (ukl3_ BK199.out) : gb211 ≠ gb199))
    have n17_ := A3_ ((by rw [hg]; exact Nat.ne_of_lt (ukl3_ BK203.out) : gb203 ≠ gb211))
    have n18_ := A3_ ((by rw [hg]; exact Nat.ne_of_gt (ukl3_ BK203.out) : gb211 ≠ gb203))
    clear HO191
    clear HO197
    clear HO202
    clear HB
    have HO191 := n0_
    have HO197 := n1_
    have HO202 := n2_
    replace BK186 := A3_ (ukb3_ BK186.out hb)
    replace BK187 := A3_ (ukb3_ BK187.out hb)
    replace BK199 := A3_ (ukb3_ BK199.out hb)
    replace BK203 := A3_ (ukb3_ BK203.out hb)
    have HB := n7_
    have BK211 := n8_
    have GW211 := n9_
    have GE211 := n10_
    have NB186_211 := n11_
    have NB211_186 := n12_
    have NB187_211 := n13_
    have NB211_187 := n14_
    have NB199_211 := n15_
    have NB211_199 := n16_
    have NB203_211 := n17_
    have NB211_203 := n18_
    clear n0_ n1_ n2_ n7_ n8_ n9_ n10_ n11_ n12_ n13_ n14_ n15_ n16_ n17_ n18_
    clear hb hbox hg
    refine hK.out _ _ ⟨(blk_cell BK203.out 0).trans rfl, (blk_cell BK187.out 0).trans rfl, (blk_cell BK187.out 1).trans rfl, (blk_cell BK187.out 2).trans rfl⟩ (fun hHeld => ?_)
    clear hK K
    refine norm_ (a' := ?_) ?_ ?_
    rotate_left
    ·show Act.put _ (some 9) _ = _
     simp only [Act.put, us3_, ut3_, uv3_, i64_w, i32_w]
     rfl
    refine one_ (i := 2) (N := some 34) #[true, true, true, false, false, false, false, true, false, false] rfl rfl (one_of HT_.out (by kernel_rfl)) (by decide) (fun K hK => ?_)
    refine goes_ Try.func8 (by kernel_rfl) rfl #[.agg #[.int .i64 a1_0, .int .i64 a1_1, .int .i64 a1_2]] (by rfl) rfl rfl (by (try simp only [List.map_toArray, List.map_cons, List.map_nil]); first | done | rfl | (simp only [List.length_drop, List.length_take]; rfl)) ?_
    with_reducible refine (laws_toClue.calls a1_0 a1_1 a1_2 t204 t205 t206 _ A14.out).mono ?_
    rintro e w43 ⟨rfl, hb⟩
    refine ⟨_, rfl, ?_⟩
    have n0_ := A3_ (Kd.R_below (by exact ur3_ HO191.out) hb)
    have n1_ := A3_ (Kd.R_below (by exact ur3_ HO197.out) hb)
    have n2_ := A3_ (Kd.R_below (by exact ur3_ HO202.out) hb)
    have n8_ := A3_ (bt3_ (by repeat (first | (with_reducible first | exact HB.out | apply ba3_ | apply bn3_ | apply bd3_ | refine ubs3_ ?_ (by assumption)) | exact HB.out)) hb)
    clear HO191
    clear HO197
    clear HO202
    clear HB
    have HO191 := n0_
    have HO197 := n1_
    have HO202 := n2_
    replace BK186 := A3_ (ukb3_ BK186.out hb)
    replace BK187 := A3_ (ukb3_ BK187.out hb)
    replace BK199 := A3_ (ukb3_ BK199.out hb)
    replace BK203 := A3_ (ukb3_ BK203.out hb)
    replace BK211 := A3_ (ukb3_ BK211.out hb)
    have HB := n8_
    clear n0_ n1_ n2_ n8_
    (try clear hb)
    (try clear hb2)
    (try clear hk)
    (try clear hi)
    refine hK.out _ _ ⟨(blk_cell BK203.out 0).trans rfl, (blk_cell BK187.out 0).trans rfl, (blk_cell BK187.out 1).trans rfl, (blk_cell BK187.out 2).trans rfl⟩ (fun hHeld => ?_)
    clear hK K
    refine norm_ (a' := ?_) ?_ ?_
    rotate_left
    ·show Act.put _ (some 34) _ = _
     simp only [Act.put, us3_, ut3_, uv3_, i64_w, i32_w]
     rfl
    refine one_ (i := 3) (N := some 35) #[true, true, true, true, false, false, false, true, false, false] rfl rfl (one_of HT_.out (by kernel_rfl)) (by decide) (fun K hK => ?_)
    refine goes_ Try.func9 (by kernel_rfl) rfl #[.agg #[.slice Ao35 t200.length co35], .agg #[.int .i64 t204, .int .i64 t205, .int .i64 t206]] (by rfl) rfl rfl (by (try simp only [List.map_toArray, List.map_cons, List.map_nil]); first | done | rfl | (simp only [List.length_drop, List.length_take]; rfl)) ?_
    with_reducible refine (impl_AddClue.calls k _ _ t200 t204 t205 t206 t207 t210 _ ?side1 ?side2 A15.out).mono ?_
    (case side1 => repeat (first | exact (Kd.R_reads' HO202.out).2.2 | (with_reducible refine Kd.C_alloc ?_ _) | (with_reducible refine Kd.C_drewN ?_ _) | (with_reducible refine Kd.C_drew ?_)))
    (case side2 => exact (Kd.R_reads' HO202.out).2.1)
    rintro e w44 ⟨v208, rfl, ho0, hb⟩
    refine ⟨_, rfl, ?_⟩
    have n0_ := A3_ (re3_ (by exact ur3_ HO191.out) (Kd.R_base ho0) hb)
    have n1_ := A3_ (re3_ (by exact ur3_ HO197.out) (Kd.R_base ho0) hb)
    have n2_ := A3_ (re3_ (by exact ur3_ HO202.out) (Kd.R_base ho0) hb)
    have n3_ := A3_ (Kd.R_lower (Kd.R_new' (Kd.R_new' (Kd.R_new' ho0 (Kd.R_lt (by exact ur3_ HO191.out))) (Kd.R_lt (by exact ur3_ HO197.out))) (Kd.R_lt (by exact ur3_ HO202.out))) (below_size (by repeat (first | (with_reducible first | exact HB.out | apply ba3_ | apply bn3_ | apply bd3_ | refine ubs3_ ?_ (by assumption)) | exact HB.out))))
    have n9_ := A3_ (bt3_ (by repeat (first | (with_reducible first | exact HB.out | apply ba3_ | apply bn3_ | apply bd3_ | refine ubs3_ ?_ (by assumption)) | exact HB.out)) hb)
    clear HO191
    clear HO197
    clear HO202
    clear HB
    have HO191 := n0_
    have HO197 := n1_
    have HO202 := n2_
    have HO209 := n3_
    replace BK186 := A3_ (ukb3_ BK186.out hb)
    replace BK187 := A3_ (ukb3_ BK187.out hb)
    replace BK199 := A3_ (ukb3_ BK199.out hb)
    replace BK203 := A3_ (ukb3_ BK203.out hb)
    replace BK211 := A3_ (ukb3_ BK211.out hb)
    have HB := n9_
    clear n0_ n1_ n2_ n3_ n9_
    (try clear hb)
    (try clear hb2)
    (try clear hk)
    (try clear hi)
    (try clear ho0)
    refine hK.out _ _ ⟨(blk_cell BK203.out 0).trans rfl, (blk_cell BK187.out 0).trans rfl, (blk_cell BK187.out 1).trans rfl, (blk_cell BK187.out 2).trans rfl⟩ (fun hHeld => ?_)
    clear hK K
    refine norm_ (a' := ?_) ?_ ?_
    rotate_left
    ·show Act.put _ (some 35) _ = _
     simp only [Act.put, us3_, ut3_, uv3_, i64_w, i32_w]
     rfl
    refine pure_ (i := 4) (N := some 31) (v := ?_) (a' := ?_) #[true, true, true, true, true, false, false, true, false, false] rfl rfl (any_of HT_.out (by kernel_rfl)) (fun _ _ _ h => h) (Or.inl ⟨by rfl, ?_⟩) ?_ ?_
    rotate_left
    ·intro w'
     go_simp
     with_reducible rfl
    rotate_left
    ·simp only [Act.put, us3_, ut3_, uv3_, i64_w, i32_w]
     rfl
    refine pure_ (i := 5) (N := some 36) (v := ?_) (a' := ?_) #[true, true, true, true, true, true, false, true, false, false] rfl rfl (any_of HT_.out (by kernel_rfl)) (fun _ _ _ h => h) (Or.inl ⟨by rfl, ?_⟩) ?_ ?_
    rotate_left
    ·intro w'
     go_simp
     with_reducible rfl
    rotate_left
    ·simp only [Act.put, us3_, ut3_, uv3_, i64_w, i32_w]
     rfl
    refine pure_ (i := 6) (N := some 37) (v := ?_) (a' := ?_) #[true, true, true, true, true, true, true, true, false, false] rfl rfl (any_of HT_.out (by kernel_rfl)) (fun _ _ _ h => h) (Or.inl ⟨by rfl, ?_⟩) ?_ ?_
    rotate_left
    ·intro w'
     go_simp
     with_reducible rfl
    rotate_left
    ·simp only [Act.put, us3_, ut3_, uv3_, i64_w, i32_w]
     rfl
    exact norm_ (by simp only [putAll, Act.put, List.setIfInBounds_toArray, List.set_cons_zero, List.set_cons_succ]) (hCont (v208, gb211) _ ⟨hHeld, (by (with_reducible repeat (first | apply ra3_ | apply rn3_ | apply rd3_)); exact Kd.R_mono HO191.out (fun _ hk => ⟨hk.1.1, ⟨hk.1.2, hk.2⟩⟩)), (by (with_reducible repeat (first | apply ra3_ | apply rn3_ | apply rd3_)); exact Kd.R_mono HO197.out (fun _ hk => ⟨hk.1.1, ⟨hk.1.2, hk.2⟩⟩)), (by (with_reducible repeat (first | apply ra3_ | apply rn3_ | apply rd3_)); exact Kd.R_mono HO202.out (fun _ hk => ⟨hk.1.1, ⟨hk.1.2, hk.2⟩⟩)), (by (with_reducible repeat (first | apply ra3_ | apply rn3_ | apply rd3_)); exact Kd.R_mono HO209.out (fun _ hk => ⟨hk.1.1.2, ⟨hk.1.2, hk.2⟩⟩)), (by exact uk3_ BK186.out), (by exact uk3_ BK187.out), (by exact uk3_ BK199.out), (by exact uk3_ BK203.out), (by exact uk3_ BK211.out), GW211.out, GE211.out, NB186_211.out, NB211_186.out, NB187_211.out, NB211_187.out, NB199_211.out, NB211_199.out, NB203_211.out, NB211_203.out, (by repeat (first | (with_reducible first | exact HB.out | apply ba3_ | apply bn3_ | apply bd3_ | refine ubs3_ ?_ (by assumption)) | exact HB.out))⟩)
  rintro ⟨v208, gb211⟩ w45 ⟨hS_, h0_, h1_, h2_, h3_, h4_, h5_, h6_, h7_, h8_, h9_, h10_, h11_, h12_, h13_, h14_, h15_, h16_, h17_, h18_, h19_⟩
  have n0_ : Aside0 (Kd.R k34 34 w45 w.heap.size (fun k_ => some k_ ≠ (.slice Ao29 t195.length co29 : Value).ownBlock ∧ some k_ ≠ (.slice Ao35 t200.length co35 : Value).ownBlock ∧ some k_ ≠ (v208 : Value).ownBlock) v190 t189) := ⟨h0_⟩
  have n1_ : Aside0 (Kd.R k34 34 w45 w.heap.size (fun k_ => some k_ ≠ (v190 : Value).ownBlock ∧ some k_ ≠ (.slice Ao35 t200.length co35 : Value).ownBlock ∧ some k_ ≠ (v208 : Value).ownBlock) (.slice Ao29 t195.length co29) t195) := ⟨h1_⟩
  have n2_ : Aside0 (Kd.R k34 34 w45 w.heap.size (fun k_ => some k_ ≠ (v190 : Value).ownBlock ∧ some k_ ≠ (.slice Ao29 t195.length co29 : Value).ownBlock ∧ some k_ ≠ (v208 : Value).ownBlock) (.slice Ao35 t200.length co35) t200) := ⟨h2_⟩
  have n3_ : Aside0 (Kd.R k34 34 w45 w.heap.size (fun k_ => some k_ ≠ (v190 : Value).ownBlock ∧ some k_ ≠ (.slice Ao29 t195.length co29 : Value).ownBlock ∧ some k_ ≠ (.slice Ao35 t200.length co35 : Value).ownBlock) v208 t207) := ⟨h3_⟩
  have n4_ : Aside0 (w45.heap[gb186]? = some (.cells #[.slice A0_0 l0_0.length c0_0] 24 (0, 0))) := ⟨h4_⟩
  have n5_ : Aside0 (w45.heap[gb187]? = some (.cells #[.int .i64 a1_0, .int .i64 a1_1, .int .i64 a1_2] 26 (0, 0))) := ⟨h5_⟩
  have n6_ : Aside0 (w45.heap[gb199]? = some (.cells #[.slice Ao29 t195.length co29] 30 (0, 0))) := ⟨h6_⟩
  have n7_ : Aside0 (w45.heap[gb203]? = some (.cells #[.slice Ao35 t200.length co35] 30 (0, 0))) := ⟨h7_⟩
  have n8_ : Aside0 (w45.heap[gb211]? = some (.cells #[.slice none 0 0] 30 (0, 0))) := ⟨h8_⟩
  have n9_ : Aside0 (w.heap.size ≤ gb211) := ⟨h9_⟩
  have n10_ : Aside0 (w.heap.size ≤ gb211) := ⟨h10_⟩
  have n11_ : Aside0 (gb186 ≠ gb211) := ⟨h11_⟩
  have n12_ : Aside0 (gb211 ≠ gb186) := ⟨h12_⟩
  have n13_ : Aside0 (gb187 ≠ gb211) := ⟨h13_⟩
  have n14_ : Aside0 (gb211 ≠ gb187) := ⟨h14_⟩
  have n15_ : Aside0 (gb199 ≠ gb211) := ⟨h15_⟩
  have n16_ : Aside0 (gb211 ≠ gb199) := ⟨h16_⟩
  have n17_ : Aside0 (gb203 ≠ gb211) := ⟨h17_⟩
  have n18_ : Aside0 (gb211 ≠ gb203) := ⟨h18_⟩
  have n19_ : Aside0 (Below w.heap.size w w45) := ⟨h19_⟩
  clear HO191
  clear HO197
  clear HO202
  clear BK186
  clear BK187
  clear BK199
  clear BK203
  clear HB
  clear h0_ h1_ h2_ h3_ h4_ h5_ h6_ h7_ h8_ h9_ h10_ h11_ h12_ h13_ h14_ h15_ h16_ h17_ h18_ h19_
  have HO191 := n0_
  have HO197 := n1_
  have HO202 := n2_
  have HO209 := n3_
  have BK186 := n4_
  have BK187 := n5_
  have BK199 := n6_
  have BK203 := n7_
  have BK211 := n8_
  have GW211 := n9_
  have GE211 := n10_
  have NB186_211 := n11_
  have NB211_186 := n12_
  have NB187_211 := n13_
  have NB211_187 := n14_
  have NB199_211 := n15_
  have NB211_199 := n16_
  have NB203_211 := n17_
  have NB211_203 := n18_
  have HB := n19_
  clear n0_ n1_ n2_ n3_ n4_ n5_ n6_ n7_ n8_ n9_ n10_ n11_ n12_ n13_ n14_ n15_ n16_ n17_ n18_ n19_
  have hHeld : w45.cell? ⟨gb203, 0, none⟩ = some (.slice Ao35 t200.length co35) ∧ w45.cell? ⟨gb187, 0, none⟩ = some (.int .i64 a1_0) ∧ w45.cell? ⟨gb187, 1, none⟩ = some (.int .i64 a1_1) ∧ w45.cell? ⟨gb187, 2, none⟩ = some (.int .i64 a1_2) := hS_
  obtain ⟨Ao46, co46, eo46⟩ := Kd.R_slice HO209.out
  (first | subst eo46 | (injection eo46 with f1_ f2_ f3_; have f4_ := f1_.symm; have f5_ := f3_.symm; clear f1_ f2_ f3_; subst f4_; subst f5_))
  refine norm_ (a' := ?_) ?_ ?_
  rotate_left
  ·simp only [putAll, Act.put, List.setIfInBounds_toArray, List.set_cons_zero, List.set_cons_succ]
   rfl
  refine one_ (i := 8) (N := none) #[true, true, true, true, true, true, true, true, true, false] rfl rfl (one_of HT_.out (by kernel_rfl)) (by decide) (fun K hK => ?_)
  have hs47 : w45.cell? ⟨gb211, 0, none⟩ = some (.slice none 0 0) := (blk_cell BK211.out 0).trans rfl
  have hfs47 := blk_frozen BK211.out 0
  have hns47_0 := NB186_211.out
  have hns47_1 := NB187_211.out
  have hns47_2 := NB199_211.out
  have hns47_3 := NB203_211.out
  have hms47_0 := NB211_186.out
  have hms47_1 := NB211_187.out
  have hms47_2 := NB211_199.out
  have hms47_3 := NB211_203.out
  refine skip_ (w1 := ?_) (by rfl) rfl ?_ ?_
  rotate_left
  ·go_simp
   rfl
  refine hK.out _ _ ⟨((cell_far (p := ⟨gb211, _, none⟩) NB203_211.out _).trans (hHeld.1)), ((cell_far (p := ⟨gb211, _, none⟩) NB187_211.out _).trans (hHeld.2.1)), ((cell_far (p := ⟨gb211, _, none⟩) NB187_211.out _).trans (hHeld.2.2.1)), ((cell_far (p := ⟨gb211, _, none⟩) NB187_211.out _).trans (hHeld.2.2.2))⟩ (fun hHeld => ?_)
  clear hK K
  refine pure_ (i := 9) (N := some 10) (v := ?_) (a' := ?_) #[true, true, true, true, true, true, true, true, true, true] rfl rfl (any_of HT_.out (by kernel_rfl)) (fun _ _ _ h => h) (Or.inl ⟨by rfl, ?_⟩) ?_ ?_
  rotate_left
  ·intro w'
   go_simp
   with_reducible rfl
  rotate_left
  ·simp only [Act.put, us3_, ut3_, uv3_, i64_w, i32_w]
   rfl
  refine done_ (done_of HT_.out (by kernel_rfl)) ?_
  go_upto_region 8 with (fail)
  go_cut [46] (fun v46 wc => ∃ (kq : Nat) (x46_15 : Bool), v46 = .bool x46_15 ∧ Aside0 (j0 kq t198 t210 x46_15 l0_0 a1_0 a1_1 a1_2 t195 t200 t207 = some r) ∧ Aside0 (kq ≤ k) ∧ Aside0 (Kd.R k34 34 wc w.heap.size (fun k_ => some k_ ≠ ((.slice Ao35 t200.length co35) : Value).ownBlock ∧ some k_ ≠ ((.slice Ao46 t207.length co46) : Value).ownBlock) (.slice Ao29 t195.length co29) t195) ∧ Aside0 (Kd.R k34 34 wc w.heap.size (fun k_ => some k_ ≠ ((.slice Ao29 t195.length co29) : Value).ownBlock ∧ some k_ ≠ ((.slice Ao46 t207.length co46) : Value).ownBlock) (.slice Ao35 t200.length co35) t200) ∧ Aside0 (Kd.R k34 34 wc w.heap.size (fun k_ => some k_ ≠ ((.slice Ao29 t195.length co29) : Value).ownBlock ∧ some k_ ≠ ((.slice Ao35 t200.length co35) : Value).ownBlock) (.slice Ao46 t207.length co46) t207) ∧ Aside0 (wc.heap[gb186]? = some (.cells #[(.slice A0_0 l0_0.length c0_0)] 24 (0, 0))) ∧ Aside0 (wc.heap[gb187]? = some (.cells #[.int .i64 a1_0, .int .i64 a1_1, .int .i64 a1_2] 26 (0, 0))) ∧ Aside0 (wc.heap[gb199]? = some (.cells #[(.slice Ao29 t195.length co29)] 30 (0, 0))) ∧ Aside0 (wc.heap[gb203]? = some (.cells #[(.slice Ao35 t200.length co35)] 30 (0, 0))) ∧ Aside0 (wc.heap[gb211]? = some (.cells #[(.slice Ao46 t207.length co46)] 30 (0, 0))) ∧ Aside0 (Below w.heap.size w wc))
  case first =>
   have H := HC16.out
   clear HC16
   replace H := Option.bind_eq_some_iff.mp H
   obtain ⟨t212, A480, H⟩ := H
   replace H : (if t212 = true then (j0 k t198 t210 (t210 != t198) l0_0 a1_0 a1_1 a1_2 t195 t200 t207) else (j0 k t198 t210 true l0_0 a1_0 a1_1 a1_2 t195 t200 t207)) = some r := H
   have A48 := A3_ A480
   clear A480
   by_cases c49 : t212 = true
   ·subst c49
    have H1 : (j0 k t198 t210 (t210 != t198) l0_0 a1_0 a1_1 a1_2 t195 t200 t207) = some r := by rw [if_pos rfl] at H; exact H
    clear H
    have H := H1
    clear H1
    have H' := A3_ H
    clear H
    have hnb50 := NB211_186.out
    have hnc50 := NB186_211.out
    have hnb51 := NB211_187.out
    have hnc51 := NB187_211.out
    have hnb52 := NB211_199.out
    have hnc52 := NB199_211.out
    have hnb53 := NB211_203.out
    have hnc53 := NB203_211.out
    have hcz54_0 : w45.cell? ⟨gb211, 0, none⟩ = some (.slice none 0 0) := (blk_cell BK211.out 0).trans rfl
    have hfz54_0 := blk_frozen BK211.out 0
    have hnb55 := NB199_186.out
    have hnc55 := NB186_199.out
    have hnb56 := NB199_187.out
    have hnc56 := NB187_199.out
    have hnb57 := NB199_203.out
    have hnc57 := NB203_199.out
    have hcz58_0 : w45.cell? ⟨gb199, 0, none⟩ = some (.slice Ao29 t195.length co29) := (blk_cell BK199.out 0).trans rfl
    have hfz58_0 := blk_frozen BK199.out 0
    go_wp2_with (first | ((with_reducible refine gate_callee (f := 10) rfl ?_); refine goesL_ (some 40) rfl rfl Try.func10 (by kernel_rfl) rfl #[.agg #[.slice Ao46 t207.length co46], .agg #[.slice Ao29 t195.length co29]] rfl (by (try simp only [List.map_toArray, List.map_cons, List.map_nil]); first | done | rfl | (simp only [List.length_drop, List.length_take]; rfl)) ?_; (with_reducible refine (laws_eqPuzzle.calls k _ _ t207 _ _ t195 true _ ?side1 ?side2 ?side3 ?side4 A48.out).mono ?_); (case side1 => refine (Kd.R_reads' (e := 34) (base := w.heap.size) (ok := fun k_ => (some k_ ≠ (v190 : Value).ownBlock ∧ (some k_ ≠ (.slice Ao29 t195.length co29 : Value).ownBlock ∧ some k_ ≠ (.slice Ao35 t200.length co35 : Value).ownBlock))) (n := t207.length) (c := co46) ?_).2.2; exact (by (with_reducible repeat (first | apply ra3_ | apply rn3_ | apply rd3_)); exact (Kd.R_mono (Kd.R_far (p := ⟨gb211, 0, none⟩) (Kd.R_types HO209.out BK211.out (by decide)) (fun _ hk => hk.2) (.slice Ao46 t207.length co46)) (fun _ h_ => h_.1)))); (case side2 => exact (Kd.R_reads' HO209.out).2.1); (case side3 => refine (Kd.R_reads' (e := 34) (base := w.heap.size) (ok := fun k_ => (some k_ ≠ (v190 : Value).ownBlock ∧ (some k_ ≠ (.slice Ao35 t200.length co35 : Value).ownBlock ∧ some k_ ≠ (.slice Ao46 t207.length co46 : Value).ownBlock))) (n := t195.length) (c := co29) ?_).2.2; exact (by (with_reducible repeat (first | apply ra3_ | apply rn3_ | apply rd3_)); exact (Kd.R_mono (Kd.R_far (p := ⟨gb211, 0, none⟩) (Kd.R_types HO197.out BK211.out (by decide)) (fun _ hk => hk.2) (.slice Ao46 t207.length co46)) (fun _ h_ => h_.1)))); (case side4 => exact (Kd.R_reads' HO197.out).2.1); rintro e w59 ⟨rfl, hb⟩; refine ⟨_, rfl, ?_⟩; have n0_ := A3_ (Kd.R_below (by (with_reducible repeat (first | apply ra3_ | apply rn3_ | apply rd3_)); exact (Kd.R_mono (Kd.R_far (p := ⟨gb211, 0, none⟩) (Kd.R_types HO191.out BK211.out (by decide)) (fun _ hk => hk.2) (.slice Ao46 t207.length co46)) (fun _ h_ => h_.1))) hb); have n1_ := A3_ (Kd.R_below (by (with_reducible repeat (first | apply ra3_ | apply rn3_ | apply rd3_)); exact (Kd.R_mono (Kd.R_far (p := ⟨gb211, 0, none⟩) (Kd.R_types HO197.out BK211.out (by decide)) (fun _ hk => hk.2) (.slice Ao46 t207.length co46)) (fun _ h_ => h_.1))) hb); have n2_ := A3_ (Kd.R_below (by (with_reducible repeat (first | apply ra3_ | apply rn3_ | apply rd3_)); exact (Kd.R_mono (Kd.R_far (p := ⟨gb211, 0, none⟩) (Kd.R_types HO202.out BK211.out (by decide)) (fun _ hk => hk.2) (.slice Ao46 t207.length co46)) (fun _ h_ => h_.1))) hb); have n3_ := A3_ (Kd.R_below (by (with_reducible repeat (first | apply ra3_ | apply rn3_ | apply rd3_)); exact (Kd.R_mono (Kd.R_far (p := ⟨gb211, 0, none⟩) (Kd.R_types HO209.out BK211.out (by decide)) (fun _ hk => hk.2) (.slice Ao46 t207.length co46)) (fun _ h_ => h_.1))) hb); have n4_ := A3_ (kb3_ (g := gb186) (o := .cells #[.slice A0_0 l0_0.length c0_0] 24 (0, 0)) (by (with_reducible repeat (first | refine kn3_ ?_ _ | refine kd3_ ?_ | refine ka3_ ?_ _)); refine blk_far ?_ NB186_211.out _; (with_reducible repeat (first | refine kn3_ ?_ _ | refine kd3_ ?_ | refine ka3_ ?_ _)); exact BK186.out) hb); have n5_ := A3_ (kb3_ (g := gb187) (o := .cells #[.int .i64 a1_0, .int .i64 a1_1, .int .i64 a1_2] 26 (0, 0)) (by (with_reducible repeat (first | refine kn3_ ?_ _ | refine kd3_ ?_ | refine ka3_ ?_ _)); refine blk_far ?_ NB187_211.out _; (with_reducible repeat (first | refine kn3_ ?_ _ | refine kd3_ ?_ | refine ka3_ ?_ _)); exact BK187.out) hb); have n6_ := A3_ (kb3_ (g := gb199) (o := .cells #[.slice Ao29 t195.length co29] 30 (0, 0)) (by (with_reducible repeat (first | refine kn3_ ?_ _ | refine kd3_ ?_ | refine ka3_ ?_ _)); refine blk_far ?_ NB199_211.out _; (with_reducible repeat (first | refine kn3_ ?_ _ | refine kd3_ ?_ | refine ka3_ ?_ _)); exact BK199.out) hb); have n7_ := A3_ (kb3_ (g := gb203) (o := .cells #[.slice Ao35 t200.length co35] 30 (0, 0)) (by (with_reducible repeat (first | refine kn3_ ?_ _ | refine kd3_ ?_ | refine ka3_ ?_ _)); refine blk_far ?_ NB203_211.out _; (with_reducible repeat (first | refine kn3_ ?_ _ | refine kd3_ ?_ | refine ka3_ ?_ _)); exact BK203.out) hb); have n8_ := A3_ (kb3_ (g := gb211) (o := .cells #[.slice Ao46 t207.length co46] 30 (0, 0)) (by (with_reducible repeat (first | refine kn3_ ?_ _ | refine kd3_ ?_ | refine ka3_ ?_ _)); refine blk_put (cs := #[.slice none 0 0]) ?_ 0 _ rfl; (with_reducible repeat (first | refine kn3_ ?_ _ | refine kd3_ ?_ | refine ka3_ ?_ _)); exact BK211.out) hb); have n9_ := A3_ (bt3_ (by repeat (first | (with_reducible first | exact HB.out | apply ba3_ | apply bn3_ | apply bd3_ | refine ubs3_ ?_ (by assumption)) | exact HB.out)) hb); clear HO191; clear HO197; clear HO202; clear HO209; clear BK186; clear BK187; clear BK199; clear BK203; clear BK211; clear HB; have HO191 := n0_; have HO197 := n1_; have HO202 := n2_; have HO209 := n3_; have BK186 := n4_; have BK187 := n5_; have BK199 := n6_; have BK203 := n7_; have BK211 := n8_; have HB := n9_; clear n0_ n1_ n2_ n3_ n4_ n5_ n6_ n7_ n8_ n9_; (try clear hb); (try clear hb2); (try clear hk); (try clear hi)))
    go_meet
    case rel => exact ⟨_, ((t210 != t198)), (by first | rfl | (simp; done) | (simp [*]; done)), H', ⟨by first | omega | exact Nat.le_refl _⟩, ⟨by (with_reducible repeat (first | apply ra3_ | apply rn3_ | apply rd3_)); exact Kd.R_mono HO197.out (fun _ hk => ⟨hk.2.1, hk.2.2⟩)⟩, ⟨by (with_reducible repeat (first | apply ra3_ | apply rn3_ | apply rd3_)); exact Kd.R_mono HO202.out (fun _ hk => ⟨hk.2.1, hk.2.2⟩)⟩, ⟨by (with_reducible repeat (first | apply ra3_ | apply rn3_ | apply rd3_)); exact Kd.R_mono HO209.out (fun _ hk => ⟨hk.2.1, hk.2.2⟩)⟩, ⟨by (with_reducible repeat (first | refine kn3_ ?_ _ | refine kd3_ ?_ | refine ka3_ ?_ _)); exact BK186.out⟩, ⟨by (with_reducible repeat (first | refine kn3_ ?_ _ | refine kd3_ ?_ | refine ka3_ ?_ _)); exact BK187.out⟩, ⟨by (with_reducible repeat (first | refine kn3_ ?_ _ | refine kd3_ ?_ | refine ka3_ ?_ _)); exact BK199.out⟩, ⟨by (with_reducible repeat (first | refine kn3_ ?_ _ | refine kd3_ ?_ | refine ka3_ ?_ _)); exact BK203.out⟩, ⟨by (with_reducible repeat (first | refine kn3_ ?_ _ | refine kd3_ ?_ | refine ka3_ ?_ _)); exact BK211.out⟩, ⟨by repeat (first | (with_reducible first | exact HB.out | apply ba3_ | apply bn3_ | apply bd3_ | refine ubs3_ ?_ (by assumption)) | exact HB.out)⟩⟩
   ·replace c49 := Bool.eq_false_iff.mpr c49
    subst c49
    have H1 : (j0 k t198 t210 true l0_0 a1_0 a1_1 a1_2 t195 t200 t207) = some r := by rw [if_neg (show ¬ (false = true) by decide)] at H; exact H
    clear H
    have H := H1
    clear H1
    have H' := A3_ H
    clear H
    have hnb60 := NB211_186.out
    have hnc60 := NB186_211.out
    have hnb61 := NB211_187.out
    have hnc61 := NB187_211.out
    have hnb62 := NB211_199.out
    have hnc62 := NB199_211.out
    have hnb63 := NB211_203.out
    have hnc63 := NB203_211.out
    have hcz64_0 : w45.cell? ⟨gb211, 0, none⟩ = some (.slice none 0 0) := (blk_cell BK211.out 0).trans rfl
    have hfz64_0 := blk_frozen BK211.out 0
    have hnb65 := NB199_186.out
    have hnc65 := NB186_199.out
    have hnb66 := NB199_187.out
    have hnc66 := NB187_199.out
    have hnb67 := NB199_203.out
    have hnc67 := NB203_199.out
    have hcz68_0 : w45.cell? ⟨gb199, 0, none⟩ = some (.slice Ao29 t195.length co29) := (blk_cell BK199.out 0).trans rfl
    have hfz68_0 := blk_frozen BK199.out 0
    go_wp2_with (first | ((with_reducible refine gate_callee (f := 10) rfl ?_); refine goesL_ (some 40) rfl rfl Try.func10 (by kernel_rfl) rfl #[.agg #[.slice Ao46 t207.length co46], .agg #[.slice Ao29 t195.length co29]] rfl (by (try simp only [List.map_toArray, List.map_cons, List.map_nil]); first | done | rfl | (simp only [List.length_drop, List.length_take]; rfl)) ?_; (with_reducible refine (laws_eqPuzzle.calls k _ _ t207 _ _ t195 false _ ?side1 ?side2 ?side3 ?side4 A48.out).mono ?_); (case side1 => refine (Kd.R_reads' (e := 34) (base := w.heap.size) (ok := fun k_ => (some k_ ≠ (v190 : Value).ownBlock ∧ (some k_ ≠ (.slice Ao29 t195.length co29 : Value).ownBlock ∧ some k_ ≠ (.slice Ao35 t200.length co35 : Value).ownBlock))) (n := t207.length) (c := co46) ?_).2.2; exact (by (with_reducible repeat (first | apply ra3_ | apply rn3_ | apply rd3_)); exact (Kd.R_mono (Kd.R_far (p := ⟨gb211, 0, none⟩) (Kd.R_types HO209.out BK211.out (by decide)) (fun _ hk => hk.2) (.slice Ao46 t207.length co46)) (fun _ h_ => h_.1)))); (case side2 => exact (Kd.R_reads' HO209.out).2.1); (case side3 => refine (Kd.R_reads' (e := 34) (base := w.heap.size) (ok := fun k_ => (some k_ ≠ (v190 : Value).ownBlock ∧ (some k_ ≠ (.slice Ao35 t200.length co35 : Value).ownBlock ∧ some k_ ≠ (.slice Ao46 t207.length co46 : Value).ownBlock))) (n := t195.length) (c := co29) ?_).2.2; exact (by (with_reducible repeat (first | apply ra3_ | apply rn3_ | apply rd3_)); exact (Kd.R_mono (Kd.R_far (p := ⟨gb211, 0, none⟩) (Kd.R_types HO197.out BK211.out (by decide)) (fun _ hk => hk.2) (.slice Ao46 t207.length co46)) (fun _ h_ => h_.1)))); (case side4 => exact (Kd.R_reads' HO197.out).2.1); rintro e w69 ⟨rfl, hb⟩; refine ⟨_, rfl, ?_⟩; have n0_ := A3_ (Kd.R_below (by (with_reducible repeat (first | apply ra3_ | apply rn3_ | apply rd3_)); exact (Kd.R_mono (Kd.R_far (p := ⟨gb211, 0, none⟩) (Kd.R_types HO191.out BK211.out (by decide)) (fun _ hk => hk.2) (.slice Ao46 t207.length co46)) (fun _ h_ => h_.1))) hb); have n1_ := A3_ (Kd.R_below (by (with_reducible repeat (first | apply ra3_ | apply rn3_ | apply rd3_)); exact (Kd.R_mono (Kd.R_far (p := ⟨gb211, 0, none⟩) (Kd.R_types HO197.out BK211.out (by decide)) (fun _ hk => hk.2) (.slice Ao46 t207.length co46)) (fun _ h_ => h_.1))) hb); have n2_ := A3_ (Kd.R_below (by (with_reducible repeat (first | apply ra3_ | apply rn3_ | apply rd3_)); exact (Kd.R_mono (Kd.R_far (p := ⟨gb211, 0, none⟩) (Kd.R_types HO202.out BK211.out (by decide)) (fun _ hk => hk.2) (.slice Ao46 t207.length co46)) (fun _ h_ => h_.1))) hb); have n3_ := A3_ (Kd.R_below (by (with_reducible repeat (first | apply ra3_ | apply rn3_ | apply rd3_)); exact (Kd.R_mono (Kd.R_far (p := ⟨gb211, 0, none⟩) (Kd.R_types HO209.out BK211.out (by decide)) (fun _ hk => hk.2) (.slice Ao46 t207.length co46)) (fun _ h_ => h_.1))) hb); have n4_ := A3_ (kb3_ (g := gb186) (o := .cells #[.slice A0_0 l0_0.length c0_0] 24 (0, 0)) (by (with_reducible repeat (first | refine kn3_ ?_ _ | refine kd3_ ?_ | refine ka3_ ?_ _)); refine blk_far ?_ NB186_211.out _; (with_reducible repeat (first | refine kn3_ ?_ _ | refine kd3_ ?_ | refine ka3_ ?_ _)); exact BK186.out) hb); have n5_ := A3_ (kb3_ (g := gb187) (o := .cells #[.int .i64 a1_0, .int .i64 a1_1, .int .i64 a1_2] 26 (0, 0)) (by (with_reducible repeat (first | refine kn3_ ?_ _ | refine kd3_ ?_ | refine ka3_ ?_ _)); refine blk_far ?_ NB187_211.out _; (with_reducible repeat (first | refine kn3_ ?_ _ | refine kd3_ ?_ | refine ka3_ ?_ _)); exact BK187.out) hb); have n6_ := A3_ (kb3_ (g := gb199) (o := .cells #[.slice Ao29 t195.length co29] 30 (0, 0)) (by (with_reducible repeat (first | refine kn3_ ?_ _ | refine kd3_ ?_ | refine ka3_ ?_ _)); refine blk_far ?_ NB199_211.out _; (with_reducible repeat (first | refine kn3_ ?_ _ | refine kd3_ ?_ | refine ka3_ ?_ _)); exact BK199.out) hb); have n7_ := A3_ (kb3_ (g := gb203) (o := .cells #[.slice Ao35 t200.length co35] 30 (0, 0)) (by (with_reducible repeat (first | refine kn3_ ?_ _ | refine kd3_ ?_ | refine ka3_ ?_ _)); refine blk_far ?_ NB203_211.out _; (with_reducible repeat (first | refine kn3_ ?_ _ | refine kd3_ ?_ | refine ka3_ ?_ _)); exact BK203.out) hb); have n8_ := A3_ (kb3_ (g := gb211) (o := .cells #[.slice Ao46 t207.length co46] 30 (0, 0)) (by (with_reducible repeat (first | refine kn3_ ?_ _ | refine kd3_ ?_ | refine ka3_ ?_ _)); refine blk_put (cs := #[.slice none 0 0]) ?_ 0 _ rfl; (with_reducible repeat (first | refine kn3_ ?_ _ | refine kd3_ ?_ | refine ka3_ ?_ _)); exact BK211.out) hb); have n9_ := A3_ (bt3_ (by repeat (first | (with_reducible first | exact HB.out | apply ba3_ | apply bn3_ | apply bd3_ | refine ubs3_ ?_ (by assumption)) | exact HB.out)) hb); clear HO191; clear HO197; clear HO202; clear HO209; clear BK186; clear BK187; clear BK199; clear BK203; clear BK211; clear HB; have HO191 := n0_; have HO197 := n1_; have HO202 := n2_; have HO209 := n3_; have BK186 := n4_; have BK187 := n5_; have BK199 := n6_; have BK203 := n7_; have BK211 := n8_; have HB := n9_; clear n0_ n1_ n2_ n3_ n4_ n5_ n6_ n7_ n8_ n9_; (try clear hb); (try clear hb2); (try clear hk); (try clear hi)))
    go_meet
    case rel => exact ⟨_, (true), (by first | rfl | (simp; done) | (simp [*]; done)), H', ⟨by first | omega | exact Nat.le_refl _⟩, ⟨by (with_reducible repeat (first | apply ra3_ | apply rn3_ | apply rd3_)); exact Kd.R_mono HO197.out (fun _ hk => ⟨hk.2.1, hk.2.2⟩)⟩, ⟨by (with_reducible repeat (first | apply ra3_ | apply rn3_ | apply rd3_)); exact Kd.R_mono HO202.out (fun _ hk => ⟨hk.2.1, hk.2.2⟩)⟩, ⟨by (with_reducible repeat (first | apply ra3_ | apply rn3_ | apply rd3_)); exact Kd.R_mono HO209.out (fun _ hk => ⟨hk.2.1, hk.2.2⟩)⟩, ⟨by (with_reducible repeat (first | refine kn3_ ?_ _ | refine kd3_ ?_ | refine ka3_ ?_ _)); exact BK186.out⟩, ⟨by (with_reducible repeat (first | refine kn3_ ?_ _ | refine kd3_ ?_ | refine ka3_ ?_ _)); exact BK187.out⟩, ⟨by (with_reducible repeat (first | refine kn3_ ?_ _ | refine kd3_ ?_ | refine ka3_ ?_ _)); exact BK199.out⟩, ⟨by (with_reducible repeat (first | refine kn3_ ?_ _ | refine kd3_ ?_ | refine ka3_ ?_ _)); exact BK203.out⟩, ⟨by (with_reducible repeat (first | refine kn3_ ?_ _ | refine kd3_ ?_ | refine ka3_ ?_ _)); exact BK211.out⟩, ⟨by repeat (first | (with_reducible first | exact HB.out | apply ba3_ | apply bn3_ | apply bd3_ | refine ubs3_ ?_ (by assumption)) | exact HB.out)⟩⟩
  case rest =>
   clear HC16
   try clear c1
   try clear p2
   try clear c4
   try clear c5
   try clear c6
   try clear c8
   try clear c9
   try clear c10
   try clear c49
   try clear c50
   try clear c51
   try clear c52
   try clear c53
   try clear c55
   try clear c56
   try clear c57
   try clear c60
   try clear c61
   try clear c62
   try clear c63
   try clear c65
   try clear c66
   try clear c67
   try clear hcz54_0
   try clear hcz58_0
   try clear hcz64_0
   try clear hcz68_0
   try clear hfz54_0
   try clear hfz58_0
   try clear hfz64_0
   try clear hfz68_0
   obtain ⟨kq, x46_15, rfl, HA, HJ15, HO_200000, HO_204000, HO_212000, BK186, BK187, BK199, BK203, BK211, HB⟩ := hcut
   cases kq with
   | zero => exact absurd HA.out (by simp [j0])
   | succ kj15 =>
    have H := HA.out
    clear HA
    simp only [j0] at H
    by_cases c70 : x46_15 = true
    ·subst c70
     have H1 : (some false) = some r := by rw [if_pos rfl] at H; exact H
     clear H
     have H := H1
     clear H1
     obtain rfl := Option.some.inj H
     go_wp2
     go_ret
     exact ⟨by first | rfl | (simp [errW_none, errW_some] <;> rfl) | (simp [*, errW_none, errW_some] <;> rfl), by repeat (first | (with_reducible first | exact HB.out | apply ba3_ | apply bn3_ | apply bd3_ | refine ubs3_ ?_ (by assumption)) | exact HB.out)⟩
    ·replace c70 := Bool.eq_false_iff.mpr c70
     subst c70
     have H1 : ((laws_toPuzzle.f kj15 l0_0).bind fun t213 => ((laws_eqPuzzle.f kj15 t200 t213).bind fun t216 => (if t216 = true then ((laws_markPuzzle.f kj15 t200 1).bind fun bt217 => (if bt217.1 < 0 then (j1 kj15 t198 true l0_0 a1_0 a1_1 a1_2 t195 t207) else ((laws_eqPuzzle.f kj15 t207 t195).bind fun t219 => (if t219 = true then (j1 kj15 t198 (t210 != t198) l0_0 a1_0 a1_1 a1_2 t195 t207) else (j1 kj15 t198 true l0_0 a1_0 a1_1 a1_2 t195 t207))))) else (some false)))) = some r := by rw [if_neg (show ¬ (false = true) by decide)] at H; exact H
     clear H
     have H := H1
     clear H1
     replace H := Option.bind_eq_some_iff.mp H
     obtain ⟨t213, A710, H⟩ := H
     replace H : ((laws_eqPuzzle.f kj15 t200 t213).bind fun t216 => (if t216 = true then ((laws_markPuzzle.f kj15 t200 1).bind fun bt217 => (if bt217.1 < 0 then (j1 kj15 t198 true l0_0 a1_0 a1_1 a1_2 t195 t207) else ((laws_eqPuzzle.f kj15 t207 t195).bind fun t219 => (if t219 = true then (j1 kj15 t198 (t210 != t198) l0_0 a1_0 a1_1 a1_2 t195 t207) else (j1 kj15 t198 true l0_0 a1_0 a1_1 a1_2 t195 t207))))) else (some false))) = some r := H
     have A71 := A3_ A710
     clear A710
     replace H := Option.bind_eq_some_iff.mp H
     obtain ⟨t216, A720, H⟩ := H
     replace H : (if t216 = true then ((laws_markPuzzle.f kj15 t200 1).bind fun bt217 => (if bt217.1 < 0 then (j1 kj15 t198 true l0_0 a1_0 a1_1 a1_2 t195 t207) else ((laws_eqPuzzle.f kj15 t207 t195).bind fun t219 => (if t219 = true then (j1 kj15 t198 (t210 != t198) l0_0 a1_0 a1_1 a1_2 t195 t207) else (j1 kj15 t198 true l0_0 a1_0 a1_1 a1_2 t195 t207))))) else (some false)) = some r := H
     have A72 := A3_ A720
     clear A720
     by_cases c73 : t216 = true
     ·subst c73
      have H1 : ((laws_markPuzzle.f kj15 t200 1).bind fun bt217 => (if bt217.1 < 0 then (j1 kj15 t198 true l0_0 a1_0 a1_1 a1_2 t195 t207) else ((laws_eqPuzzle.f kj15 t207 t195).bind fun t219 => (if t219 = true then (j1 kj15 t198 (t210 != t198) l0_0 a1_0 a1_1 a1_2 t195 t207) else (j1 kj15 t198 true l0_0 a1_0 a1_1 a1_2 t195 t207))))) = some r := by rw [if_pos rfl] at H; exact H
      clear H
      have H := H1
      clear H1
      replace H := Option.bind_eq_some_iff.mp H
      obtain ⟨⟨t217, t218⟩, A740, H⟩ := H
      replace H : (if t217 < 0 then (j1 kj15 t198 true l0_0 a1_0 a1_1 a1_2 t195 t207) else ((laws_eqPuzzle.f kj15 t207 t195).bind fun t219 => (if t219 = true then (j1 kj15 t198 (t210 != t198) l0_0 a1_0 a1_1 a1_2 t195 t207) else (j1 kj15 t198 true l0_0 a1_0 a1_1 a1_2 t195 t207)))) = some r := H
      have A74 := A3_ A740
      clear A740
      have HC75 := A3_ H
      clear H
      try go_wp2
      have n0_ := A3_ (rd3_ HO_200000.out)
      have n1_ := A3_ (rd3_ HO_204000.out)
      have n2_ := A3_ (rd3_ HO_212000.out)
      have n3_ := A3_ (kd3_ BK186.out)
      have n4_ := A3_ (kd3_ BK187.out)
      have n5_ := A3_ (kd3_ BK199.out)
      have n6_ := A3_ (kd3_ BK203.out)
      have n7_ := A3_ (kd3_ BK211.out)
      have n8_ := A3_ (bd3_ HB.out)
      clear HO_200000
      clear HO_204000
      clear HO_212000
      clear BK186
      clear BK187
      clear BK199
      clear BK203
      clear BK211
      clear HB
      have HO_200000 := n0_
      have HO_204000 := n1_
      have HO_212000 := n2_
      have BK186 := n3_
      have BK187 := n4_
      have BK199 := n5_
      have BK203 := n6_
      have BK211 := n7_
      have HB := n8_
      clear n0_ n1_ n2_ n3_ n4_ n5_ n6_ n7_ n8_
      refine start_ (n := 5) (S := fun w' => w'.cell? ⟨gb203, 0, none⟩ = some (.slice Ao35 t200.length co35) ∧ w'.cell? ⟨gb186, 0, none⟩ = some (.slice A0_0 l0_0.length c0_0)) (ds := []) #[false, false, false, false, false] (by kernel_rfl) rfl rfl ⟨(blk_cell BK203.out 0).trans rfl, (blk_cell BK186.out 0).trans rfl⟩ (fun hHeld => ?_)
      generalize wc.drew = w76 at HO_200000 HO_204000 HO_212000 BK186 BK187 BK199 BK203 BK211 HB hHeld ⊢
      refine take_ (i := 0) (N := some 47) (v := ?_) (a' := ?_) #[true, false, false, false, false] rfl rfl (by kernel_rfl) (fun _ _ _ h => h) (Or.inl ⟨by rfl, ?_⟩) hHeld ?_ ?_
      rotate_left
      ·rintro w' ⟨s0, s1⟩
       go_simp
       with_reducible rfl
      rotate_left
      ·simp only [Act.put, us3_, ut3_, uv3_, i64_w, i32_w]
       rfl
      refine take_ (i := 1) (N := some 48) (v := ?_) (a' := ?_) #[true, true, false, false, false] rfl rfl (by kernel_rfl) (fun _ _ _ h => h) (Or.inl ⟨by rfl, ?_⟩) hHeld ?_ ?_
      rotate_left
      ·rintro w' ⟨s0, s1⟩
       go_simp
       with_reducible rfl
      rotate_left
      ·simp only [Act.put, us3_, ut3_, uv3_, i64_w, i32_w]
       rfl
      refine one_ (i := 2) (N := some 49) #[true, true, true, false, false] rfl rfl (by kernel_rfl) (by decide) (fun K hK => ?_)
      refine goes_ Try.func7 (by kernel_rfl) rfl #[.agg #[.slice A0_0 l0_0.length c0_0]] (by rfl) rfl rfl (by (try simp only [List.map_toArray, List.map_cons, List.map_nil]); first | done | rfl | (simp only [List.length_drop, List.length_take]; rfl)) ?_
      with_reducible refine (laws_toPuzzle.calls kj15 _ _ l0_0 t213 _ ?side1 ?side2 A71.out).mono ?_
      (case side1 => repeat (first | exact (Kd.C_below HR0_0.out HB.out) | (with_reducible refine Kd.C_alloc ?_ _) | (with_reducible refine Kd.C_drewN ?_ _) | (with_reducible refine Kd.C_drew ?_)))
      (case side2 => exact HC0_0.out)
      rintro e w77 ⟨v214, rfl, ho0, hb⟩
      refine ⟨_, rfl, ?_⟩
      have n0_ := A3_ (re3_ (by exact ur3_ HO_200000.out) (Kd.R_base ho0) hb)
      have n1_ := A3_ (re3_ (by exact ur3_ HO_204000.out) (Kd.R_base ho0) hb)
      have n2_ := A3_ (re3_ (by exact ur3_ HO_212000.out) (Kd.R_base ho0) hb)
      have n3_ := A3_ (Kd.R_lower (Kd.R_new' (Kd.R_new' (Kd.R_new' ho0 (Kd.R_lt (by exact ur3_ HO_200000.out))) (Kd.R_lt (by exact ur3_ HO_204000.out))) (Kd.R_lt (by exact ur3_ HO_212000.out))) (below_size (by repeat (first | (with_reducible first | exact HB.out | apply ba3_ | apply bn3_ | apply bd3_ | refine ubs3_ ?_ (by assumption)) | exact HB.out))))
      have n9_ := A3_ (bt3_ (by repeat (first | (with_reducible first | exact HB.out | apply ba3_ | apply bn3_ | apply bd3_ | refine ubs3_ ?_ (by assumption)) | exact HB.out)) hb)
      clear HO_200000
      clear HO_204000
      clear HO_212000
      clear HB
      have HO_200000 := n0_
      have HO_204000 := n1_
      have HO_212000 := n2_
      have HO215 := n3_
      replace BK186 := A3_ (ukb3_ BK186.out hb)
      replace BK187 := A3_ (ukb3_ BK187.out hb)
      replace BK199 := A3_ (ukb3_ BK199.out hb)
      replace BK203 := A3_ (ukb3_ BK203.out hb)
      replace BK211 := A3_ (ukb3_ BK211.out hb)
      have HB := n9_
      clear n0_ n1_ n2_ n3_ n9_
      (try clear hb)
      (try clear hb2)
      (try clear hk)
      (try clear hi)
      (try clear ho0)
      obtain ⟨Ao78, co78, eo78⟩ := Kd.R_slice HO215.out
      (first | subst eo78 | (injection eo78 with f1_ f2_ f3_; have f4_ := f1_.symm; have f5_ := f3_.symm; clear f1_ f2_ f3_; subst f4_; subst f5_))
      refine hK.out _ _ ⟨(blk_cell BK203.out 0).trans rfl, (blk_cell BK186.out 0).trans rfl⟩ (fun hHeld => ?_)
      clear hK K
      refine norm_ (a' := ?_) ?_ ?_
      rotate_left
      ·show Act.put _ (some 49) _ = _
       simp only [Act.put, us3_, ut3_, uv3_, i64_w, i32_w]
       rfl
      refine one_ (i := 3) (N := some 50) #[true, true, true, true, false] rfl rfl (by kernel_rfl) (by decide) (fun K hK => ?_)
      refine goes_ Try.func10 (by kernel_rfl) rfl #[.agg #[.slice Ao35 t200.length co35], .agg #[.slice Ao78 t213.length co78]] (by rfl) rfl rfl (by (try simp only [List.map_toArray, List.map_cons, List.map_nil]); first | done | rfl | (simp only [List.length_drop, List.length_take]; rfl)) ?_
      with_reducible refine (laws_eqPuzzle.calls kj15 _ _ t200 _ _ t213 true _ ?side1 ?side2 ?side3 ?side4 A72.out).mono ?_
      (case side1 => repeat (first | exact (Kd.R_reads' HO_204000.out).2.2 | (with_reducible refine Kd.C_alloc ?_ _) | (with_reducible refine Kd.C_drewN ?_ _) | (with_reducible refine Kd.C_drew ?_)))
      (case side2 => exact (Kd.R_reads' HO_204000.out).2.1)
      (case side3 => repeat (first | exact (Kd.R_reads' HO215.out).2.2 | (with_reducible refine Kd.C_alloc ?_ _) | (with_reducible refine Kd.C_drewN ?_ _) | (with_reducible refine Kd.C_drew ?_)))
      (case side4 => exact (Kd.R_reads' HO215.out).2.1)
      rintro e w79 ⟨rfl, hb⟩
      refine ⟨_, rfl, ?_⟩
      have n0_ := A3_ (Kd.R_below (by exact ur3_ HO_200000.out) hb)
      have n1_ := A3_ (Kd.R_below (by exact ur3_ HO_204000.out) hb)
      have n2_ := A3_ (Kd.R_below (by exact ur3_ HO_212000.out) hb)
      have n3_ := A3_ (Kd.R_below (by exact ur3_ HO215.out) hb)
      have n9_ := A3_ (bt3_ (by repeat (first | (with_reducible first | exact HB.out | apply ba3_ | apply bn3_ | apply bd3_ | refine ubs3_ ?_ (by assumption)) | exact HB.out)) hb)
      clear HO_200000
      clear HO_204000
      clear HO_212000
      clear HO215
      clear HB
      have HO_200000 := n0_
      have HO_204000 := n1_
      have HO_212000 := n2_
      have HO215 := n3_
      replace BK186 := A3_ (ukb3_ BK186.out hb)
      replace BK187 := A3_ (ukb3_ BK187.out hb)
      replace BK199 := A3_ (ukb3_ BK199.out hb)
      replace BK203 := A3_ (ukb3_ BK203.out hb)
      replace BK211 := A3_ (ukb3_ BK211.out hb)
      have HB := n9_
      clear n0_ n1_ n2_ n3_ n9_
      (try clear hb)
      (try clear hb2)
      (try clear hk)
      (try clear hi)
      refine hK.out _ _ ⟨(blk_cell BK203.out 0).trans rfl, (blk_cell BK186.out 0).trans rfl⟩ (fun hHeld => ?_)
      clear hK K
      refine norm_ (a' := ?_) ?_ ?_
      rotate_left
      ·show Act.put _ (some 50) _ = _
       simp only [Act.put, us3_, ut3_, uv3_, i64_w, i32_w]
       rfl
      refine pure_ (i := 4) (N := some 51) (v := ?_) (a' := ?_) #[true, true, true, true, true] rfl rfl (by kernel_rfl) (fun _ _ _ h => h) (Or.inl ⟨by rfl, ?_⟩) ?_ ?_
      rotate_left
      ·intro w'
       go_simp
       with_reducible rfl
      rotate_left
      ·simp only [Act.put, us3_, ut3_, uv3_, i64_w, i32_w]
       rfl
      refine done_ (by kernel_rfl) ?_
      have hnb80 := NB203_186.out
      have hnc80 := NB186_203.out
      have hnb81 := NB203_187.out
      have hnc81 := NB187_203.out
      have hnb82 := NB203_199.out
      have hnc82 := NB199_203.out
      have hnb83 := NB203_211.out
      have hnc83 := NB211_203.out
      have hcz84_0 : w79.cell? ⟨gb203, 0, none⟩ = some (.slice Ao35 t200.length co35) := (blk_cell BK203.out 0).trans rfl
      have hfz84_0 := blk_frozen BK203.out 0
      go_upto_region 14 with (first | ((with_reducible refine gate_callee (f := 11) rfl ?_); refine goesL_ (some 54) rfl rfl Try.func11 (by kernel_rfl) rfl #[.agg #[.slice Ao35 t200.length co35], .int .i64 1] rfl (by (try simp only [List.map_toArray, List.map_cons, List.map_nil]); first | done | rfl | (simp only [List.length_drop, List.length_take]; rfl)) ?_; (with_reducible refine (laws_markPuzzle.calls kj15 (fun k_ => some k_ = (.slice Ao35 t200.length co35 : Value).ownBlock) (.slice Ao35 t200.length co35) t200 1 t217 t218 w _ ?side1 ?side2 A74.out).mono ?_); (case side1 => repeat (first | (with_reducible first | exact HB.out | apply ba3_ | apply bn3_ | apply bd3_ | refine ubs3_ ?_ (by assumption)) | exact HB.out)); (case side2 => exact Kd.R_tight rfl HO_204000.out); rintro e w85 ⟨rfl, hy0, hb, hkp⟩; refine ⟨_, rfl, ?_⟩; have n0_ := A3_ (Kd.R_mono (ok' := fun k_ => some k_ ≠ (.slice Ao35 t200.length co35 : Value).ownBlock ∧ some k_ ≠ (.slice Ao46 t207.length co46 : Value).ownBlock ∧ some k_ ≠ (.slice Ao78 t213.length co78 : Value).ownBlock) (Kd.R_keptB (HO_200000.out) hkp (fun k_ hk_ hs_ => (hk_.1.1) hs_)) (fun k_ hk_ => ⟨hk_.1.1.1, hk_.1.1.2, hk_.1.2⟩)); have n1_ := A3_ (Kd.R_reok rfl hy0 (fun k_ e_ => HO_204000.out.1 k_ e_)); have n2_ := A3_ (Kd.R_mono (ok' := fun k_ => some k_ ≠ (.slice Ao29 t195.length co29 : Value).ownBlock ∧ some k_ ≠ (.slice Ao35 t200.length co35 : Value).ownBlock ∧ some k_ ≠ (.slice Ao78 t213.length co78 : Value).ownBlock) (Kd.R_keptB (HO_212000.out) hkp (fun k_ hk_ hs_ => (hk_.1.2) hs_)) (fun k_ hk_ => ⟨hk_.1.1.1, hk_.1.1.2, hk_.1.2⟩)); have n3_ := A3_ (blk_kept (by exact uk3_ BK186.out) hkp (fun hs_ => (fun e_ => (Kd.R_ne HO_204000.out BK186.out (by decide)) e_) hs_)); have n4_ := A3_ (blk_kept (by exact uk3_ BK187.out) hkp (fun hs_ => (fun e_ => (Kd.R_ne HO_204000.out BK187.out (by decide)) e_) hs_)); have n5_ := A3_ (blk_kept (by exact uk3_ BK199.out) hkp (fun hs_ => (fun e_ => (Kd.R_ne HO_204000.out BK199.out (by decide)) e_) hs_)); have n6_ := A3_ (blk_kept (by exact uk3_ BK203.out) hkp (fun hs_ => (fun e_ => (Kd.R_ne HO_204000.out BK203.out (by decide)) e_) hs_)); have n7_ := A3_ (blk_kept (by exact uk3_ BK211.out) hkp (fun hs_ => (fun e_ => (Kd.R_ne HO_204000.out BK211.out (by decide)) e_) hs_)); have n8_ := A3_ (Kd.R_mono (ok' := fun k_ => some k_ ≠ (.slice Ao29 t195.length co29 : Value).ownBlock ∧ some k_ ≠ (.slice Ao35 t200.length co35 : Value).ownBlock ∧ some k_ ≠ (.slice Ao46 t207.length co46 : Value).ownBlock) (Kd.R_keptB (HO215.out) hkp (fun k_ hk_ hs_ => (hk_.1.2) hs_)) (fun k_ hk_ => ⟨hk_.1.1.1.2, hk_.1.1.2, hk_.1.2⟩)); have n9_ := A3_ (hb); clear HO_200000; clear HO_204000; clear HO_212000; clear BK186; clear BK187; clear BK199; clear BK203; clear BK211; clear HO215; clear HB; have HO_200000 := n0_; have HO_204000 := n1_; have HO_212000 := n2_; have BK186 := n3_; have BK187 := n4_; have BK199 := n5_; have BK203 := n6_; have BK211 := n7_; have HO215 := n8_; have HB := n9_; clear n0_ n1_ n2_ n3_ n4_ n5_ n6_ n7_ n8_ n9_; (try clear hb); (try clear hkp); (try clear hy0)))
      (try simp only [Act.put, List.setIfInBounds_toArray, List.set_cons_zero, List.set_cons_succ])
      go_cut [67] (fun v67 wc => ∃ (kq : Nat) (x67_74 : Bool), v67 = .bool x67_74 ∧ Aside0 (j1 kq t198 x67_74 l0_0 a1_0 a1_1 a1_2 t195 t207 = some r) ∧ Aside0 (kq ≤ kj15) ∧ Aside0 (Kd.R k34 34 wc w.heap.size (fun k_ => some k_ ≠ ((.slice Ao35 t200.length co35) : Value).ownBlock ∧ some k_ ≠ ((.slice Ao46 t207.length co46) : Value).ownBlock) (.slice Ao29 t195.length co29) t195) ∧ Aside0 (Kd.R k34 34 wc w.heap.size (fun k_ => some k_ ≠ ((.slice Ao29 t195.length co29) : Value).ownBlock ∧ some k_ ≠ ((.slice Ao46 t207.length co46) : Value).ownBlock) (.slice Ao35 t200.length co35) t218) ∧ Aside0 (Kd.R k34 34 wc w.heap.size (fun k_ => some k_ ≠ ((.slice Ao29 t195.length co29) : Value).ownBlock ∧ some k_ ≠ ((.slice Ao35 t200.length co35) : Value).ownBlock) (.slice Ao46 t207.length co46) t207) ∧ Aside0 (wc.heap[gb186]? = some (.cells #[(.slice A0_0 l0_0.length c0_0)] 24 (0, 0))) ∧ Aside0 (wc.heap[gb187]? = some (.cells #[.int .i64 a1_0, .int .i64 a1_1, .int .i64 a1_2] 26 (0, 0))) ∧ Aside0 (wc.heap[gb199]? = some (.cells #[(.slice Ao29 t195.length co29)] 30 (0, 0))) ∧ Aside0 (wc.heap[gb203]? = some (.cells #[(.slice Ao35 t200.length co35)] 30 (0, 0))) ∧ Aside0 (wc.heap[gb211]? = some (.cells #[(.slice Ao46 t207.length co46)] 30 (0, 0))) ∧ Aside0 (Below w.heap.size w wc))
      case first =>
       have H := HC75.out
       clear HC75
       by_cases c86 : t217 < 0
       ·rw [if_pos c86] at H
        have c86b0 : decide (t217 < 0) = true := decide_eq_true c86
        clear c86
        (first | rw [c86b0] | (simp only [i64_w, i32_w]; rw [c86b0]) | skip)
        have H' := A3_ H
        clear H
        go_wp2
        go_meet
        case rel => exact ⟨_, (true), (by first | rfl | (simp; done) | (simp [*]; done)), H', ⟨by have := HJ15.out; first | omega | exact Nat.le_refl _⟩, ⟨by (with_reducible repeat (first | apply ra3_ | apply rn3_ | apply rd3_)); exact Kd.R_mono HO_200000.out (fun _ hk => ⟨hk.1, hk.2.1⟩)⟩, ⟨by (with_reducible repeat (first | apply ra3_ | apply rn3_ | apply rd3_)); exact Kd.R_mono HO_204000.out (fun _ hk => ⟨hk.1.1, hk.1.2⟩)⟩, ⟨by (with_reducible repeat (first | apply ra3_ | apply rn3_ | apply rd3_)); exact Kd.R_mono HO_212000.out (fun _ hk => ⟨hk.1, hk.2.1⟩)⟩, ⟨by (with_reducible repeat (first | refine kn3_ ?_ _ | refine kd3_ ?_ | refine ka3_ ?_ _)); exact BK186.out⟩, ⟨by (with_reducible repeat (first | refine kn3_ ?_ _ | refine kd3_ ?_ | refine ka3_ ?_ _)); exact BK187.out⟩, ⟨by (with_reducible repeat (first | refine kn3_ ?_ _ | refine kd3_ ?_ | refine ka3_ ?_ _)); exact BK199.out⟩, ⟨by (with_reducible repeat (first | refine kn3_ ?_ _ | refine kd3_ ?_ | refine ka3_ ?_ _)); exact BK203.out⟩, ⟨by (with_reducible repeat (first | refine kn3_ ?_ _ | refine kd3_ ?_ | refine ka3_ ?_ _)); exact BK211.out⟩, ⟨by repeat (first | (with_reducible first | exact HB.out | apply ba3_ | apply bn3_ | apply bd3_ | refine ubs3_ ?_ (by assumption)) | exact HB.out)⟩⟩
       ·rw [if_neg c86] at H
        have c86b0 : decide (t217 < 0) = false := decide_eq_false c86
        clear c86
        (first | rw [c86b0] | (simp only [i64_w, i32_w]; rw [c86b0]) | skip)
        replace H := Option.bind_eq_some_iff.mp H
        obtain ⟨t219, A870, H⟩ := H
        replace H : (if t219 = true then (j1 kj15 t198 (t210 != t198) l0_0 a1_0 a1_1 a1_2 t195 t207) else (j1 kj15 t198 true l0_0 a1_0 a1_1 a1_2 t195 t207)) = some r := H
        have A87 := A3_ A870
        clear A870
        by_cases c88 : t219 = true
        ·subst c88
         have H1 : (j1 kj15 t198 (t210 != t198) l0_0 a1_0 a1_1 a1_2 t195 t207) = some r := by rw [if_pos rfl] at H; exact H
         clear H
         have H := H1
         clear H1
         have H' := A3_ H
         clear H
         have hnb89 := NB211_186.out
         have hnc89 := NB186_211.out
         have hnb90 := NB211_187.out
         have hnc90 := NB187_211.out
         have hnb91 := NB211_199.out
         have hnc91 := NB199_211.out
         have hnb92 := NB211_203.out
         have hnc92 := NB203_211.out
         have hcz93_0 : w85.cell? ⟨gb211, 0, none⟩ = some (.slice Ao46 t207.length co46) := (blk_cell BK211.out 0).trans rfl
         have hfz93_0 := blk_frozen BK211.out 0
         have hnb94 := NB199_186.out
         have hnc94 := NB186_199.out
         have hnb95 := NB199_187.out
         have hnc95 := NB187_199.out
         have hnb96 := NB199_203.out
         have hnc96 := NB203_199.out
         have hcz97_0 : w85.cell? ⟨gb199, 0, none⟩ = some (.slice Ao29 t195.length co29) := (blk_cell BK199.out 0).trans rfl
         have hfz97_0 := blk_frozen BK199.out 0
         go_wp2_with (first | (go_at_call 10; (with_reducible refine (laws_eqPuzzle.calls kj15 _ _ t207 _ _ t195 true _ ?side1 ?side2 ?side3 ?side4 A87.out).mono ?_); (case side1 => exact uc3_ ((Kd.R_reads' HO_212000.out).2.2)); (case side2 => exact (Kd.R_reads' HO_212000.out).2.1); (case side3 => exact uc3_ ((Kd.R_reads' HO_200000.out).2.2)); (case side4 => exact (Kd.R_reads' HO_200000.out).2.1); rintro e w98 ⟨rfl, hb⟩; have n0_ := A3_ (Kd.R_below (by exact ur3_ HO_200000.out) hb); have n1_ := A3_ (Kd.R_below (by exact ur3_ HO_204000.out) hb); have n2_ := A3_ (Kd.R_below (by exact ur3_ HO_212000.out) hb); have n3_ := A3_ (Kd.R_below (by exact ur3_ HO215.out) hb); have n9_ := A3_ (bt3_ (by repeat (first | (with_reducible first | exact HB.out | apply ba3_ | apply bn3_ | apply bd3_ | refine ubs3_ ?_ (by assumption)) | exact HB.out)) hb); clear HO_200000; clear HO_204000; clear HO_212000; clear HO215; clear HB; have HO_200000 := n0_; have HO_204000 := n1_; have HO_212000 := n2_; have HO215 := n3_; replace BK186 := A3_ (ukb3_ BK186.out hb); replace BK187 := A3_ (ukb3_ BK187.out hb); replace BK199 := A3_ (ukb3_ BK199.out hb); replace BK203 := A3_ (ukb3_ BK203.out hb); replace BK211 := A3_ (ukb3_ BK211.out hb); have HB := n9_; clear n0_ n1_ n2_ n3_ n9_; (try clear hb); (try clear hb2); (try clear hk); (try clear hi)))
         go_meet
         case rel => exact ⟨_, ((t210 != t198)), (by first | rfl | (simp; done) | (simp [*]; done)), H', ⟨by have := HJ15.out; first | omega | exact Nat.le_refl _⟩, ⟨by (with_reducible repeat (first | apply ra3_ | apply rn3_ | apply rd3_)); exact Kd.R_mono HO_200000.out (fun _ hk => ⟨hk.1, hk.2.1⟩)⟩, ⟨by (with_reducible repeat (first | apply ra3_ | apply rn3_ | apply rd3_)); exact Kd.R_mono HO_204000.out (fun _ hk => ⟨hk.1.1, hk.1.2⟩)⟩, ⟨by (with_reducible repeat (first | apply ra3_ | apply rn3_ | apply rd3_)); exact Kd.R_mono HO_212000.out (fun _ hk => ⟨hk.1, hk.2.1⟩)⟩, ⟨by (with_reducible repeat (first | refine kn3_ ?_ _ | refine kd3_ ?_ | refine ka3_ ?_ _)); exact BK186.out⟩, ⟨by (with_reducible repeat (first | refine kn3_ ?_ _ | refine kd3_ ?_ | refine ka3_ ?_ _)); exact BK187.out⟩, ⟨by (with_reducible repeat (first | refine kn3_ ?_ _ | refine kd3_ ?_ | refine ka3_ ?_ _)); exact BK199.out⟩, ⟨by (with_reducible repeat (first | refine kn3_ ?_ _ | refine kd3_ ?_ | refine ka3_ ?_ _)); exact BK203.out⟩, ⟨by (with_reducible repeat (first | refine kn3_ ?_ _ | refine kd3_ ?_ | refine ka3_ ?_ _)); exact BK211.out⟩, ⟨by repeat (first | (with_reducible first | exact HB.out | apply ba3_ | apply bn3_ | apply bd3_ | refine ubs3_ ?_ (by assumption)) | exact HB.out)⟩⟩
        ·replace c88 := Bool.eq_false_iff.mpr c88
         subst c88
         have H1 : (j1 kj15 t198 true l0_0 a1_0 a1_1 a1_2 t195 t207) = some r := by rw [if_neg (show ¬ (false = true) by decide)] at H; exact H
         clear H
         have H := H1
         clear H1
         have H' := A3_ H
         clear H
         have hnb99 := NB211_186.out
         have hnc99 := NB186_211.out
         have hnb100 := NB211_187.out
         have hnc100 := NB187_211.out
         have hnb101 := NB211_199.out
         have hnc101 := NB199_211.out
         have hnb102 := NB211_203.out
         have hnc102 := NB203_211.out
         have hcz103_0 : w85.cell? ⟨gb211, 0, none⟩ = some (.slice Ao46 t207.length co46) := (blk_cell BK211.out 0).trans rfl
         have hfz103_0 := blk_frozen BK211.out 0
         have hnb104 := NB199_186.out
         have hnc104 := NB186_199.out
         have hnb105 := NB199_187.out
         have hnc105 := NB187_199.out
         have hnb106 := NB199_203.out
         have hnc106 := NB203_199.out
         have hcz107_0 : w85.cell? ⟨gb199, 0, none⟩ = some (.slice Ao29 t195.length co29) := (blk_cell BK199.out 0).trans rfl
         have hfz107_0 := blk_frozen BK199.out 0
         go_wp2_with (first | (go_at_call 10; (with_reducible refine (laws_eqPuzzle.calls kj15 _ _ t207 _ _ t195 false _ ?side1 ?side2 ?side3 ?side4 A87.out).mono ?_); (case side1 => exact uc3_ ((Kd.R_reads' HO_212000.out).2.2)); (case side2 => exact (Kd.R_reads' HO_212000.out).2.1); (case side3 => exact uc3_ ((Kd.R_reads' HO_200000.out).2.2)); (case side4 => exact (Kd.R_reads' HO_200000.out).2.1); rintro e w108 ⟨rfl, hb⟩; have n0_ := A3_ (Kd.R_below (by exact ur3_ HO_200000.out) hb); have n1_ := A3_ (Kd.R_below (by exact ur3_ HO_204000.out) hb); have n2_ := A3_ (Kd.R_below (by exact ur3_ HO_212000.out) hb); have n3_ := A3_ (Kd.R_below (by exact ur3_ HO215.out) hb); have n9_ := A3_ (bt3_ (by repeat (first | (with_reducible first | exact HB.out | apply ba3_ | apply bn3_ | apply bd3_ | refine ubs3_ ?_ (by assumption)) | exact HB.out)) hb); clear HO_200000; clear HO_204000; clear HO_212000; clear HO215; clear HB; have HO_200000 := n0_; have HO_204000 := n1_; have HO_212000 := n2_; have HO215 := n3_; replace BK186 := A3_ (ukb3_ BK186.out hb); replace BK187 := A3_ (ukb3_ BK187.out hb); replace BK199 := A3_ (ukb3_ BK199.out hb); replace BK203 := A3_ (ukb3_ BK203.out hb); replace BK211 := A3_ (ukb3_ BK211.out hb); have HB := n9_; clear n0_ n1_ n2_ n3_ n9_; (try clear hb); (try clear hb2); (try clear hk); (try clear hi)))
         go_meet
         case rel => exact ⟨_, (true), (by first | rfl | (simp; done) | (simp [*]; done)), H', ⟨by have := HJ15.out; first | omega | exact Nat.le_refl _⟩, ⟨by (with_reducible repeat (first | apply ra3_ | apply rn3_ | apply rd3_)); exact Kd.R_mono HO_200000.out (fun _ hk => ⟨hk.1, hk.2.1⟩)⟩, ⟨by (with_reducible repeat (first | apply ra3_ | apply rn3_ | apply rd3_)); exact Kd.R_mono HO_204000.out (fun _ hk => ⟨hk.1.1, hk.1.2⟩)⟩, ⟨by (with_reducible repeat (first | apply ra3_ | apply rn3_ | apply rd3_)); exact Kd.R_mono HO_212000.out (fun _ hk => ⟨hk.1, hk.2.1⟩)⟩, ⟨by (with_reducible repeat (first | refine kn3_ ?_ _ | refine kd3_ ?_ | refine ka3_ ?_ _)); exact BK186.out⟩, ⟨by (with_reducible repeat (first | refine kn3_ ?_ _ | refine kd3_ ?_ | refine ka3_ ?_ _)); exact BK187.out⟩, ⟨by (with_reducible repeat (first | refine kn3_ ?_ _ | refine kd3_ ?_ | refine ka3_ ?_ _)); exact BK199.out⟩, ⟨by (with_reducible repeat (first | refine kn3_ ?_ _ | refine kd3_ ?_ | refine ka3_ ?_ _)); exact BK203.out⟩, ⟨by (with_reducible repeat (first | refine kn3_ ?_ _ | refine kd3_ ?_ | refine ka3_ ?_ _)); exact BK211.out⟩, ⟨by repeat (first | (with_reducible first | exact HB.out | apply ba3_ | apply bn3_ | apply bd3_ | refine ubs3_ ?_ (by assumption)) | exact HB.out)⟩⟩
      case rest =>
       clear HC75
       try clear c1
       try clear p2
       try clear c4
       try clear c5
       try clear c6
       try clear c7
       try clear c8
       try clear c9
       try clear c10
       try clear c11
       try clear c49
       try clear c50
       try clear c51
       try clear c52
       try clear c53
       try clear c55
       try clear c56
       try clear c57
       try clear c60
       try clear c61
       try clear c62
       try clear c63
       try clear c65
       try clear c66
       try clear c67
       try clear c70
       try clear c73
       try clear c80
       try clear c81
       try clear c82
       try clear c83
       try clear c86
       try clear c86b0
       try clear c88
       try clear c89
       try clear c90
       try clear c91
       try clear c92
       try clear c94
       try clear c95
       try clear c96
       try clear c99
       try clear c100
       try clear c101
       try clear c102
       try clear c104
       try clear c105
       try clear c106
       try clear hcz103_0
       try clear hcz107_0
       try clear hcz54_0
       try clear hcz58_0
       try clear hcz64_0
       try clear hcz68_0
       try clear hcz84_0
       try clear hcz93_0
       try clear hcz97_0
       try clear hfz103_0
       try clear hfz107_0
       try clear hfz54_0
       try clear hfz58_0
       try clear hfz64_0
       try clear hfz68_0
       try clear hfz84_0
       try clear hfz93_0
       try clear hfz97_0
       try clear p2
       obtain ⟨kq, x67_74, rfl, HA, HJ74, HO_200000, HO_204000, HO_212000, BK186, BK187, BK199, BK203, BK211, HB⟩ := hcut
       have hl204000_74 := (Kd.R_reads' HO_204000.out).1
       rw [hl204000_74] at HO_204000
       (try simp only [hl204000_74])
       (try simp only [hl204000_74] at BK186)
       (try simp only [hl204000_74] at BK187)
       (try simp only [hl204000_74] at BK199)
       (try simp only [hl204000_74] at BK203)
       (try simp only [hl204000_74] at BK211)
       (try simp only [hl204000_74] at HO_200000)
       (try simp only [hl204000_74] at HO_212000)
       cases kq with
       | zero => exact absurd HA.out (by simp [j1])
       | succ kj74 =>
        have H := HA.out
        clear HA
        simp only [j1] at H
        by_cases c109 : x67_74 = true
        ·subst c109
         have H1 : (some false) = some r := by rw [if_pos rfl] at H; exact H
         clear H
         have H := H1
         clear H1
         obtain rfl := Option.some.inj H
         go_wp2
         go_ret
         exact ⟨by first | rfl | (simp [errW_none, errW_some] <;> rfl) | (simp [*, errW_none, errW_some] <;> rfl), by repeat (first | (with_reducible first | exact HB.out | apply ba3_ | apply bn3_ | apply bd3_ | refine ubs3_ ?_ (by assumption)) | exact HB.out)⟩
        ·replace c109 := Bool.eq_false_iff.mpr c109
         subst c109
         have H1 : ((laws_markPuzzle.f kj74 t207 1).bind fun bt220 => ((laws_heldPuzzle.f kj74 bt220.2 1).bind fun t222 => (if t222 < 0 then (some false) else (if t222 = bt220.1 then ((laws_toPuzzle.f kj74 l0_0).bind fun t223 => ((laws_toClue.f a1_0 a1_1 a1_2).bind fun bt226 => ((impl_AddClue.f kj74 t223 bt226.1 bt226.2.1 bt226.2.2).bind fun bt229 => ((laws_eqPuzzle.f kj74 bt229.1 t195).bind fun t234 => (if t234 = true then (j2 kj74 bt220.1 (bt229.2 != t198) bt220.2) else (j2 kj74 bt220.1 true bt220.2)))))) else (some false))))) = some r := by rw [if_neg (show ¬ (false = true) by decide)] at H; exact H
         clear H
         have H := H1
         clear H1
         replace H := Option.bind_eq_some_iff.mp H
         obtain ⟨⟨t220, t221⟩, A1100, H⟩ := H
         replace H : ((laws_heldPuzzle.f kj74 t221 1).bind fun t222 => (if t222 < 0 then (some false) else (if t222 = t220 then ((laws_toPuzzle.f kj74 l0_0).bind fun t223 => ((laws_toClue.f a1_0 a1_1 a1_2).bind fun bt226 => ((impl_AddClue.f kj74 t223 bt226.1 bt226.2.1 bt226.2.2).bind fun bt229 => ((laws_eqPuzzle.f kj74 bt229.1 t195).bind fun t234 => (if t234 = true then (j2 kj74 t220 (bt229.2 != t198) t221) else (j2 kj74 t220 true t221)))))) else (some false)))) = some r := H
         have A110 := A3_ A1100
         clear A1100
         replace H := Option.bind_eq_some_iff.mp H
         obtain ⟨t222, A1110, H⟩ := H
         replace H : (if t222 < 0 then (some false) else (if t222 = t220 then ((laws_toPuzzle.f kj74 l0_0).bind fun t223 => ((laws_toClue.f a1_0 a1_1 a1_2).bind fun bt226 => ((impl_AddClue.f kj74 t223 bt226.1 bt226.2.1 bt226.2.2).bind fun bt229 => ((laws_eqPuzzle.f kj74 bt229.1 t195).bind fun t234 => (if t234 = true then (j2 kj74 t220 (bt229.2 != t198) t221) else (j2 kj74 t220 true t221)))))) else (some false))) = some r := H
         have A111 := A3_ A1110
         clear A1110
         by_cases c112 : t222 < 0
         ·rw [if_pos c112] at H
          have c112b0 : decide (t222 < 0) = true := decide_eq_true c112
          clear c112
          obtain rfl := Option.some.inj H
          have hnb113 := NB211_186.out
          have hnc113 := NB186_211.out
          have hnb114 := NB211_187.out
          have hnc114 := NB187_211.out
          have hnb115 := NB211_199.out
          have hnc115 := NB199_211.out
          have hnb116 := NB211_203.out
          have hnc116 := NB203_211.out
          have hcz117_0 : wc.cell? ⟨gb211, 0, none⟩ = some (.slice Ao46 t207.length co46) := (blk_cell BK211.out 0).trans rfl
          have hfz117_0 := blk_frozen BK211.out 0
          go_wp2_with (first | ((with_reducible refine gate_callee (f := 11) rfl ?_); refine goesL_ (some 70) rfl rfl Try.func11 (by kernel_rfl) rfl #[.agg #[.slice Ao46 t207.length co46], .int .i64 1] rfl (by (try simp only [List.map_toArray, List.map_cons, List.map_nil]); first | done | rfl | (simp only [List.length_drop, List.length_take]; rfl)) ?_; (with_reducible refine (laws_markPuzzle.calls kj74 (fun k_ => some k_ = (.slice Ao46 t207.length co46 : Value).ownBlock) (.slice Ao46 t207.length co46) t207 1 t220 t221 w _ ?side1 ?side2 A110.out).mono ?_); (case side1 => repeat (first | (with_reducible first | exact HB.out | apply ba3_ | apply bn3_ | apply bd3_ | refine ubs3_ ?_ (by assumption)) | exact HB.out)); (case side2 => exact Kd.R_tight rfl HO_212000.out); rintro e w118 ⟨rfl, hy0, hb, hkp⟩; refine ⟨_, rfl, ?_⟩; have n0_ := A3_ (Kd.R_mono (ok' := fun k_ => some k_ ≠ (.slice Ao35 t218.length co35 : Value).ownBlock ∧ some k_ ≠ (.slice Ao46 t207.length co46 : Value).ownBlock) (Kd.R_keptB (HO_200000.out) hkp (fun k_ hk_ hs_ => (hk_.2) hs_)) (fun k_ hk_ => ⟨hk_.1.1, hk_.1.2⟩)); have n1_ := A3_ (Kd.R_mono (ok' := fun k_ => some k_ ≠ (.slice Ao29 t195.length co29 : Value).ownBlock ∧ some k_ ≠ (.slice Ao46 t207.length co46 : Value).ownBlock) (Kd.R_keptB (HO_204000.out) hkp (fun k_ hk_ hs_ => (hk_.2) hs_)) (fun k_ hk_ => ⟨hk_.1.1, hk_.1.2⟩)); have n2_ := A3_ (Kd.R_reok rfl hy0 (fun k_ e_ => HO_212000.out.1 k_ e_)); have n3_ := A3_ (blk_kept (by exact uk3_ BK186.out) hkp (fun hs_ => (fun e_ => (Kd.R_ne HO_212000.out BK186.out (by decide)) e_) hs_)); have n4_ := A3_ (blk_kept (by exact uk3_ BK187.out) hkp (fun hs_ => (fun e_ => (Kd.R_ne HO_212000.out BK187.out (by decide)) e_) hs_)); have n5_ := A3_ (blk_kept (by exact uk3_ BK199.out) hkp (fun hs_ => (fun e_ => (Kd.R_ne HO_212000.out BK199.out (by decide)) e_) hs_)); have n6_ := A3_ (blk_kept (by exact uk3_ BK203.out) hkp (fun hs_ => (fun e_ => (Kd.R_ne HO_212000.out BK203.out (by decide)) e_) hs_)); have n7_ := A3_ (blk_kept (by exact uk3_ BK211.out) hkp (fun hs_ => (fun e_ => (Kd.R_ne HO_212000.out BK211.out (by decide)) e_) hs_)); have n8_ := A3_ (hb); clear HO_200000; clear HO_204000; clear HO_212000; clear BK186; clear BK187; clear BK199; clear BK203; clear BK211; clear HB; have HO_200000 := n0_; have HO_204000 := n1_; have HO_212000 := n2_; have BK186 := n3_; have BK187 := n4_; have BK199 := n5_; have BK203 := n6_; have BK211 := n7_; have HB := n8_; clear n0_ n1_ n2_ n3_ n4_ n5_ n6_ n7_ n8_; (try clear hb); (try clear hkp); (try clear hy0); have hcz119_0 : w118.cell? ⟨gb211, 0, none⟩ = some (.slice Ao46 t207.length co46) := (blk_cell BK211.out 0).trans rfl; have hfz119_0 := blk_frozen BK211.out 0) | ((with_reducible refine gate_callee (f := 12) rfl ?_); refine goesL_ (some 73) rfl rfl Try.func12 (by kernel_rfl) rfl #[.agg #[.slice Ao46 t221.length co46], .int .i64 1] rfl (by (try simp only [List.map_toArray, List.map_cons, List.map_nil]); first | done | (rw [show t221.length = t207.length from (Kd.R_reads' HO_212000.out).1.symm] <;> rfl) | rfl | (simp only [List.length_drop, List.length_take]; rfl)) ?_; (with_reducible refine (laws_heldPuzzle.calls kj74 _ _ t221 1 t222 _ ?side1 ?side2 A111.out).mono ?_); (case side1 => exact uc3_ ((Kd.R_reads' HO_212000.out).2.2)); (case side2 => rw [show t221.length = t207.length from (Kd.R_reads' HO_212000.out).1.symm]; exact (Kd.R_reads' HO_212000.out).2.1); rintro e w120 ⟨rfl, hb⟩; refine ⟨_, rfl, ?_⟩; have n0_ := A3_ (Kd.R_below (by exact ur3_ HO_200000.out) hb); have n1_ := A3_ (Kd.R_below (by exact ur3_ HO_204000.out) hb); have n2_ := A3_ (Kd.R_below (by exact ur3_ HO_212000.out) hb); have n8_ := A3_ (bt3_ (by repeat (first | (with_reducible first | exact HB.out | apply ba3_ | apply bn3_ | apply bd3_ | refine ubs3_ ?_ (by assumption)) | exact HB.out)) hb); clear HO_200000; clear HO_204000; clear HO_212000; clear HB; have HO_200000 := n0_; have HO_204000 := n1_; have HO_212000 := n2_; replace BK186 := A3_ (ukb3_ BK186.out hb); replace BK187 := A3_ (ukb3_ BK187.out hb); replace BK199 := A3_ (ukb3_ BK199.out hb); replace BK203 := A3_ (ukb3_ BK203.out hb); replace BK211 := A3_ (ukb3_ BK211.out hb); have HB := n8_; clear n0_ n1_ n2_ n8_; (try clear hb); (try clear hb2); (try clear hk); (try clear hi)))
          go_ret
          exact ⟨by first | rfl | (simp [errW_none, errW_some] <;> rfl) | (simp [*, errW_none, errW_some] <;> rfl), by repeat (first | (with_reducible first | exact HB.out | apply ba3_ | apply bn3_ | apply bd3_ | refine ubs3_ ?_ (by assumption)) | exact HB.out)⟩
         ·rw [if_neg c112] at H
          have c112b0 : decide (t222 < 0) = false := decide_eq_false c112
          clear c112
          by_cases c121 : t222 = t220
          ·rw [if_pos c121] at H
           have c121b0 : (t222 == t220) = true := beq_iff_eq.mpr c121
           have c121b1 : (t222 != t220) = false := bne_eq_false_iff_eq.mpr c121
           clear c121
           replace H := Option.bind_eq_some_iff.mp H
           obtain ⟨t223, A1220, H⟩ := H
           replace H : ((laws_toClue.f a1_0 a1_1 a1_2).bind fun bt226 => ((impl_AddClue.f kj74 t223 bt226.1 bt226.2.1 bt226.2.2).bind fun bt229 => ((laws_eqPuzzle.f kj74 bt229.1 t195).bind fun t234 => (if t234 = true then (j2 kj74 t220 (bt229.2 != t198) t221) else (j2 kj74 t220 true t221))))) = some r := H
           have A122 := A3_ A1220
           clear A1220
           replace H := Option.bind_eq_some_iff.mp H
           obtain ⟨⟨t226, t227, t228⟩, A1230, H⟩ := H
           replace H : ((impl_AddClue.f kj74 t223 t226 t227 t228).bind fun bt229 => ((laws_eqPuzzle.f kj74 bt229.1 t195).bind fun t234 => (if t234 = true then (j2 kj74 t220 (bt229.2 != t198) t221) else (j2 kj74 t220 true t221)))) = some r := H
           have A123 := A3_ A1230
           clear A1230
           replace H := Option.bind_eq_some_iff.mp H
           obtain ⟨⟨t229, t232⟩, A1240, H⟩ := H
           replace H : ((laws_eqPuzzle.f kj74 t229 t195).bind fun t234 => (if t234 = true then (j2 kj74 t220 (t232 != t198) t221) else (j2 kj74 t220 true t221))) = some r := H
           have A124 := A3_ A1240
           clear A1240
           have HC125 := A3_ H
           clear H
           have hnb126 := NB211_186.out
           have hnc126 := NB186_211.out
           have hnb127 := NB211_187.out
           have hnc127 := NB187_211.out
           have hnb128 := NB211_199.out
           have hnc128 := NB199_211.out
           have hnb129 := NB211_203.out
           have hnc129 := NB203_211.out
           have hcz130_0 : wc.cell? ⟨gb211, 0, none⟩ = some (.slice Ao46 t207.length co46) := (blk_cell BK211.out 0).trans rfl
           have hfz130_0 := blk_frozen BK211.out 0
           try go_wp2_with (first | ((with_reducible refine gate_callee (f := 11) rfl ?_); refine goesL_ (some 70) rfl rfl Try.func11 (by kernel_rfl) rfl #[.agg #[.slice Ao46 t207.length co46], .int .i64 1] rfl (by (try simp only [List.map_toArray, List.map_cons, List.map_nil]); first | done | rfl | (simp only [List.length_drop, List.length_take]; rfl)) ?_; (with_reducible refine (laws_markPuzzle.calls kj74 (fun k_ => some k_ = (.slice Ao46 t207.length co46 : Value).ownBlock) (.slice Ao46 t207.length co46) t207 1 t220 t221 w _ ?side1 ?side2 A110.out).mono ?_); (case side1 => repeat (first | (with_reducible first | exact HB.out | apply ba3_ | apply bn3_ | apply bd3_ | refine ubs3_ ?_ (by assumption)) | exact HB.out)); (case side2 => exact Kd.R_tight rfl HO_212000.out); rintro e w131 ⟨rfl, hy0, hb, hkp⟩; refine ⟨_, rfl, ?_⟩; have n0_ := A3_ (Kd.R_mono (ok' := fun k_ => some k_ ≠ (.slice Ao35 t218.length co35 : Value).ownBlock ∧ some k_ ≠ (.slice Ao46 t207.length co46 : Value).ownBlock) (Kd.R_keptB (HO_200000.out) hkp (fun k_ hk_ hs_ => (hk_.2) hs_)) (fun k_ hk_ => ⟨hk_.1.1, hk_.1.2⟩)); have n1_ := A3_ (Kd.R_mono (ok' := fun k_ => some k_ ≠ (.slice Ao29 t195.length co29 : Value).ownBlock ∧ some k_ ≠ (.slice Ao46 t207.length co46 : Value).ownBlock) (Kd.R_keptB (HO_204000.out) hkp (fun k_ hk_ hs_ => (hk_.2) hs_)) (fun k_ hk_ => ⟨hk_.1.1, hk_.1.2⟩)); have n2_ := A3_ (Kd.R_reok rfl hy0 (fun k_ e_ => HO_212000.out.1 k_ e_)); have n3_ := A3_ (blk_kept (by exact uk3_ BK186.out) hkp (fun hs_ => (fun e_ => (Kd.R_ne HO_212000.out BK186.out (by decide)) e_) hs_)); have n4_ := A3_ (blk_kept (by exact uk3_ BK187.out) hkp (fun hs_ => (fun e_ => (Kd.R_ne HO_212000.out BK187.out (by decide)) e_) hs_)); have n5_ := A3_ (blk_kept (by exact uk3_ BK199.out) hkp (fun hs_ => (fun e_ => (Kd.R_ne HO_212000.out BK199.out (by decide)) e_) hs_)); have n6_ := A3_ (blk_kept (by exact uk3_ BK203.out) hkp (fun hs_ => (fun e_ => (Kd.R_ne HO_212000.out BK203.out (by decide)) e_) hs_)); have n7_ := A3_ (blk_kept (by exact uk3_ BK211.out) hkp (fun hs_ => (fun e_ => (Kd.R_ne HO_212000.out BK211.out (by decide)) e_) hs_)); have n8_ := A3_ (hb); clear HO_200000; clear HO_204000; clear HO_212000; clear BK186; clear BK187; clear BK199; clear BK203; clear BK211; clear HB; have HO_200000 := n0_; have HO_204000 := n1_; have HO_212000 := n2_; have BK186 := n3_; have BK187 := n4_; have BK199 := n5_; have BK203 := n6_; have BK211 := n7_; have HB := n8_; clear n0_ n1_ n2_ n3_ n4_ n5_ n6_ n7_ n8_; (try clear hb); (try clear hkp); (try clear hy0); have hcz132_0 : w131.cell? ⟨gb211, 0, none⟩ = some (.slice Ao46 t207.length co46) := (blk_cell BK211.out 0).trans rfl; have hfz132_0 := blk_frozen BK211.out 0) | ((with_reducible refine gate_callee (f := 12) rfl ?_); refine goesL_ (some 73) rfl rfl Try.func12 (by kernel_rfl) rfl #[.agg #[.slice Ao46 t221.length co46], .int .i64 1] rfl (by (try simp only [List.map_toArray, List.map_cons, List.map_nil]); first | done | (rw [show t221.length = t207.length from (Kd.R_reads' HO_212000.out).1.symm] <;> rfl) | rfl | (simp only [List.length_drop, List.length_take]; rfl)) ?_; (with_reducible refine (laws_heldPuzzle.calls kj74 _ _ t221 1 t222 _ ?side1 ?side2 A111.out).mono ?_); (case side1 => exact uc3_ ((Kd.R_reads' HO_212000.out).2.2)); (case side2 => rw [show t221.length = t207.length from (Kd.R_reads' HO_212000.out).1.symm]; exact (Kd.R_reads' HO_212000.out).2.1); rintro e w133 ⟨rfl, hb⟩; refine ⟨_, rfl, ?_⟩; have n0_ := A3_ (Kd.R_below (by exact ur3_ HO_200000.out) hb); have n1_ := A3_ (Kd.R_below (by exact ur3_ HO_204000.out) hb); have n2_ := A3_ (Kd.R_below (by exact ur3_ HO_212000.out) hb); have n8_ := A3_ (bt3_ (by repeat (first | (with_reducible first | exact HB.out | apply ba3_ | apply bn3_ | apply bd3_ | refine ubs3_ ?_ (by assumption)) | exact HB.out)) hb); clear HO_200000; clear HO_204000; clear HO_212000; clear HB; have HO_200000 := n0_; have HO_204000 := n1_; have HO_212000 := n2_; replace BK186 := A3_ (ukb3_ BK186.out hb); replace BK187 := A3_ (ukb3_ BK187.out hb); replace BK199 := A3_ (ukb3_ BK199.out hb); replace BK203 := A3_ (ukb3_ BK203.out hb); replace BK211 := A3_ (ukb3_ BK211.out hb); have HB := n8_; clear n0_ n1_ n2_ n8_; (try clear hb); (try clear hb2); (try clear hk); (try clear hi)))
           have n0_ := A3_ (rd3_ HO_200000.out)
           have n1_ := A3_ (rd3_ HO_204000.out)
           have n2_ := A3_ (rd3_ HO_212000.out)
           have n3_ := A3_ (kd3_ BK186.out)
           have n4_ := A3_ (kd3_ BK187.out)
           have n5_ := A3_ (kd3_ BK199.out)
           have n6_ := A3_ (kd3_ BK203.out)
           have n7_ := A3_ (kd3_ BK211.out)
           have n8_ := A3_ (bd3_ HB.out)
           clear HO_200000
           clear HO_204000
           clear HO_212000
           clear BK186
           clear BK187
           clear BK199
           clear BK203
           clear BK211
           clear HB
           have HO_200000 := n0_
           have HO_204000 := n1_
           have HO_212000 := n2_
           have BK186 := n3_
           have BK187 := n4_
           have BK199 := n5_
           have BK203 := n6_
           have BK211 := n7_
           have HB := n8_
           clear n0_ n1_ n2_ n3_ n4_ n5_ n6_ n7_ n8_
           refine start_ (n := 11) (S := fun w' => w'.cell? ⟨gb186, 0, none⟩ = some (.slice A0_0 l0_0.length c0_0) ∧ w'.cell? ⟨gb187, 0, none⟩ = some (.int .i64 a1_0) ∧ w'.cell? ⟨gb187, 1, none⟩ = some (.int .i64 a1_1) ∧ w'.cell? ⟨gb187, 2, none⟩ = some (.int .i64 a1_2)) (ds := []) #[false, false, false, false, false, false, false, false, false, false, false] (by kernel_rfl) rfl rfl ⟨(blk_cell BK186.out 0).trans rfl, (blk_cell BK187.out 0).trans rfl, (blk_cell BK187.out 1).trans rfl, (blk_cell BK187.out 2).trans rfl⟩ (fun hHeld => ?_); refine with_tabW laws_FnExactAddClue.tab24 laws_FnExactAddClue.bits24 (fun HT_ HW_ => ?_)
           generalize w133.drew = w134 at HO_200000 HO_204000 HO_212000 BK186 BK187 BK199 BK203 BK211 HB hHeld ⊢
           refine take_ (i := 0) (N := some 80) (v := ?_) (a' := ?_) #[true, false, false, false, false, false, false, false, false, false, false] rfl rfl (take_ofW HT_.out HW_.out (by kernel_rfl)) (fun _ _ _ h => h) (Or.inl ⟨by rfl, ?_⟩) hHeld ?_ ?_
           rotate_left
           ·rintro w' ⟨s0, s1, s2, s3⟩
            go_simp
            with_reducible rfl
           rotate_left
           ·simp only [Act.put, us3_, ut3_, uv3_, i64_w, i32_w]
            rfl
           refine take_ (i := 2) (N := some 82) (v := ?_) (a' := ?_) #[true, false, true, false, false, false, false, false, false, false, false] rfl rfl (take_ofW HT_.out HW_.out (by kernel_rfl)) (fun _ _ _ h => h) (Or.inl ⟨by rfl, ?_⟩) hHeld ?_ ?_
           rotate_left
           ·rintro w' ⟨s0, s1, s2, s3⟩
            go_simp
            with_reducible rfl
           rotate_left
           ·simp only [Act.put, us3_, ut3_, uv3_, i64_w, i32_w]
            rfl
           refine join_ (σ := Value × Value × Nat) 2 #[true, true, true, true, true, true, true, true, true, false, false] (fun s_ => [(81, .agg #[s_.1]), (83, .agg #[.int .i64 t226, .int .i64 t227, .int .i64 t228]), (84, .tuple #[.agg #[s_.2.1], .bool t232]), (14, .pointer (some ⟨s_.2.2, 0, none⟩)), (79, .tuple #[.agg #[s_.2.1], .bool t232]), (85, .agg #[s_.2.1]), (86, .bool t232)]) (fun s_ w' => (w'.cell? ⟨gb186, 0, none⟩ = some (.slice A0_0 l0_0.length c0_0) ∧ w'.cell? ⟨gb187, 0, none⟩ = some (.int .i64 a1_0) ∧ w'.cell? ⟨gb187, 1, none⟩ = some (.int .i64 a1_1) ∧ w'.cell? ⟨gb187, 2, none⟩ = some (.int .i64 a1_2)) ∧ (Kd.R k34 34 w' w.heap.size (fun k_ => some k_ ≠ (s_.2.1 : Value).ownBlock ∧ some k_ ≠ (.slice Ao29 t195.length co29 : Value).ownBlock ∧ some k_ ≠ (.slice Ao35 t218.length co35 : Value).ownBlock ∧ some k_ ≠ (.slice Ao46 t207.length co46 : Value).ownBlock) s_.1 t223) ∧ (Kd.R k34 34 w' w.heap.size (fun k_ => some k_ ≠ (s_.1 : Value).ownBlock ∧ some k_ ≠ (.slice Ao29 t195.length co29 : Value).ownBlock ∧ some k_ ≠ (.slice Ao35 t218.length co35 : Value).ownBlock ∧ some k_ ≠ (.slice Ao46 t207.length co46 : Value).ownBlock) s_.2.1 t229) ∧ (Kd.R k34 34 w' w.heap.size (fun k_ => some k_ ≠ (s_.1 : Value).ownBlock ∧ some k_ ≠ (s_.2.1 : Value).ownBlock ∧ some k_ ≠ (.slice Ao35 t218.length co35 : Value).ownBlock ∧ some k_ ≠ (.slice Ao46 t207.length co46 : Value).ownBlock) (.slice Ao29 t195.length co29) t195) ∧ (Kd.R k34 34 w' w.heap.size (fun k_ => some k_ ≠ (s_.1 : Value).ownBlock ∧ some k_ ≠ (s_.2.1 : Value).ownBlock ∧ some k_ ≠ (.slice Ao29 t195.length co29 : Value).ownBlock ∧ some k_ ≠ (.slice Ao46 t207.length co46 : Value).ownBlock) (.slice Ao35 t218.length co35) t218) ∧ (Kd.R k34 34 w' w.heap.size (fun k_ => some k_ ≠ (s_.1 : Value).ownBlock ∧ some k_ ≠ (s_.2.1 : Value).ownBlock ∧ some k_ ≠ (.slice Ao29 t195.length co29 : Value).ownBlock ∧ some k_ ≠ (.slice Ao35 t218.length co35 : Value).ownBlock) (.slice Ao46 t207.length co46) t221) ∧ (w'.heap[gb186]? = some (.cells #[.slice A0_0 l0_0.length c0_0] 24 (0, 0))) ∧ (w'.heap[gb187]? = some (.cells #[.int .i64 a1_0, .int .i64 a1_1, .int .i64 a1_2] 26 (0, 0))) ∧ (w'.heap[gb199]? = some (.cells #[.slice Ao29 t195.length co29] 30 (0, 0))) ∧ (w'.heap[gb203]? = some (.cells #[.slice Ao35 t218.length co35] 30 (0, 0))) ∧ (w'.heap[gb211]? = some (.cells #[.slice Ao46 t207.length co46] 30 (0, 0))) ∧ (w'.heap[s_.2.2]? = some (.cells #[.slice none 0 0] 30 (0, 0))) ∧ (w.heap.size ≤ s_.2.2) ∧ (w.heap.size ≤ s_.2.2) ∧ (gb186 ≠ s_.2.2) ∧ (s_.2.2 ≠ gb186) ∧ (gb187 ≠ s_.2.2) ∧ (s_.2.2 ≠ gb187) ∧ (gb199 ≠ s_.2.2) ∧ (s_.2.2 ≠ gb199) ∧ (gb203 ≠ s_.2.2) ∧ (s_.2.2 ≠ gb203) ∧ (gb211 ≠ s_.2.2) ∧ (s_.2.2 ≠ gb211) ∧ (Below w.heap.size w w')) ?_ ?_
           rotate_left
           ·intro hCont
            refine two_ (i := 1) (j := 8) (Ni := some 81) (Nj := some 14) #[true, true, true, false, false, false, false, false, false, false, false] #[true, false, true, false, false, false, false, false, true, false, false] rfl rfl rfl rfl (two_of HT_.out (by kernel_rfl)) (by decide) (by decide) (fun K hK => ?_) (fun K hK => ?_)
            ·skip
             refine goes_ Try.func7 (by kernel_rfl) rfl #[.agg #[.slice A0_0 l0_0.length c0_0]] (by rfl) rfl rfl (by (try simp only [List.map_toArray, List.map_cons, List.map_nil]); first | done | rfl | (simp only [List.length_drop, List.length_take]; rfl)) ?_
             with_reducible refine (laws_toPuzzle.calls kj74 _ _ l0_0 t223 _ ?side1 ?side2 A122.out).mono ?_
             (case side1 => repeat (first | exact (Kd.C_below HR0_0.out HB.out) | (with_reducible refine Kd.C_alloc ?_ _) | (with_reducible refine Kd.C_drewN ?_ _) | (with_reducible refine Kd.C_drew ?_)))
             (case side2 => exact HC0_0.out)
             rintro e w135 ⟨v224, rfl, ho0, hb⟩
             refine ⟨_, rfl, ?_⟩
             have n0_ := A3_ (re3_ (by exact ur3_ HO_200000.out) (Kd.R_base ho0) hb)
             have n1_ := A3_ (re3_ (by exact ur3_ HO_204000.out) (Kd.R_base ho0) hb)
             have n2_ := A3_ (re3_ (by exact ur3_ HO_212000.out) (Kd.R_base ho0) hb)
             have n3_ := A3_ (Kd.R_lower (Kd.R_new' (Kd.R_new' (Kd.R_new' ho0 (Kd.R_lt (by exact ur3_ HO_200000.out))) (Kd.R_lt (by exact ur3_ HO_204000.out))) (Kd.R_lt (by exact ur3_ HO_212000.out))) (below_size (by repeat (first | (with_reducible first | exact HB.out | apply ba3_ | apply bn3_ | apply bd3_ | refine ubs3_ ?_ (by assumption)) | exact HB.out))))
             have n9_ := A3_ (bt3_ (by repeat (first | (with_reducible first | exact HB.out | apply ba3_ | apply bn3_ | apply bd3_ | refine ubs3_ ?_ (by assumption)) | exact HB.out)) hb)
             clear HO_200000
             clear HO_204000
             clear HO_212000
             clear HB
             have HO_200000 := n0_
             have HO_204000 := n1_
             have HO_212000 := n2_
             have HO225 := n3_
             replace BK186 := A3_ (ukb3_ BK186.out hb)
             replace BK187 := A3_ (ukb3_ BK187.out hb)
             replace BK199 := A3_ (ukb3_ BK199.out hb)
             replace BK203 := A3_ (ukb3_ BK203.out hb)
             replace BK211 := A3_ (ukb3_ BK211.out hb)
             have HB := n9_
             clear n0_ n1_ n2_ n3_ n9_
             (try clear hb)
             (try clear hb2)
             (try clear hk)
             (try clear hi)
             (try clear ho0)
             refine hK.out _ _ ⟨(blk_cell BK186.out 0).trans rfl, (blk_cell BK187.out 0).trans rfl, (blk_cell BK187.out 1).trans rfl, (blk_cell BK187.out 2).trans rfl⟩ (fun hHeld => ?_)
             clear hK K
             refine norm_ (a' := ?_) ?_ ?_
             rotate_left
             ·show Act.put _ (some 81) _ = _
              simp only [Act.put, us3_, ut3_, uv3_, i64_w, i32_w]
              rfl
             refine two_ (i := 3) (j := 8) (Ni := some 83) (Nj := some 14) #[true, true, true, true, false, false, false, false, false, false, false] #[true, true, true, false, false, false, false, false, true, false, false] rfl rfl rfl rfl (two_of HT_.out (by kernel_rfl)) (by decide) (by decide) (fun K hK => ?_) (fun K hK => ?_)
             ·skip
              refine goes_ Try.func8 (by kernel_rfl) rfl #[.agg #[.int .i64 a1_0, .int .i64 a1_1, .int .i64 a1_2]] (by rfl) rfl rfl (by (try simp only [List.map_toArray, List.map_cons, List.map_nil]); first | done | rfl | (simp only [List.length_drop, List.length_take]; rfl)) ?_
              with_reducible refine (laws_toClue.calls a1_0 a1_1 a1_2 t226 t227 t228 _ A123.out).mono ?_
              rintro e w136 ⟨rfl, hb⟩
              refine ⟨_, rfl, ?_⟩
              have n0_ := A3_ (Kd.R_below (by exact ur3_ HO_200000.out) hb)
              have n1_ := A3_ (Kd.R_below (by exact ur3_ HO_204000.out) hb)
              have n2_ := A3_ (Kd.R_below (by exact ur3_ HO_212000.out) hb)
              have n3_ := A3_ (Kd.R_below (by exact ur3_ HO225.out) hb)
              have n9_ := A3_ (bt3_ (by repeat (first | (with_reducible first | exact HB.out | apply ba3_ | apply bn3_ | apply bd3_ | refine ubs3_ ?_ (by assumption)) | exact HB.out)) hb)
              clear HO_200000
              clear HO_204000
              clear HO_212000
              clear HO225
              clear HB
              have HO_200000 := n0_
              have HO_204000 := n1_
              have HO_212000 := n2_
              have HO225 := n3_
              replace BK186 := A3_ (ukb3_ BK186.out hb)
              replace BK187 := A3_ (ukb3_ BK187.out hb)
              replace BK199 := A3_ (ukb3_ BK199.out hb)
              replace BK203 := A3_ (ukb3_ BK203.out hb)
              replace BK211 := A3_ (ukb3_ BK211.out hb)
              have HB := n9_
              clear n0_ n1_ n2_ n3_ n9_
              (try clear hb)
              (try clear hb2)
              (try clear hk)
              (try clear hi)
              obtain ⟨Ao137, co137, eo137⟩ := Kd.R_slice HO225.out
              (first | subst eo137 | (injection eo137 with f1_ f2_ f3_; have f4_ := f1_.symm; have f5_ := f3_.symm; clear f1_ f2_ f3_; subst f4_; subst f5_))
              refine hK.out _ _ ⟨(blk_cell BK186.out 0).trans rfl, (blk_cell BK187.out 0).trans rfl, (blk_cell BK187.out 1).trans rfl, (blk_cell BK187.out 2).trans rfl⟩ (fun hHeld => ?_)
              clear hK K
              refine norm_ (a' := ?_) ?_ ?_
              rotate_left
              ·show Act.put _ (some 83) _ = _
               simp only [Act.put, us3_, ut3_, uv3_, i64_w, i32_w]
               rfl
              refine two_ (i := 4) (j := 8) (Ni := some 84) (Nj := some 14) #[true, true, true, true, true, false, false, false, false, false, false] #[true, true, true, true, false, false, false, false, true, false, false] rfl rfl rfl rfl (two_of HT_.out (by kernel_rfl)) (by decide) (by decide) (fun K hK => ?_) (fun K hK => ?_)
              ·skip
               refine goes_ Try.func9 (by kernel_rfl) rfl #[.agg #[.slice Ao137 t223.length co137], .agg #[.int .i64 t226, .int .i64 t227, .int .i64 t228]] (by rfl) rfl rfl (by (try simp only [List.map_toArray, List.map_cons, List.map_nil]); first | done | rfl | (simp only [List.length_drop, List.length_take]; rfl)) ?_
               with_reducible refine (impl_AddClue.calls kj74 _ _ t223 t226 t227 t228 t229 t232 _ ?side1 ?side2 A124.out).mono ?_
               (case side1 => repeat (first | exact (Kd.R_reads' HO225.out).2.2 | (with_reducible refine Kd.C_alloc ?_ _) | (with_reducible refine Kd.C_drewN ?_ _) | (with_reducible refine Kd.C_drew ?_)))
               (case side2 => exact (Kd.R_reads' HO225.out).2.1)
               rintro e w138 ⟨v230, rfl, ho0, hb⟩
               refine ⟨_, rfl, ?_⟩
               have n0_ := A3_ (re3_ (by exact ur3_ HO_200000.out) (Kd.R_base ho0) hb)
               have n1_ := A3_ (re3_ (by exact ur3_ HO_204000.out) (Kd.R_base ho0) hb)
               have n2_ := A3_ (re3_ (by exact ur3_ HO_212000.out) (Kd.R_base ho0) hb)
               have n3_ := A3_ (re3_ (by exact ur3_ HO225.out) (Kd.R_base ho0) hb)
               have n4_ := A3_ (Kd.R_lower (Kd.R_new' (Kd.R_new' (Kd.R_new' (Kd.R_new' ho0 (Kd.R_lt (by exact ur3_ HO_200000.out))) (Kd.R_lt (by exact ur3_ HO_204000.out))) (Kd.R_lt (by exact ur3_ HO_212000.out))) (Kd.R_lt (by exact ur3_ HO225.out))) (below_size (by repeat (first | (with_reducible first | exact HB.out | apply ba3_ | apply bn3_ | apply bd3_ | refine ubs3_ ?_ (by assumption)) | exact HB.out))))
               have n10_ := A3_ (bt3_ (by repeat (first | (with_reducible first | exact HB.out | apply ba3_ | apply bn3_ | apply bd3_ | refine ubs3_ ?_ (by assumption)) | exact HB.out)) hb)
               clear HO_200000
               clear HO_204000
               clear HO_212000
               clear HO225
               clear HB
               have HO_200000 := n0_
               have HO_204000 := n1_
               have HO_212000 := n2_
               have HO225 := n3_
               have HO231 := n4_
               replace BK186 := A3_ (ukb3_ BK186.out hb)
               replace BK187 := A3_ (ukb3_ BK187.out hb)
               replace BK199 := A3_ (ukb3_ BK199.out hb)
               replace BK203 := A3_ (ukb3_ BK203.out hb)
               replace BK211 := A3_ (ukb3_ BK211.out hb)
               have HB := n10_
               clear n0_ n1_ n2_ n3_ n4_ n10_
               (try clear hb)
               (try clear hb2)
               (try clear hk)
               (try clear hi)
               (try clear ho0)
               refine hK.out _ _ ⟨(blk_cell BK186.out 0).trans rfl, (blk_cell BK187.out 0).trans rfl, (blk_cell BK187.out 1).trans rfl, (blk_cell BK187.out 2).trans rfl⟩ (fun hHeld => ?_)
               clear hK K
               refine norm_ (a' := ?_) ?_ ?_
               rotate_left
               ·show Act.put _ (some 84) _ = _
                simp only [Act.put, us3_, ut3_, uv3_, i64_w, i32_w]
                rfl
               refine pure_ (i := 5) (N := some 79) (v := ?_) (a' := ?_) #[true, true, true, true, true, true, false, false, false, false, false] rfl rfl (any_of HT_.out (by kernel_rfl)) (fun _ _ _ h => h) (Or.inl ⟨by rfl, ?_⟩) ?_ ?_
               rotate_left
               ·intro w'
                go_simp
                with_reducible rfl
               rotate_left
               ·simp only [Act.put, us3_, ut3_, uv3_, i64_w, i32_w]
                rfl
               refine pure_ (i := 6) (N := some 85) (v := ?_) (a' := ?_) #[true, true, true, true, true, true, true, false, false, false, false] rfl rfl (any_of HT_.out (by kernel_rfl)) (fun _ _ _ h => h) (Or.inl ⟨by rfl, ?_⟩) ?_ ?_
               rotate_left
               ·intro w'
                go_simp
                with_reducible rfl
               rotate_left
               ·simp only [Act.put, us3_, ut3_, uv3_, i64_w, i32_w]
                rfl
               refine pure_ (i := 7) (N := some 86) (v := ?_) (a' := ?_) #[true, true, true, true, true, true, true, true, false, false, false] rfl rfl (any_of HT_.out (by kernel_rfl)) (fun _ _ _ h => h) (Or.inl ⟨by rfl, ?_⟩) ?_ ?_
               rotate_left
               ·intro w'
                go_simp
                with_reducible rfl
               rotate_left
               ·simp only [Act.put, us3_, ut3_, uv3_, i64_w, i32_w]
                rfl
               refine one_ (i := 8) (N := some 14) #[true, true, true, true, true, true, true, true, true, false, false] rfl rfl (one_of HT_.out (by kernel_rfl)) (by decide) (fun K hK => ?_)
               refine box_step ?hg (N := 14) ?hd (cs := #[.slice none 0 0]) (t := 30) ?hr ?_; (case hd => rfl); (case hg => rfl); (case hr => first | (go_simp; done) | (go_simp; rfl))
               intro gb233 hg w139 hbox hb
               have n0_ := A3_ (Kd.R_below (by exact ur3_ HO_200000.out) hb)
               have n1_ := A3_ (Kd.R_below (by exact ur3_ HO_204000.out) hb)
               have n2_ := A3_ (Kd.R_below (by exact ur3_ HO_212000.out) hb)
               have n3_ := A3_ (Kd.R_below (by exact ur3_ HO225.out) hb)
               have n4_ := A3_ (Kd.R_below (by exact ur3_ HO231.out) hb)
               have n10_ := A3_ (bt3_ (by repeat (first | (with_reducible first | exact HB.out | apply ba3_ | apply bn3_ | apply bd3_ | refine ubs3_ ?_ (by assumption)) | exact HB.out)) hb)
               have n11_ := A3_ (hbox)
               have n12_ := A3_ ((by rw [hg]; exact (below_size (by repeat (first | (with_reducible first | exact HB.out | apply ba3_ | apply bn3_ | apply bd3_ | refine ubs3_ ?_ (by assumption)) | exact HB.out))) : w.heap.size ≤ gb233))
               have n13_ := A3_ ((by rw [hg]; exact (below_size (by repeat (first | (with_reducible first | exact HB.out | apply ba3_ | apply bn3_ | apply bd3_ | refine ubs3_ ?_ (by assumption)) | exact HB.out))) : w.heap.size ≤ gb233))
               have n14_ := A3_ ((by rw [hg]; exact Nat.ne_of_lt (ukl3_ BK186.out) : gb186 ≠ gb233))
               have n15_ := A3_ ((by rw [hg]; exact Nat.ne_of_gt (ukl3_ BK186.out) : gb233 ≠ gb186))
               have n16_ := A3_ ((by rw [hg]; exact Nat.ne_of_lt (ukl3_ BK187.out) : gb187 ≠ gb233))
               have n17_ := A3_ ((by rw [hg]; exact Nat.ne_of_gt (ukl3_ BK187.out) : gb233 ≠ gb187))
               have n18_ := A3_ ((by rw [hg]; exact Nat.ne_of_lt (ukl3_ BK199.out) : gb199 ≠ gb233))
               have n19_ := A3_ ((by rw [hg]; exact Nat.ne_of_gt (ukl3_ BK199.out) : gb233 ≠ gb199))
               have n20_ := A3_ ((by rw [hg]; exact Nat.ne_of_lt (ukl3_ BK203.out) : gb203 ≠ gb233))
               have n21_ := A3_ ((by rw [hg]; exact Nat.ne_of_gt (ukl3_ BK203.out) : gb233 ≠ gb203))
               have n22_ := A3_ ((by rw [hg]; exact Nat.ne_of_lt (ukl3_ BK211.out) : gb211 ≠ gb233))
               have n23_ := A3_ ((by rw [hg]; exact Nat.ne_of_gt (ukl3_ BK211.out) : gb233 ≠ gb211))
               clear HO_200000
               clear HO_204000
               clear HO_212000
               clear HO225
               clear HO231
               clear HB
               have HO_200000 := n0_
               have HO_204000 := n1_
               have HO_212000 := n2_
               have HO225 := n3_
               have HO231 := n4_
               replace BK186 := A3_ (ukb3_ BK186.out hb)
               replace BK187 := A3_ (ukb3_ BK187.out hb)
               replace BK199 := A3_ (ukb3_ BK199.out hb)
               replace BK203 := A3_ (ukb3_ BK203.out hb)
               replace BK211 := A3_ (ukb3_ BK211.out hb)
               have HB := n10_
               have BK233 := n11_
               have GW233 := n12_
               have GE233 := n13_
               have NB186_233 := n14_
               have NB233_186 := n15_
               have NB187_233 := n16_
               have NB233_187 := n17_
               have NB199_233 := n18_
               have NB233_199 := n19_
               have NB203_233 := n20_
               have NB233_203 := n21_
               have NB211_233 := n22_
               have NB233_211 := n23_
               clear n0_ n1_ n2_ n3_ n4_ n10_ n11_ n12_ n13_ n14_ n15_ n16_ n17_ n18_ n19_ n20_ n21_ n22_ n23_
               clear hb hbox hg
               refine hK.out _ _ ⟨(blk_cell BK186.out 0).trans rfl, (blk_cell BK187.out 0).trans rfl, (blk_cell BK187.out 1).trans rfl, (blk_cell BK187.out 2).trans rfl⟩ (fun hHeld => ?_)
               clear hK K
               refine norm_ (a' := ?_) ?_ ?_
               rotate_left
               ·show Act.put _ (some 14) _ = _
                simp only [Act.put, us3_, ut3_, uv3_, i64_w, i32_w]
                rfl
               exact norm_ (by simp only [putAll, Act.put, List.setIfInBounds_toArray, List.set_cons_zero, List.set_cons_succ]) (hCont (.slice Ao137 t223.length co137, v230, gb233) _ ⟨hHeld, (by (with_reducible repeat (first | apply ra3_ | apply rn3_ | apply rd3_)); exact Kd.R_mono HO225.out (fun _ hk => ⟨hk.2, ⟨hk.1.1.1.2, ⟨hk.1.1.2, hk.1.2⟩⟩⟩)), (by (with_reducible repeat (first | apply ra3_ | apply rn3_ | apply rd3_)); exact Kd.R_mono HO231.out (fun _ hk => ⟨hk.2, ⟨hk.1.1.1.2, ⟨hk.1.1.2, hk.1.2⟩⟩⟩)), (by (with_reducible repeat (first | apply ra3_ | apply rn3_ | apply rd3_)); exact Kd.R_mono HO_200000.out (fun _ hk => ⟨hk.1.2, ⟨hk.2, ⟨hk.1.1.1, hk.1.1.2⟩⟩⟩)), (by (with_reducible repeat (first | apply ra3_ | apply rn3_ | apply rd3_)); exact Kd.R_mono HO_204000.out (fun _ hk => ⟨hk.1.2, ⟨hk.2, ⟨hk.1.1.1, hk.1.1.2⟩⟩⟩)), (by (with_reducible repeat (first | apply ra3_ | apply rn3_ | apply rd3_)); exact Kd.R_mono HO_212000.out (fun _ hk => ⟨hk.1.2, ⟨hk.2, ⟨hk.1.1.1, hk.1.1.2⟩⟩⟩)), (by exact uk3_ BK186.out), (by exact uk3_ BK187.out), (by exact uk3_ BK199.out), (by exact uk3_ BK203.out), (by exact uk3_ BK211.out), (by exact uk3_ BK233.out), GW233.out, GE233.out, NB186_233.out, NB233_186.out, NB187_233.out, NB233_187.out, NB199_233.out, NB233_199.out, NB203_233.out, NB233_203.out, NB211_233.out, NB233_211.out, (by repeat (first | (with_reducible first | exact HB.out | apply ba3_ | apply bn3_ | apply bd3_ | refine ubs3_ ?_ (by assumption)) | exact HB.out))⟩)
              ·skip
               refine box_step ?hg (N := 14) ?hd (cs := #[.slice none 0 0]) (t := 30) ?hr ?_; (case hd => rfl); (case hg => rfl); (case hr => first | (go_simp; done) | (go_simp; rfl))
               intro gb233 hg w137 hbox hb
               have n0_ := A3_ (Kd.R_below (by exact ur3_ HO_200000.out) hb)
               have n1_ := A3_ (Kd.R_below (by exact ur3_ HO_204000.out) hb)
               have n2_ := A3_ (Kd.R_below (by exact ur3_ HO_212000.out) hb)
               have n3_ := A3_ (Kd.R_below (by exact ur3_ HO225.out) hb)
               have n9_ := A3_ (bt3_ (by repeat (first | (with_reducible first | exact HB.out | apply ba3_ | apply bn3_ | apply bd3_ | refine ubs3_ ?_ (by assumption)) | exact HB.out)) hb)
               have n10_ := A3_ (hbox)
               have n11_ := A3_ ((by rw [hg]; exact (below_size (by repeat (first | (with_reducible first | exact HB.out | apply ba3_ | apply bn3_ | apply bd3_ | refine ubs3_ ?_ (by assumption)) | exact HB.out))) : w.heap.size ≤ gb233))
               have n12_ := A3_ ((by rw [hg]; exact (below_size (by repeat (first | (with_reducible first | exact HB.out | apply ba3_ | apply bn3_ | apply bd3_ | refine ubs3_ ?_ (by assumption)) | exact HB.out))) : w.heap.size ≤ gb233))
               have n13_ := A3_ ((by rw [hg]; exact Nat.ne_of_lt (ukl3_ BK186.out) : gb186 ≠ gb233))
               have n14_ := A3_ ((by rw [hg]; exact Nat.ne_of_gt (ukl3_ BK186.out) : gb233 ≠ gb186))
               have n15_ := A3_ ((by rw [hg]; exact Nat.ne_of_lt (ukl3_ BK187.out) : gb187 ≠ gb233))
               have n16_ := A3_ ((by rw [hg]; exact Nat.ne_of_gt (ukl3_ BK187.out) : gb233 ≠ gb187))
               have n17_ := A3_ ((by rw [hg]; exact Nat.ne_of_lt (ukl3_ BK199.out) : gb199 ≠ gb233))
               have n18_ := A3_ ((by rw [hg]; exact Nat.ne_of_gt (ukl3_ BK199.out) : gb233 ≠ gb199))
               have n19_ := A3_ ((by rw [hg]; exact Nat.ne_of_lt (ukl3_ BK203.out) : gb203 ≠ gb233))
               have n20_ := A3_ ((by rw [hg]; exact Nat.ne_of_gt (ukl3_ BK203.out) : gb233 ≠ gb203))
               have n21_ := A3_ ((by rw [hg]; exact Nat.ne_of_lt (ukl3_ BK211.out) : gb211 ≠ gb233))
               have n22_ := A3_ ((by rw [hg]; exact Nat.ne_of_gt (ukl3_ BK211.out) : gb233 ≠ gb211))
               clear HO_200000
               clear HO_204000
               clear HO_212000
               clear HO225
               clear HB
               have HO_200000 := n0_
               have HO_204000 := n1_
               have HO_212000 := n2_
               have HO225 := n3_
               replace BK186 := A3_ (ukb3_ BK186.out hb)
               replace BK187 := A3_ (ukb3_ BK187.out hb)
               replace BK199 := A3_ (ukb3_ BK199.out hb)
               replace BK203 := A3_ (ukb3_ BK203.out hb)
               replace BK211 := A3_ (ukb3_ BK211.out hb)
               have HB := n9_
               have BK233 := n10_
               have GW233 := n11_
               have GE233 := n12_
               have NB186_233 := n13_
               have NB233_186 := n14_
               have NB187_233 := n15_
               have NB233_187 := n16_
               have NB199_233 := n17_
               have NB233_199 := n18_
               have NB203_233 := n19_
               have NB233_203 := n20_
               have NB211_233 := n21_
               have NB233_211 := n22_
               clear n0_ n1_ n2_ n3_ n9_ n10_ n11_ n12_ n13_ n14_ n15_ n16_ n17_ n18_ n19_ n20_ n21_ n22_
               clear hb hbox hg
               obtain ⟨Ao138, co138, eo138⟩ := Kd.R_slice HO225.out
               (first | subst eo138 | (injection eo138 with f1_ f2_ f3_; have f4_ := f1_.symm; have f5_ := f3_.symm; clear f1_ f2_ f3_; subst f4_; subst f5_))
               refine hK.out _ _ ⟨(blk_cell BK186.out 0).trans rfl, (blk_cell BK187.out 0).trans rfl, (blk_cell BK187.out 1).trans rfl, (blk_cell BK187.out 2).trans rfl⟩ (fun hHeld => ?_)
               clear hK K
               refine norm_ (a' := ?_) ?_ ?_
               rotate_left
               ·show Act.put _ (some 14) _ = _
                simp only [Act.put, us3_, ut3_, uv3_, i64_w, i32_w]
                rfl
               refine one_ (i := 4) (N := some 84) #[true, true, true, true, true, false, false, false, true, false, false] rfl rfl (one_of HT_.out (by kernel_rfl)) (by decide) (fun K hK => ?_)
               refine goes_ Try.func9 (by kernel_rfl) rfl #[.agg #[.slice Ao138 t223.length co138], .agg #[.int .i64 t226, .int .i64 t227, .int .i64 t228]] (by rfl) rfl rfl (by (try simp only [List.map_toArray, List.map_cons, List.map_nil]); first | done | rfl | (simp only [List.length_drop, List.length_take]; rfl)) ?_
               with_reducible refine (impl_AddClue.calls kj74 _ _ t223 t226 t227 t228 t229 t232 _ ?side1 ?side2 A124.out).mono ?_
               (case side1 => repeat (first | exact (Kd.R_reads' HO225.out).2.2 | (with_reducible refine Kd.C_alloc ?_ _) | (with_reducible refine Kd.C_drewN ?_ _) | (with_reducible refine Kd.C_drew ?_)))
               (case side2 => exact (Kd.R_reads' HO225.out).2.1)
               rintro e w139 ⟨v230, rfl, ho0, hb⟩
               refine ⟨_, rfl, ?_⟩
               have n0_ := A3_ (re3_ (by exact ur3_ HO_200000.out) (Kd.R_base ho0) hb)
               have n1_ := A3_ (re3_ (by exact ur3_ HO_204000.out) (Kd.R_base ho0) hb)
               have n2_ := A3_ (re3_ (by exact ur3_ HO_212000.out) (Kd.R_base ho0) hb)
               have n3_ := A3_ (re3_ (by exact ur3_ HO225.out) (Kd.R_base ho0) hb)
               have n4_ := A3_ (Kd.R_lower (Kd.R_new' (Kd.R_new' (Kd.R_new' (Kd.R_new' ho0 (Kd.R_lt (by exact ur3_ HO_200000.out))) (Kd.R_lt (by exact ur3_ HO_204000.out))) (Kd.R_lt (by exact ur3_ HO_212000.out))) (Kd.R_lt (by exact ur3_ HO225.out))) (below_size (by repeat (first | (with_reducible first | exact HB.out | apply ba3_ | apply bn3_ | apply bd3_ | refine ubs3_ ?_ (by assumption)) | exact HB.out))))
               have n11_ := A3_ (bt3_ (by repeat (first | (with_reducible first | exact HB.out | apply ba3_ | apply bn3_ | apply bd3_ | refine ubs3_ ?_ (by assumption)) | exact HB.out)) hb)
               clear HO_200000
               clear HO_204000
               clear HO_212000
               clear HO225
               clear HB
               have HO_200000 := n0_
               have HO_204000 := n1_
               have HO_212000 := n2_
               have HO225 := n3_
               have HO231 := n4_
               replace BK186 := A3_ (ukb3_ BK186.out hb)
               replace BK187 := A3_ (ukb3_ BK187.out hb)
               replace BK199 := A3_ (ukb3_ BK199.out hb)
               replace BK203 := A3_ (ukb3_ BK203.out hb)
               replace BK211 := A3_ (ukb3_ BK211.out hb)
               replace BK233 := A3_ (ukb3_ BK233.out hb)
               have HB := n11_
               clear n0_ n1_ n2_ n3_ n4_ n11_
               (try clear hb)
               (try clear hb2)
               (try clear hk)
               (try clear hi)
               (try clear ho0)
               refine hK.out _ _ ⟨(blk_cell BK186.out 0).trans rfl, (blk_cell BK187.out 0).trans rfl, (blk_cell BK187.out 1).trans rfl, (blk_cell BK187.out 2).trans rfl⟩ (fun hHeld => ?_)
               clear hK K
               refine norm_ (a' := ?_) ?_ ?_
               rotate_left
               ·show Act.put _ (some 84) _ = _
                simp only [Act.put, us3_, ut3_, uv3_, i64_w, i32_w]
                rfl
               refine pure_ (i := 5) (N := some 79) (v := ?_) (a' := ?_) #[true, true, true, true, true, true, false, false, true, false, false] rfl rfl (any_of HT_.out (by kernel_rfl)) (fun _ _ _ h => h) (Or.inl ⟨by rfl, ?_⟩) ?_ ?_
               rotate_left
               ·intro w'
                go_simp
                with_reducible rfl
               rotate_left
               ·simp only [Act.put, us3_, ut3_, uv3_, i64_w, i32_w]
                rfl
               refine pure_ (i := 6) (N := some 85) (v := ?_) (a' := ?_) #[true, true, true, true, true, true, true, false, true, false, false] rfl rfl (any_of HT_.out (by kernel_rfl)) (fun _ _ _ h => h) (Or.inl ⟨by rfl, ?_⟩) ?_ ?_
               rotate_left
               ·intro w'
                go_simp
                with_reducible rfl
               rotate_left
               ·simp only [Act.put, us3_, ut3_, uv3_, i64_w, i32_w]
                rfl
               refine pure_ (i := 7) (N := some 86) (v := ?_) (a' := ?_) #[true, true, true, true, true, true, true, true, true, false, false] rfl rfl (any_of HT_.out (by kernel_rfl)) (fun _ _ _ h => h) (Or.inl ⟨by rfl, ?_⟩) ?_ ?_
               rotate_left
               ·intro w'
                go_simp
                with_reducible rfl
               rotate_left
               ·simp only [Act.put, us3_, ut3_, uv3_, i64_w, i32_w]
                rfl
               exact norm_ (by simp only [putAll, Act.put, List.setIfInBounds_toArray, List.set_cons_zero, List.set_cons_succ]) (hCont (.slice Ao138 t223.length co138, v230, gb233) _ ⟨hHeld, (by (with_reducible repeat (first | apply ra3_ | apply rn3_ | apply rd3_)); exact Kd.R_mono HO225.out (fun _ hk => ⟨hk.2, ⟨hk.1.1.1.2, ⟨hk.1.1.2, hk.1.2⟩⟩⟩)), (by (with_reducible repeat (first | apply ra3_ | apply rn3_ | apply rd3_)); exact Kd.R_mono HO231.out (fun _ hk => ⟨hk.2, ⟨hk.1.1.1.2, ⟨hk.1.1.2, hk.1.2⟩⟩⟩)), (by (with_reducible repeat (first | apply ra3_ | apply rn3_ | apply rd3_)); exact Kd.R_mono HO_200000.out (fun _ hk => ⟨hk.1.2, ⟨hk.2, ⟨hk.1.1.1, hk.1.1.2⟩⟩⟩)), (by (with_reducible repeat (first | apply ra3_ | apply rn3_ | apply rd3_)); exact Kd.R_mono HO_204000.out (fun _ hk => ⟨hk.1.2, ⟨hk.2, ⟨hk.1.1.1, hk.1.1.2⟩⟩⟩)), (by (with_reducible repeat (first | apply ra3_ | apply rn3_ | apply rd3_)); exact Kd.R_mono HO_212000.out (fun _ hk => ⟨hk.1.2, ⟨hk.2, ⟨hk.1.1.1, hk.1.1.2⟩⟩⟩)), (by exact uk3_ BK186.out), (by exact uk3_ BK187.out), (by exact uk3_ BK199.out), (by exact uk3_ BK203.out), (by exact uk3_ BK211.out), (by exact uk3_ BK233.out), GW233.out, GE233.out, NB186_233.out, NB233_186.out, NB187_233.out, NB233_187.out, NB199_233.out, NB233_199.out, NB203_233.out, NB233_203.out, NB211_233.out, NB233_211.out, (by repeat (first | (with_reducible first | exact HB.out | apply ba3_ | apply bn3_ | apply bd3_ | refine ubs3_ ?_ (by assumption)) | exact HB.out))⟩)
             ·skip
              refine box_step ?hg (N := 14) ?hd (cs := #[.slice none 0 0]) (t := 30) ?hr ?_; (case hd => rfl); (case hg => rfl); (case hr => first | (go_simp; done) | (go_simp; rfl))
              intro gb233 hg w136 hbox hb
              have n0_ := A3_ (Kd.R_below (by exact ur3_ HO_200000.out) hb)
              have n1_ := A3_ (Kd.R_below (by exact ur3_ HO_204000.out) hb)
              have n2_ := A3_ (Kd.R_below (by exact ur3_ HO_212000.out) hb)
              have n3_ := A3_ (Kd.R_below (by exact ur3_ HO225.out) hb)
              have n9_ := A3_ (bt3_ (by repeat (first | (with_reducible first | exact HB.out | apply ba3_ | apply bn3_ | apply bd3_ | refine ubs3_ ?_ (by assumption)) | exact HB.out)) hb)
              have n10_ := A3_ (hbox)
              have n11_ := A3_ ((by rw [hg]; exact (below_size (by repeat (first | (with_reducible first | exact HB.out | apply ba3_ | apply bn3_ | apply bd3_ | refine ubs3_ ?_ (by assumption)) | exact HB.out))) : w.heap.size ≤ gb233))
              have n12_ := A3_ ((by rw [hg]; exact (below_size (by repeat (first | (with_reducible first | exact HB.out | apply ba3_ | apply bn3_ | apply bd3_ | refine ubs3_ ?_ (by assumption)) | exact HB.out))) : w.heap.size ≤ gb233))
              have n13_ := A3_ ((by rw [hg]; exact Nat.ne_of_lt (ukl3_ BK186.out) : gb186 ≠ gb233))
              have n14_ := A3_ ((by rw [hg]; exact Nat.ne_of_gt (ukl3_ BK186.out) : gb233 ≠ gb186))
              have n15_ := A3_ ((by rw [hg]; exact Nat.ne_of_lt (ukl3_ BK187.out) : gb187 ≠ gb233))
              have n16_ := A3_ ((by rw [hg]; exact Nat.ne_of_gt (ukl3_ BK187.out) : gb233 ≠ gb187))
              have n17_ := A3_ ((by rw [hg]; exact Nat.ne_of_lt (ukl3_ BK199.out) : gb199 ≠ gb233))
              have n18_ := A3_ ((by rw [hg]; exact Nat.ne_of_gt (ukl3_ BK199.out) : gb233 ≠ gb199))
              have n19_ := A3_ ((by rw [hg]; exact Nat.ne_of_lt (ukl3_ BK203.out) : gb203 ≠ gb233))
              have n20_ := A3_ ((by rw [hg]; exact Nat.ne_of_gt (ukl3_ BK203.out) : gb233 ≠ gb203))
              have n21_ := A3_ ((by rw [hg]; exact Nat.ne_of_lt (ukl3_ BK211.out) : gb211 ≠ gb233))
              have n22_ := A3_ ((by rw [hg]; exact Nat.ne_of_gt (ukl3_ BK211.out) : gb233 ≠ gb211))
              clear HO_200000
              clear HO_204000
              clear HO_212000
              clear HO225
              clear HB
              have HO_200000 := n0_
              have HO_204000 := n1_
              have HO_212000 := n2_
              have HO225 := n3_
              replace BK186 := A3_ (ukb3_ BK186.out hb)
              replace BK187 := A3_ (ukb3_ BK187.out hb)
              replace BK199 := A3_ (ukb3_ BK199.out hb)
              replace BK203 := A3_ (ukb3_ BK203.out hb)
              replace BK211 := A3_ (ukb3_ BK211.out hb)
              have HB := n9_
              have BK233 := n10_
              have GW233 := n11_
              have GE233 := n12_
              have NB186_233 := n13_
              have NB233_186 := n14_
              have NB187_233 := n15_
              have NB233_187 := n16_
              have NB199_233 := n17_
              have NB233_199 := n18_
              have NB203_233 := n19_
              have NB233_203 := n20_
              have NB211_233 := n21_
              have NB233_211 := n22_
              clear n0_ n1_ n2_ n3_ n9_ n10_ n11_ n12_ n13_ n14_ n15_ n16_ n17_ n18_ n19_ n20_ n21_ n22_
              clear hb hbox hg
              refine hK.out _ _ ⟨(blk_cell BK186.out 0).trans rfl, (blk_cell BK187.out 0).trans rfl, (blk_cell BK187.out 1).trans rfl, (blk_cell BK187.out 2).trans rfl⟩ (fun hHeld => ?_)
              clear hK K
              refine norm_ (a' := ?_) ?_ ?_
              rotate_left
              ·show Act.put _ (some 14) _ = _
               simp only [Act.put, us3_, ut3_, uv3_, i64_w, i32_w]
               rfl
              refine one_ (i := 3) (N := some 83) #[true, true, true, true, false, false, false, false, true, false, false] rfl rfl (one_of HT_.out (by kernel_rfl)) (by decide) (fun K hK => ?_)
              refine goes_ Try.func8 (by kernel_rfl) rfl #[.agg #[.int .i64 a1_0, .int .i64 a1_1, .int .i64 a1_2]] (by rfl) rfl rfl (by (try simp only [List.map_toArray, List.map_cons, List.map_nil]); first | done | rfl | (simp only [List.length_drop, List.length_take]; rfl)) ?_
              with_reducible refine (laws_toClue.calls a1_0 a1_1 a1_2 t226 t227 t228 _ A123.out).mono ?_
              rintro e w137 ⟨rfl, hb⟩
              refine ⟨_, rfl, ?_⟩
              have n0_ := A3_ (Kd.R_below (by exact ur3_ HO_200000.out) hb)
              have n1_ := A3_ (Kd.R_below (by exact ur3_ HO_204000.out) hb)
              have n2_ := A3_ (Kd.R_below (by exact ur3_ HO_212000.out) hb)
              have n3_ := A3_ (Kd.R_below (by exact ur3_ HO225.out) hb)
              have n10_ := A3_ (bt3_ (by repeat (first | (with_reducible first | exact HB.out | apply ba3_ | apply bn3_ | apply bd3_ | refine ubs3_ ?_ (by assumption)) | exact HB.out)) hb)
              clear HO_200000
              clear HO_204000
              clear HO_212000
              clear HO225
              clear HB
              have HO_200000 := n0_
              have HO_204000 := n1_
              have HO_212000 := n2_
              have HO225 := n3_
              replace BK186 := A3_ (ukb3_ BK186.out hb)
              replace BK187 := A3_ (ukb3_ BK187.out hb)
              replace BK199 := A3_ (ukb3_ BK199.out hb)
              replace BK203 := A3_ (ukb3_ BK203.out hb)
              replace BK211 := A3_ (ukb3_ BK211.out hb)
              replace BK233 := A3_ (ukb3_ BK233.out hb)
              have HB := n10_
              clear n0_ n1_ n2_ n3_ n10_
              (try clear hb)
              (try clear hb2)
              (try clear hk)
              (try clear hi)
              obtain ⟨Ao138, co138, eo138⟩ := Kd.R_slice HO225.out
              (first | subst eo138 | (injection eo138 with f1_ f2_ f3_; have f4_ := f1_.symm; have f5_ := f3_.symm; clear f1_ f2_ f3_; subst f4_; subst f5_))
              refine hK.out _ _ ⟨(blk_cell BK186.out 0).trans rfl, (blk_cell BK187.out 0).trans rfl, (blk_cell BK187.out 1).trans rfl, (blk_cell BK187.out 2).trans rfl⟩ (fun hHeld => ?_)
              clear hK K
              refine norm_ (a' := ?_) ?_ ?_
              rotate_left
              ·show Act.put _ (some 83) _ = _
               simp only [Act.put, us3_, ut3_, uv3_, i64_w, i32_w]
               rfl
              refine one_ (i := 4) (N := some 84) #[true, true, true, true, true, false, false, false, true, false, false] rfl rfl (one_of HT_.out (by kernel_rfl)) (by decide) (fun K hK => ?_)
              refine goes_ Try.func9 (by kernel_rfl) rfl #[.agg #[.slice Ao138 t223.length co138], .agg #[.int .i64 t226, .int .i64 t227, .int .i64 t228]] (by rfl) rfl rfl (by (try simp only [List.map_toArray, List.map_cons, List.map_nil]); first | done | rfl | (simp only [List.length_drop, List.length_take]; rfl)) ?_
              with_reducible refine (impl_AddClue.calls kj74 _ _ t223 t226 t227 t228 t229 t232 _ ?side1 ?side2 A124.out).mono ?_
              (case side1 => repeat (first | exact (Kd.R_reads' HO225.out).2.2 | (with_reducible refine Kd.C_alloc ?_ _) | (with_reducible refine Kd.C_drewN ?_ _) | (with_reducible refine Kd.C_drew ?_)))
              (case side2 => exact (Kd.R_reads' HO225.out).2.1)
              rintro e w139 ⟨v230, rfl, ho0, hb⟩
              refine ⟨_, rfl, ?_⟩
              have n0_ := A3_ (re3_ (by exact ur3_ HO_200000.out) (Kd.R_base ho0) hb)
              have n1_ := A3_ (re3_ (by exact ur3_ HO_204000.out) (Kd.R_base ho0) hb)
              have n2_ := A3_ (re3_ (by exact ur3_ HO_212000.out) (Kd.R_base ho0) hb)
              have n3_ := A3_ (re3_ (by exact ur3_ HO225.out) (Kd.R_base ho0) hb)
              have n4_ := A3_ (Kd.R_lower (Kd.R_new' (Kd.R_new' (Kd.R_new' (Kd.R_new' ho0 (Kd.R_lt (by exact ur3_ HO_200000.out))) (Kd.R_lt (by exact ur3_ HO_204000.out))) (Kd.R_lt (by exact ur3_ HO_212000.out))) (Kd.R_lt (by exact ur3_ HO225.out))) (below_size (by repeat (first | (with_reducible first | exact HB.out | apply ba3_ | apply bn3_ | apply bd3_ | refine ubs3_ ?_ (by assumption)) | exact HB.out))))
              have n11_ := A3_ (bt3_ (by repeat (first | (with_reducible first | exact HB.out | apply ba3_ | apply bn3_ | apply bd3_ | refine ubs3_ ?_ (by assumption)) | exact HB.out)) hb)
              clear HO_200000
              clear HO_204000
              clear HO_212000
              clear HO225
              clear HB
              have HO_200000 := n0_
              have HO_204000 := n1_
              have HO_212000 := n2_
              have HO225 := n3_
              have HO231 := n4_
              replace BK186 := A3_ (ukb3_ BK186.out hb)
              replace BK187 := A3_ (ukb3_ BK187.out hb)
              replace BK199 := A3_ (ukb3_ BK199.out hb)
              replace BK203 := A3_ (ukb3_ BK203.out hb)
              replace BK211 := A3_ (ukb3_ BK211.out hb)
              replace BK233 := A3_ (ukb3_ BK233.out hb)
              have HB := n11_
              clear n0_ n1_ n2_ n3_ n4_ n11_
              (try clear hb)
              (try clear hb2)
              (try clear hk)
              (try clear hi)
              (try clear ho0)
              refine hK.out _ _ ⟨(blk_cell BK186.out 0).trans rfl, (blk_cell BK187.out 0).trans rfl, (blk_cell BK187.out 1).trans rfl, (blk_cell BK187.out 2).trans rfl⟩ (fun hHeld => ?_)
              clear hK K
              refine norm_ (a' := ?_) ?_ ?_
              rotate_left
              ·show Act.put _ (some 84) _ = _
               simp only [Act.put, us3_, ut3_, uv3_, i64_w, i32_w]
               rfl
              refine pure_ (i := 5) (N := some 79) (v := ?_) (a' := ?_) #[true, true, true, true, true, true, false, false, true, false, false] rfl rfl (any_of HT_.out (by kernel_rfl)) (fun _ _ _ h => h) (Or.inl ⟨by rfl, ?_⟩) ?_ ?_
              rotate_left
              ·intro w'
               go_simp
               with_reducible rfl
              rotate_left
              ·simp only [Act.put, us3_, ut3_, uv3_, i64_w, i32_w]
               rfl
              refine pure_ (i := 6) (N := some 85) (v := ?_) (a' := ?_) #[true, true, true, true, true, true, true, false, true, false, false] rfl rfl (any_of HT_.out (by kernel_rfl)) (fun _ _ _ h => h) (Or.inl ⟨by rfl, ?_⟩) ?_ ?_
              rotate_left
              ·intro w'
               go_simp
               with_reducible rfl
              rotate_left
              ·simp only [Act.put, us3_, ut3_, uv3_, i64_w, i32_w]
               rfl
              refine pure_ (i := 7) (N := some 86) (v := ?_) (a' := ?_) #[true, true, true, true, true, true, true, true, true, false, false] rfl rfl (any_of HT_.out (by kernel_rfl)) (fun _ _ _ h => h) (Or.inl ⟨by rfl, ?_⟩) ?_ ?_
              rotate_left
              ·intro w'
               go_simp
               with_reducible rfl
              rotate_left
              ·simp only [Act.put, us3_, ut3_, uv3_, i64_w, i32_w]
               rfl
              exact norm_ (by simp only [putAll, Act.put, List.setIfInBounds_toArray, List.set_cons_zero, List.set_cons_succ]) (hCont (.slice Ao138 t223.length co138, v230, gb233) _ ⟨hHeld, (by (with_reducible repeat (first | apply ra3_ | apply rn3_ | apply rd3_)); exact Kd.R_mono HO225.out (fun _ hk => ⟨hk.2, ⟨hk.1.1.1.2, ⟨hk.1.1.2, hk.1.2⟩⟩⟩)), (by (with_reducible repeat (first | apply ra3_ | apply rn3_ | apply rd3_)); exact Kd.R_mono HO231.out (fun _ hk => ⟨hk.2, ⟨hk.1.1.1.2, ⟨hk.1.1.2, hk.1.2⟩⟩⟩)), (by (with_reducible repeat (first | apply ra3_ | apply rn3_ | apply rd3_)); exact Kd.R_mono HO_200000.out (fun _ hk => ⟨hk.1.2, ⟨hk.2, ⟨hk.1.1.1, hk.1.1.2⟩⟩⟩)), (by (with_reducible repeat (first | apply ra3_ | apply rn3_ | apply rd3_)); exact Kd.R_mono HO_204000.out (fun _ hk => ⟨hk.1.2, ⟨hk.2, ⟨hk.1.1.1, hk.1.1.2⟩⟩⟩)), (by (with_reducible repeat (first | apply ra3_ | apply rn3_ | apply rd3_)); exact Kd.R_mono HO_212000.out (fun _ hk => ⟨hk.1.2, ⟨hk.2, ⟨hk.1.1.1, hk.1.1.2⟩⟩⟩)), (by exact uk3_ BK186.out), (by exact uk3_ BK187.out), (by exact uk3_ BK199.out), (by exact uk3_ BK203.out), (by exact uk3_ BK211.out), (by exact uk3_ BK233.out), GW233.out, GE233.out, NB186_233.out, NB233_186.out, NB187_233.out, NB233_187.out, NB199_233.out, NB233_199.out, NB203_233.out, NB233_203.out, NB211_233.out, NB233_211.out, (by repeat (first | (with_reducible first | exact HB.out | apply ba3_ | apply bn3_ | apply bd3_ | refine ubs3_ ?_ (by assumption)) | exact HB.out))⟩)
            ·skip
             refine box_step ?hg (N := 14) ?hd (cs := #[.slice none 0 0]) (t := 30) ?hr ?_; (case hd => rfl); (case hg => rfl); (case hr => first | (go_simp; done) | (go_simp; rfl))
             intro gb233 hg w135 hbox hb
             have n0_ := A3_ (Kd.R_below (by exact ur3_ HO_200000.out) hb)
             have n1_ := A3_ (Kd.R_below (by exact ur3_ HO_204000.out) hb)
             have n2_ := A3_ (Kd.R_below (by exact ur3_ HO_212000.out) hb)
             have n8_ := A3_ (bt3_ (by repeat (first | (with_reducible first | exact HB.out | apply ba3_ | apply bn3_ | apply bd3_ | refine ubs3_ ?_ (by assumption)) | exact HB.out)) hb)
             have n9_ := A3_ (hbox)
             have n10_ := A3_ ((by rw [hg]; exact (below_size (by repeat (first | (with_reducible first | exact HB.out | apply ba3_ | apply bn3_ | apply bd3_ | refine ubs3_ ?_ (by assumption)) | exact HB.out))) : w.heap.size ≤ gb233))
             have n11_ := A3_ ((by rw [hg]; exact (below_size (by repeat (first | (with_reducible first | exact HB.out | apply ba3_ | apply bn3_ | apply bd3_ | refine ubs3_ ?_ (by assumption)) | exact HB.out))) : w.heap.size ≤ gb233))
             have n12_ := A3_ ((by rw [hg]; exact Nat.ne_of_lt (ukl3_ BK186.out) : gb186 ≠ gb233))
             have n13_ := A3_ ((by rw [hg]; exact Nat.ne_of_gt (ukl3_ BK186.out) : gb233 ≠ gb186))
             have n14_ := A3_ ((by rw [hg]; exact Nat.ne_of_lt (ukl3_ BK187.out) : gb187 ≠ gb233))
             have n15_ := A3_ ((by rw [hg]; exact Nat.ne_of_gt (ukl3_ BK187.out) : gb233 ≠ gb187))
             have n16_ := A3_ ((by rw [hg]; exact Nat.ne_of_lt (ukl3_ BK199.out) : gb199 ≠ gb233))
             have n17_ := A3_ ((by rw [hg]; exact Nat.ne_of_gt (ukl3_ BK199.out) : gb233 ≠ gb199))
             have n18_ := A3_ ((by rw [hg]; exact Nat.ne_of_lt (ukl3_ BK203.out) : gb203 ≠ gb233))
             have n19_ := A3_ ((by rw [hg]; exact Nat.ne_of_gt (ukl3_ BK203.out) : gb233 ≠ gb203))
             have n20_ := A3_ ((by rw [hg]; exact Nat.ne_of_lt (ukl3_ BK211.out) : gb211 ≠ gb233))
             have n21_ := A3_ ((by rw [hg]; exact Nat.ne_of_gt (ukl3_ BK211.out) : gb233 ≠ gb211))
             clear HO_200000
             clear HO_204000
             clear HO_212000
             clear HB
             have HO_200000 := n0_
             have HO_204000 := n1_
             have HO_212000 := n2_
             replace BK186 := A3_ (ukb3_ BK186.out hb)
             replace BK187 := A3_ (ukb3_ BK187.out hb)
             replace BK199 := A3_ (ukb3_ BK199.out hb)
             replace BK203 := A3_ (ukb3_ BK203.out hb)
             replace BK211 := A3_ (ukb3_ BK211.out hb)
             have HB := n8_
             have BK233 := n9_
             have GW233 := n10_
             have GE233 := n11_
             have NB186_233 := n12_
             have NB233_186 := n13_
             have NB187_233 := n14_
             have NB233_187 := n15_
             have NB199_233 := n16_
             have NB233_199 := n17_
             have NB203_233 := n18_
             have NB233_203 := n19_
             have NB211_233 := n20_
             have NB233_211 := n21_
             clear n0_ n1_ n2_ n8_ n9_ n10_ n11_ n12_ n13_ n14_ n15_ n16_ n17_ n18_ n19_ n20_ n21_
             clear hb hbox hg
             refine hK.out _ _ ⟨(blk_cell BK186.out 0).trans rfl, (blk_cell BK187.out 0).trans rfl, (blk_cell BK187.out 1).trans rfl, (blk_cell BK187.out 2).trans rfl⟩ (fun hHeld => ?_)
             clear hK K
             refine norm_ (a' := ?_) ?_ ?_
             rotate_left
             ·show Act.put _ (some 14) _ = _
              simp only [Act.put, us3_, ut3_, uv3_, i64_w, i32_w]
              rfl
             refine one_ (i := 1) (N := some 81) #[true, true, true, false, false, false, false, false, true, false, false] rfl rfl (one_of HT_.out (by kernel_rfl)) (by decide) (fun K hK => ?_)
             refine goes_ Try.func7 (by kernel_rfl) rfl #[.agg #[.slice A0_0 l0_0.length c0_0]] (by rfl) rfl rfl (by (try simp only [List.map_toArray, List.map_cons, List.map_nil]); first | done | rfl | (simp only [List.length_drop, List.length_take]; rfl)) ?_
             with_reducible refine (laws_toPuzzle.calls kj74 _ _ l0_0 t223 _ ?side1 ?side2 A122.out).mono ?_
             (case side1 => repeat (first | exact (Kd.C_below HR0_0.out HB.out) | (with_reducible refine Kd.C_alloc ?_ _) | (with_reducible refine Kd.C_drewN ?_ _) | (with_reducible refine Kd.C_drew ?_)))
             (case side2 => exact HC0_0.out)
             rintro e w136 ⟨v224, rfl, ho0, hb⟩
             refine ⟨_, rfl, ?_⟩
             have n0_ := A3_ (re3_ (by exact ur3_ HO_200000.out) (Kd.R_base ho0) hb)
             have n1_ := A3_ (re3_ (by exact ur3_ HO_204000.out) (Kd.R_base ho0) hb)
             have n2_ := A3_ (re3_ (by exact ur3_ HO_212000.out) (Kd.R_base ho0) hb)
             have n3_ := A3_ (Kd.R_lower (Kd.R_new' (Kd.R_new' (Kd.R_new' ho0 (Kd.R_lt (by exact ur3_ HO_200000.out))) (Kd.R_lt (by exact ur3_ HO_204000.out))) (Kd.R_lt (by exact ur3_ HO_212000.out))) (below_size (by repeat (first | (with_reducible first | exact HB.out | apply ba3_ | apply bn3_ | apply bd3_ | refine ubs3_ ?_ (by assumption)) | exact HB.out))))
             have n10_ := A3_ (bt3_ (by repeat (first | (with_reducible first | exact HB.out | apply ba3_ | apply bn3_ | apply bd3_ | refine ubs3_ ?_ (by assumption)) | exact HB.out)) hb)
             clear HO_200000
             clear HO_204000
             clear HO_212000
             clear HB
             have HO_200000 := n0_
             have HO_204000 := n1_
             have HO_212000 := n2_
             have HO225 := n3_
             replace BK186 := A3_ (ukb3_ BK186.out hb)
             replace BK187 := A3_ (ukb3_ BK187.out hb)
             replace BK199 := A3_ (ukb3_ BK199.out hb)
             replace BK203 := A3_ (ukb3_ BK203.out hb)
             replace BK211 := A3_ (ukb3_ BK211.out hb)
             replace BK233 := A3_ (ukb3_ BK233.out hb)
             have HB := n10_
             clear n0_ n1_ n2_ n3_ n10_
             (try clear hb)
             (try clear hb2)
             (try clear hk)
             (try clear hi)
             (try clear ho0)
             refine hK.out _ _ ⟨(blk_cell BK186.out 0).trans rfl, (blk_cell BK187.out 0).trans rfl, (blk_cell BK187.out 1).trans rfl, (blk_cell BK187.out 2).trans rfl⟩ (fun hHeld => ?_)
             clear hK K
             refine norm_ (a' := ?_) ?_ ?_
             rotate_left
             ·show Act.put _ (some 81) _ = _
              simp only [Act.put, us3_, ut3_, uv3_, i64_w, i32_w]
              rfl
             refine one_ (i := 3) (N := some 83) #[true, true, true, true, false, false, false, false, true, false, false] rfl rfl (one_of HT_.out (by kernel_rfl)) (by decide) (fun K hK => ?_)
             refine goes_ Try.func8 (by kernel_rfl) rfl #[.agg #[.int .i64 a1_0, .int .i64 a1_1, .int .i64 a1_2]] (by rfl) rfl rfl (by (try simp only [List.map_toArray, List.map_cons, List.map_nil]); first | done | rfl | (simp only [List.length_drop, List.length_take]; rfl)) ?_
             with_reducible refine (laws_toClue.calls a1_0 a1_1 a1_2 t226 t227 t228 _ A123.out).mono ?_
             rintro e w137 ⟨rfl, hb⟩
             refine ⟨_, rfl, ?_⟩
             have n0_ := A3_ (Kd.R_below (by exact ur3_ HO_200000.out) hb)
             have n1_ := A3_ (Kd.R_below (by exact ur3_ HO_204000.out) hb)
             have n2_ := A3_ (Kd.R_below (by exact ur3_ HO_212000.out) hb)
             have n3_ := A3_ (Kd.R_below (by exact ur3_ HO225.out) hb)
             have n10_ := A3_ (bt3_ (by repeat (first | (with_reducible first | exact HB.out | apply ba3_ | apply bn3_ | apply bd3_ | refine ubs3_ ?_ (by assumption)) | exact HB.out)) hb)
             clear HO_200000
             clear HO_204000
             clear HO_212000
             clear HO225
             clear HB
             have HO_200000 := n0_
             have HO_204000 := n1_
             have HO_212000 := n2_
             have HO225 := n3_
             replace BK186 := A3_ (ukb3_ BK186.out hb)
             replace BK187 := A3_ (ukb3_ BK187.out hb)
             replace BK199 := A3_ (ukb3_ BK199.out hb)
             replace BK203 := A3_ (ukb3_ BK203.out hb)
             replace BK211 := A3_ (ukb3_ BK211.out hb)
             replace BK233 := A3_ (ukb3_ BK233.out hb)
             have HB := n10_
             clear n0_ n1_ n2_ n3_ n10_
             (try clear hb)
             (try clear hb2)
             (try clear hk)
             (try clear hi)
             obtain ⟨Ao138, co138, eo138⟩ := Kd.R_slice HO225.out
             (first | subst eo138 | (injection eo138 with f1_ f2_ f3_; have f4_ := f1_.symm; have f5_ := f3_.symm; clear f1_ f2_ f3_; subst f4_; subst f5_))
             refine hK.out _ _ ⟨(blk_cell BK186.out 0).trans rfl, (blk_cell BK187.out 0).trans rfl, (blk_cell BK187.out 1).trans rfl, (blk_cell BK187.out 2).trans rfl⟩ (fun hHeld => ?_)
             clear hK K
             refine norm_ (a' := ?_) ?_ ?_
             rotate_left
             ·show Act.put _ (some 83) _ = _
              simp only [Act.put, us3_, ut3_, uv3_, i64_w, i32_w]
              rfl
             refine one_ (i := 4) (N := some 84) #[true, true, true, true, true, false, false, false, true, false, false] rfl rfl (one_of HT_.out (by kernel_rfl)) (by decide) (fun K hK => ?_)
             refine goes_ Try.func9 (by kernel_rfl) rfl #[.agg #[.slice Ao138 t223.length co138], .agg #[.int .i64 t226, .int .i64 t227, .int .i64 t228]] (by rfl) rfl rfl (by (try simp only [List.map_toArray, List.map_cons, List.map_nil]); first | done | rfl | (simp only [List.length_drop, List.length_take]; rfl)) ?_
             with_reducible refine (impl_AddClue.calls kj74 _ _ t223 t226 t227 t228 t229 t232 _ ?side1 ?side2 A124.out).mono ?_
             (case side1 => repeat (first | exact (Kd.R_reads' HO225.out).2.2 | (with_reducible refine Kd.C_alloc ?_ _) | (with_reducible refine Kd.C_drewN ?_ _) | (with_reducible refine Kd.C_drew ?_)))
             (case side2 => exact (Kd.R_reads' HO225.out).2.1)
             rintro e w139 ⟨v230, rfl, ho0, hb⟩
             refine ⟨_, rfl, ?_⟩
             have n0_ := A3_ (re3_ (by exact ur3_ HO_200000.out) (Kd.R_base ho0) hb)
             have n1_ := A3_ (re3_ (by exact ur3_ HO_204000.out) (Kd.R_base ho0) hb)
             have n2_ := A3_ (re3_ (by exact ur3_ HO_212000.out) (Kd.R_base ho0) hb)
             have n3_ := A3_ (re3_ (by exact ur3_ HO225.out) (Kd.R_base ho0) hb)
             have n4_ := A3_ (Kd.R_lower (Kd.R_new' (Kd.R_new' (Kd.R_new' (Kd.R_new' ho0 (Kd.R_lt (by exact ur3_ HO_200000.out))) (Kd.R_lt (by exact ur3_ HO_204000.out))) (Kd.R_lt (by exact ur3_ HO_212000.out))) (Kd.R_lt (by exact ur3_ HO225.out))) (below_size (by repeat (first | (with_reducible first | exact HB.out | apply ba3_ | apply bn3_ | apply bd3_ | refine ubs3_ ?_ (by assumption)) | exact HB.out))))
             have n11_ := A3_ (bt3_ (by repeat (first | (with_reducible first | exact HB.out | apply ba3_ | apply bn3_ | apply bd3_ | refine ubs3_ ?_ (by assumption)) | exact HB.out)) hb)
             clear HO_200000
             clear HO_204000
             clear HO_212000
             clear HO225
             clear HB
             have HO_200000 := n0_
             have HO_204000 := n1_
             have HO_212000 := n2_
             have HO225 := n3_
             have HO231 := n4_
             replace BK186 := A3_ (ukb3_ BK186.out hb)
             replace BK187 := A3_ (ukb3_ BK187.out hb)
             replace BK199 := A3_ (ukb3_ BK199.out hb)
             replace BK203 := A3_ (ukb3_ BK203.out hb)
             replace BK211 := A3_ (ukb3_ BK211.out hb)
             replace BK233 := A3_ (ukb3_ BK233.out hb)
             have HB := n11_
             clear n0_ n1_ n2_ n3_ n4_ n11_
             (try clear hb)
             (try clear hb2)
             (try clear hk)
             (try clear hi)
             (try clear ho0)
             refine hK.out _ _ ⟨(blk_cell BK186.out 0).trans rfl, (blk_cell BK187.out 0).trans rfl, (blk_cell BK187.out 1).trans rfl, (blk_cell BK187.out 2).trans rfl⟩ (fun hHeld => ?_)
             clear hK K
             refine norm_ (a' := ?_) ?_ ?_
             rotate_left
             ·show Act.put _ (some 84) _ = _
              simp only [Act.put, us3_, ut3_, uv3_, i64_w, i32_w]
              rfl
             refine pure_ (i := 5) (N := some 79) (v := ?_) (a' := ?_) #[true, true, true, true, true, true, false, false, true, false, false] rfl rfl (any_of HT_.out (by kernel_rfl)) (fun _ _ _ h => h) (Or.inl ⟨by rfl, ?_⟩) ?_ ?_
             rotate_left
             ·intro w'
              go_simp
              with_reducible rfl
             rotate_left
             ·simp only [Act.put, us3_, ut3_, uv3_, i64_w, i32_w]
              rfl
             refine pure_ (i := 6) (N := some 85) (v := ?_) (a' := ?_) #[true, true, true, true, true, true, true, false, true, false, false] rfl rfl (any_of HT_.out (by kernel_rfl)) (fun _ _ _ h => h) (Or.inl ⟨by rfl, ?_⟩) ?_ ?_
             rotate_left
             ·intro w'
              go_simp
              with_reducible rfl
             rotate_left
             ·simp only [Act.put, us3_, ut3_, uv3_, i64_w, i32_w]
              rfl
             refine pure_ (i := 7) (N := some 86) (v := ?_) (a' := ?_) #[true, true, true, true, true, true, true, true, true, false, false] rfl rfl (any_of HT_.out (by kernel_rfl)) (fun _ _ _ h => h) (Or.inl ⟨by rfl, ?_⟩) ?_ ?_
             rotate_left
             ·intro w'
              go_simp
              with_reducible rfl
             rotate_left
             ·simp only [Act.put, us3_, ut3_, uv3_, i64_w, i32_w]
              rfl
             exact norm_ (by simp only [putAll, Act.put, List.setIfInBounds_toArray, List.set_cons_zero, List.set_cons_succ]) (hCont (.slice Ao138 t223.length co138, v230, gb233) _ ⟨hHeld, (by (with_reducible repeat (first | apply ra3_ | apply rn3_ | apply rd3_)); exact Kd.R_mono HO225.out (fun _ hk => ⟨hk.2, ⟨hk.1.1.1.2, ⟨hk.1.1.2, hk.1.2⟩⟩⟩)), (by (with_reducible repeat (first | apply ra3_ | apply rn3_ | apply rd3_)); exact Kd.R_mono HO231.out (fun _ hk => ⟨hk.2, ⟨hk.1.1.1.2, ⟨hk.1.1.2, hk.1.2⟩⟩⟩)), (by (with_reducible repeat (first | apply ra3_ | apply rn3_ | apply rd3_)); exact Kd.R_mono HO_200000.out (fun _ hk => ⟨hk.1.2, ⟨hk.2, ⟨hk.1.1.1, hk.1.1.2⟩⟩⟩)), (by (with_reducible repeat (first | apply ra3_ | apply rn3_ | apply rd3_)); exact Kd.R_mono HO_204000.out (fun _ hk => ⟨hk.1.2, ⟨hk.2, ⟨hk.1.1.1, hk.1.1.2⟩⟩⟩)), (by (with_reducible repeat (first | apply ra3_ | apply rn3_ | apply rd3_)); exact Kd.R_mono HO_212000.out (fun _ hk => ⟨hk.1.2, ⟨hk.2, ⟨hk.1.1.1, hk.1.1.2⟩⟩⟩)), (by exact uk3_ BK186.out), (by exact uk3_ BK187.out), (by exact uk3_ BK199.out), (by exact uk3_ BK203.out), (by exact uk3_ BK211.out), (by exact uk3_ BK233.out), GW233.out, GE233.out, NB186_233.out, NB233_186.out, NB187_233.out, NB233_187.out, NB199_233.out, NB233_199.out, NB203_233.out, NB233_203.out, NB211_233.out, NB233_211.out, (by repeat (first | (with_reducible first | exact HB.out | apply ba3_ | apply bn3_ | apply bd3_ | refine ubs3_ ?_ (by assumption)) | exact HB.out))⟩)
           rintro ⟨v224, v230, gb233⟩ w140 ⟨hS_, h0_, h1_, h2_, h3_, h4_, h5_, h6_, h7_, h8_, h9_, h10_, h11_, h12_, h13_, h14_, h15_, h16_, h17_, h18_, h19_, h20_, h21_, h22_, h23_⟩
           have n0_ : Aside0 (Kd.R k34 34 w140 w.heap.size (fun k_ => some k_ ≠ (v230 : Value).ownBlock ∧ some k_ ≠ (.slice Ao29 t195.length co29 : Value).ownBlock ∧ some k_ ≠ (.slice Ao35 t218.length co35 : Value).ownBlock ∧ some k_ ≠ (.slice Ao46 t207.length co46 : Value).ownBlock) v224 t223) := ⟨h0_⟩
           have n1_ : Aside0 (Kd.R k34 34 w140 w.heap.size (fun k_ => some k_ ≠ (v224 : Value).ownBlock ∧ some k_ ≠ (.slice Ao29 t195.length co29 : Value).ownBlock ∧ some k_ ≠ (.slice Ao35 t218.length co35 : Value).ownBlock ∧ some k_ ≠ (.slice Ao46 t207.length co46 : Value).ownBlock) v230 t229) := ⟨h1_⟩
           have n2_ : Aside0 (Kd.R k34 34 w140 w.heap.size (fun k_ => some k_ ≠ (v224 : Value).ownBlock ∧ some k_ ≠ (v230 : Value).ownBlock ∧ some k_ ≠ (.slice Ao35 t218.length co35 : Value).ownBlock ∧ some k_ ≠ (.slice Ao46 t207.length co46 : Value).ownBlock) (.slice Ao29 t195.length co29) t195) := ⟨h2_⟩
           have n3_ : Aside0 (Kd.R k34 34 w140 w.heap.size (fun k_ => some k_ ≠ (v224 : Value).ownBlock ∧ some k_ ≠ (v230 : Value).ownBlock ∧ some k_ ≠ (.slice Ao29 t195.length co29 : Value).ownBlock ∧ some k_ ≠ (.slice Ao46 t207.length co46 : Value).ownBlock) (.slice Ao35 t218.length co35) t218) := ⟨h3_⟩
           have n4_ : Aside0 (Kd.R k34 34 w140 w.heap.size (fun k_ => some k_ ≠ (v224 : Value).ownBlock ∧ some k_ ≠ (v230 : Value).ownBlock ∧ some k_ ≠ (.slice Ao29 t195.length co29 : Value).ownBlock ∧ some k_ ≠ (.slice Ao35 t218.length co35 : Value).ownBlock) (.slice Ao46 t207.length co46) t221) := ⟨h4_⟩
           have n5_ : Aside0 (w140.heap[gb186]? = some (.cells #[.slice A0_0 l0_0.length c0_0] 24 (0, 0))) := ⟨h5_⟩
           have n6_ : Aside0 (w140.heap[gb187]? = some (.cells #[.int .i64 a1_0, .int .i64 a1_1, .int .i64 a1_2] 26 (0, 0))) := ⟨h6_⟩
           have n7_ : Aside0 (w140.heap[gb199]? = some (.cells #[.slice Ao29 t195.length co29] 30 (0, 0))) := ⟨h7_⟩
           have n8_ : Aside0 (w140.heap[gb203]? = some (.cells #[.slice Ao35 t218.length co35] 30 (0, 0))) := ⟨h8_⟩
           have n9_ : Aside0 (w140.heap[gb211]? = some (.cells #[.slice Ao46 t207.length co46] 30 (0, 0))) := ⟨h9_⟩
           have n10_ : Aside0 (w140.heap[gb233]? = some (.cells #[.slice none 0 0] 30 (0, 0))) := ⟨h10_⟩
           have n11_ : Aside0 (w.heap.size ≤ gb233) := ⟨h11_⟩
           have n12_ : Aside0 (w.heap.size ≤ gb233) := ⟨h12_⟩
           have n13_ : Aside0 (gb186 ≠ gb233) := ⟨h13_⟩
           have n14_ : Aside0 (gb233 ≠ gb186) := ⟨h14_⟩
           have n15_ : Aside0 (gb187 ≠ gb233) := ⟨h15_⟩
           have n16_ : Aside0 (gb233 ≠ gb187) := ⟨h16_⟩
           have n17_ : Aside0 (gb199 ≠ gb233) := ⟨h17_⟩
           have n18_ : Aside0 (gb233 ≠ gb199) := ⟨h18_⟩
           have n19_ : Aside0 (gb203 ≠ gb233) := ⟨h19_⟩
           have n20_ : Aside0 (gb233 ≠ gb203) := ⟨h20_⟩
           have n21_ : Aside0 (gb211 ≠ gb233) := ⟨h21_⟩
           have n22_ : Aside0 (gb233 ≠ gb211) := ⟨h22_⟩
           have n23_ : Aside0 (Below w.heap.size w w140) := ⟨h23_⟩
           clear HO_200000
           clear HO_204000
           clear HO_212000
           clear BK186
           clear BK187
           clear BK199
           clear BK203
           clear BK211
           clear HB
           clear h0_ h1_ h2_ h3_ h4_ h5_ h6_ h7_ h8_ h9_ h10_ h11_ h12_ h13_ h14_ h15_ h16_ h17_ h18_ h19_ h20_ h21_ h22_ h23_
           have HO225 := n0_
           have HO231 := n1_
           have HO_200000 := n2_
           have HO_204000 := n3_
           have HO_212000 := n4_
           have BK186 := n5_
           have BK187 := n6_
           have BK199 := n7_
           have BK203 := n8_
           have BK211 := n9_
           have BK233 := n10_
           have GW233 := n11_
           have GE233 := n12_
           have NB186_233 := n13_
           have NB233_186 := n14_
           have NB187_233 := n15_
           have NB233_187 := n16_
           have NB199_233 := n17_
           have NB233_199 := n18_
           have NB203_233 := n19_
           have NB233_203 := n20_
           have NB211_233 := n21_
           have NB233_211 := n22_
           have HB := n23_
           clear n0_ n1_ n2_ n3_ n4_ n5_ n6_ n7_ n8_ n9_ n10_ n11_ n12_ n13_ n14_ n15_ n16_ n17_ n18_ n19_ n20_ n21_ n22_ n23_
           have hHeld : w140.cell? ⟨gb186, 0, none⟩ = some (.slice A0_0 l0_0.length c0_0) ∧ w140.cell? ⟨gb187, 0, none⟩ = some (.int .i64 a1_0) ∧ w140.cell? ⟨gb187, 1, none⟩ = some (.int .i64 a1_1) ∧ w140.cell? ⟨gb187, 2, none⟩ = some (.int .i64 a1_2) := hS_
           obtain ⟨Ao141, co141, eo141⟩ := Kd.R_slice HO231.out
           (first | subst eo141 | (injection eo141 with f1_ f2_ f3_; have f4_ := f1_.symm; have f5_ := f3_.symm; clear f1_ f2_ f3_; subst f4_; subst f5_))
           refine norm_ (a' := ?_) ?_ ?_
           rotate_left
           ·simp only [putAll, Act.put, List.setIfInBounds_toArray, List.set_cons_zero, List.set_cons_succ]
            rfl
           refine one_ (i := 9) (N := none) #[true, true, true, true, true, true, true, true, true, true, false] rfl rfl (one_of HT_.out (by kernel_rfl)) (by decide) (fun K hK => ?_)
           have hs142 : w140.cell? ⟨gb233, 0, none⟩ = some (.slice none 0 0) := (blk_cell BK233.out 0).trans rfl
           have hfs142 := blk_frozen BK233.out 0
           have hns142_0 := NB186_233.out
           have hns142_1 := NB187_233.out
           have hns142_2 := NB199_233.out
           have hns142_3 := NB203_233.out
           have hns142_4 := NB211_233.out
           have hms142_0 := NB233_186.out
           have hms142_1 := NB233_187.out
           have hms142_2 := NB233_199.out
           have hms142_3 := NB233_203.out
           have hms142_4 := NB233_211.out
           refine skip_ (w1 := ?_) (by rfl) rfl ?_ ?_
           rotate_left
           ·go_simp
            rfl
           refine hK.out _ _ ⟨((cell_far (p := ⟨gb233, _, none⟩) NB186_233.out _).trans (hHeld.1)), ((cell_far (p := ⟨gb233, _, none⟩) NB187_233.out _).trans (hHeld.2.1)), ((cell_far (p := ⟨gb233, _, none⟩) NB187_233.out _).trans (hHeld.2.2.1)), ((cell_far (p := ⟨gb233, _, none⟩) NB187_233.out _).trans (hHeld.2.2.2))⟩ (fun hHeld => ?_)
           clear hK K
           refine pure_ (i := 10) (N := some 15) (v := ?_) (a' := ?_) #[true, true, true, true, true, true, true, true, true, true, true] rfl rfl (any_of HT_.out (by kernel_rfl)) (fun _ _ _ h => h) (Or.inl ⟨by rfl, ?_⟩) ?_ ?_
           rotate_left
           ·intro w'
            go_simp
            with_reducible rfl
           rotate_left
           ·simp only [Act.put, us3_, ut3_, uv3_, i64_w, i32_w]
            rfl
           refine done_ (done_of HT_.out (by kernel_rfl)) ?_
           go_upto_region 25 with (fail)
           go_cut [95] (fun v95 wc => ∃ (kq : Nat) (x95_124 : Bool), v95 = .bool x95_124 ∧ Aside0 (j2 kq t220 x95_124 t221 = some r) ∧ Aside0 (kq ≤ kj74) ∧ Aside0 (Kd.R k34 34 wc w.heap.size (fun k_ => some k_ ≠ ((.slice Ao35 t218.length co35) : Value).ownBlock ∧ some k_ ≠ ((.slice Ao46 t207.length co46) : Value).ownBlock ∧ some k_ ≠ ((.slice Ao141 t229.length co141) : Value).ownBlock) (.slice Ao29 t195.length co29) t195) ∧ Aside0 (Kd.R k34 34 wc w.heap.size (fun k_ => some k_ ≠ ((.slice Ao29 t195.length co29) : Value).ownBlock ∧ some k_ ≠ ((.slice Ao46 t207.length co46) : Value).ownBlock ∧ some k_ ≠ ((.slice Ao141 t229.length co141) : Value).ownBlock) (.slice Ao35 t218.length co35) t218) ∧ Aside0 (Kd.R k34 34 wc w.heap.size (fun k_ => some k_ ≠ ((.slice Ao29 t195.length co29) : Value).ownBlock ∧ some k_ ≠ ((.slice Ao35 t218.length co35) : Value).ownBlock ∧ some k_ ≠ ((.slice Ao141 t229.length co141) : Value).ownBlock) (.slice Ao46 t207.length co46) t221) ∧ Aside0 (Kd.R k34 34 wc w.heap.size (fun k_ => some k_ ≠ ((.slice Ao29 t195.length co29) : Value).ownBlock ∧ some k_ ≠ ((.slice Ao35 t218.length co35) : Value).ownBlock ∧ some k_ ≠ ((.slice Ao46 t207.length co46) : Value).ownBlock) (.slice Ao141 t229.length co141) t229) ∧ Aside0 (wc.heap[gb186]? = some (.cells #[(.slice A0_0 l0_0.length c0_0)] 24 (0, 0))) ∧ Aside0 (wc.heap[gb187]? = some (.cells #[.int .i64 a1_0, .int .i64 a1_1, .int .i64 a1_2] 26 (0, 0))) ∧ Aside0 (wc.heap[gb199]? = some (.cells #[(.slice Ao29 t195.length co29)] 30 (0, 0))) ∧ Aside0 (wc.heap[gb203]? = some (.cells #[(.slice Ao35 t218.length co35)] 30 (0, 0))) ∧ Aside0 (wc.heap[gb211]? = some (.cells #[(.slice Ao46 t207.length co46)] 30 (0, 0))) ∧ Aside0 (wc.heap[gb233]? = some (.cells #[(.slice Ao141 t229.length co141)] 30 (0, 0))) ∧ Aside0 (Below w.heap.size w wc))
           case first =>
            have H := HC125.out
            clear HC125
            replace H := Option.bind_eq_some_iff.mp H
            obtain ⟨t234, A1430, H⟩ := H
            replace H : (if t234 = true then (j2 kj74 t220 (t232 != t198) t221) else (j2 kj74 t220 true t221)) = some r := H
            have A143 := A3_ A1430
            clear A1430
            by_cases c144 : t234 = true
            ·subst c144
             have H1 : (j2 kj74 t220 (t232 != t198) t221) = some r := by rw [if_pos rfl] at H; exact H
             clear H
             have H := H1
             clear H1
             have H' := A3_ H
             clear H
             have hnb145 := NB233_186.out
             have hnc145 := NB186_233.out
             have hnb146 := NB233_187.out
             have hnc146 := NB187_233.out
             have hnb147 := NB233_199.out
             have hnc147 := NB199_233.out
             have hnb148 := NB233_203.out
             have hnc148 := NB203_233.out
             have hnb149 := NB233_211.out
             have hnc149 := NB211_233.out
             have hcz150_0 : w140.cell? ⟨gb233, 0, none⟩ = some (.slice none 0 0) := (blk_cell BK233.out 0).trans rfl
             have hfz150_0 := blk_frozen BK233.out 0
             have hnb151 := NB199_186.out
             have hnc151 := NB186_199.out
             have hnb152 := NB199_187.out
             have hnc152 := NB187_199.out
             have hnb153 := NB199_203.out
             have hnc153 := NB203_199.out
             have hnb154 := NB199_211.out
             have hnc154 := NB211_199.out
             have hcz155_0 : w140.cell? ⟨gb199, 0, none⟩ = some (.slice Ao29 t195.length co29) := (blk_cell BK199.out 0).trans rfl
             have hfz155_0 := blk_frozen BK199.out 0
             go_wp2_with (first | ((with_reducible refine gate_callee (f := 10) rfl ?_); refine goesL_ (some 89) rfl rfl Try.func10 (by kernel_rfl) rfl #[.agg #[.slice Ao141 t229.length co141], .agg #[.slice Ao29 t195.length co29]] rfl (by (try simp only [List.map_toArray, List.map_cons, List.map_nil]); first | done | rfl | (simp only [List.length_drop, List.length_take]; rfl)) ?_; (with_reducible refine (laws_eqPuzzle.calls kj74 _ _ t229 _ _ t195 true _ ?side1 ?side2 ?side3 ?side4 A143.out).mono ?_); (case side1 => refine (Kd.R_reads' (e := 34) (base := w.heap.size) (ok := fun k_ => (some k_ ≠ (v224 : Value).ownBlock ∧ (some k_ ≠ (.slice Ao29 t195.length co29 : Value).ownBlock ∧ (some k_ ≠ (.slice Ao35 t218.length co35 : Value).ownBlock ∧ some k_ ≠ (.slice Ao46 t207.length co46 : Value).ownBlock)))) (n := t229.length) (c := co141) ?_).2.2; exact (by (with_reducible repeat (first | apply ra3_ | apply rn3_ | apply rd3_)); exact (Kd.R_mono (Kd.R_far (p := ⟨gb233, 0, none⟩) (Kd.R_types HO231.out BK233.out (by decide)) (fun _ hk => hk.2) (.slice Ao141 t229.length co141)) (fun _ h_ => h_.1)))); (case side2 => exact (Kd.R_reads' HO231.out).2.1); (case side3 => refine (Kd.R_reads' (e := 34) (base := w.heap.size) (ok := fun k_ => (some k_ ≠ (v224 : Value).ownBlock ∧ (some k_ ≠ (.slice Ao141 t229.length co141 : Value).ownBlock ∧ (some k_ ≠ (.slice Ao35 t218.length co35 : Value).ownBlock ∧ some k_ ≠ (.slice Ao46 t207.length co46 : Value).ownBlock)))) (n := t195.length) (c := co29) ?_).2.2; exact (by (with_reducible repeat (first | apply ra3_ | apply rn3_ | apply rd3_)); exact (Kd.R_mono (Kd.R_far (p := ⟨gb233, 0, none⟩) (Kd.R_types HO_200000.out BK233.out (by decide)) (fun _ hk => hk.2) (.slice Ao141 t229.length co141)) (fun _ h_ => h_.1)))); (case side4 => exact (Kd.R_reads' HO_200000.out).2.1); rintro e w156 ⟨rfl, hb⟩; refine ⟨_, rfl, ?_⟩; have n0_ := A3_ (Kd.R_below (by (with_reducible repeat (first | apply ra3_ | apply rn3_ | apply rd3_)); exact (Kd.R_mono (Kd.R_far (p := ⟨gb233, 0, none⟩) (Kd.R_types HO_200000.out BK233.out (by decide)) (fun _ hk => hk.2) (.slice Ao141 t229.length co141)) (fun _ h_ => h_.1))) hb); have n1_ := A3_ (Kd.R_below (by (with_reducible repeat (first | apply ra3_ | apply rn3_ | apply rd3_)); exact (Kd.R_mono (Kd.R_far (p := ⟨gb233, 0, none⟩) (Kd.R_types HO_204000.out BK233.out (by decide)) (fun _ hk => hk.2) (.slice Ao141 t229.length co141)) (fun _ h_ => h_.1))) hb); have n2_ := A3_ (Kd.R_below (by (with_reducible repeat (first | apply ra3_ | apply rn3_ | apply rd3_)); exact (Kd.R_mono (Kd.R_far (p := ⟨gb233, 0, none⟩) (Kd.R_types HO_212000.out BK233.out (by decide)) (fun _ hk => hk.2) (.slice Ao141 t229.length co141)) (fun _ h_ => h_.1))) hb); have n3_ := A3_ (Kd.R_below (by (with_reducible repeat (first | apply ra3_ | apply rn3_ | apply rd3_)); exact (Kd.R_mono (Kd.R_far (p := ⟨gb233, 0, none⟩) (Kd.R_types HO225.out BK233.out (by decide)) (fun _ hk => hk.2) (.slice Ao141 t229.length co141)) (fun _ h_ => h_.1))) hb); have n4_ := A3_ (Kd.R_below (by (with_reducible repeat (first | apply ra3_ | apply rn3_ | apply rd3_)); exact (Kd.R_mono (Kd.R_far (p := ⟨gb233, 0, none⟩) (Kd.R_types HO231.out BK233.out (by decide)) (fun _ hk => hk.2) (.slice Ao141 t229.length co141)) (fun _ h_ => h_.1))) hb); have n5_ := A3_ (kb3_ (g := gb186) (o := .cells #[.slice A0_0 l0_0.length c0_0] 24 (0, 0)) (by (with_reducible repeat (first | refine kn3_ ?_ _ | refine kd3_ ?_ | refine ka3_ ?_ _)); refine blk_far ?_ NB186_233.out _; (with_reducible repeat (first | refine kn3_ ?_ _ | refine kd3_ ?_ | refine ka3_ ?_ _)); exact BK186.out) hb); have n6_ := A3_ (kb3_ (g := gb187) (o := .cells #[.int .i64 a1_0, .int .i64 a1_1, .int .i64 a1_2] 26 (0, 0)) (by (with_reducible repeat (first | refine kn3_ ?_ _ | refine kd3_ ?_ | refine ka3_ ?_ _)); refine blk_far ?_ NB187_233.out _; (with_reducible repeat (first | refine kn3_ ?_ _ | refine kd3_ ?_ | refine ka3_ ?_ _)); exact BK187.out) hb); have n7_ := A3_ (kb3_ (g := gb199) (o := .cells #[.slice Ao29 t195.length co29] 30 (0, 0)) (by (with_reducible repeat (first | refine kn3_ ?_ _ | refine kd3_ ?_ | refine ka3_ ?_ _)); refine blk_far ?_ NB199_233.out _; (with_reducible repeat (first | refine kn3_ ?_ _ | refine kd3_ ?_ | refine ka3_ ?_ _)); exact BK199.out) hb); have n8_ := A3_ (kb3_ (g := gb203) (o := .cells #[.slice Ao35 t218.length co35] 30 (0, 0)) (by (with_reducible repeat (first | refine kn3_ ?_ _ | refine kd3_ ?_ | refine ka3_ ?_ _)); refine blk_far ?_ NB203_233.out _; (with_reducible repeat (first | refine kn3_ ?_ _ | refine kd3_ ?_ | refine ka3_ ?_ _)); exact BK203.out) hb); have n9_ := A3_ (kb3_ (g := gb211) (o := .cells #[.slice Ao46 t207.length co46] 30 (0, 0)) (by (with_reducible repeat (first | refine kn3_ ?_ _ | refine kd3_ ?_ | refine ka3_ ?_ _)); refine blk_far ?_ NB211_233.out _; (with_reducible repeat (first | refine kn3_ ?_ _ | refine kd3_ ?_ | refine ka3_ ?_ _)); exact BK211.out) hb); have n10_ := A3_ (kb3_ (g := gb233) (o := .cells #[.slice Ao141 t229.length co141] 30 (0, 0)) (by (with_reducible repeat (first | refine kn3_ ?_ _ | refine kd3_ ?_ | refine ka3_ ?_ _)); refine blk_put (cs := #[.slice none 0 0]) ?_ 0 _ rfl; (with_reducible repeat (first | refine kn3_ ?_ _ | refine kd3_ ?_ | refine ka3_ ?_ _)); exact BK233.out) hb); have n11_ := A3_ (bt3_ (by repeat (first | (with_reducible first | exact HB.out | apply ba3_ | apply bn3_ | apply bd3_ | refine ubs3_ ?_ (by assumption)) | exact HB.out)) hb); clear HO_200000; clear HO_204000; clear HO_212000; clear HO225; clear HO231; clear BK186; clear BK187; clear BK199; clear BK203; clear BK211; clear BK233; clear HB; have HO_200000 := n0_; have HO_204000 := n1_; have HO_212000 := n2_; have HO225 := n3_; have HO231 := n4_; have BK186 := n5_; have BK187 := n6_; have BK199 := n7_; have BK203 := n8_; have BK211 := n9_; have BK233 := n10_; have HB := n11_; clear n0_ n1_ n2_ n3_ n4_ n5_ n6_ n7_ n8_ n9_ n10_ n11_; (try clear hb); (try clear hb2); (try clear hk); (try clear hi)))
             go_meet
             case rel => exact ⟨_, ((t232 != t198)), (by first | rfl | (simp; done) | (simp [*]; done)), H', ⟨by have := HJ15.out; have := HJ74.out; first | omega | exact Nat.le_refl _⟩, ⟨by (try simp only [hl204000_74]); (with_reducible repeat (first | apply ra3_ | apply rn3_ | apply rd3_)); exact Kd.R_mono HO_200000.out (fun _ hk => ⟨hk.2.2.1, ⟨hk.2.2.2, hk.2.1⟩⟩)⟩, ⟨by (try simp only [hl204000_74]); (with_reducible repeat (first | apply ra3_ | apply rn3_ | apply rd3_)); exact Kd.R_mono HO_204000.out (fun _ hk => ⟨hk.2.2.1, ⟨hk.2.2.2, hk.2.1⟩⟩)⟩, ⟨by (try simp only [hl204000_74]); (with_reducible repeat (first | apply ra3_ | apply rn3_ | apply rd3_)); exact Kd.R_mono HO_212000.out (fun _ hk => ⟨hk.2.2.1, ⟨hk.2.2.2, hk.2.1⟩⟩)⟩, ⟨by (try simp only [hl204000_74]); (with_reducible repeat (first | apply ra3_ | apply rn3_ | apply rd3_)); exact Kd.R_mono HO231.out (fun _ hk => ⟨hk.2.1, ⟨hk.2.2.1, hk.2.2.2⟩⟩)⟩, ⟨by (try simp only [hl204000_74]); (with_reducible repeat (first | refine kn3_ ?_ _ | refine kd3_ ?_ | refine ka3_ ?_ _)); exact BK186.out⟩, ⟨by (try simp only [hl204000_74]); (with_reducible repeat (first | refine kn3_ ?_ _ | refine kd3_ ?_ | refine ka3_ ?_ _)); exact BK187.out⟩, ⟨by (try simp only [hl204000_74]); (with_reducible repeat (first | refine kn3_ ?_ _ | refine kd3_ ?_ | refine ka3_ ?_ _)); exact BK199.out⟩, ⟨by (try simp only [hl204000_74]); (with_reducible repeat (first | refine kn3_ ?_ _ | refine kd3_ ?_ | refine ka3_ ?_ _)); exact BK203.out⟩, ⟨by (try simp only [hl204000_74]); (with_reducible repeat (first | refine kn3_ ?_ _ | refine kd3_ ?_ | refine ka3_ ?_ _)); exact BK211.out⟩, ⟨by (try simp only [hl204000_74]); (with_reducible repeat (first | refine kn3_ ?_ _ | refine kd3_ ?_ | refine ka3_ ?_ _)); exact BK233.out⟩, ⟨by repeat (first | (with_reducible first | exact HB.out | apply ba3_ | apply bn3_ | apply bd3_ | refine ubs3_ ?_ (by assumption)) | exact HB.out)⟩⟩
            ·replace c144 := Bool.eq_false_iff.mpr c144
             subst c144
             have H1 : (j2 kj74 t220 true t221) = some r := by rw [if_neg (show ¬ (false = true) by decide)] at H; exact H
             clear H
             have H := H1
             clear H1
             have H' := A3_ H
             clear H
             have hnb157 := NB233_186.out
             have hnc157 := NB186_233.out
             have hnb158 := NB233_187.out
             have hnc158 := NB187_233.out
             have hnb159 := NB233_199.out
             have hnc159 := NB199_233.out
             have hnb160 := NB233_203.out
             have hnc160 := NB203_233.out
             have hnb161 := NB233_211.out
             have hnc161 := NB211_233.out
             have hcz162_0 : w140.cell? ⟨gb233, 0, none⟩ = some (.slice none 0 0) := (blk_cell BK233.out 0).trans rfl
             have hfz162_0 := blk_frozen BK233.out 0
             have hnb163 := NB199_186.out
             have hnc163 := NB186_199.out
             have hnb164 := NB199_187.out
             have hnc164 := NB187_199.out
             have hnb165 := NB199_203.out
             have hnc165 := NB203_199.out
             have hnb166 := NB199_211.out
             have hnc166 := NB211_199.out
             have hcz167_0 : w140.cell? ⟨gb199, 0, none⟩ = some (.slice Ao29 t195.length co29) := (blk_cell BK199.out 0).trans rfl
             have hfz167_0 := blk_frozen BK199.out 0
             go_wp2_with (first | ((with_reducible refine gate_callee (f := 10) rfl ?_); refine goesL_ (some 89) rfl rfl Try.func10 (by kernel_rfl) rfl #[.agg #[.slice Ao141 t229.length co141], .agg #[.slice Ao29 t195.length co29]] rfl (by (try simp only [List.map_toArray, List.map_cons, List.map_nil]); first | done | rfl | (simp only [List.length_drop, List.length_take]; rfl)) ?_; (with_reducible refine (laws_eqPuzzle.calls kj74 _ _ t229 _ _ t195 false _ ?side1 ?side2 ?side3 ?side4 A143.out).mono ?_); (case side1 => refine (Kd.R_reads' (e := 34) (base := w.heap.size) (ok := fun k_ => (some k_ ≠ (v224 : Value).ownBlock ∧ (some k_ ≠ (.slice Ao29 t195.length co29 : Value).ownBlock ∧ (some k_ ≠ (.slice Ao35 t218.length co35 : Value).ownBlock ∧ some k_ ≠ (.slice Ao46 t207.length co46 : Value).ownBlock)))) (n := t229.length) (c := co141) ?_).2.2; exact (by (with_reducible repeat (first | apply ra3_ | apply rn3_ | apply rd3_)); exact (Kd.R_mono (Kd.R_far (p := ⟨gb233, 0, none⟩) (Kd.R_types HO231.out BK233.out (by decide)) (fun _ hk => hk.2) (.slice Ao141 t229.length co141)) (fun _ h_ => h_.1)))); (case side2 => exact (Kd.R_reads' HO231.out).2.1); (case side3 => refine (Kd.R_reads' (e := 34) (base := w.heap.size) (ok := fun k_ => (some k_ ≠ (v224 : Value).ownBlock ∧ (some k_ ≠ (.slice Ao141 t229.length co141 : Value).ownBlock ∧ (some k_ ≠ (.slice Ao35 t218.length co35 : Value).ownBlock ∧ some k_ ≠ (.slice Ao46 t207.length co46 : Value).ownBlock)))) (n := t195.length) (c := co29) ?_).2.2; exact (by (with_reducible repeat (first | apply ra3_ | apply rn3_ | apply rd3_)); exact (Kd.R_mono (Kd.R_far (p := ⟨gb233, 0, none⟩) (Kd.R_types HO_200000.out BK233.out (by decide)) (fun _ hk => hk.2) (.slice Ao141 t229.length co141)) (fun _ h_ => h_.1)))); (case side4 => exact (Kd.R_reads' HO_200000.out).2.1); rintro e w168 ⟨rfl, hb⟩; refine ⟨_, rfl, ?_⟩; have n0_ := A3_ (Kd.R_below (by (with_reducible repeat (first | apply ra3_ | apply rn3_ | apply rd3_)); exact (Kd.R_mono (Kd.R_far (p := ⟨gb233, 0, none⟩) (Kd.R_types HO_200000.out BK233.out (by decide)) (fun _ hk => hk.2) (.slice Ao141 t229.length co141)) (fun _ h_ => h_.1))) hb); have n1_ := A3_ (Kd.R_below (by (with_reducible repeat (first | apply ra3_ | apply rn3_ | apply rd3_)); exact (Kd.R_mono (Kd.R_far (p := ⟨gb233, 0, none⟩) (Kd.R_types HO_204000.out BK233.out (by decide)) (fun _ hk => hk.2) (.slice Ao141 t229.length co141)) (fun _ h_ => h_.1))) hb); have n2_ := A3_ (Kd.R_below (by (with_reducible repeat (first | apply ra3_ | apply rn3_ | apply rd3_)); exact (Kd.R_mono (Kd.R_far (p := ⟨gb233, 0, none⟩) (Kd.R_types HO_212000.out BK233.out (by decide)) (fun _ hk => hk.2) (.slice Ao141 t229.length co141)) (fun _ h_ => h_.1))) hb); have n3_ := A3_ (Kd.R_below (by (with_reducible repeat (first | apply ra3_ | apply rn3_ | apply rd3_)); exact (Kd.R_mono (Kd.R_far (p := ⟨gb233, 0, none⟩) (Kd.R_types HO225.out BK233.out (by decide)) (fun _ hk => hk.2) (.slice Ao141 t229.length co141)) (fun _ h_ => h_.1))) hb); have n4_ := A3_ (Kd.R_below (by (with_reducible repeat (first | apply ra3_ | apply rn3_ | apply rd3_)); exact (Kd.R_mono (Kd.R_far (p := ⟨gb233, 0, none⟩) (Kd.R_types HO231.out BK233.out (by decide)) (fun _ hk => hk.2) (.slice Ao141 t229.length co141)) (fun _ h_ => h_.1))) hb); have n5_ := A3_ (kb3_ (g := gb186) (o := .cells #[.slice A0_0 l0_0.length c0_0] 24 (0, 0)) (by (with_reducible repeat (first | refine kn3_ ?_ _ | refine kd3_ ?_ | refine ka3_ ?_ _)); refine blk_far ?_ NB186_233.out _; (with_reducible repeat (first | refine kn3_ ?_ _ | refine kd3_ ?_ | refine ka3_ ?_ _)); exact BK186.out) hb); have n6_ := A3_ (kb3_ (g := gb187) (o := .cells #[.int .i64 a1_0, .int .i64 a1_1, .int .i64 a1_2] 26 (0, 0)) (by (with_reducible repeat (first | refine kn3_ ?_ _ | refine kd3_ ?_ | refine ka3_ ?_ _)); refine blk_far ?_ NB187_233.out _; (with_reducible repeat (first | refine kn3_ ?_ _ | refine kd3_ ?_ | refine ka3_ ?_ _)); exact BK187.out) hb); have n7_ := A3_ (kb3_ (g := gb199) (o := .cells #[.slice Ao29 t195.length co29] 30 (0, 0)) (by (with_reducible repeat (first | refine kn3_ ?_ _ | refine kd3_ ?_ | refine ka3_ ?_ _)); refine blk_far ?_ NB199_233.out _; (with_reducible repeat (first | refine kn3_ ?_ _ | refine kd3_ ?_ | refine ka3_ ?_ _)); exact BK199.out) hb); have n8_ := A3_ (kb3_ (g := gb203) (o := .cells #[.slice Ao35 t218.length co35] 30 (0, 0)) (by (with_reducible repeat (first | refine kn3_ ?_ _ | refine kd3_ ?_ | refine ka3_ ?_ _)); refine blk_far ?_ NB203_233.out _; (with_reducible repeat (first | refine kn3_ ?_ _ | refine kd3_ ?_ | refine ka3_ ?_ _)); exact BK203.out) hb); have n9_ := A3_ (kb3_ (g := gb211) (o := .cells #[.slice Ao46 t207.length co46] 30 (0, 0)) (by (with_reducible repeat (first | refine kn3_ ?_ _ | refine kd3_ ?_ | refine ka3_ ?_ _)); refine blk_far ?_ NB211_233.out _; (with_reducible repeat (first | refine kn3_ ?_ _ | refine kd3_ ?_ | refine ka3_ ?_ _)); exact BK211.out) hb); have n10_ := A3_ (kb3_ (g := gb233) (o := .cells #[.slice Ao141 t229.length co141] 30 (0, 0)) (by (with_reducible repeat (first | refine kn3_ ?_ _ | refine kd3_ ?_ | refine ka3_ ?_ _)); refine blk_put (cs := #[.slice none 0 0]) ?_ 0 _ rfl; (with_reducible repeat (first | refine kn3_ ?_ _ | refine kd3_ ?_ | refine ka3_ ?_ _)); exact BK233.out) hb); have n11_ := A3_ (bt3_ (by repeat (first | (with_reducible first | exact HB.out | apply ba3_ | apply bn3_ | apply bd3_ | refine ubs3_ ?_ (by assumption)) | exact HB.out)) hb); clear HO_200000; clear HO_204000; clear HO_212000; clear HO225; clear HO231; clear BK186; clear BK187; clear BK199; clear BK203; clear BK211; clear BK233; clear HB; have HO_200000 := n0_; have HO_204000 := n1_; have HO_212000 := n2_; have HO225 := n3_; have HO231 := n4_; have BK186 := n5_; have BK187 := n6_; have BK199 := n7_; have BK203 := n8_; have BK211 := n9_; have BK233 := n10_; have HB := n11_; clear n0_ n1_ n2_ n3_ n4_ n5_ n6_ n7_ n8_ n9_ n10_ n11_; (try clear hb); (try clear hb2); (try clear hk); (try clear hi)))
             go_meet
             case rel => exact ⟨_, (true), (by first | rfl | (simp; done) | (simp [*]; done)), H', ⟨by have := HJ15.out; have := HJ74.out; first | omega | exact Nat.le_refl _⟩, ⟨by (try simp only [hl204000_74]); (with_reducible repeat (first | apply ra3_ | apply rn3_ | apply rd3_)); exact Kd.R_mono HO_200000.out (fun _ hk => ⟨hk.2.2.1, ⟨hk.2.2.2, hk.2.1⟩⟩)⟩, ⟨by (try simp only [hl204000_74]); (with_reducible repeat (first | apply ra3_ | apply rn3_ | apply rd3_)); exact Kd.R_mono HO_204000.out (fun _ hk => ⟨hk.2.2.1, ⟨hk.2.2.2, hk.2.1⟩⟩)⟩, ⟨by (try simp only [hl204000_74]); (with_reducible repeat (first | apply ra3_ | apply rn3_ | apply rd3_)); exact Kd.R_mono HO_212000.out (fun _ hk => ⟨hk.2.2.1, ⟨hk.2.2.2, hk.2.1⟩⟩)⟩, ⟨by (try simp only [hl204000_74]); (with_reducible repeat (first | apply ra3_ | apply rn3_ | apply rd3_)); exact Kd.R_mono HO231.out (fun _ hk => ⟨hk.2.1, ⟨hk.2.2.1, hk.2.2.2⟩⟩)⟩, ⟨by (try simp only [hl204000_74]); (with_reducible repeat (first | refine kn3_ ?_ _ | refine kd3_ ?_ | refine ka3_ ?_ _)); exact BK186.out⟩, ⟨by (try simp only [hl204000_74]); (with_reducible repeat (first | refine kn3_ ?_ _ | refine kd3_ ?_ | refine ka3_ ?_ _)); exact BK187.out⟩, ⟨by (try simp only [hl204000_74]); (with_reducible repeat (first | refine kn3_ ?_ _ | refine kd3_ ?_ | refine ka3_ ?_ _)); exact BK199.out⟩, ⟨by (try simp only [hl204000_74]); (with_reducible repeat (first | refine kn3_ ?_ _ | refine kd3_ ?_ | refine ka3_ ?_ _)); exact BK203.out⟩, ⟨by (try simp only [hl204000_74]); (with_reducible repeat (first | refine kn3_ ?_ _ | refine kd3_ ?_ | refine ka3_ ?_ _)); exact BK211.out⟩, ⟨by (try simp only [hl204000_74]); (with_reducible repeat (first | refine kn3_ ?_ _ | refine kd3_ ?_ | refine ka3_ ?_ _)); exact BK233.out⟩, ⟨by repeat (first | (with_reducible first | exact HB.out | apply ba3_ | apply bn3_ | apply bd3_ | refine ubs3_ ?_ (by assumption)) | exact HB.out)⟩⟩
           case rest =>
            clear HC125
            try clear c1
            try clear p2
            try clear c7
            try clear c8
            try clear c9
            try clear c10
            try clear c14
            try clear c15
            try clear c16
            try clear c144
            try clear c145
            try clear c146
            try clear c147
            try clear c148
            try clear c149
            try clear c151
            try clear c152
            try clear c153
            try clear c154
            try clear c157
            try clear c158
            try clear c159
            try clear c160
            try clear c161
            try clear c163
            try clear c164
            try clear c165
            try clear c166
            try clear hcz150_0
            try clear hcz155_0
            try clear hcz162_0
            try clear hcz167_0
            try clear hfz150_0
            try clear hfz155_0
            try clear hfz162_0
            try clear hfz167_0
            obtain ⟨kq, x95_124, rfl, HA, HJ124, HO_200000, HO_204000, HO_212000, HO_234000, BK186, BK187, BK199, BK203, BK211, BK233, HB⟩ := hcut
            have hl212000_124 := (Kd.R_reads' HO_212000.out).1
            rw [hl212000_124] at HO_212000
            (try simp only [hl212000_124])
            (try simp only [hl212000_124] at BK186)
            (try simp only [hl212000_124] at BK187)
            (try simp only [hl212000_124] at BK199)
            (try simp only [hl212000_124] at BK203)
            (try simp only [hl212000_124] at BK211)
            (try simp only [hl212000_124] at BK233)
            (try simp only [hl212000_124] at HO_200000)
            (try simp only [hl212000_124] at HO_204000)
            (try simp only [hl212000_124] at HO_234000)
            cases kq with
            | zero => exact absurd HA.out (by simp [j2])
            | succ kj124 =>
             have H := HA.out
             clear HA
             simp only [j2] at H
             by_cases c169 : x95_124 = true
             ·subst c169
              have H1 : (some false) = some r := by rw [if_pos rfl] at H; exact H
              clear H
              have H := H1
              clear H1
              obtain rfl := Option.some.inj H
              go_wp2
              go_ret
              exact ⟨by first | rfl | (simp [errW_none, errW_some] <;> rfl) | (simp [*, errW_none, errW_some] <;> rfl), by repeat (first | (with_reducible first | exact HB.out | apply ba3_ | apply bn3_ | apply bd3_ | refine ubs3_ ?_ (by assumption)) | exact HB.out)⟩
             ·replace c169 := Bool.eq_false_iff.mpr c169
              subst c169
              have H1 : ((laws_heldPuzzle.f kj124 t221 1).bind fun t235 => (if t235 < 0 then (some false) else (if t235 = t220 then (some true) else (some false)))) = some r := by rw [if_neg (show ¬ (false = true) by decide)] at H; exact H
              clear H
              have H := H1
              clear H1
              replace H := Option.bind_eq_some_iff.mp H
              obtain ⟨t235, A1700, H⟩ := H
              replace H : (if t235 < 0 then (some false) else (if t235 = t220 then (some true) else (some false))) = some r := H
              have A170 := A3_ A1700
              clear A1700
              by_cases c171 : t235 < 0
              ·rw [if_pos c171] at H
               have c171b0 : decide (t235 < 0) = true := decide_eq_true c171
               clear c171
               obtain rfl := Option.some.inj H
               have hnb172 := NB211_186.out
               have hnc172 := NB186_211.out
               have hnb173 := NB211_187.out
               have hnc173 := NB187_211.out
               have hnb174 := NB211_199.out
               have hnc174 := NB199_211.out
               have hnb175 := NB211_203.out
               have hnc175 := NB203_211.out
               have hnb176 := NB211_233.out
               have hnc176 := NB233_211.out
               have hcz177_0 : wc.cell? ⟨gb211, 0, none⟩ = some (.slice Ao46 t221.length co46) := (blk_cell BK211.out 0).trans rfl
               have hfz177_0 := blk_frozen BK211.out 0
               go_wp2_with (first | ((with_reducible refine gate_callee (f := 12) rfl ?_); refine goesL_ (some 98) rfl rfl Try.func12 (by kernel_rfl) rfl #[.agg #[.slice Ao46 t221.length co46], .int .i64 1] rfl (by (try simp only [List.map_toArray, List.map_cons, List.map_nil]); first | done | rfl | (simp only [List.length_drop, List.length_take]; rfl)) ?_; (with_reducible refine (laws_heldPuzzle.calls kj124 _ _ t221 1 t235 _ ?side1 ?side2 A170.out).mono ?_); (case side1 => exact uc3_ ((Kd.R_reads' HO_212000.out).2.2)); (case side2 => exact (Kd.R_reads' HO_212000.out).2.1); rintro e w178 ⟨rfl, hb⟩; refine ⟨_, rfl, ?_⟩; have n0_ := A3_ (Kd.R_below (by exact ur3_ HO_200000.out) hb); have n1_ := A3_ (Kd.R_below (by exact ur3_ HO_204000.out) hb); have n2_ := A3_ (Kd.R_below (by exact ur3_ HO_212000.out) hb); have n3_ := A3_ (Kd.R_below (by exact ur3_ HO_234000.out) hb); have n10_ := A3_ (bt3_ (by repeat (first | (with_reducible first | exact HB.out | apply ba3_ | apply bn3_ | apply bd3_ | refine ubs3_ ?_ (by assumption)) | exact HB.out)) hb); clear HO_200000; clear HO_204000; clear HO_212000; clear HO_234000; clear HB; have HO_200000 := n0_; have HO_204000 := n1_; have HO_212000 := n2_; have HO_234000 := n3_; replace BK186 := A3_ (ukb3_ BK186.out hb); replace BK187 := A3_ (ukb3_ BK187.out hb); replace BK199 := A3_ (ukb3_ BK199.out hb); replace BK203 := A3_ (ukb3_ BK203.out hb); replace BK211 := A3_ (ukb3_ BK211.out hb); replace BK233 := A3_ (ukb3_ BK233.out hb); have HB := n10_; clear n0_ n1_ n2_ n3_ n10_; (try clear hb); (try clear hb2); (try clear hk); (try clear hi)))
               go_ret
               exact ⟨by first | rfl | (simp [errW_none, errW_some] <;> rfl) | (simp [*, errW_none, errW_some] <;> rfl), by repeat (first | (with_reducible first | exact HB.out | apply ba3_ | apply bn3_ | apply bd3_ | refine ubs3_ ?_ (by assumption)) | exact HB.out)⟩
              ·rw [if_neg c171] at H
               have c171b0 : decide (t235 < 0) = false := decide_eq_false c171
               clear c171
               by_cases c179 : t235 = t220
               ·rw [if_pos c179] at H
                have c179b0 : (t235 == t220) = true := beq_iff_eq.mpr c179
                have c179b1 : (t235 != t220) = false := bne_eq_false_iff_eq.mpr c179
                clear c179
                obtain rfl := Option.some.inj H
                have hnb180 := NB211_186.out
                have hnc180 := NB186_211.out
                have hnb181 := NB211_187.out
                have hnc181 := NB187_211.out
                have hnb182 := NB211_199.out
                have hnc182 := NB199_211.out
                have hnb183 := NB211_203.out
                have hnc183 := NB203_211.out
                have hnb184 := NB211_233.out
                have hnc184 := NB233_211.out
                have hcz185_0 : wc.cell? ⟨gb211, 0, none⟩ = some (.slice Ao46 t221.length co46) := (blk_cell BK211.out 0).trans rfl
                have hfz185_0 := blk_frozen BK211.out 0
                go_wp2_with (first | ((with_reducible refine gate_callee (f := 12) rfl ?_); refine goesL_ (some 98) rfl rfl Try.func12 (by kernel_rfl) rfl #[.agg #[.slice Ao46 t221.length co46], .int .i64 1] rfl (by (try simp only [List.map_toArray, List.map_cons, List.map_nil]); first | done | rfl | (simp only [List.length_drop, List.length_take]; rfl)) ?_; (with_reducible refine (laws_heldPuzzle.calls kj124 _ _ t221 1 t235 _ ?side1 ?side2 A170.out).mono ?_); (case side1 => exact uc3_ ((Kd.R_reads' HO_212000.out).2.2)); (case side2 => exact (Kd.R_reads' HO_212000.out).2.1); rintro e w186 ⟨rfl, hb⟩; refine ⟨_, rfl, ?_⟩; have n0_ := A3_ (Kd.R_below (by exact ur3_ HO_200000.out) hb); have n1_ := A3_ (Kd.R_below (by exact ur3_ HO_204000.out) hb); have n2_ := A3_ (Kd.R_below (by exact ur3_ HO_212000.out) hb); have n3_ := A3_ (Kd.R_below (by exact ur3_ HO_234000.out) hb); have n10_ := A3_ (bt3_ (by repeat (first | (with_reducible first | exact HB.out | apply ba3_ | apply bn3_ | apply bd3_ | refine ubs3_ ?_ (by assumption)) | exact HB.out)) hb); clear HO_200000; clear HO_204000; clear HO_212000; clear HO_234000; clear HB; have HO_200000 := n0_; have HO_204000 := n1_; have HO_212000 := n2_; have HO_234000 := n3_; replace BK186 := A3_ (ukb3_ BK186.out hb); replace BK187 := A3_ (ukb3_ BK187.out hb); replace BK199 := A3_ (ukb3_ BK199.out hb); replace BK203 := A3_ (ukb3_ BK203.out hb); replace BK211 := A3_ (ukb3_ BK211.out hb); replace BK233 := A3_ (ukb3_ BK233.out hb); have HB := n10_; clear n0_ n1_ n2_ n3_ n10_; (try clear hb); (try clear hb2); (try clear hk); (try clear hi)))
                go_ret
                exact ⟨by first | rfl | (simp [errW_none, errW_some] <;> rfl) | (simp [*, errW_none, errW_some] <;> rfl), by repeat (first | (with_reducible first | exact HB.out | apply ba3_ | apply bn3_ | apply bd3_ | refine ubs3_ ?_ (by assumption)) | exact HB.out)⟩
               ·rw [if_neg c179] at H
                have c179b0 : (t235 == t220) = false := beq_eq_false_iff_ne.mpr c179
                have c179b1 : (t235 != t220) = true := bne_iff_ne.mpr c179
                obtain rfl := Option.some.inj H
                have hnb187 := NB211_186.out
                have hnc187 := NB186_211.out
                have hnb188 := NB211_187.out
                have hnc188 := NB187_211.out
                have hnb189 := NB211_199.out
                have hnc189 := NB199_211.out
                have hnb190 := NB211_203.out
                have hnc190 := NB203_211.out
                have hnb191 := NB211_233.out
                have hnc191 := NB233_211.out
                have hcz192_0 : wc.cell? ⟨gb211, 0, none⟩ = some (.slice Ao46 t221.length co46) := (blk_cell BK211.out 0).trans rfl
                have hfz192_0 := blk_frozen BK211.out 0
                go_wp2_with (first | ((with_reducible refine gate_callee (f := 12) rfl ?_); refine goesL_ (some 98) rfl rfl Try.func12 (by kernel_rfl) rfl #[.agg #[.slice Ao46 t221.length co46], .int .i64 1] rfl (by (try simp only [List.map_toArray, List.map_cons, List.map_nil]); first | done | rfl | (simp only [List.length_drop, List.length_take]; rfl)) ?_; (with_reducible refine (laws_heldPuzzle.calls kj124 _ _ t221 1 t235 _ ?side1 ?side2 A170.out).mono ?_); (case side1 => exact uc3_ ((Kd.R_reads' HO_212000.out).2.2)); (case side2 => exact (Kd.R_reads' HO_212000.out).2.1); rintro e w193 ⟨rfl, hb⟩; refine ⟨_, rfl, ?_⟩; have n0_ := A3_ (Kd.R_below (by exact ur3_ HO_200000.out) hb); have n1_ := A3_ (Kd.R_below (by exact ur3_ HO_204000.out) hb); have n2_ := A3_ (Kd.R_below (by exact ur3_ HO_212000.out) hb); have n3_ := A3_ (Kd.R_below (by exact ur3_ HO_234000.out) hb); have n10_ := A3_ (bt3_ (by repeat (first | (with_reducible first | exact HB.out | apply ba3_ | apply bn3_ | apply bd3_ | refine ubs3_ ?_ (by assumption)) | exact HB.out)) hb); clear HO_200000; clear HO_204000; clear HO_212000; clear HO_234000; clear HB; have HO_200000 := n0_; have HO_204000 := n1_; have HO_212000 := n2_; have HO_234000 := n3_; replace BK186 := A3_ (ukb3_ BK186.out hb); replace BK187 := A3_ (ukb3_ BK187.out hb); replace BK199 := A3_ (ukb3_ BK199.out hb); replace BK203 := A3_ (ukb3_ BK203.out hb); replace BK211 := A3_ (ukb3_ BK211.out hb); replace BK233 := A3_ (ukb3_ BK233.out hb); have HB := n10_; clear n0_ n1_ n2_ n3_ n10_; (try clear hb); (try clear hb2); (try clear hk); (try clear hi)))
                go_ret
                exact ⟨by first | rfl | (simp [errW_none, errW_some] <;> rfl) | (simp [*, errW_none, errW_some] <;> rfl), by repeat (first | (with_reducible first | exact HB.out | apply ba3_ | apply bn3_ | apply bd3_ | refine ubs3_ ?_ (by assumption)) | exact HB.out)⟩
          ·rw [if_neg c121] at H
           have c121b0 : (t222 == t220) = false := beq_eq_false_iff_ne.mpr c121
           have c121b1 : (t222 != t220) = true := bne_iff_ne.mpr c121
           obtain rfl := Option.some.inj H
           have hnb194 := NB211_186.out
           have hnc194 := NB186_211.out
           have hnb195 := NB211_187.out
           have hnc195 := NB187_211.out
           have hnb196 := NB211_199.out
           have hnc196 := NB199_211.out
           have hnb197 := NB211_203.out
           have hnc197 := NB203_211.out
           have hcz198_0 : wc.cell? ⟨gb211, 0, none⟩ = some (.slice Ao46 t207.length co46) := (blk_cell BK211.out 0).trans rfl
           have hfz198_0 := blk_frozen BK211.out 0
           go_wp2_with (first | ((with_reducible refine gate_callee (f := 11) rfl ?_); refine goesL_ (some 70) rfl rfl Try.func11 (by kernel_rfl) rfl #[.agg #[.slice Ao46 t207.length co46], .int .i64 1] rfl (by (try simp only [List.map_toArray, List.map_cons, List.map_nil]); first | done | rfl | (simp only [List.length_drop, List.length_take]; rfl)) ?_; (with_reducible refine (laws_markPuzzle.calls kj74 (fun k_ => some k_ = (.slice Ao46 t207.length co46 : Value).ownBlock) (.slice Ao46 t207.length co46) t207 1 t220 t221 w _ ?side1 ?side2 A110.out).mono ?_); (case side1 => repeat (first | (with_reducible first | exact HB.out | apply ba3_ | apply bn3_ | apply bd3_ | refine ubs3_ ?_ (by assumption)) | exact HB.out)); (case side2 => exact Kd.R_tight rfl HO_212000.out); rintro e w199 ⟨rfl, hy0, hb, hkp⟩; refine ⟨_, rfl, ?_⟩; have n0_ := A3_ (Kd.R_mono (ok' := fun k_ => some k_ ≠ (.slice Ao35 t218.length co35 : Value).ownBlock ∧ some k_ ≠ (.slice Ao46 t207.length co46 : Value).ownBlock) (Kd.R_keptB (HO_200000.out) hkp (fun k_ hk_ hs_ => (hk_.2) hs_)) (fun k_ hk_ => ⟨hk_.1.1, hk_.1.2⟩)); have n1_ := A3_ (Kd.R_mono (ok' := fun k_ => some k_ ≠ (.slice Ao29 t195.length co29 : Value).ownBlock ∧ some k_ ≠ (.slice Ao46 t207.length co46 : Value).ownBlock) (Kd.R_keptB (HO_204000.out) hkp (fun k_ hk_ hs_ => (hk_.2) hs_)) (fun k_ hk_ => ⟨hk_.1.1, hk_.1.2⟩)); have n2_ := A3_ (Kd.R_reok rfl hy0 (fun k_ e_ => HO_212000.out.1 k_ e_)); have n3_ := A3_ (blk_kept (by exact uk3_ BK186.out) hkp (fun hs_ => (fun e_ => (Kd.R_ne HO_212000.out BK186.out (by decide)) e_) hs_)); have n4_ := A3_ (blk_kept (by exact uk3_ BK187.out) hkp (fun hs_ => (fun e_ => (Kd.R_ne HO_212000.out BK187.out (by decide)) e_) hs_)); have n5_ := A3_ (blk_kept (by exact uk3_ BK199.out) hkp (fun hs_ => (fun e_ => (Kd.R_ne HO_212000.out BK199.out (by decide)) e_) hs_)); have n6_ := A3_ (blk_kept (by exact uk3_ BK203.out) hkp (fun hs_ => (fun e_ => (Kd.R_ne HO_212000.out BK203.out (by decide)) e_) hs_)); have n7_ := A3_ (blk_kept (by exact uk3_ BK211.out) hkp (fun hs_ => (fun e_ => (Kd.R_ne HO_212000.out BK211.out (by decide)) e_) hs_)); have n8_ := A3_ (hb); clear HO_200000; clear HO_204000; clear HO_212000; clear BK186; clear BK187; clear BK199; clear BK203; clear BK211; clear HB; have HO_200000 := n0_; have HO_204000 := n1_; have HO_212000 := n2_; have BK186 := n3_; have BK187 := n4_; have BK199 := n5_; have BK203 := n6_; have BK211 := n7_; have HB := n8_; clear n0_ n1_ n2_ n3_ n4_ n5_ n6_ n7_ n8_; (try clear hb); (try clear hkp); (try clear hy0); have hcz200_0 : w199.cell? ⟨gb211, 0, none⟩ = some (.slice Ao46 t207.length co46) := (blk_cell BK211.out 0).trans rfl; have hfz200_0 := blk_frozen BK211.out 0) | ((with_reducible refine gate_callee (f := 12) rfl ?_); refine goesL_ (some 73) rfl rfl Try.func12 (by kernel_rfl) rfl #[.agg #[.slice Ao46 t221.length co46], .int .i64 1] rfl (by (try simp only [List.map_toArray, List.map_cons, List.map_nil]); first | done | (rw [show t221.length = t207.length from (Kd.R_reads' HO_212000.out).1.symm] <;> rfl) | rfl | (simp only [List.length_drop, List.length_take]; rfl)) ?_; (with_reducible refine (laws_heldPuzzle.calls kj74 _ _ t221 1 t222 _ ?side1 ?side2 A111.out).mono ?_); (case side1 => exact uc3_ ((Kd.R_reads' HO_212000.out).2.2)); (case side2 => rw [show t221.length = t207.length from (Kd.R_reads' HO_212000.out).1.symm]; exact (Kd.R_reads' HO_212000.out).2.1); rintro e w201 ⟨rfl, hb⟩; refine ⟨_, rfl, ?_⟩; have n0_ := A3_ (Kd.R_below (by exact ur3_ HO_200000.out) hb); have n1_ := A3_ (Kd.R_below (by exact ur3_ HO_204000.out) hb); have n2_ := A3_ (Kd.R_below (by exact ur3_ HO_212000.out) hb); have n8_ := A3_ (bt3_ (by repeat (first | (with_reducible first | exact HB.out | apply ba3_ | apply bn3_ | apply bd3_ | refine ubs3_ ?_ (by assumption)) | exact HB.out)) hb); clear HO_200000; clear HO_204000; clear HO_212000; clear HB; have HO_200000 := n0_; have HO_204000 := n1_; have HO_212000 := n2_; replace BK186 := A3_ (ukb3_ BK186.out hb); replace BK187 := A3_ (ukb3_ BK187.out hb); replace BK199 := A3_ (ukb3_ BK199.out hb); replace BK203 := A3_ (ukb3_ BK203.out hb); replace BK211 := A3_ (ukb3_ BK211.out hb); have HB := n8_; clear n0_ n1_ n2_ n8_; (try clear hb); (try clear hb2); (try clear hk); (try clear hi)))
           go_ret
           exact ⟨by first | rfl | (simp [errW_none, errW_some] <;> rfl) | (simp [*, errW_none, errW_some] <;> rfl), by repeat (first | (with_reducible first | exact HB.out | apply ba3_ | apply bn3_ | apply bd3_ | refine ubs3_ ?_ (by assumption)) | exact HB.out)⟩
     ·replace c73 := Bool.eq_false_iff.mpr c73
      subst c73
      have H1 : (some false) = some r := by rw [if_neg (show ¬ (false = true) by decide)] at H; exact H
      clear H
      have H := H1
      clear H1
      obtain rfl := Option.some.inj H
      try go_wp2
      have n0_ := A3_ (rd3_ HO_200000.out)
      have n1_ := A3_ (rd3_ HO_204000.out)
      have n2_ := A3_ (rd3_ HO_212000.out)
      have n3_ := A3_ (kd3_ BK186.out)
      have n4_ := A3_ (kd3_ BK187.out)
      have n5_ := A3_ (kd3_ BK199.out)
      have n6_ := A3_ (kd3_ BK203.out)
      have n7_ := A3_ (kd3_ BK211.out)
      have n8_ := A3_ (bd3_ HB.out)
      clear HO_200000
      clear HO_204000
      clear HO_212000
      clear BK186
      clear BK187
      clear BK199
      clear BK203
      clear BK211
      clear HB
      have HO_200000 := n0_
      have HO_204000 := n1_
      have HO_212000 := n2_
      have BK186 := n3_
      have BK187 := n4_
      have BK199 := n5_
      have BK203 := n6_
      have BK211 := n7_
      have HB := n8_
      clear n0_ n1_ n2_ n3_ n4_ n5_ n6_ n7_ n8_
      refine start_ (n := 5) (S := fun w' => w'.cell? ⟨gb203, 0, none⟩ = some (.slice Ao35 t200.length co35) ∧ w'.cell? ⟨gb186, 0, none⟩ = some (.slice A0_0 l0_0.length c0_0)) (ds := []) #[false, false, false, false, false] (by kernel_rfl) rfl rfl ⟨(blk_cell BK203.out 0).trans rfl, (blk_cell BK186.out 0).trans rfl⟩ (fun hHeld => ?_)
      generalize wc.drew = w202 at HO_200000 HO_204000 HO_212000 BK186 BK187 BK199 BK203 BK211 HB hHeld ⊢
      refine take_ (i := 0) (N := some 47) (v := ?_) (a' := ?_) #[true, false, false, false, false] rfl rfl (by kernel_rfl) (fun _ _ _ h => h) (Or.inl ⟨by rfl, ?_⟩) hHeld ?_ ?_
      rotate_left
      ·rintro w' ⟨s0, s1⟩
       go_simp
       with_reducible rfl
      rotate_left
      ·simp only [Act.put, us3_, ut3_, uv3_, i64_w, i32_w]
       rfl
      refine take_ (i := 1) (N := some 48) (v := ?_) (a' := ?_) #[true, true, false, false, false] rfl rfl (by kernel_rfl) (fun _ _ _ h => h) (Or.inl ⟨by rfl, ?_⟩) hHeld ?_ ?_
      rotate_left
      ·rintro w' ⟨s0, s1⟩
       go_simp
       with_reducible rfl
      rotate_left
      ·simp only [Act.put, us3_, ut3_, uv3_, i64_w, i32_w]
       rfl
      refine one_ (i := 2) (N := some 49) #[true, true, true, false, false] rfl rfl (by kernel_rfl) (by decide) (fun K hK => ?_)
      refine goes_ Try.func7 (by kernel_rfl) rfl #[.agg #[.slice A0_0 l0_0.length c0_0]] (by rfl) rfl rfl (by (try simp only [List.map_toArray, List.map_cons, List.map_nil]); first | done | rfl | (simp only [List.length_drop, List.length_take]; rfl)) ?_
      with_reducible refine (laws_toPuzzle.calls kj15 _ _ l0_0 t213 _ ?side1 ?side2 A71.out).mono ?_
      (case side1 => repeat (first | exact (Kd.C_below HR0_0.out HB.out) | (with_reducible refine Kd.C_alloc ?_ _) | (with_reducible refine Kd.C_drewN ?_ _) | (with_reducible refine Kd.C_drew ?_)))
      (case side2 => exact HC0_0.out)
      rintro e w203 ⟨v214, rfl, ho0, hb⟩
      refine ⟨_, rfl, ?_⟩
      have n0_ := A3_ (re3_ (by exact ur3_ HO_200000.out) (Kd.R_base ho0) hb)
      have n1_ := A3_ (re3_ (by exact ur3_ HO_204000.out) (Kd.R_base ho0) hb)
      have n2_ := A3_ (re3_ (by exact ur3_ HO_212000.out) (Kd.R_base ho0) hb)
      have n3_ := A3_ (Kd.R_lower (Kd.R_new' (Kd.R_new' (Kd.R_new' ho0 (Kd.R_lt (by exact ur3_ HO_200000.out))) (Kd.R_lt (by exact ur3_ HO_204000.out))) (Kd.R_lt (by exact ur3_ HO_212000.out))) (below_size (by repeat (first | (with_reducible first | exact HB.out | apply ba3_ | apply bn3_ | apply bd3_ | refine ubs3_ ?_ (by assumption)) | exact HB.out))))
      have n9_ := A3_ (bt3_ (by repeat (first | (with_reducible first | exact HB.out | apply ba3_ | apply bn3_ | apply bd3_ | refine ubs3_ ?_ (by assumption)) | exact HB.out)) hb)
      clear HO_200000
      clear HO_204000
      clear HO_212000
      clear HB
      have HO_200000 := n0_
      have HO_204000 := n1_
      have HO_212000 := n2_
      have HO215 := n3_
      replace BK186 := A3_ (ukb3_ BK186.out hb)
      replace BK187 := A3_ (ukb3_ BK187.out hb)
      replace BK199 := A3_ (ukb3_ BK199.out hb)
      replace BK203 := A3_ (ukb3_ BK203.out hb)
      replace BK211 := A3_ (ukb3_ BK211.out hb)
      have HB := n9_
      clear n0_ n1_ n2_ n3_ n9_
      (try clear hb)
      (try clear hb2)
      (try clear hk)
      (try clear hi)
      (try clear ho0)
      obtain ⟨Ao204, co204, eo204⟩ := Kd.R_slice HO215.out
      (first | subst eo204 | (injection eo204 with f1_ f2_ f3_; have f4_ := f1_.symm; have f5_ := f3_.symm; clear f1_ f2_ f3_; subst f4_; subst f5_))
      refine hK.out _ _ ⟨(blk_cell BK203.out 0).trans rfl, (blk_cell BK186.out 0).trans rfl⟩ (fun hHeld => ?_)
      clear hK K
      refine norm_ (a' := ?_) ?_ ?_
      rotate_left
      ·show Act.put _ (some 49) _ = _
       simp only [Act.put, us3_, ut3_, uv3_, i64_w, i32_w]
       rfl
      refine one_ (i := 3) (N := some 50) #[true, true, true, true, false] rfl rfl (by kernel_rfl) (by decide) (fun K hK => ?_)
      refine goes_ Try.func10 (by kernel_rfl) rfl #[.agg #[.slice Ao35 t200.length co35], .agg #[.slice Ao204 t213.length co204]] (by rfl) rfl rfl (by (try simp only [List.map_toArray, List.map_cons, List.map_nil]); first | done | rfl | (simp only [List.length_drop, List.length_take]; rfl)) ?_
      with_reducible refine (laws_eqPuzzle.calls kj15 _ _ t200 _ _ t213 false _ ?side1 ?side2 ?side3 ?side4 A72.out).mono ?_
      (case side1 => repeat (first | exact (Kd.R_reads' HO_204000.out).2.2 | (with_reducible refine Kd.C_alloc ?_ _) | (with_reducible refine Kd.C_drewN ?_ _) | (with_reducible refine Kd.C_drew ?_)))
      (case side2 => exact (Kd.R_reads' HO_204000.out).2.1)
      (case side3 => repeat (first | exact (Kd.R_reads' HO215.out).2.2 | (with_reducible refine Kd.C_alloc ?_ _) | (with_reducible refine Kd.C_drewN ?_ _) | (with_reducible refine Kd.C_drew ?_)))
      (case side4 => exact (Kd.R_reads' HO215.out).2.1)
      rintro e w205 ⟨rfl, hb⟩
      refine ⟨_, rfl, ?_⟩
      have n0_ := A3_ (Kd.R_below (by exact ur3_ HO_200000.out) hb)
      have n1_ := A3_ (Kd.R_below (by exact ur3_ HO_204000.out) hb)
      have n2_ := A3_ (Kd.R_below (by exact ur3_ HO_212000.out) hb)
      have n3_ := A3_ (Kd.R_below (by exact ur3_ HO215.out) hb)
      have n9_ := A3_ (bt3_ (by repeat (first | (with_reducible first | exact HB.out | apply ba3_ | apply bn3_ | apply bd3_ | refine ubs3_ ?_ (by assumption)) | exact HB.out)) hb)
      clear HO_200000
      clear HO_204000
      clear HO_212000
      clear HO215
      clear HB
      have HO_200000 := n0_
      have HO_204000 := n1_
      have HO_212000 := n2_
      have HO215 := n3_
      replace BK186 := A3_ (ukb3_ BK186.out hb)
      replace BK187 := A3_ (ukb3_ BK187.out hb)
      replace BK199 := A3_ (ukb3_ BK199.out hb)
      replace BK203 := A3_ (ukb3_ BK203.out hb)
      replace BK211 := A3_ (ukb3_ BK211.out hb)
      have HB := n9_
      clear n0_ n1_ n2_ n3_ n9_
      (try clear hb)
      (try clear hb2)
      (try clear hk)
      (try clear hi)
      refine hK.out _ _ ⟨(blk_cell BK203.out 0).trans rfl, (blk_cell BK186.out 0).trans rfl⟩ (fun hHeld => ?_)
      clear hK K
      refine norm_ (a' := ?_) ?_ ?_
      rotate_left
      ·show Act.put _ (some 50) _ = _
       simp only [Act.put, us3_, ut3_, uv3_, i64_w, i32_w]
       rfl
      refine pure_ (i := 4) (N := some 51) (v := ?_) (a' := ?_) #[true, true, true, true, true] rfl rfl (by kernel_rfl) (fun _ _ _ h => h) (Or.inl ⟨by rfl, ?_⟩) ?_ ?_
      rotate_left
      ·intro w'
       go_simp
       with_reducible rfl
      rotate_left
      ·simp only [Act.put, us3_, ut3_, uv3_, i64_w, i32_w]
       rfl
      refine done_ (by kernel_rfl) ?_
      try go_wp2
      go_ret
      exact ⟨by first | rfl | (simp [errW_none, errW_some] <;> rfl) | (simp [*, errW_none, errW_some] <;> rfl), by repeat (first | (with_reducible first | exact HB.out | apply ba3_ | apply bn3_ | apply bd3_ | refine ubs3_ ?_ (by assumption)) | exact HB.out)⟩

/-- THE ONE PURE STATEMENT of laws_FnExactAddClue. -/
def laws_FnExactAddClue.Pure : Prop := ∀ (l0_0 : List (S26)) (a1_0 : Int) (a1_1 : Int) (a1_2 : Int), (l0_0.length ≤ maxLen ∧ ∀ x0_, x0_ ∈ l0_0 → ((Lit.int .i64 x0_.f0).wf = true ∧ ((Lit.int .i64 x0_.f1).wf = true ∧ (Lit.int .i64 x0_.f2).wf = true))) → (Lit.int .i64 a1_0).wf = true → (Lit.int .i64 a1_1).wf = true → (Lit.int .i64 a1_2).wf = true → ∃ k, laws_FnExactAddClue.f k l0_0 a1_0 a1_1 a1_2 = some true

end Go.Proofs.Ytmcingnpbececaa.P
