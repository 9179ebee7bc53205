/-
  No cell of these rows narrows 'for every input' (looked for: loops, veiled, ifaces, maps, wideKeys, modest, calm, conditions, laid).
  DERIVED. THE GIVEN ROWS OF THIS SEAT. 6 by the template 'for every input the law returns true; each argument reads behind the call as it read before'; 0 by the template 'total and deterministic' (their statements: YtmdpiagpkocheaaTotals.lean).
  GIVEN WITH THE SEED: the statements are not yours to turn. If you find one false, say at which input.
  Laid BY PROGRAM, IN A SANDBOX (cutbox-rows.mjs): the forced cells as the released guide's own fill.sh prints them over the translation b2436c627138c82a… (all of the seat's roots in one cut). By AI agents, Wed Nov 11 2026. No macro, syntax, notation, axiom, sorry.
-/
import Derived.Test.YtmdpiagpkocheaaChecked
import GoSem.Claim
import GoSem.ClaimJoined
import GoSem.ClaimMapViews
import Derived.JoinedTies
import Derived.KernelRfl
namespace Go.Proofs.Ytmdpiagpkocheaa
/- THE CELL 'sum', in the pinned program and in every row, IS THE sha256 OF THE DUMP (.gsa) THAT YtmdpiagpkocheaaProg.lean LOADS. Nothing in Lean hashes anything: it is a label: what it is worth is what the hold of that sum in a sandbox is worth. -/
noncomputable def Try.pinned : Pinned := { name := "ytmdpiagpkocheaa", sum := "b2436c627138c82ad554335c988f52cc210cf96a2affd17e8f531d2ba4ab7a89", checked := Try.checked }
namespace Rows
def none {H : Type} : Left H := { results := [], args := [] }

/-- 'laws.FnExactTurnParts': WHATEVER THE INPUT: true; the input reads as it did. -/
def fnExactTurnPartsSpec : ChangeSpec := { name := "fnExactTurnParts", fn := fun _ => fun
  | [d1, d2] => { results := [.lit (.bool true)], args := [d1, d2] }
  | _ => none }
def fnExactTurnPartsRow : OpenClaim := { program := "ytmdpiagpkocheaa", sum := "b2436c627138c82ad554335c988f52cc210cf96a2affd17e8f531d2ba4ab7a89", func := "loop.example/g01394/laws.FnExactTurnParts", spec := "fnExactTurnParts", plainKeys := false, apart := false }
def FnExactTurnPartsSaid : Prop := fnExactTurnPartsRow.holds Try.pinned (OpenSpec.ofChange fnExactTurnPartsSpec)

/-- ITS FALSE NEIGHBOUR: 'it returns false'. Refute it at one input. -/
def fnExactTurnPartsWrong : ChangeSpec := { name := "fnExactTurnParts", fn := fun _ => fun
  | [d1, d2] => { results := [.lit (.bool false)], args := [d1, d2] }
  | _ => none }
def FnExactTurnPartsWrongFalsely : Prop := fnExactTurnPartsRow.holds Try.pinned (OpenSpec.ofChange fnExactTurnPartsWrong)

/-- 'laws.FnExactCutPart': WHATEVER THE INPUT: true; the input reads as it did. -/
def fnExactCutPartSpec : ChangeSpec := { name := "fnExactCutPart", fn := fun _ => fun
  | [d1, d2, d3, d4] => { results := [.lit (.bool true)], args := [d1, d2, d3, d4] }
  | _ => none }
def fnExactCutPartRow : OpenClaim := { program := "ytmdpiagpkocheaa", sum := "b2436c627138c82ad554335c988f52cc210cf96a2affd17e8f531d2ba4ab7a89", func := "loop.example/g01394/laws.FnExactCutPart", spec := "fnExactCutPart", inPlace := ["slices.overlaps[int]"], plainKeys := false, apart := false }
def FnExactCutPartSaid : Prop := fnExactCutPartRow.holds Try.pinned (OpenSpec.ofChange fnExactCutPartSpec)

/-- ITS FALSE NEIGHBOUR: 'it returns false'. Refute it at one input. -/
def fnExactCutPartWrong : ChangeSpec := { name := "fnExactCutPart", fn := fun _ => fun
  | [d1, d2, d3, d4] => { results := [.lit (.bool false)], args := [d1, d2, d3, d4] }
  | _ => none }
def FnExactCutPartWrongFalsely : Prop := fnExactCutPartRow.holds Try.pinned (OpenSpec.ofChange fnExactCutPartWrong)

/-- 'laws.FnExactCountByTurns': WHATEVER THE INPUT: true; the input reads as it did. -/
def fnExactCountByTurnsSpec : ChangeSpec := { name := "fnExactCountByTurns", fn := fun _ => fun
  | [d1, d2] => { results := [.lit (.bool true)], args := [d1, d2] }
  | _ => none }
def fnExactCountByTurnsRow : OpenClaim := { program := "ytmdpiagpkocheaa", sum := "b2436c627138c82ad554335c988f52cc210cf96a2affd17e8f531d2ba4ab7a89", func := "loop.example/g01394/laws.FnExactCountByTurns", spec := "fnExactCountByTurns", plainKeys := false, apart := false }
def FnExactCountByTurnsSaid : Prop := fnExactCountByTurnsRow.holds Try.pinned (OpenSpec.ofChange fnExactCountByTurnsSpec)

/-- ITS FALSE NEIGHBOUR: 'it returns false'. Refute it at one input. -/
def fnExactCountByTurnsWrong : ChangeSpec := { name := "fnExactCountByTurns", fn := fun _ => fun
  | [d1, d2] => { results := [.lit (.bool false)], args := [d1, d2] }
  | _ => none }
def FnExactCountByTurnsWrongFalsely : Prop := fnExactCountByTurnsRow.holds Try.pinned (OpenSpec.ofChange fnExactCountByTurnsWrong)

/-- 'laws.FnExactFewestTurns': WHATEVER THE INPUT: true; the input reads as it did. -/
def fnExactFewestTurnsSpec : ChangeSpec := { name := "fnExactFewestTurns", fn := fun _ => fun
  | [d] => { results := [.lit (.bool true)], args := [d] }
  | _ => none }
def fnExactFewestTurnsRow : OpenClaim := { program := "ytmdpiagpkocheaa", sum := "b2436c627138c82ad554335c988f52cc210cf96a2affd17e8f531d2ba4ab7a89", func := "loop.example/g01394/laws.FnExactFewestTurns", spec := "fnExactFewestTurns", plainKeys := false, apart := false }
def FnExactFewestTurnsSaid : Prop := fnExactFewestTurnsRow.holds Try.pinned (OpenSpec.ofChange fnExactFewestTurnsSpec)

/-- ITS FALSE NEIGHBOUR: 'it returns false'. Refute it at one input. -/
def fnExactFewestTurnsWrong : ChangeSpec := { name := "fnExactFewestTurns", fn := fun _ => fun
  | [d] => { results := [.lit (.bool false)], args := [d] }
  | _ => none }
def FnExactFewestTurnsWrongFalsely : Prop := fnExactFewestTurnsRow.holds Try.pinned (OpenSpec.ofChange fnExactFewestTurnsWrong)

/-- 'laws.FnExactFarthestBinding': WHATEVER THE INPUT: true; the input reads as it did. -/
def fnExactFarthestBindingSpec : ChangeSpec := { name := "fnExactFarthestBinding", fn := fun _ => fun
  | [d] => { results := [.lit (.bool true)], args := [d] }
  | _ => none }
def fnExactFarthestBindingRow : OpenClaim := { program := "ytmdpiagpkocheaa", sum := "b2436c627138c82ad554335c988f52cc210cf96a2affd17e8f531d2ba4ab7a89", func := "loop.example/g01394/laws.FnExactFarthestBinding", spec := "fnExactFarthestBinding", plainKeys := false, apart := false }
def FnExactFarthestBindingSaid : Prop := fnExactFarthestBindingRow.holds Try.pinned (OpenSpec.ofChange fnExactFarthestBindingSpec)

/-- ITS FALSE NEIGHBOUR: 'it returns false'. Refute it at one input. -/
def fnExactFarthestBindingWrong : ChangeSpec := { name := "fnExactFarthestBinding", fn := fun _ => fun
  | [d] => { results := [.lit (.bool false)], args := [d] }
  | _ => none }
def FnExactFarthestBindingWrongFalsely : Prop := fnExactFarthestBindingRow.holds Try.pinned (OpenSpec.ofChange fnExactFarthestBindingWrong)

/-- 'laws.FnExactFirstTurns': WHATEVER THE INPUT: true; the input reads as it did. -/
def fnExactFirstTurnsSpec : ChangeSpec := { name := "fnExactFirstTurns", fn := fun _ => fun
  | [d] => { results := [.lit (.bool true)], args := [d] }
  | _ => none }
def fnExactFirstTurnsRow : OpenClaim := { program := "ytmdpiagpkocheaa", sum := "b2436c627138c82ad554335c988f52cc210cf96a2affd17e8f531d2ba4ab7a89", func := "loop.example/g01394/laws.FnExactFirstTurns", spec := "fnExactFirstTurns", plainKeys := false, apart := false }
def FnExactFirstTurnsSaid : Prop := fnExactFirstTurnsRow.holds Try.pinned (OpenSpec.ofChange fnExactFirstTurnsSpec)

/-- ITS FALSE NEIGHBOUR: 'it returns false'. Refute it at one input. -/
def fnExactFirstTurnsWrong : ChangeSpec := { name := "fnExactFirstTurns", fn := fun _ => fun
  | [d] => { results := [.lit (.bool false)], args := [d] }
  | _ => none }
def FnExactFirstTurnsWrongFalsely : Prop := fnExactFirstTurnsRow.holds Try.pinned (OpenSpec.ofChange fnExactFirstTurnsWrong)

/- THE SECOND FORM. 'bulk': how many values and letters a reading holds, each counted each time it is reached (what is shared counts as often as it is met; a slice's spare places count too). A statement '..UptoSaid' is the law's where the arguments, and the package variables that the reading takes, are together of bulk at most 1048576: NARROWER than '..Said'. Prove '..Said' where nothing that the law and all that it calls make is longer than what came in: it says more and counts as full. Else prove '..UptoSaid'. A law counts once. -/
mutual
def uptoBulk {H : Type} : DataW H → Nat
  | .lit (.string bytes) => bytes.length + 1
  | .lit _ => 1
  | .nil => 1
  | .ptr d => uptoBulk d + 1
  | .slice elems spare => uptoBulkAll elems + uptoBulkAll spare + 1
  | .agg parts => uptoBulkAll parts + 1
  | .iface _ d => uptoBulk d + 1
  | .map entries => uptoBulkEntries entries + 1
  | .held _ => 1
def uptoBulkAll {H : Type} : List (DataW H) → Nat
  | [] => 0
  | d :: r => uptoBulk d + uptoBulkAll r
def uptoBulkEntries {H : Type} : List (Lit × DataW H) → Nat
  | [] => 0
  | x :: r => uptoBulkEntry x + uptoBulkEntries r
def uptoBulkEntry {H : Type} : Lit × DataW H → Nat
  | (.string bytes, d) => bytes.length + uptoBulk d + 1
  | (_, d) => uptoBulk d + 1
 end
def uptoSmall : (H : Type) → List (DataW H) → Bool := fun _ ds => decide (uptoBulkAll ds ≤ 1048576)
def OpenSpec.upto (s : _root_.Go.ChangeSpec) : _root_.Go.OpenSpec := { _root_.Go.OpenSpec.ofChange s with cond := some uptoSmall }

/-- 'laws.FnExactTurnParts', WHERE WHAT IT READS IS OF BULK AT MOST 1048576: true; the input reads as it did. -/
def fnExactTurnPartsUptoRow : OpenClaim := { program := "ytmdpiagpkocheaa", sum := "b2436c627138c82ad554335c988f52cc210cf96a2affd17e8f531d2ba4ab7a89", func := "loop.example/g01394/laws.FnExactTurnParts", spec := "fnExactTurnParts", plainKeys := false, apart := false, narrowed := true }
def FnExactTurnPartsUptoSaid : Prop := fnExactTurnPartsUptoRow.holds Try.pinned (OpenSpec.upto fnExactTurnPartsSpec)

/-- 'laws.FnExactCutPart', WHERE WHAT IT READS IS OF BULK AT MOST 1048576: true; the input reads as it did. -/
def fnExactCutPartUptoRow : OpenClaim := { program := "ytmdpiagpkocheaa", sum := "b2436c627138c82ad554335c988f52cc210cf96a2affd17e8f531d2ba4ab7a89", func := "loop.example/g01394/laws.FnExactCutPart", spec := "fnExactCutPart", inPlace := ["slices.overlaps[int]"], plainKeys := false, apart := false, narrowed := true }
def FnExactCutPartUptoSaid : Prop := fnExactCutPartUptoRow.holds Try.pinned (OpenSpec.upto fnExactCutPartSpec)

/-- 'laws.FnExactCountByTurns', WHERE WHAT IT READS IS OF BULK AT MOST 1048576: true; the input reads as it did. -/
def fnExactCountByTurnsUptoRow : OpenClaim := { program := "ytmdpiagpkocheaa", sum := "b2436c627138c82ad554335c988f52cc210cf96a2affd17e8f531d2ba4ab7a89", func := "loop.example/g01394/laws.FnExactCountByTurns", spec := "fnExactCountByTurns", plainKeys := false, apart := false, narrowed := true }
def FnExactCountByTurnsUptoSaid : Prop := fnExactCountByTurnsUptoRow.holds Try.pinned (OpenSpec.upto fnExactCountByTurnsSpec)

/-- 'laws.FnExactFewestTurns', WHERE WHAT IT READS IS OF BULK AT MOST 1048576: true; the input reads as it did. -/
def fnExactFewestTurnsUptoRow : OpenClaim := { program := "ytmdpiagpkocheaa", sum := "b2436c627138c82ad554335c988f52cc210cf96a2affd17e8f531d2ba4ab7a89", func := "loop.example/g01394/laws.FnExactFewestTurns", spec := "fnExactFewestTurns", plainKeys := false, apart := false, narrowed := true }
def FnExactFewestTurnsUptoSaid : Prop := fnExactFewestTurnsUptoRow.holds Try.pinned (OpenSpec.upto fnExactFewestTurnsSpec)

/-- 'laws.FnExactFarthestBinding', WHERE WHAT IT READS IS OF BULK AT MOST 1048576: true; the input reads as it did. -/
def fnExactFarthestBindingUptoRow : OpenClaim := { program := "ytmdpiagpkocheaa", sum := "b2436c627138c82ad554335c988f52cc210cf96a2affd17e8f531d2ba4ab7a89", func := "loop.example/g01394/laws.FnExactFarthestBinding", spec := "fnExactFarthestBinding", plainKeys := false, apart := false, narrowed := true }
def FnExactFarthestBindingUptoSaid : Prop := fnExactFarthestBindingUptoRow.holds Try.pinned (OpenSpec.upto fnExactFarthestBindingSpec)

/-- 'laws.FnExactFirstTurns', WHERE WHAT IT READS IS OF BULK AT MOST 1048576: true; the input reads as it did. -/
def fnExactFirstTurnsUptoRow : OpenClaim := { program := "ytmdpiagpkocheaa", sum := "b2436c627138c82ad554335c988f52cc210cf96a2affd17e8f531d2ba4ab7a89", func := "loop.example/g01394/laws.FnExactFirstTurns", spec := "fnExactFirstTurns", plainKeys := false, apart := false, narrowed := true }
def FnExactFirstTurnsUptoSaid : Prop := fnExactFirstTurnsUptoRow.holds Try.pinned (OpenSpec.upto fnExactFirstTurnsSpec)

end Rows
end Go.Proofs.Ytmdpiagpkocheaa
