/-
  No cell of these rows narrows 'for every input' (looked for: loops, veiled, ifaces, maps, wideKeys, modest, calm, conditions, laid).
  DERIVED. THE GIVEN ROWS OF THIS SEAT. 8 by the template 'for every input the law returns true; each argument reads behind the call as it read before'; 0 by the template 'total and deterministic' (their statements: YtmlhhlmfhkhcnaaTotals.lean).
  GIVEN WITH THE SEED: the statements are not yours to turn. If you find one false, say at which input.
  Laid BY PROGRAM, IN A SANDBOX (cutbox-rows.mjs): the forced cells as the released guide's own fill.sh prints them over the translation 0b85ea4e18f8f5ab… (all of the seat's roots in one cut). By AI agents, Wed Nov 11 2026. No macro, syntax, notation, axiom, sorry.
-/
import Derived.Test.YtmlhhlmfhkhcnaaChecked
import GoSem.Claim
import GoSem.ClaimJoined
import GoSem.ClaimMapViews
import Derived.JoinedTies
import Derived.KernelRfl
namespace Go.Proofs.Ytmlhhlmfhkhcnaa
/- THE CELL 'sum', in the pinned program and in every row, IS THE sha256 OF THE DUMP (.gsa) THAT YtmlhhlmfhkhcnaaProg.lean LOADS. Nothing in Lean hashes anything: it is a label: what it is worth is what the hold of that sum in a sandbox is worth. -/
noncomputable def Try.pinned : Pinned := { name := "ytmlhhlmfhkhcnaa", sum := "0b85ea4e18f8f5abd2432791c3328a739259e99d8cce9f6e0c761968f483733b", checked := Try.checked }
namespace Rows
def none {H : Type} : Left H := { results := [], args := [] }

/-- 'laws.FnExactRangesOfPages': WHATEVER THE INPUT: true; the input reads as it did. -/
def fnExactRangesOfPagesSpec : ChangeSpec := { name := "fnExactRangesOfPages", fn := fun _ => fun
  | [d] => { results := [.lit (.bool true)], args := [d] }
  | _ => none }
def fnExactRangesOfPagesRow : OpenClaim := { program := "ytmlhhlmfhkhcnaa", sum := "0b85ea4e18f8f5abd2432791c3328a739259e99d8cce9f6e0c761968f483733b", func := "loop.example/g01394/laws.FnExactRangesOfPages", spec := "fnExactRangesOfPages", apart := false }
def FnExactRangesOfPagesSaid : Prop := fnExactRangesOfPagesRow.holds Try.pinned (OpenSpec.ofChange fnExactRangesOfPagesSpec)

/-- ITS FALSE NEIGHBOUR: 'it returns false'. Refute it at one input. -/
def fnExactRangesOfPagesWrong : ChangeSpec := { name := "fnExactRangesOfPages", fn := fun _ => fun
  | [d] => { results := [.lit (.bool false)], args := [d] }
  | _ => none }
def FnExactRangesOfPagesWrongFalsely : Prop := fnExactRangesOfPagesRow.holds Try.pinned (OpenSpec.ofChange fnExactRangesOfPagesWrong)

/-- 'laws.FnExactMergeRanges': WHATEVER THE INPUT: true; the input reads as it did. -/
def fnExactMergeRangesSpec : ChangeSpec := { name := "fnExactMergeRanges", fn := fun _ => fun
  | [d] => { results := [.lit (.bool true)], args := [d] }
  | _ => none }
def fnExactMergeRangesRow : OpenClaim := { program := "ytmlhhlmfhkhcnaa", sum := "0b85ea4e18f8f5abd2432791c3328a739259e99d8cce9f6e0c761968f483733b", func := "loop.example/g01394/laws.FnExactMergeRanges", spec := "fnExactMergeRanges", unfollowed := true, recurses := true, apart := false }
def FnExactMergeRangesSaid : Prop := fnExactMergeRangesRow.holds Try.pinned (OpenSpec.ofChange fnExactMergeRangesSpec)

/-- ITS FALSE NEIGHBOUR: 'it returns false'. Refute it at one input. -/
def fnExactMergeRangesWrong : ChangeSpec := { name := "fnExactMergeRanges", fn := fun _ => fun
  | [d] => { results := [.lit (.bool false)], args := [d] }
  | _ => none }
def FnExactMergeRangesWrongFalsely : Prop := fnExactMergeRangesRow.holds Try.pinned (OpenSpec.ofChange fnExactMergeRangesWrong)

/-- 'laws.FnExactCommonRanges': WHATEVER THE INPUT: true; the input reads as it did. -/
def fnExactCommonRangesSpec : ChangeSpec := { name := "fnExactCommonRanges", fn := fun _ => fun
  | [d1, d2] => { results := [.lit (.bool true)], args := [d1, d2] }
  | _ => none }
def fnExactCommonRangesRow : OpenClaim := { program := "ytmlhhlmfhkhcnaa", sum := "0b85ea4e18f8f5abd2432791c3328a739259e99d8cce9f6e0c761968f483733b", func := "loop.example/g01394/laws.FnExactCommonRanges", spec := "fnExactCommonRanges", unfollowed := true, recurses := true, apart := false }
def FnExactCommonRangesSaid : Prop := fnExactCommonRangesRow.holds Try.pinned (OpenSpec.ofChange fnExactCommonRangesSpec)

/-- ITS FALSE NEIGHBOUR: 'it returns false'. Refute it at one input. -/
def fnExactCommonRangesWrong : ChangeSpec := { name := "fnExactCommonRanges", fn := fun _ => fun
  | [d1, d2] => { results := [.lit (.bool false)], args := [d1, d2] }
  | _ => none }
def FnExactCommonRangesWrongFalsely : Prop := fnExactCommonRangesRow.holds Try.pinned (OpenSpec.ofChange fnExactCommonRangesWrong)

/-- 'laws.FnExactUnionRanges': WHATEVER THE INPUT: true; the input reads as it did. -/
def fnExactUnionRangesSpec : ChangeSpec := { name := "fnExactUnionRanges", fn := fun _ => fun
  | [d1, d2] => { results := [.lit (.bool true)], args := [d1, d2] }
  | _ => none }
def fnExactUnionRangesRow : OpenClaim := { program := "ytmlhhlmfhkhcnaa", sum := "0b85ea4e18f8f5abd2432791c3328a739259e99d8cce9f6e0c761968f483733b", func := "loop.example/g01394/laws.FnExactUnionRanges", spec := "fnExactUnionRanges", unfollowed := true, recurses := true, apart := false }
def FnExactUnionRangesSaid : Prop := fnExactUnionRangesRow.holds Try.pinned (OpenSpec.ofChange fnExactUnionRangesSpec)

/-- ITS FALSE NEIGHBOUR: 'it returns false'. Refute it at one input. -/
def fnExactUnionRangesWrong : ChangeSpec := { name := "fnExactUnionRanges", fn := fun _ => fun
  | [d1, d2] => { results := [.lit (.bool false)], args := [d1, d2] }
  | _ => none }
def FnExactUnionRangesWrongFalsely : Prop := fnExactUnionRangesRow.holds Try.pinned (OpenSpec.ofChange fnExactUnionRangesWrong)

/-- 'laws.FnExactWithoutRanges': WHATEVER THE INPUT: true; the input reads as it did. -/
def fnExactWithoutRangesSpec : ChangeSpec := { name := "fnExactWithoutRanges", fn := fun _ => fun
  | [d1, d2] => { results := [.lit (.bool true)], args := [d1, d2] }
  | _ => none }
def fnExactWithoutRangesRow : OpenClaim := { program := "ytmlhhlmfhkhcnaa", sum := "0b85ea4e18f8f5abd2432791c3328a739259e99d8cce9f6e0c761968f483733b", func := "loop.example/g01394/laws.FnExactWithoutRanges", spec := "fnExactWithoutRanges", unfollowed := true, recurses := true, apart := false }
def FnExactWithoutRangesSaid : Prop := fnExactWithoutRangesRow.holds Try.pinned (OpenSpec.ofChange fnExactWithoutRangesSpec)

/-- ITS FALSE NEIGHBOUR: 'it returns false'. Refute it at one input. -/
def fnExactWithoutRangesWrong : ChangeSpec := { name := "fnExactWithoutRanges", fn := fun _ => fun
  | [d1, d2] => { results := [.lit (.bool false)], args := [d1, d2] }
  | _ => none }
def FnExactWithoutRangesWrongFalsely : Prop := fnExactWithoutRangesRow.holds Try.pinned (OpenSpec.ofChange fnExactWithoutRangesWrong)

/-- 'laws.FnExactTakePages': WHATEVER THE INPUT: true; the input reads as it did. -/
def fnExactTakePagesSpec : ChangeSpec := { name := "fnExactTakePages", fn := fun _ => fun
  | [d1, d2, d3] => { results := [.lit (.bool true)], args := [d1, d2, d3] }
  | _ => none }
def fnExactTakePagesRow : OpenClaim := { program := "ytmlhhlmfhkhcnaa", sum := "0b85ea4e18f8f5abd2432791c3328a739259e99d8cce9f6e0c761968f483733b", func := "loop.example/g01394/laws.FnExactTakePages", spec := "fnExactTakePages", apart := false }
def FnExactTakePagesSaid : Prop := fnExactTakePagesRow.holds Try.pinned (OpenSpec.ofChange fnExactTakePagesSpec)

/-- ITS FALSE NEIGHBOUR: 'it returns false'. Refute it at one input. -/
def fnExactTakePagesWrong : ChangeSpec := { name := "fnExactTakePages", fn := fun _ => fun
  | [d1, d2, d3] => { results := [.lit (.bool false)], args := [d1, d2, d3] }
  | _ => none }
def FnExactTakePagesWrongFalsely : Prop := fnExactTakePagesRow.holds Try.pinned (OpenSpec.ofChange fnExactTakePagesWrong)

/-- 'laws.FnExactPutPages': WHATEVER THE INPUT: true; the input reads as it did. -/
def fnExactPutPagesSpec : ChangeSpec := { name := "fnExactPutPages", fn := fun _ => fun
  | [d1, d2, d3] => { results := [.lit (.bool true)], args := [d1, d2, d3] }
  | _ => none }
def fnExactPutPagesRow : OpenClaim := { program := "ytmlhhlmfhkhcnaa", sum := "0b85ea4e18f8f5abd2432791c3328a739259e99d8cce9f6e0c761968f483733b", func := "loop.example/g01394/laws.FnExactPutPages", spec := "fnExactPutPages", apart := false }
def FnExactPutPagesSaid : Prop := fnExactPutPagesRow.holds Try.pinned (OpenSpec.ofChange fnExactPutPagesSpec)

/-- ITS FALSE NEIGHBOUR: 'it returns false'. Refute it at one input. -/
def fnExactPutPagesWrong : ChangeSpec := { name := "fnExactPutPages", fn := fun _ => fun
  | [d1, d2, d3] => { results := [.lit (.bool false)], args := [d1, d2, d3] }
  | _ => none }
def FnExactPutPagesWrongFalsely : Prop := fnExactPutPagesRow.holds Try.pinned (OpenSpec.ofChange fnExactPutPagesWrong)

/-- 'laws.FnExactIsDesk': WHATEVER THE INPUT: true; the input reads as it did. -/
def fnExactIsDeskSpec : ChangeSpec := { name := "fnExactIsDesk", fn := fun _ => fun
  | [d] => { results := [.lit (.bool true)], args := [d] }
  | _ => none }
def fnExactIsDeskRow : OpenClaim := { program := "ytmlhhlmfhkhcnaa", sum := "0b85ea4e18f8f5abd2432791c3328a739259e99d8cce9f6e0c761968f483733b", func := "loop.example/g01394/laws.FnExactIsDesk", spec := "fnExactIsDesk", apart := false }
def FnExactIsDeskSaid : Prop := fnExactIsDeskRow.holds Try.pinned (OpenSpec.ofChange fnExactIsDeskSpec)

/-- ITS FALSE NEIGHBOUR: 'it returns false'. Refute it at one input. -/
def fnExactIsDeskWrong : ChangeSpec := { name := "fnExactIsDesk", fn := fun _ => fun
  | [d] => { results := [.lit (.bool false)], args := [d] }
  | _ => none }
def FnExactIsDeskWrongFalsely : Prop := fnExactIsDeskRow.holds Try.pinned (OpenSpec.ofChange fnExactIsDeskWrong)

/- THE SECOND FORM. 'bulk': how many values and letters a reading holds, each counted each time it is reached (what is shared counts as often as it is met; a slice's spare places count too). A statement '..UptoSaid' is the law's where the arguments, and the package variables that the reading takes, are together of bulk at most 1048576: NARROWER than '..Said'. Prove '..Said' where nothing that the law and all that it calls make is longer than what came in: it says more and counts as full. Else prove '..UptoSaid'. A law counts once. -/
mutual
def uptoBulk {H : Type} : DataW H → Nat
  | .lit (.string bytes) => bytes.length + 1
  | .lit _ => 1
  | .nil => 1
  | .ptr d => uptoBulk d + 1
  | .slice elems spare => uptoBulkAll elems + uptoBulkAll spare + 1
  | .agg parts => uptoBulkAll parts + 1
  | .iface _ d => uptoBulk d + 1
  | .map entries => uptoBulkEntries entries + 1
  | .held _ => 1
def uptoBulkAll {H : Type} : List (DataW H) → Nat
  | [] => 0
  | d :: r => uptoBulk d + uptoBulkAll r
def uptoBulkEntries {H : Type} : List (Lit × DataW H) → Nat
  | [] => 0
  | x :: r => uptoBulkEntry x + uptoBulkEntries r
def uptoBulkEntry {H : Type} : Lit × DataW H → Nat
  | (.string bytes, d) => bytes.length + uptoBulk d + 1
  | (_, d) => uptoBulk d + 1
 end
def uptoSmall : (H : Type) → List (DataW H) → Bool := fun _ ds => decide (uptoBulkAll ds ≤ 1048576)
def OpenSpec.upto (s : _root_.Go.ChangeSpec) : _root_.Go.OpenSpec := { _root_.Go.OpenSpec.ofChange s with cond := some uptoSmall }

/-- 'laws.FnExactRangesOfPages', WHERE WHAT IT READS IS OF BULK AT MOST 1048576: true; the input reads as it did. -/
def fnExactRangesOfPagesUptoRow : OpenClaim := { program := "ytmlhhlmfhkhcnaa", sum := "0b85ea4e18f8f5abd2432791c3328a739259e99d8cce9f6e0c761968f483733b", func := "loop.example/g01394/laws.FnExactRangesOfPages", spec := "fnExactRangesOfPages", apart := false, narrowed := true }
def FnExactRangesOfPagesUptoSaid : Prop := fnExactRangesOfPagesUptoRow.holds Try.pinned (OpenSpec.upto fnExactRangesOfPagesSpec)

/-- 'laws.FnExactMergeRanges', WHERE WHAT IT READS IS OF BULK AT MOST 1048576: true; the input reads as it did. -/
def fnExactMergeRangesUptoRow : OpenClaim := { program := "ytmlhhlmfhkhcnaa", sum := "0b85ea4e18f8f5abd2432791c3328a739259e99d8cce9f6e0c761968f483733b", func := "loop.example/g01394/laws.FnExactMergeRanges", spec := "fnExactMergeRanges", unfollowed := true, recurses := true, apart := false, narrowed := true }
def FnExactMergeRangesUptoSaid : Prop := fnExactMergeRangesUptoRow.holds Try.pinned (OpenSpec.upto fnExactMergeRangesSpec)

/-- 'laws.FnExactCommonRanges', WHERE WHAT IT READS IS OF BULK AT MOST 1048576: true; the input reads as it did. -/
def fnExactCommonRangesUptoRow : OpenClaim := { program := "ytmlhhlmfhkhcnaa", sum := "0b85ea4e18f8f5abd2432791c3328a739259e99d8cce9f6e0c761968f483733b", func := "loop.example/g01394/laws.FnExactCommonRanges", spec := "fnExactCommonRanges", unfollowed := true, recurses := true, apart := false, narrowed := true }
def FnExactCommonRangesUptoSaid : Prop := fnExactCommonRangesUptoRow.holds Try.pinned (OpenSpec.upto fnExactCommonRangesSpec)

/-- 'laws.FnExactUnionRanges', WHERE WHAT IT READS IS OF BULK AT MOST 1048576: true; the input reads as it did. -/
def fnExactUnionRangesUptoRow : OpenClaim := { program := "ytmlhhlmfhkhcnaa", sum := "0b85ea4e18f8f5abd2432791c3328a739259e99d8cce9f6e0c761968f483733b", func := "loop.example/g01394/laws.FnExactUnionRanges", spec := "fnExactUnionRanges", unfollowed := true, recurses := true, apart := false, narrowed := true }
def FnExactUnionRangesUptoSaid : Prop := fnExactUnionRangesUptoRow.holds Try.pinned (OpenSpec.upto fnExactUnionRangesSpec)

/-- 'laws.FnExactWithoutRanges', WHERE WHAT IT READS IS OF BULK AT MOST 1048576: true; the input reads as it did. -/
def fnExactWithoutRangesUptoRow : OpenClaim := { program := "ytmlhhlmfhkhcnaa", sum := "0b85ea4e18f8f5abd2432791c3328a739259e99d8cce9f6e0c761968f483733b", func := "loop.example/g01394/laws.FnExactWithoutRanges", spec := "fnExactWithoutRanges", unfollowed := true, recurses := true, apart := false, narrowed := true }
def FnExactWithoutRangesUptoSaid : Prop := fnExactWithoutRangesUptoRow.holds Try.pinned (OpenSpec.upto fnExactWithoutRangesSpec)

/-- 'laws.FnExactTakePages', WHERE WHAT IT READS IS OF BULK AT MOST 1048576: true; the input reads as it did. -/
def fnExactTakePagesUptoRow : OpenClaim := { program := "ytmlhhlmfhkhcnaa", sum := "0b85ea4e18f8f5abd2432791c3328a739259e99d8cce9f6e0c761968f483733b", func := "loop.example/g01394/laws.FnExactTakePages", spec := "fnExactTakePages", apart := false, narrowed := true }
def FnExactTakePagesUptoSaid : Prop := fnExactTakePagesUptoRow.holds Try.pinned (OpenSpec.upto fnExactTakePagesSpec)

/-- 'laws.FnExactPutPages', WHERE WHAT IT READS IS OF BULK AT MOST 1048576: true; the input reads as it did. -/
def fnExactPutPagesUptoRow : OpenClaim := { program := "ytmlhhlmfhkhcnaa", sum := "0b85ea4e18f8f5abd2432791c3328a739259e99d8cce9f6e0c761968f483733b", func := "loop.example/g01394/laws.FnExactPutPages", spec := "fnExactPutPages", apart := false, narrowed := true }
def FnExactPutPagesUptoSaid : Prop := fnExactPutPagesUptoRow.holds Try.pinned (OpenSpec.upto fnExactPutPagesSpec)

/-- 'laws.FnExactIsDesk', WHERE WHAT IT READS IS OF BULK AT MOST 1048576: true; the input reads as it did. -/
def fnExactIsDeskUptoRow : OpenClaim := { program := "ytmlhhlmfhkhcnaa", sum := "0b85ea4e18f8f5abd2432791c3328a739259e99d8cce9f6e0c761968f483733b", func := "loop.example/g01394/laws.FnExactIsDesk", spec := "fnExactIsDesk", apart := false, narrowed := true }
def FnExactIsDeskUptoSaid : Prop := fnExactIsDeskUptoRow.holds Try.pinned (OpenSpec.upto fnExactIsDeskSpec)

end Rows
end Go.Proofs.Ytmlhhlmfhkhcnaa
