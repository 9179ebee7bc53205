/-
  No cell of these rows narrows 'for every input' (looked for: loops, veiled, ifaces, maps, wideKeys, modest, calm, conditions, laid).
  DERIVED. THE GIVEN ROWS OF THIS SEAT. 6 by the template 'for every input the law returns true; each argument reads behind the call as it read before'; 0 by the template 'total and deterministic' (their statements: YtjgjodmiamkegaaTotals.lean).
  GIVEN WITH THE SEED: the statements are not yours to turn. If you find one false, say at which input.
  Laid BY PROGRAM, IN A SANDBOX (cutbox-rows.mjs): the forced cells as the released guide's own fill.sh prints them over the translation 6992a1d67b31a741… (all of the seat's roots in one cut). By AI agents, Wed Nov 11 2026. No macro, syntax, notation, axiom, sorry.
-/
import Derived.Test.YtjgjodmiamkegaaChecked
import GoSem.Claim
import GoSem.ClaimJoined
import GoSem.ClaimMapViews
import Derived.JoinedTies
import Derived.KernelRfl
namespace Go.Proofs.Ytjgjodmiamkegaa
/- THE CELL 'sum', in the pinned program and in every row, IS THE sha256 OF THE DUMP (.gsa) THAT YtjgjodmiamkegaaProg.lean LOADS. Nothing in Lean hashes anything: it is a label: what it is worth is what the hold of that sum in a sandbox is worth. -/
noncomputable def Try.pinned : Pinned := { name := "ytjgjodmiamkegaa", sum := "6992a1d67b31a741bb3ae350c7e284800c73df6993abd7f1f0ac31f08a584bd0", checked := Try.checked }
namespace Rows
def none {H : Type} : Left H := { results := [], args := [] }

/-- 'laws.FnExactIsHidden': WHATEVER THE INPUT: true; the input reads as it did. -/
def fnExactIsHiddenSpec : ChangeSpec := { name := "fnExactIsHidden", fn := fun _ => fun
  | [d] => { results := [.lit (.bool true)], args := [d] }
  | _ => none }
def fnExactIsHiddenRow : OpenClaim := { program := "ytjgjodmiamkegaa", sum := "6992a1d67b31a741bb3ae350c7e284800c73df6993abd7f1f0ac31f08a584bd0", func := "loop.example/g01394/laws.FnExactIsHidden", spec := "fnExactIsHidden", apart := false }
def FnExactIsHiddenSaid : Prop := fnExactIsHiddenRow.holds Try.pinned (OpenSpec.ofChange fnExactIsHiddenSpec)

/-- ITS FALSE NEIGHBOUR: 'it returns false'. Refute it at one input. -/
def fnExactIsHiddenWrong : ChangeSpec := { name := "fnExactIsHidden", fn := fun _ => fun
  | [d] => { results := [.lit (.bool false)], args := [d] }
  | _ => none }
def FnExactIsHiddenWrongFalsely : Prop := fnExactIsHiddenRow.holds Try.pinned (OpenSpec.ofChange fnExactIsHiddenWrong)

/-- 'laws.FnExactIsClue': WHATEVER THE INPUT: true; the input reads as it did. -/
def fnExactIsClueSpec : ChangeSpec := { name := "fnExactIsClue", fn := fun _ => fun
  | [d] => { results := [.lit (.bool true)], args := [d] }
  | _ => none }
def fnExactIsClueRow : OpenClaim := { program := "ytjgjodmiamkegaa", sum := "6992a1d67b31a741bb3ae350c7e284800c73df6993abd7f1f0ac31f08a584bd0", func := "loop.example/g01394/laws.FnExactIsClue", spec := "fnExactIsClue", apart := false }
def FnExactIsClueSaid : Prop := fnExactIsClueRow.holds Try.pinned (OpenSpec.ofChange fnExactIsClueSpec)

/-- ITS FALSE NEIGHBOUR: 'it returns false'. Refute it at one input. -/
def fnExactIsClueWrong : ChangeSpec := { name := "fnExactIsClue", fn := fun _ => fun
  | [d] => { results := [.lit (.bool false)], args := [d] }
  | _ => none }
def FnExactIsClueWrongFalsely : Prop := fnExactIsClueRow.holds Try.pinned (OpenSpec.ofChange fnExactIsClueWrong)

/-- 'laws.FnExactIsPuzzle': WHATEVER THE INPUT: true; the input reads as it did. -/
def fnExactIsPuzzleSpec : ChangeSpec := { name := "fnExactIsPuzzle", fn := fun _ => fun
  | [d] => { results := [.lit (.bool true)], args := [d] }
  | _ => none }
def fnExactIsPuzzleRow : OpenClaim := { program := "ytjgjodmiamkegaa", sum := "6992a1d67b31a741bb3ae350c7e284800c73df6993abd7f1f0ac31f08a584bd0", func := "loop.example/g01394/laws.FnExactIsPuzzle", spec := "fnExactIsPuzzle", unfollowed := true, recurses := true, apart := false }
def FnExactIsPuzzleSaid : Prop := fnExactIsPuzzleRow.holds Try.pinned (OpenSpec.ofChange fnExactIsPuzzleSpec)

/-- ITS FALSE NEIGHBOUR: 'it returns false'. Refute it at one input. -/
def fnExactIsPuzzleWrong : ChangeSpec := { name := "fnExactIsPuzzle", fn := fun _ => fun
  | [d] => { results := [.lit (.bool false)], args := [d] }
  | _ => none }
def FnExactIsPuzzleWrongFalsely : Prop := fnExactIsPuzzleRow.holds Try.pinned (OpenSpec.ofChange fnExactIsPuzzleWrong)

/-- 'laws.FnExactBreaksOf': WHATEVER THE INPUT: true; the input reads as it did. -/
def fnExactBreaksOfSpec : ChangeSpec := { name := "fnExactBreaksOf", fn := fun _ => fun
  | [d] => { results := [.lit (.bool true)], args := [d] }
  | _ => none }
def fnExactBreaksOfRow : OpenClaim := { program := "ytjgjodmiamkegaa", sum := "6992a1d67b31a741bb3ae350c7e284800c73df6993abd7f1f0ac31f08a584bd0", func := "loop.example/g01394/laws.FnExactBreaksOf", spec := "fnExactBreaksOf", apart := false }
def FnExactBreaksOfSaid : Prop := fnExactBreaksOfRow.holds Try.pinned (OpenSpec.ofChange fnExactBreaksOfSpec)

/-- ITS FALSE NEIGHBOUR: 'it returns false'. Refute it at one input. -/
def fnExactBreaksOfWrong : ChangeSpec := { name := "fnExactBreaksOf", fn := fun _ => fun
  | [d] => { results := [.lit (.bool false)], args := [d] }
  | _ => none }
def FnExactBreaksOfWrongFalsely : Prop := fnExactBreaksOfRow.holds Try.pinned (OpenSpec.ofChange fnExactBreaksOfWrong)

/-- 'laws.FnExactFirstDesk': WHATEVER THE INPUT: true; the input reads as it did. -/
def fnExactFirstDeskSpec : ChangeSpec := { name := "fnExactFirstDesk", fn := fun _ => fun
  | [] => { results := [.lit (.bool true)], args := [] }
  | _ => none }
def fnExactFirstDeskRow : OpenClaim := { program := "ytjgjodmiamkegaa", sum := "6992a1d67b31a741bb3ae350c7e284800c73df6993abd7f1f0ac31f08a584bd0", func := "loop.example/g01394/laws.FnExactFirstDesk", spec := "fnExactFirstDesk", apart := false }
def FnExactFirstDeskSaid : Prop := fnExactFirstDeskRow.holds Try.pinned (OpenSpec.ofChange fnExactFirstDeskSpec)

/-- ITS FALSE NEIGHBOUR: 'it returns false'. Refute it at one input. -/
def fnExactFirstDeskWrong : ChangeSpec := { name := "fnExactFirstDesk", fn := fun _ => fun
  | [] => { results := [.lit (.bool false)], args := [] }
  | _ => none }
def FnExactFirstDeskWrongFalsely : Prop := fnExactFirstDeskRow.holds Try.pinned (OpenSpec.ofChange fnExactFirstDeskWrong)

/-- 'laws.FnExactRangesOfPages': WHATEVER THE INPUT: true; the input reads as it did. -/
def fnExactRangesOfPagesSpec : ChangeSpec := { name := "fnExactRangesOfPages", fn := fun _ => fun
  | [d] => { results := [.lit (.bool true)], args := [d] }
  | _ => none }
def fnExactRangesOfPagesRow : OpenClaim := { program := "ytjgjodmiamkegaa", sum := "6992a1d67b31a741bb3ae350c7e284800c73df6993abd7f1f0ac31f08a584bd0", func := "loop.example/g01394/laws.FnExactRangesOfPages", spec := "fnExactRangesOfPages", apart := false }
def FnExactRangesOfPagesSaid : Prop := fnExactRangesOfPagesRow.holds Try.pinned (OpenSpec.ofChange fnExactRangesOfPagesSpec)

/-- ITS FALSE NEIGHBOUR: 'it returns false'. Refute it at one input. -/
def fnExactRangesOfPagesWrong : ChangeSpec := { name := "fnExactRangesOfPages", fn := fun _ => fun
  | [d] => { results := [.lit (.bool false)], args := [d] }
  | _ => none }
def FnExactRangesOfPagesWrongFalsely : Prop := fnExactRangesOfPagesRow.holds Try.pinned (OpenSpec.ofChange fnExactRangesOfPagesWrong)

/- THE SECOND FORM. 'bulk': how many values and letters a reading holds, each counted each time it is reached (what is shared counts as often as it is met; a slice's spare places count too). A statement '..UptoSaid' is the law's where the arguments, and the package variables that the reading takes, are together of bulk at most 1048576: NARROWER than '..Said'. Prove '..Said' where nothing that the law and all that it calls make is longer than what came in: it says more and counts as full. Else prove '..UptoSaid'. A law counts once. -/
mutual
def uptoBulk {H : Type} : DataW H → Nat
  | .lit (.string bytes) => bytes.length + 1
  | .lit _ => 1
  | .nil => 1
  | .ptr d => uptoBulk d + 1
  | .slice elems spare => uptoBulkAll elems + uptoBulkAll spare + 1
  | .agg parts => uptoBulkAll parts + 1
  | .iface _ d => uptoBulk d + 1
  | .map entries => uptoBulkEntries entries + 1
  | .held _ => 1
def uptoBulkAll {H : Type} : List (DataW H) → Nat
  | [] => 0
  | d :: r => uptoBulk d + uptoBulkAll r
def uptoBulkEntries {H : Type} : List (Lit × DataW H) → Nat
  | [] => 0
  | x :: r => uptoBulkEntry x + uptoBulkEntries r
def uptoBulkEntry {H : Type} : Lit × DataW H → Nat
  | (.string bytes, d) => bytes.length + uptoBulk d + 1
  | (_, d) => uptoBulk d + 1
 end
def uptoSmall : (H : Type) → List (DataW H) → Bool := fun _ ds => decide (uptoBulkAll ds ≤ 1048576)
def OpenSpec.upto (s : _root_.Go.ChangeSpec) : _root_.Go.OpenSpec := { _root_.Go.OpenSpec.ofChange s with cond := some uptoSmall }

/-- 'laws.FnExactIsHidden', WHERE WHAT IT READS IS OF BULK AT MOST 1048576: true; the input reads as it did. -/
def fnExactIsHiddenUptoRow : OpenClaim := { program := "ytjgjodmiamkegaa", sum := "6992a1d67b31a741bb3ae350c7e284800c73df6993abd7f1f0ac31f08a584bd0", func := "loop.example/g01394/laws.FnExactIsHidden", spec := "fnExactIsHidden", apart := false, narrowed := true }
def FnExactIsHiddenUptoSaid : Prop := fnExactIsHiddenUptoRow.holds Try.pinned (OpenSpec.upto fnExactIsHiddenSpec)

/-- 'laws.FnExactIsClue', WHERE WHAT IT READS IS OF BULK AT MOST 1048576: true; the input reads as it did. -/
def fnExactIsClueUptoRow : OpenClaim := { program := "ytjgjodmiamkegaa", sum := "6992a1d67b31a741bb3ae350c7e284800c73df6993abd7f1f0ac31f08a584bd0", func := "loop.example/g01394/laws.FnExactIsClue", spec := "fnExactIsClue", apart := false, narrowed := true }
def FnExactIsClueUptoSaid : Prop := fnExactIsClueUptoRow.holds Try.pinned (OpenSpec.upto fnExactIsClueSpec)

/-- 'laws.FnExactIsPuzzle', WHERE WHAT IT READS IS OF BULK AT MOST 1048576: true; the input reads as it did. -/
def fnExactIsPuzzleUptoRow : OpenClaim := { program := "ytjgjodmiamkegaa", sum := "6992a1d67b31a741bb3ae350c7e284800c73df6993abd7f1f0ac31f08a584bd0", func := "loop.example/g01394/laws.FnExactIsPuzzle", spec := "fnExactIsPuzzle", unfollowed := true, recurses := true, apart := false, narrowed := true }
def FnExactIsPuzzleUptoSaid : Prop := fnExactIsPuzzleUptoRow.holds Try.pinned (OpenSpec.upto fnExactIsPuzzleSpec)

/-- 'laws.FnExactBreaksOf', WHERE WHAT IT READS IS OF BULK AT MOST 1048576: true; the input reads as it did. -/
def fnExactBreaksOfUptoRow : OpenClaim := { program := "ytjgjodmiamkegaa", sum := "6992a1d67b31a741bb3ae350c7e284800c73df6993abd7f1f0ac31f08a584bd0", func := "loop.example/g01394/laws.FnExactBreaksOf", spec := "fnExactBreaksOf", apart := false, narrowed := true }
def FnExactBreaksOfUptoSaid : Prop := fnExactBreaksOfUptoRow.holds Try.pinned (OpenSpec.upto fnExactBreaksOfSpec)

/-- 'laws.FnExactFirstDesk', WHERE WHAT IT READS IS OF BULK AT MOST 1048576: true; the input reads as it did. -/
def fnExactFirstDeskUptoRow : OpenClaim := { program := "ytjgjodmiamkegaa", sum := "6992a1d67b31a741bb3ae350c7e284800c73df6993abd7f1f0ac31f08a584bd0", func := "loop.example/g01394/laws.FnExactFirstDesk", spec := "fnExactFirstDesk", apart := false, narrowed := true }
def FnExactFirstDeskUptoSaid : Prop := fnExactFirstDeskUptoRow.holds Try.pinned (OpenSpec.upto fnExactFirstDeskSpec)

/-- 'laws.FnExactRangesOfPages', WHERE WHAT IT READS IS OF BULK AT MOST 1048576: true; the input reads as it did. -/
def fnExactRangesOfPagesUptoRow : OpenClaim := { program := "ytjgjodmiamkegaa", sum := "6992a1d67b31a741bb3ae350c7e284800c73df6993abd7f1f0ac31f08a584bd0", func := "loop.example/g01394/laws.FnExactRangesOfPages", spec := "fnExactRangesOfPages", apart := false, narrowed := true }
def FnExactRangesOfPagesUptoSaid : Prop := fnExactRangesOfPagesUptoRow.holds Try.pinned (OpenSpec.upto fnExactRangesOfPagesSpec)

end Rows
end Go.Proofs.Ytjgjodmiamkegaa
