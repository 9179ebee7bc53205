/-
  DERIVED. GIVEN WITH THE SEED: THE CARDS: each row of YtppbpefehpbejaaDoorRows.lean that lists a variable, with what it lists TIED to the program's text (the seventh form; the later family's looks); each row that meets fmt, with fmt's text TOLD by the authors' own Lean function (tested against real Go, not proved from fmt's source: count such statements apart). THE CARD IS WHAT COUNTS. Prove the row's statement (the work); the ties are given (YtppbpefehpbejaaDoorTie.lean); close each card by the builder's one call (the guide's Derived/Test/ToyasCard.lean, 'card_holds'). Laid BY PROGRAM, IN A SANDBOX (cutbox-door.mjs). By AI agents, Wed Nov 11 2026. No macro, syntax, notation, axiom, sorry.
-/
import Derived.Test.YtppbpefehpbejaaDoorRows
import GoSem.ClaimSeven
namespace Go.Proofs.YtppbpefehpbejaaDoor
namespace Rows

/-- THE TIED CARD OF 'laws.FnBooksHidden'. -/
def fnBooksHiddenCard : Claim7 := { stood := { row := fnBooksHiddenRow, standIns := [], harness := (true, "a0eff44989bedead89e42a4878d494c64d3a78785b8486f86ec50e1a6f0d22bb"), looks := true }, kinds := [], alts := [], laidByText := true, laidKinds := [.data, .data, .data], laidTests := true, laidLooks := .later }
def FnBooksHiddenCardSaid : Prop := Claim7.holds Tryd.pinned (.plain (OpenSpec.ofChange fnBooksHiddenSpec)) fnBooksHiddenCard

/-- THE TIED CARD OF 'laws.FnBindingsRead'. -/
def fnBindingsReadCard : Claim7 := { stood := { row := fnBindingsReadRow, standIns := [], harness := (true, "a0eff44989bedead89e42a4878d494c64d3a78785b8486f86ec50e1a6f0d22bb"), looks := true }, kinds := [], alts := [], laidByText := true, laidKinds := [.data, .data, .data], laidTests := true, laidLooks := .later }
def FnBindingsReadCardSaid : Prop := Claim7.holds Tryd.pinned (.plain (OpenSpec.ofChange fnBindingsReadSpec)) fnBindingsReadCard

/-- THE TIED CARD OF 'laws.FnIndexesMoved'. -/
def fnIndexesMovedCard : Claim7 := { stood := { row := fnIndexesMovedRow, standIns := [], harness := (true, "a0eff44989bedead89e42a4878d494c64d3a78785b8486f86ec50e1a6f0d22bb"), looks := true }, kinds := [], alts := [], laidByText := true, laidKinds := [.data, .data, .data, .sentinel, .sentinel], laidTests := true, laidLooks := .later }
def FnIndexesMovedCardSaid : Prop := Claim7.holds Tryd.pinned (.plain (OpenSpec.ofChange fnIndexesMovedSpec)) fnIndexesMovedCard

/-- THE SECOND FORM's CARD OF 'laws.FnBooksHidden'. -/
def fnBooksHiddenUptoCard : Claim7 := { stood := { row := fnBooksHiddenUptoRow, standIns := [], harness := (true, "a0eff44989bedead89e42a4878d494c64d3a78785b8486f86ec50e1a6f0d22bb"), looks := true }, kinds := [], alts := [], laidByText := true, laidKinds := [.data, .data, .data], laidTests := true, laidLooks := .later }
def FnBooksHiddenUptoCardSaid : Prop := Claim7.holds Tryd.pinned (.plain (OpenSpec.upto fnBooksHiddenSpec)) fnBooksHiddenUptoCard

/-- THE SECOND FORM's CARD OF 'laws.FnBindingsRead'. -/
def fnBindingsReadUptoCard : Claim7 := { stood := { row := fnBindingsReadUptoRow, standIns := [], harness := (true, "a0eff44989bedead89e42a4878d494c64d3a78785b8486f86ec50e1a6f0d22bb"), looks := true }, kinds := [], alts := [], laidByText := true, laidKinds := [.data, .data, .data], laidTests := true, laidLooks := .later }
def FnBindingsReadUptoCardSaid : Prop := Claim7.holds Tryd.pinned (.plain (OpenSpec.upto fnBindingsReadSpec)) fnBindingsReadUptoCard

/-- THE SECOND FORM's CARD OF 'laws.FnIndexesMoved'. -/
def fnIndexesMovedUptoCard : Claim7 := { stood := { row := fnIndexesMovedUptoRow, standIns := [], harness := (true, "a0eff44989bedead89e42a4878d494c64d3a78785b8486f86ec50e1a6f0d22bb"), looks := true }, kinds := [], alts := [], laidByText := true, laidKinds := [.data, .data, .data, .sentinel, .sentinel], laidTests := true, laidLooks := .later }
def FnIndexesMovedUptoCardSaid : Prop := Claim7.holds Tryd.pinned (.plain (OpenSpec.upto fnIndexesMovedSpec)) fnIndexesMovedUptoCard
end Rows
end Go.Proofs.YtppbpefehpbejaaDoor
