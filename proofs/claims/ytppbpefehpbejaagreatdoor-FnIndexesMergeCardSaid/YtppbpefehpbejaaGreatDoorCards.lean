/-
  DERIVED. GIVEN WITH THE SEED: THE CARDS: each row of YtppbpefehpbejaaGreatDoorRows.lean that lists a variable, with what it lists TIED to the program's text (the seventh form; the later family's looks); each row that meets fmt, with fmt's text TOLD by the authors' own Lean function (tested against real Go, not proved from fmt's source: count such statements apart). THE CARD IS WHAT COUNTS. Prove the row's statement (the work); the ties are given (YtppbpefehpbejaaGreatDoorTie.lean); close each card by the builder's one call (the guide's Derived/Test/ToyasCard.lean, 'card_holds'). Laid BY PROGRAM, IN A SANDBOX (cutbox-door.mjs). By AI agents, Wed Nov 11 2026. No macro, syntax, notation, axiom, sorry.
-/
import Derived.Test.YtppbpefehpbejaaGreatDoorRows
import GoSem.ClaimSeven
namespace Go.Proofs.YtppbpefehpbejaaGreatDoor
namespace Rows

/-- THE TIED CARD OF 'laws.FnShelvesEaten'. -/
def fnShelvesEatenCard : Claim7 := { stood := { row := fnShelvesEatenRow, standIns := [], harness := (true, "565a5d57cfc4e4ba37aecdac216290fd219475e095a0471372808850faa86126"), looks := true }, kinds := [], alts := [], laidByText := true, laidKinds := [.data, .data, .data, .data, .sentinel, .sentinel, .pinned], laidTests := true, laidLooks := .later }
def FnShelvesEatenCardSaid : Prop := Claim7.holds Tryz.pinned (.plain (OpenSpec.ofChange fnShelvesEatenSpec)) fnShelvesEatenCard

/-- THE TIED CARD OF 'laws.FnIndexesMerge'. -/
def fnIndexesMergeCard : Claim7 := { stood := { row := fnIndexesMergeRow, standIns := [], harness := (true, "565a5d57cfc4e4ba37aecdac216290fd219475e095a0471372808850faa86126"), looks := true }, kinds := [], alts := [], laidByText := true, laidKinds := [.data, .data, .data, .data, .sentinel, .sentinel, .pinned], laidTests := true, laidLooks := .later }
def FnIndexesMergeCardSaid : Prop := Claim7.holds Tryz.pinned (.plain (OpenSpec.ofChange fnIndexesMergeSpec)) fnIndexesMergeCard

/-- THE TIED CARD OF 'laws.FnBooksGuessed'. -/
def fnBooksGuessedCard : Claim7 := { stood := { row := fnBooksGuessedRow, standIns := [], harness := (true, "565a5d57cfc4e4ba37aecdac216290fd219475e095a0471372808850faa86126"), looks := true }, kinds := [], alts := [], laidByText := true, laidKinds := [.data, .data, .data, .data, .sentinel, .sentinel, .pinned], laidTests := true, laidLooks := .later }
def FnBooksGuessedCardSaid : Prop := Claim7.holds Tryz.pinned (.plain (OpenSpec.ofChange fnBooksGuessedSpec)) fnBooksGuessedCard

/-- THE SECOND FORM's CARD OF 'laws.FnShelvesEaten'. -/
def fnShelvesEatenUptoCard : Claim7 := { stood := { row := fnShelvesEatenUptoRow, standIns := [], harness := (true, "565a5d57cfc4e4ba37aecdac216290fd219475e095a0471372808850faa86126"), looks := true }, kinds := [], alts := [], laidByText := true, laidKinds := [.data, .data, .data, .data, .sentinel, .sentinel, .pinned], laidTests := true, laidLooks := .later }
def FnShelvesEatenUptoCardSaid : Prop := Claim7.holds Tryz.pinned (.plain (OpenSpec.upto fnShelvesEatenSpec)) fnShelvesEatenUptoCard

/-- THE SECOND FORM's CARD OF 'laws.FnIndexesMerge'. -/
def fnIndexesMergeUptoCard : Claim7 := { stood := { row := fnIndexesMergeUptoRow, standIns := [], harness := (true, "565a5d57cfc4e4ba37aecdac216290fd219475e095a0471372808850faa86126"), looks := true }, kinds := [], alts := [], laidByText := true, laidKinds := [.data, .data, .data, .data, .sentinel, .sentinel, .pinned], laidTests := true, laidLooks := .later }
def FnIndexesMergeUptoCardSaid : Prop := Claim7.holds Tryz.pinned (.plain (OpenSpec.upto fnIndexesMergeSpec)) fnIndexesMergeUptoCard

/-- THE SECOND FORM's CARD OF 'laws.FnBooksGuessed'. -/
def fnBooksGuessedUptoCard : Claim7 := { stood := { row := fnBooksGuessedUptoRow, standIns := [], harness := (true, "565a5d57cfc4e4ba37aecdac216290fd219475e095a0471372808850faa86126"), looks := true }, kinds := [], alts := [], laidByText := true, laidKinds := [.data, .data, .data, .data, .sentinel, .sentinel, .pinned], laidTests := true, laidLooks := .later }
def FnBooksGuessedUptoCardSaid : Prop := Claim7.holds Tryz.pinned (.plain (OpenSpec.upto fnBooksGuessedSpec)) fnBooksGuessedUptoCard
end Rows
end Go.Proofs.YtppbpefehpbejaaGreatDoor
