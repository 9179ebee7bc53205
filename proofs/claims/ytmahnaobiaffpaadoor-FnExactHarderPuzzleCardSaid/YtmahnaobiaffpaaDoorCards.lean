/-
  DERIVED. GIVEN WITH THE SEED: THE CARDS: each row of YtmahnaobiaffpaaDoorRows.lean that lists a variable, with what it lists TIED to the program's text (the seventh form; the later family's looks); each row that meets fmt, with fmt's text TOLD by the authors' own Lean function (tested against real Go, not proved from fmt's source: count such statements apart). THE CARD IS WHAT COUNTS. Prove the row's statement (the work); the ties are given (YtmahnaobiaffpaaDoorTie.lean); close each card by the builder's one call (the guide's Derived/Test/ToyasCard.lean, 'card_holds'). Laid BY PROGRAM, IN A SANDBOX (cutbox-door.mjs). By AI agents, Wed Nov 11 2026. No macro, syntax, notation, axiom, sorry.
-/
import Derived.Test.YtmahnaobiaffpaaDoorRows
import GoSem.ClaimSeven
namespace Go.Proofs.YtmahnaobiaffpaaDoor
namespace Rows

/-- THE TIED CARD OF 'laws.FnExactNeedlessClues'. -/
def fnExactNeedlessCluesCard : Claim7 := { stood := { row := fnExactNeedlessCluesRow, standIns := [], harness := (true, "c8e8d5f19d10c9e0fa0d9fe719853a7c240eeee2c194e4828505319a431d5604"), looks := true }, kinds := [], alts := [], laidByText := true, laidKinds := [.data, .data, .data], laidTests := true, laidLooks := .later }
def FnExactNeedlessCluesCardSaid : Prop := Claim7.holds Tryd.pinned (.plain (OpenSpec.ofChange fnExactNeedlessCluesSpec)) fnExactNeedlessCluesCard

/-- THE TIED CARD OF 'laws.FnExactHarderPuzzle'. -/
def fnExactHarderPuzzleCard : Claim7 := { stood := { row := fnExactHarderPuzzleRow, standIns := [], harness := (true, "c8e8d5f19d10c9e0fa0d9fe719853a7c240eeee2c194e4828505319a431d5604"), looks := true }, kinds := [], alts := [], laidByText := true, laidKinds := [.data, .data, .data], laidTests := true, laidLooks := .later }
def FnExactHarderPuzzleCardSaid : Prop := Claim7.holds Tryd.pinned (.plain (OpenSpec.ofChange fnExactHarderPuzzleSpec)) fnExactHarderPuzzleCard

/-- THE TIED CARD OF 'laws.FnExactPuzzleText'. -/
def fnExactPuzzleTextCard : Claim7 := { stood := { row := fnExactPuzzleTextRow, standIns := [], harness := (true, "c8e8d5f19d10c9e0fa0d9fe719853a7c240eeee2c194e4828505319a431d5604"), looks := true }, kinds := [], alts := [], laidByText := true, laidKinds := [.data, .data, .data], laidTests := true, laidLooks := .later }
def FnExactPuzzleTextCardSaid : Prop := Claim7.holds Tryd.pinned (.plain (OpenSpec.ofChange fnExactPuzzleTextSpec)) fnExactPuzzleTextCard

/-- THE TIED CARD OF 'laws.FnExactParsePuzzle'. -/
def fnExactParsePuzzleCard : Claim7 := { stood := { row := fnExactParsePuzzleRow, standIns := [], harness := (true, "c8e8d5f19d10c9e0fa0d9fe719853a7c240eeee2c194e4828505319a431d5604"), looks := true }, kinds := [], alts := [], laidByText := true, laidKinds := [.data, .data, .data, .data, .sentinel, .sentinel, .pinned], laidTests := true, laidLooks := .later }
def FnExactParsePuzzleCardSaid : Prop := Claim7.holds Tryd.pinned (.plain (OpenSpec.ofChange fnExactParsePuzzleSpec)) fnExactParsePuzzleCard

/-- THE SECOND FORM's CARD OF 'laws.FnExactNeedlessClues'. -/
def fnExactNeedlessCluesUptoCard : Claim7 := { stood := { row := fnExactNeedlessCluesUptoRow, standIns := [], harness := (true, "c8e8d5f19d10c9e0fa0d9fe719853a7c240eeee2c194e4828505319a431d5604"), looks := true }, kinds := [], alts := [], laidByText := true, laidKinds := [.data, .data, .data], laidTests := true, laidLooks := .later }
def FnExactNeedlessCluesUptoCardSaid : Prop := Claim7.holds Tryd.pinned (.plain (OpenSpec.upto fnExactNeedlessCluesSpec)) fnExactNeedlessCluesUptoCard

/-- THE SECOND FORM's CARD OF 'laws.FnExactHarderPuzzle'. -/
def fnExactHarderPuzzleUptoCard : Claim7 := { stood := { row := fnExactHarderPuzzleUptoRow, standIns := [], harness := (true, "c8e8d5f19d10c9e0fa0d9fe719853a7c240eeee2c194e4828505319a431d5604"), looks := true }, kinds := [], alts := [], laidByText := true, laidKinds := [.data, .data, .data], laidTests := true, laidLooks := .later }
def FnExactHarderPuzzleUptoCardSaid : Prop := Claim7.holds Tryd.pinned (.plain (OpenSpec.upto fnExactHarderPuzzleSpec)) fnExactHarderPuzzleUptoCard

/-- THE SECOND FORM's CARD OF 'laws.FnExactPuzzleText'. -/
def fnExactPuzzleTextUptoCard : Claim7 := { stood := { row := fnExactPuzzleTextUptoRow, standIns := [], harness := (true, "c8e8d5f19d10c9e0fa0d9fe719853a7c240eeee2c194e4828505319a431d5604"), looks := true }, kinds := [], alts := [], laidByText := true, laidKinds := [.data, .data, .data], laidTests := true, laidLooks := .later }
def FnExactPuzzleTextUptoCardSaid : Prop := Claim7.holds Tryd.pinned (.plain (OpenSpec.upto fnExactPuzzleTextSpec)) fnExactPuzzleTextUptoCard

/-- THE SECOND FORM's CARD OF 'laws.FnExactParsePuzzle'. -/
def fnExactParsePuzzleUptoCard : Claim7 := { stood := { row := fnExactParsePuzzleUptoRow, standIns := [], harness := (true, "c8e8d5f19d10c9e0fa0d9fe719853a7c240eeee2c194e4828505319a431d5604"), looks := true }, kinds := [], alts := [], laidByText := true, laidKinds := [.data, .data, .data, .data, .sentinel, .sentinel, .pinned], laidTests := true, laidLooks := .later }
def FnExactParsePuzzleUptoCardSaid : Prop := Claim7.holds Tryd.pinned (.plain (OpenSpec.upto fnExactParsePuzzleSpec)) fnExactParsePuzzleUptoCard
end Rows
end Go.Proofs.YtmahnaobiaffpaaDoor
