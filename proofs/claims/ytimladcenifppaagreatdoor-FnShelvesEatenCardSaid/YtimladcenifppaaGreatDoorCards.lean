/-
  DERIVED. GIVEN WITH THE SEED: THE CARDS: each row of YtimladcenifppaaGreatDoorRows.lean that lists a variable, with what it lists TIED to the program's text (the seventh form; the later family's looks); each row that meets fmt, with fmt's text TOLD by the authors' own Lean function (tested against real Go, not proved from fmt's source: count such statements apart). THE CARD IS WHAT COUNTS. Prove the row's statement (the work); the ties are given (YtimladcenifppaaGreatDoorTie.lean); close each card by the builder's one call (the guide's Derived/Test/ToyasCard.lean, 'card_holds'). Laid BY PROGRAM, IN A SANDBOX (cutbox-door.mjs). By AI agents, Wed Nov 11 2026. No macro, syntax, notation, axiom, sorry.
-/
import Derived.Test.YtimladcenifppaaGreatDoorRows
import GoSem.ClaimSeven
namespace Go.Proofs.YtimladcenifppaaGreatDoor
namespace Rows

/-- THE TIED CARD OF 'laws.FnShelvesEaten'. -/
def fnShelvesEatenCard : Claim7 := { stood := { row := fnShelvesEatenRow, standIns := [], harness := (true, "a800118a0e62e936129bcd1941fa7353570ca110e6dff7536549a916fd348307"), looks := true }, kinds := [], alts := [], laidByText := true, laidKinds := [.data, .data, .data, .data, .sentinel, .sentinel, .pinned], laidTests := true, laidLooks := .later }
def FnShelvesEatenCardSaid : Prop := Claim7.holds Tryz.pinned (.plain (OpenSpec.ofChange fnShelvesEatenSpec)) fnShelvesEatenCard

/-- THE SECOND FORM's CARD OF 'laws.FnShelvesEaten'. -/
def fnShelvesEatenUptoCard : Claim7 := { stood := { row := fnShelvesEatenUptoRow, standIns := [], harness := (true, "a800118a0e62e936129bcd1941fa7353570ca110e6dff7536549a916fd348307"), looks := true }, kinds := [], alts := [], laidByText := true, laidKinds := [.data, .data, .data, .data, .sentinel, .sentinel, .pinned], laidTests := true, laidLooks := .later }
def FnShelvesEatenUptoCardSaid : Prop := Claim7.holds Tryz.pinned (.plain (OpenSpec.upto fnShelvesEatenSpec)) fnShelvesEatenUptoCard
end Rows
end Go.Proofs.YtimladcenifppaaGreatDoor
