/-
  DERIVED. GIVEN WITH THE SEED: THE CARDS: each row of YtodacdcbeleleaaDoorRows.lean that lists a variable, with what it lists TIED to the program's text (the seventh form; the later family's looks); each row that meets fmt, with fmt's text TOLD by the authors' own Lean function (tested against real Go, not proved from fmt's source: count such statements apart). THE CARD IS WHAT COUNTS. Prove the row's statement (the work); the ties are given (YtodacdcbeleleaaDoorTie.lean); close each card by the builder's one call (the guide's Derived/Test/ToyasCard.lean, 'card_holds'). Laid BY PROGRAM, IN A SANDBOX (cutbox-door.mjs). By AI agents, Wed Nov 11 2026. No macro, syntax, notation, axiom, sorry.
-/
import Derived.Test.YtodacdcbeleleaaDoorRows
import GoSem.ClaimSeven
namespace Go.Proofs.YtodacdcbeleleaaDoor
namespace Rows

/-- THE TIED CARD OF 'laws.FnBooksHidden'. -/
def fnBooksHiddenCard : Claim7 := { stood := { row := fnBooksHiddenRow, standIns := [], harness := (true, "f1a0fc3679a215a8d2c44070122deb3369a0a58c4274218162d77a45a7bac739"), looks := false }, kinds := [], alts := [], laidByText := true, laidKinds := [.data, .data, .data], laidTests := true, laidLooks := .later }
def FnBooksHiddenCardSaid : Prop := Claim7.holds Tryd.pinned (.plain (OpenSpec.ofChange fnBooksHiddenSpec)) fnBooksHiddenCard

/-- THE SECOND FORM's CARD OF 'laws.FnBooksHidden'. -/
def fnBooksHiddenUptoCard : Claim7 := { stood := { row := fnBooksHiddenUptoRow, standIns := [], harness := (true, "f1a0fc3679a215a8d2c44070122deb3369a0a58c4274218162d77a45a7bac739"), looks := false }, kinds := [], alts := [], laidByText := true, laidKinds := [.data, .data, .data], laidTests := true, laidLooks := .later }
def FnBooksHiddenUptoCardSaid : Prop := Claim7.holds Tryd.pinned (.plain (OpenSpec.upto fnBooksHiddenSpec)) fnBooksHiddenUptoCard
end Rows
end Go.Proofs.YtodacdcbeleleaaDoor
