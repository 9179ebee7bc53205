/-
  DERIVED. GIVEN WITH THE SEED: THE CARDS: each row of YtpinafbmjdeheaaDoorRows.lean that lists a variable, with what it lists TIED to the program's text (the seventh form; the later family's looks); each row that meets fmt, with fmt's text TOLD by the authors' own Lean function (tested against real Go, not proved from fmt's source: count such statements apart). THE CARD IS WHAT COUNTS. Prove the row's statement (the work); the ties are given (YtpinafbmjdeheaaDoorTie.lean); close each card by the builder's one call (the guide's Derived/Test/ToyasCard.lean, 'card_holds'). Laid BY PROGRAM, IN A SANDBOX (cutbox-door.mjs). By AI agents, Wed Nov 11 2026. No macro, syntax, notation, axiom, sorry.
-/
import Derived.Test.YtpinafbmjdeheaaDoorRows
import GoSem.ClaimSeven
namespace Go.Proofs.YtpinafbmjdeheaaDoor
namespace Rows

/-- THE TIED CARD OF 'laws.FnExactBindingText'. -/
def fnExactBindingTextCard : Claim7 := { stood := { row := fnExactBindingTextRow, standIns := [], harness := (true, "10602af488a085306632a166d706fbd7a3a36285c6076f4f53ccbb2ce3ea1350"), looks := false }, kinds := [], alts := [], laidByText := true, laidKinds := [.data, .data, .data], laidTests := true, laidLooks := .later }
def FnExactBindingTextCardSaid : Prop := Claim7.holds Tryd.pinned (.plain (OpenSpec.ofChange fnExactBindingTextSpec)) fnExactBindingTextCard

/-- THE TIED CARD OF 'laws.FnExactParseBinding'. -/
def fnExactParseBindingCard : Claim7 := { stood := { row := fnExactParseBindingRow, standIns := [], harness := (true, "10602af488a085306632a166d706fbd7a3a36285c6076f4f53ccbb2ce3ea1350"), looks := false }, kinds := [], alts := [], laidByText := true, laidKinds := [.data, .data, .data], laidTests := true, laidLooks := .later }
def FnExactParseBindingCardSaid : Prop := Claim7.holds Tryd.pinned (.plain (OpenSpec.ofChange fnExactParseBindingSpec)) fnExactParseBindingCard

/-- THE SECOND FORM's CARD OF 'laws.FnExactBindingText'. -/
def fnExactBindingTextUptoCard : Claim7 := { stood := { row := fnExactBindingTextUptoRow, standIns := [], harness := (true, "10602af488a085306632a166d706fbd7a3a36285c6076f4f53ccbb2ce3ea1350"), looks := false }, kinds := [], alts := [], laidByText := true, laidKinds := [.data, .data, .data], laidTests := true, laidLooks := .later }
def FnExactBindingTextUptoCardSaid : Prop := Claim7.holds Tryd.pinned (.plain (OpenSpec.upto fnExactBindingTextSpec)) fnExactBindingTextUptoCard

/-- THE SECOND FORM's CARD OF 'laws.FnExactParseBinding'. -/
def fnExactParseBindingUptoCard : Claim7 := { stood := { row := fnExactParseBindingUptoRow, standIns := [], harness := (true, "10602af488a085306632a166d706fbd7a3a36285c6076f4f53ccbb2ce3ea1350"), looks := false }, kinds := [], alts := [], laidByText := true, laidKinds := [.data, .data, .data], laidTests := true, laidLooks := .later }
def FnExactParseBindingUptoCardSaid : Prop := Claim7.holds Tryd.pinned (.plain (OpenSpec.upto fnExactParseBindingSpec)) fnExactParseBindingUptoCard
end Rows
end Go.Proofs.YtpinafbmjdeheaaDoor
