/-
  DERIVED. GIVEN WITH THE SEED: THE CARDS: each row of YtnanabjbdnbccaaDoorRows.lean that lists a variable, with what it lists TIED to the program's text (the seventh form; the later family's looks); each row that meets fmt, with fmt's text TOLD by the authors' own Lean function (tested against real Go, not proved from fmt's source: count such statements apart). THE CARD IS WHAT COUNTS. Prove the row's statement (the work); the ties are given (YtnanabjbdnbccaaDoorTie.lean); close each card by the builder's one call (the guide's Derived/Test/ToyasCard.lean, 'card_holds'). Laid BY PROGRAM, IN A SANDBOX (cutbox-door.mjs). By AI agents, Wed Nov 11 2026. No macro, syntax, notation, axiom, sorry.
-/
import Derived.Test.YtnanabjbdnbccaaDoorRows
import GoSem.ClaimSeven
namespace Go.Proofs.YtnanabjbdnbccaaDoor
namespace Rows

/-- THE TIED CARD OF 'credenzalaw10.NumberTexts'. -/
def numberTextsCard : Claim7 := { stood := { row := numberTextsRow, standIns := [], harness := (true, "8f80728fe1694dd60ca5b86fbfe5eb0a1c4a0b640b2a1bbb103a101a05b5ffb8"), looks := true }, kinds := [], alts := [], laidByText := true, laidKinds := [.data, .data, .data, .sentinel, .sentinel], laidTests := true, laidLooks := .later }
def NumberTextsCardSaid : Prop := Claim7.holds Tryd.pinned (.plain (OpenSpec.ofChange numberTextsSpec)) numberTextsCard

/-- THE TIED CARD OF 'credenzalaw10.NumberSpreads'. -/
def numberSpreadsCard : Claim7 := { stood := { row := numberSpreadsRow, standIns := [], harness := (true, "8f80728fe1694dd60ca5b86fbfe5eb0a1c4a0b640b2a1bbb103a101a05b5ffb8"), looks := true }, kinds := [], alts := [], laidByText := true, laidKinds := [.data, .data, .data, .sentinel, .sentinel], laidTests := true, laidLooks := .later }
def NumberSpreadsCardSaid : Prop := Claim7.holds Tryd.pinned (.plain (OpenSpec.ofChange numberSpreadsSpec)) numberSpreadsCard

/-- THE TIED CARD OF 'credenzalaw10.NumberBack'. -/
def numberBackCard : Claim7 := { stood := { row := numberBackRow, standIns := [], harness := (true, "8f80728fe1694dd60ca5b86fbfe5eb0a1c4a0b640b2a1bbb103a101a05b5ffb8"), looks := true }, kinds := [], alts := [], laidByText := true, laidKinds := [.data, .data, .data, .sentinel, .sentinel], laidTests := true, laidLooks := .later }
def NumberBackCardSaid : Prop := Claim7.holds Tryd.pinned (.plain (OpenSpec.ofChange numberBackSpec)) numberBackCard

/-- THE TIED CARD OF 'credenzalaw10.NumberReckons'. -/
def numberReckonsCard : Claim7 := { stood := { row := numberReckonsRow, standIns := [], harness := (true, "8f80728fe1694dd60ca5b86fbfe5eb0a1c4a0b640b2a1bbb103a101a05b5ffb8"), looks := true }, kinds := [], alts := [], laidByText := true, laidKinds := [.data, .data, .data, .sentinel, .sentinel], laidTests := true, laidLooks := .later }
def NumberReckonsCardSaid : Prop := Claim7.holds Tryd.pinned (.plain (OpenSpec.ofChange numberReckonsSpec)) numberReckonsCard

/-- THE TIED CARD OF 'credenzalaw10.NumberUndoes'. -/
def numberUndoesCard : Claim7 := { stood := { row := numberUndoesRow, standIns := [], harness := (true, "8f80728fe1694dd60ca5b86fbfe5eb0a1c4a0b640b2a1bbb103a101a05b5ffb8"), looks := true }, kinds := [], alts := [], laidByText := true, laidKinds := [.data, .data, .data, .sentinel, .sentinel], laidTests := true, laidLooks := .later }
def NumberUndoesCardSaid : Prop := Claim7.holds Tryd.pinned (.plain (OpenSpec.ofChange numberUndoesSpec)) numberUndoesCard

/-- THE SECOND FORM's CARD OF 'credenzalaw10.NumberTexts'. -/
def numberTextsUptoCard : Claim7 := { stood := { row := numberTextsUptoRow, standIns := [], harness := (true, "8f80728fe1694dd60ca5b86fbfe5eb0a1c4a0b640b2a1bbb103a101a05b5ffb8"), looks := true }, kinds := [], alts := [], laidByText := true, laidKinds := [.data, .data, .data, .sentinel, .sentinel], laidTests := true, laidLooks := .later }
def NumberTextsUptoCardSaid : Prop := Claim7.holds Tryd.pinned (.plain (OpenSpec.upto numberTextsSpec)) numberTextsUptoCard

/-- THE SECOND FORM's CARD OF 'credenzalaw10.NumberSpreads'. -/
def numberSpreadsUptoCard : Claim7 := { stood := { row := numberSpreadsUptoRow, standIns := [], harness := (true, "8f80728fe1694dd60ca5b86fbfe5eb0a1c4a0b640b2a1bbb103a101a05b5ffb8"), looks := true }, kinds := [], alts := [], laidByText := true, laidKinds := [.data, .data, .data, .sentinel, .sentinel], laidTests := true, laidLooks := .later }
def NumberSpreadsUptoCardSaid : Prop := Claim7.holds Tryd.pinned (.plain (OpenSpec.upto numberSpreadsSpec)) numberSpreadsUptoCard

/-- THE SECOND FORM's CARD OF 'credenzalaw10.NumberBack'. -/
def numberBackUptoCard : Claim7 := { stood := { row := numberBackUptoRow, standIns := [], harness := (true, "8f80728fe1694dd60ca5b86fbfe5eb0a1c4a0b640b2a1bbb103a101a05b5ffb8"), looks := true }, kinds := [], alts := [], laidByText := true, laidKinds := [.data, .data, .data, .sentinel, .sentinel], laidTests := true, laidLooks := .later }
def NumberBackUptoCardSaid : Prop := Claim7.holds Tryd.pinned (.plain (OpenSpec.upto numberBackSpec)) numberBackUptoCard

/-- THE SECOND FORM's CARD OF 'credenzalaw10.NumberReckons'. -/
def numberReckonsUptoCard : Claim7 := { stood := { row := numberReckonsUptoRow, standIns := [], harness := (true, "8f80728fe1694dd60ca5b86fbfe5eb0a1c4a0b640b2a1bbb103a101a05b5ffb8"), looks := true }, kinds := [], alts := [], laidByText := true, laidKinds := [.data, .data, .data, .sentinel, .sentinel], laidTests := true, laidLooks := .later }
def NumberReckonsUptoCardSaid : Prop := Claim7.holds Tryd.pinned (.plain (OpenSpec.upto numberReckonsSpec)) numberReckonsUptoCard

/-- THE SECOND FORM's CARD OF 'credenzalaw10.NumberUndoes'. -/
def numberUndoesUptoCard : Claim7 := { stood := { row := numberUndoesUptoRow, standIns := [], harness := (true, "8f80728fe1694dd60ca5b86fbfe5eb0a1c4a0b640b2a1bbb103a101a05b5ffb8"), looks := true }, kinds := [], alts := [], laidByText := true, laidKinds := [.data, .data, .data, .sentinel, .sentinel], laidTests := true, laidLooks := .later }
def NumberUndoesUptoCardSaid : Prop := Claim7.holds Tryd.pinned (.plain (OpenSpec.upto numberUndoesSpec)) numberUndoesUptoCard
end Rows
end Go.Proofs.YtnanabjbdnbccaaDoor
