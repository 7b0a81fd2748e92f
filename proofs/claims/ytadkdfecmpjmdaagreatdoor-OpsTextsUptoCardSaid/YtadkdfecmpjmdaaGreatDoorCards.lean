/-
  DERIVED. GIVEN WITH THE SEED: THE CARDS: each row of YtadkdfecmpjmdaaGreatDoorRows.lean that lists a variable, with what it lists TIED to the program's text (the seventh form; the later family's looks); each row that meets fmt, with fmt's text TOLD by the authors' own Lean function (tested against real Go, not proved from fmt's source: count such statements apart). THE CARD IS WHAT COUNTS. Prove the row's statement (the work); the ties are given (YtadkdfecmpjmdaaGreatDoorTie.lean); close each card by the builder's one call (the guide's Derived/Test/ToyasCard.lean, 'card_holds'). Laid BY PROGRAM, IN A SANDBOX (cutbox-door.mjs). By AI agents, Wed Nov 11 2026. No macro, syntax, notation, axiom, sorry.
-/
import Derived.Test.YtadkdfecmpjmdaaGreatDoorRows
import GoSem.ClaimSeven
namespace Go.Proofs.YtadkdfecmpjmdaaGreatDoor
namespace Rows

/-- THE TIED CARD OF 'credenzalaw12.OpsPairs'. -/
def opsPairsCard : Claim7 := { stood := { row := opsPairsRow, standIns := [], harness := (true, "72328fce5ae1417fe17cdd020b6b96d7ec9a32812bce83e0f8b3171fa1c08f98"), looks := true }, kinds := [], alts := [], laidByText := true, laidKinds := [.data, .data, .data, .sentinel, .sentinel], laidTests := true, laidLooks := .later }
def OpsPairsCardSaid : Prop := Claim7.holds Tryz.pinned (.plain (OpenSpec.ofChange opsPairsSpec)) opsPairsCard

/-- THE TIED CARD OF 'credenzalaw12.OpsTexts'. -/
def opsTextsCard : Claim7 := { stood := { row := opsTextsRow, standIns := [], harness := (true, "72328fce5ae1417fe17cdd020b6b96d7ec9a32812bce83e0f8b3171fa1c08f98"), looks := true }, kinds := [], alts := [], laidByText := true, laidKinds := [.data, .data, .data, .sentinel, .sentinel], laidTests := true, laidLooks := .later }
def OpsTextsCardSaid : Prop := Claim7.holds Tryz.pinned (.plain (OpenSpec.ofChange opsTextsSpec)) opsTextsCard

/-- THE TIED CARD OF 'credenzalaw12.OpsBinary'. -/
def opsBinaryCard : Claim7 := { stood := { row := opsBinaryRow, standIns := [], harness := (true, "72328fce5ae1417fe17cdd020b6b96d7ec9a32812bce83e0f8b3171fa1c08f98"), looks := true }, kinds := [], alts := [], laidByText := true, laidKinds := [.data, .data, .data, .sentinel, .sentinel], laidTests := true, laidLooks := .later }
def OpsBinaryCardSaid : Prop := Claim7.holds Tryz.pinned (.plain (OpenSpec.ofChange opsBinarySpec)) opsBinaryCard

/-- THE TIED CARD OF 'credenzalaw12.OpsKeep'. -/
def opsKeepCard : Claim7 := { stood := { row := opsKeepRow, standIns := [], harness := (true, "72328fce5ae1417fe17cdd020b6b96d7ec9a32812bce83e0f8b3171fa1c08f98"), looks := true }, kinds := [], alts := [], laidByText := true, laidKinds := [.data, .data, .data, .sentinel, .sentinel], laidTests := true, laidLooks := .later }
def OpsKeepCardSaid : Prop := Claim7.holds Tryz.pinned (.plain (OpenSpec.ofChange opsKeepSpec)) opsKeepCard

/-- THE TIED CARD OF 'credenzalaw12.OpsTurn'. -/
def opsTurnCard : Claim7 := { stood := { row := opsTurnRow, standIns := [], harness := (true, "72328fce5ae1417fe17cdd020b6b96d7ec9a32812bce83e0f8b3171fa1c08f98"), looks := true }, kinds := [], alts := [], laidByText := true, laidKinds := [.data, .data, .data, .sentinel, .sentinel], laidTests := true, laidLooks := .later }
def OpsTurnCardSaid : Prop := Claim7.holds Tryz.pinned (.plain (OpenSpec.ofChange opsTurnSpec)) opsTurnCard

/-- THE TIED CARD OF 'credenzalaw12.OpsUnary'. -/
def opsUnaryCard : Claim7 := { stood := { row := opsUnaryRow, standIns := [], harness := (true, "72328fce5ae1417fe17cdd020b6b96d7ec9a32812bce83e0f8b3171fa1c08f98"), looks := true }, kinds := [], alts := [], laidByText := true, laidKinds := [.data, .data, .data, .sentinel, .sentinel], laidTests := true, laidLooks := .later }
def OpsUnaryCardSaid : Prop := Claim7.holds Tryz.pinned (.plain (OpenSpec.ofChange opsUnarySpec)) opsUnaryCard

/-- THE SECOND FORM's CARD OF 'credenzalaw12.OpsPairs'. -/
def opsPairsUptoCard : Claim7 := { stood := { row := opsPairsUptoRow, standIns := [], harness := (true, "72328fce5ae1417fe17cdd020b6b96d7ec9a32812bce83e0f8b3171fa1c08f98"), looks := true }, kinds := [], alts := [], laidByText := true, laidKinds := [.data, .data, .data, .sentinel, .sentinel], laidTests := true, laidLooks := .later }
def OpsPairsUptoCardSaid : Prop := Claim7.holds Tryz.pinned (.plain (OpenSpec.upto opsPairsSpec)) opsPairsUptoCard

/-- THE SECOND FORM's CARD OF 'credenzalaw12.OpsTexts'. -/
def opsTextsUptoCard : Claim7 := { stood := { row := opsTextsUptoRow, standIns := [], harness := (true, "72328fce5ae1417fe17cdd020b6b96d7ec9a32812bce83e0f8b3171fa1c08f98"), looks := true }, kinds := [], alts := [], laidByText := true, laidKinds := [.data, .data, .data, .sentinel, .sentinel], laidTests := true, laidLooks := .later }
def OpsTextsUptoCardSaid : Prop := Claim7.holds Tryz.pinned (.plain (OpenSpec.upto opsTextsSpec)) opsTextsUptoCard

/-- THE SECOND FORM's CARD OF 'credenzalaw12.OpsBinary'. -/
def opsBinaryUptoCard : Claim7 := { stood := { row := opsBinaryUptoRow, standIns := [], harness := (true, "72328fce5ae1417fe17cdd020b6b96d7ec9a32812bce83e0f8b3171fa1c08f98"), looks := true }, kinds := [], alts := [], laidByText := true, laidKinds := [.data, .data, .data, .sentinel, .sentinel], laidTests := true, laidLooks := .later }
def OpsBinaryUptoCardSaid : Prop := Claim7.holds Tryz.pinned (.plain (OpenSpec.upto opsBinarySpec)) opsBinaryUptoCard

/-- THE SECOND FORM's CARD OF 'credenzalaw12.OpsKeep'. -/
def opsKeepUptoCard : Claim7 := { stood := { row := opsKeepUptoRow, standIns := [], harness := (true, "72328fce5ae1417fe17cdd020b6b96d7ec9a32812bce83e0f8b3171fa1c08f98"), looks := true }, kinds := [], alts := [], laidByText := true, laidKinds := [.data, .data, .data, .sentinel, .sentinel], laidTests := true, laidLooks := .later }
def OpsKeepUptoCardSaid : Prop := Claim7.holds Tryz.pinned (.plain (OpenSpec.upto opsKeepSpec)) opsKeepUptoCard

/-- THE SECOND FORM's CARD OF 'credenzalaw12.OpsTurn'. -/
def opsTurnUptoCard : Claim7 := { stood := { row := opsTurnUptoRow, standIns := [], harness := (true, "72328fce5ae1417fe17cdd020b6b96d7ec9a32812bce83e0f8b3171fa1c08f98"), looks := true }, kinds := [], alts := [], laidByText := true, laidKinds := [.data, .data, .data, .sentinel, .sentinel], laidTests := true, laidLooks := .later }
def OpsTurnUptoCardSaid : Prop := Claim7.holds Tryz.pinned (.plain (OpenSpec.upto opsTurnSpec)) opsTurnUptoCard

/-- THE SECOND FORM's CARD OF 'credenzalaw12.OpsUnary'. -/
def opsUnaryUptoCard : Claim7 := { stood := { row := opsUnaryUptoRow, standIns := [], harness := (true, "72328fce5ae1417fe17cdd020b6b96d7ec9a32812bce83e0f8b3171fa1c08f98"), looks := true }, kinds := [], alts := [], laidByText := true, laidKinds := [.data, .data, .data, .sentinel, .sentinel], laidTests := true, laidLooks := .later }
def OpsUnaryUptoCardSaid : Prop := Claim7.holds Tryz.pinned (.plain (OpenSpec.upto opsUnarySpec)) opsUnaryUptoCard
end Rows
end Go.Proofs.YtadkdfecmpjmdaaGreatDoor
