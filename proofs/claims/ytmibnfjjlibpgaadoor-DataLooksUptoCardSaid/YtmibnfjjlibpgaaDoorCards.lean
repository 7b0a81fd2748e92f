/-
  DERIVED. GIVEN WITH THE SEED: THE CARDS: each row of YtmibnfjjlibpgaaDoorRows.lean that lists a variable, with what it lists TIED to the program's text (the seventh form; the later family's looks); each row that meets fmt, with fmt's text TOLD by the authors' own Lean function (tested against real Go, not proved from fmt's source: count such statements apart). THE CARD IS WHAT COUNTS. Prove the row's statement (the work); the ties are given (YtmibnfjjlibpgaaDoorTie.lean); close each card by the builder's one call (the guide's Derived/Test/ToyasCard.lean, 'card_holds'). Laid BY PROGRAM, IN A SANDBOX (cutbox-door.mjs). By AI agents, Wed Nov 11 2026. No macro, syntax, notation, axiom, sorry.
-/
import Derived.Test.YtmibnfjjlibpgaaDoorRows
import GoSem.ClaimSeven
namespace Go.Proofs.YtmibnfjjlibpgaaDoor
namespace Rows

/-- THE TIED CARD OF 'credenzalaw03.DataChecks'. -/
def dataChecksCard : Claim7 := { stood := { row := dataChecksRow, standIns := [], harness := (true, "312a2457902fe020e72ce93c71faba35c4d104a82dc3b1f40e9e67e9c3b84870"), looks := false }, kinds := [], alts := [], laidByText := true, laidKinds := [.data, .data, .data], laidTests := true, laidLooks := .later }
def DataChecksCardSaid : Prop := Claim7.holds Tryd.pinned (.plain (OpenSpec.ofChange dataChecksSpec)) dataChecksCard

/-- THE TIED CARD OF 'credenzalaw03.DataLooks'. -/
def dataLooksCard : Claim7 := { stood := { row := dataLooksRow, standIns := [], harness := (true, "312a2457902fe020e72ce93c71faba35c4d104a82dc3b1f40e9e67e9c3b84870"), looks := false }, kinds := [], alts := [], laidByText := true, laidKinds := [.data, .data, .data], laidTests := true, laidLooks := .later }
def DataLooksCardSaid : Prop := Claim7.holds Tryd.pinned (.plain (OpenSpec.ofChange dataLooksSpec)) dataLooksCard

/-- THE TIED CARD OF 'credenzalaw03.DataTexts'. -/
def dataTextsCard : Claim7 := { stood := { row := dataTextsRow, standIns := [], harness := (true, "312a2457902fe020e72ce93c71faba35c4d104a82dc3b1f40e9e67e9c3b84870"), looks := false }, kinds := [], alts := [], laidByText := true, laidKinds := [.data, .data, .data], laidTests := true, laidLooks := .later }
def DataTextsCardSaid : Prop := Claim7.holds Tryd.pinned (.plain (OpenSpec.ofChange dataTextsSpec)) dataTextsCard

/-- THE TIED CARD OF 'credenzalaw03.DataCopies'. -/
def dataCopiesCard : Claim7 := { stood := { row := dataCopiesRow, standIns := [], harness := (true, "312a2457902fe020e72ce93c71faba35c4d104a82dc3b1f40e9e67e9c3b84870"), looks := false }, kinds := [], alts := [], laidByText := true, laidKinds := [.data, .data, .data], laidTests := true, laidLooks := .later }
def DataCopiesCardSaid : Prop := Claim7.holds Tryd.pinned (.plain (OpenSpec.ofChange dataCopiesSpec)) dataCopiesCard

/-- THE TIED CARD OF 'credenzalaw03.DataApart'. -/
def dataApartCard : Claim7 := { stood := { row := dataApartRow, standIns := [], harness := (true, "312a2457902fe020e72ce93c71faba35c4d104a82dc3b1f40e9e67e9c3b84870"), looks := false }, kinds := [], alts := [], laidByText := true, laidKinds := [.data, .data, .data], laidTests := true, laidLooks := .later }
def DataApartCardSaid : Prop := Claim7.holds Tryd.pinned (.plain (OpenSpec.ofChange dataApartSpec)) dataApartCard

/-- THE TIED CARD OF 'credenzalaw03.DataWithin'. -/
def dataWithinCard : Claim7 := { stood := { row := dataWithinRow, standIns := [], harness := (true, "312a2457902fe020e72ce93c71faba35c4d104a82dc3b1f40e9e67e9c3b84870"), looks := false }, kinds := [], alts := [], laidByText := true, laidKinds := [.data, .data, .data], laidTests := true, laidLooks := .later }
def DataWithinCardSaid : Prop := Claim7.holds Tryd.pinned (.plain (OpenSpec.ofChange dataWithinSpec)) dataWithinCard

/-- THE TIED CARD OF 'credenzalaw03.DataWraps'. -/
def dataWrapsCard : Claim7 := { stood := { row := dataWrapsRow, standIns := [], harness := (true, "312a2457902fe020e72ce93c71faba35c4d104a82dc3b1f40e9e67e9c3b84870"), looks := false }, kinds := [], alts := [], laidByText := true, laidKinds := [.data, .data, .data], laidTests := true, laidLooks := .later }
def DataWrapsCardSaid : Prop := Claim7.holds Tryd.pinned (.plain (OpenSpec.ofChange dataWrapsSpec)) dataWrapsCard

/-- THE SECOND FORM's CARD OF 'credenzalaw03.DataChecks'. -/
def dataChecksUptoCard : Claim7 := { stood := { row := dataChecksUptoRow, standIns := [], harness := (true, "312a2457902fe020e72ce93c71faba35c4d104a82dc3b1f40e9e67e9c3b84870"), looks := false }, kinds := [], alts := [], laidByText := true, laidKinds := [.data, .data, .data], laidTests := true, laidLooks := .later }
def DataChecksUptoCardSaid : Prop := Claim7.holds Tryd.pinned (.plain (OpenSpec.upto dataChecksSpec)) dataChecksUptoCard

/-- THE SECOND FORM's CARD OF 'credenzalaw03.DataLooks'. -/
def dataLooksUptoCard : Claim7 := { stood := { row := dataLooksUptoRow, standIns := [], harness := (true, "312a2457902fe020e72ce93c71faba35c4d104a82dc3b1f40e9e67e9c3b84870"), looks := false }, kinds := [], alts := [], laidByText := true, laidKinds := [.data, .data, .data], laidTests := true, laidLooks := .later }
def DataLooksUptoCardSaid : Prop := Claim7.holds Tryd.pinned (.plain (OpenSpec.upto dataLooksSpec)) dataLooksUptoCard

/-- THE SECOND FORM's CARD OF 'credenzalaw03.DataTexts'. -/
def dataTextsUptoCard : Claim7 := { stood := { row := dataTextsUptoRow, standIns := [], harness := (true, "312a2457902fe020e72ce93c71faba35c4d104a82dc3b1f40e9e67e9c3b84870"), looks := false }, kinds := [], alts := [], laidByText := true, laidKinds := [.data, .data, .data], laidTests := true, laidLooks := .later }
def DataTextsUptoCardSaid : Prop := Claim7.holds Tryd.pinned (.plain (OpenSpec.upto dataTextsSpec)) dataTextsUptoCard

/-- THE SECOND FORM's CARD OF 'credenzalaw03.DataCopies'. -/
def dataCopiesUptoCard : Claim7 := { stood := { row := dataCopiesUptoRow, standIns := [], harness := (true, "312a2457902fe020e72ce93c71faba35c4d104a82dc3b1f40e9e67e9c3b84870"), looks := false }, kinds := [], alts := [], laidByText := true, laidKinds := [.data, .data, .data], laidTests := true, laidLooks := .later }
def DataCopiesUptoCardSaid : Prop := Claim7.holds Tryd.pinned (.plain (OpenSpec.upto dataCopiesSpec)) dataCopiesUptoCard

/-- THE SECOND FORM's CARD OF 'credenzalaw03.DataApart'. -/
def dataApartUptoCard : Claim7 := { stood := { row := dataApartUptoRow, standIns := [], harness := (true, "312a2457902fe020e72ce93c71faba35c4d104a82dc3b1f40e9e67e9c3b84870"), looks := false }, kinds := [], alts := [], laidByText := true, laidKinds := [.data, .data, .data], laidTests := true, laidLooks := .later }
def DataApartUptoCardSaid : Prop := Claim7.holds Tryd.pinned (.plain (OpenSpec.upto dataApartSpec)) dataApartUptoCard

/-- THE SECOND FORM's CARD OF 'credenzalaw03.DataWithin'. -/
def dataWithinUptoCard : Claim7 := { stood := { row := dataWithinUptoRow, standIns := [], harness := (true, "312a2457902fe020e72ce93c71faba35c4d104a82dc3b1f40e9e67e9c3b84870"), looks := false }, kinds := [], alts := [], laidByText := true, laidKinds := [.data, .data, .data], laidTests := true, laidLooks := .later }
def DataWithinUptoCardSaid : Prop := Claim7.holds Tryd.pinned (.plain (OpenSpec.upto dataWithinSpec)) dataWithinUptoCard

/-- THE SECOND FORM's CARD OF 'credenzalaw03.DataWraps'. -/
def dataWrapsUptoCard : Claim7 := { stood := { row := dataWrapsUptoRow, standIns := [], harness := (true, "312a2457902fe020e72ce93c71faba35c4d104a82dc3b1f40e9e67e9c3b84870"), looks := false }, kinds := [], alts := [], laidByText := true, laidKinds := [.data, .data, .data], laidTests := true, laidLooks := .later }
def DataWrapsUptoCardSaid : Prop := Claim7.holds Tryd.pinned (.plain (OpenSpec.upto dataWrapsSpec)) dataWrapsUptoCard
end Rows
end Go.Proofs.YtmibnfjjlibpgaaDoor
