/- From what memory holds as a call begins to slices, and from a call told of the heap to the row. -/
import Derived.Test.YtadkdfecmpjmdaaGreatDoorHG
import Derived.SizedLaws
import Derived.ChangeSlices
import Derived.WalkKit
import Derived.ProofKit
import Derived.OpenShut
import Derived.ShutString
import Derived.ChangeOld
set_option linter.unusedVariables false
set_option linter.unusedSimpArgs false
namespace Go.H
open Go.ChangeShapes Go.WideShapes Go.RowKit

theorem row_of {P : Program} {f : FuncId} {args : Array Value} {w : World} (c : HCalls P f args w.heap fun e h' => e = .returned (.bool true) ∧ Ext w.heap h') :
    Calls P f args w fun e w' => e = .returned (.bool true) ∧ Below w.heap.size w w' :=
  (c w rfl).mono fun _ _ ⟨s, he, x⟩ => ⟨he, s.os, s.tape, s.output, x.1, x.2⟩

end Go.H
