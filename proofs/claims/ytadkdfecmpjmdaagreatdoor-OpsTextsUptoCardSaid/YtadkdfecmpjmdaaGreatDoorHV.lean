/- cap of a slice; slices.overlaps of two blocks: raw operations. -/
import Derived.Test.YtadkdfecmpjmdaaGreatDoorHQ
import Derived.Test.YtadkdfecmpjmdaaGreatDoorHK
set_option linter.unusedVariables false
set_option linter.unusedSimpArgs false
namespace Go.H
variable {P : Program} {ev : Operand → Value} {h : Heap} {K : Next → Heap → Prop} {E : Halt → Heap → Prop}
end Go.H
