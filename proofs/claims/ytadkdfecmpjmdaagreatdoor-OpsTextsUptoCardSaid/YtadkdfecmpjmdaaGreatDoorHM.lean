/- Functions that defer closures, and closures that recover. -/
import Derived.Test.YtadkdfecmpjmdaaGreatDoorHL
import Derived.Recover
set_option linter.unusedVariables false
set_option linter.unusedSimpArgs false
namespace Go.H

section
variable {P : Program} {n : Nat}

end
end Go.H
