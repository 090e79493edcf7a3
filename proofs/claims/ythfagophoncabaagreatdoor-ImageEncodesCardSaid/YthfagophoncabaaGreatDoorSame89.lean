import Derived.Test.YthfagophoncabaaGreatDoorSched3
import Derived.Test.YthfagophoncabaaGreatDoorParts4
set_option linter.unusedVariables false
set_option linter.unusedSimpArgs false
set_option linter.unusedSectionVars false
namespace Go.Ab.T
open Go Go.Ab Go.Proofs
variable [DMode]
set_option maxRecDepth 100000
set_option maxHeartbeats 4000000
end Go.Ab.T
