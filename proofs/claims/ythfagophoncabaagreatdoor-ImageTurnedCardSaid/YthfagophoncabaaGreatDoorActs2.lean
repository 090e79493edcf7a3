import Derived.Test.YthfagophoncabaaGreatDoorActs1
import Derived.Test.YthfagophoncabaaGreatDoorAbC
set_option linter.unusedVariables false
set_option linter.unusedSimpArgs false
set_option linter.unusedSectionVars false
namespace Go.Ab.T
open Go Go.Ab Go.Proofs
variable [DMode]
set_option maxRecDepth 100000
set_option maxHeartbeats 4000000
end Go.Ab.T

