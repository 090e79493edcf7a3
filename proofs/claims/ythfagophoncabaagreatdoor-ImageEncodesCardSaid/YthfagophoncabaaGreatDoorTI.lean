import Derived.Test.YthfagophoncabaaGreatDoorAbA
import Derived.Test.YthfagophoncabaaGreatDoorProg
import Derived.KernelRfl
set_option linter.unusedVariables false
set_option linter.unusedSimpArgs false
set_option linter.unusedSectionVars false
namespace Go.Ab.T
open Go Go.Ab Go.Proofs
def I : Ids := ⟨98, 101, 105⟩
end Go.Ab.T
