import Derived.Test.YtjopocnnngbpiaaDoorAbA
import Derived.Test.YtjopocnnngbpiaaDoorProg
import Derived.KernelRfl
set_option linter.unusedVariables false
set_option linter.unusedSimpArgs false
set_option linter.unusedSectionVars false
namespace Go.Ab.T
open Go Go.Ab Go.Proofs
def I : Ids := ⟨47, 50, 54⟩
end Go.Ab.T
