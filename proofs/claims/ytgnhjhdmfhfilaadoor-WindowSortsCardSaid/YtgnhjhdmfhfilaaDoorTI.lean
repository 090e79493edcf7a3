import Derived.Test.YtgnhjhdmfhfilaaDoorAbA
import Derived.Test.YtgnhjhdmfhfilaaDoorProg
import Derived.KernelRfl
set_option linter.unusedVariables false
set_option linter.unusedSimpArgs false
set_option linter.unusedSectionVars false
namespace Go.Ab.T
open Go Go.Ab Go.Proofs
def I : Ids := ⟨92, 95, 99⟩
end Go.Ab.T
