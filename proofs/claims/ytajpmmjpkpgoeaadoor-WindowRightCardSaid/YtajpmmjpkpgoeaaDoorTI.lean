import Derived.Test.YtajpmmjpkpgoeaaDoorAbA
import Derived.Test.YtajpmmjpkpgoeaaDoorProg
import Derived.KernelRfl
set_option linter.unusedVariables false
set_option linter.unusedSimpArgs false
set_option linter.unusedSectionVars false
namespace Go.Ab.T
open Go Go.Ab Go.Proofs
def I : Ids := ⟨52, 55, 59⟩
end Go.Ab.T
