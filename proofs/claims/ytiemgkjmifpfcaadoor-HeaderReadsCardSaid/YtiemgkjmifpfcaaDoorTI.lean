import Derived.Test.YtiemgkjmifpfcaaDoorAbA
import Derived.Test.YtiemgkjmifpfcaaDoorProg
import Derived.KernelRfl
set_option linter.unusedVariables false
set_option linter.unusedSimpArgs false
namespace Go.Ab.T
open Go Go.Ab Go.Proofs
def I : Ids := ⟨91, 94, 98⟩
end Go.Ab.T
