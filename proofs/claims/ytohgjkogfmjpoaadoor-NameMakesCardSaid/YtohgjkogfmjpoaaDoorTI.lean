import Derived.Test.YtohgjkogfmjpoaaDoorAbA
import Derived.Test.YtohgjkogfmjpoaaDoorProg
import Derived.KernelRfl
set_option linter.unusedVariables false
set_option linter.unusedSimpArgs false
namespace Go.Ab.T
open Go Go.Ab Go.Proofs
def I : Ids := ⟨0, 0, 0⟩
end Go.Ab.T
