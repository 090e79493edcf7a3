import Derived.Test.YtiemgkjmifpfcabDoorAbA
import Derived.Test.YtiemgkjmifpfcabDoorProg
import Derived.KernelRfl
set_option linter.unusedVariables false
set_option linter.unusedSimpArgs false
namespace Go.Ab.T
open Go Go.Ab Go.Proofs
def I : Ids := ⟨82, 85, 89⟩
end Go.Ab.T
