import Derived.Test.YtiemgkjmifpfcaaAbA
import Derived.Test.YtiemgkjmifpfcaaProg
import Derived.KernelRfl
set_option linter.unusedVariables false
set_option linter.unusedSimpArgs false
namespace Go.Ab.T
open Go Go.Ab Go.Proofs
def I : Ids := ⟨123, 118, 121⟩
end Go.Ab.T
