import Derived.Test.YtiflhpcbnnnddaaDoorAbA
import Derived.Test.YtiflhpcbnnnddaaDoorProg
import Derived.KernelRfl
set_option linter.unusedVariables false
set_option linter.unusedSimpArgs false
namespace Go.Ab.T
open Go Go.Ab Go.Proofs
def I : Ids := ⟨57, 60, 64⟩
end Go.Ab.T
