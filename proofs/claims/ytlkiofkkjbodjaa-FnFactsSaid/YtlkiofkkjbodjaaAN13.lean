/- Contracts: exact numbers, differences and odd forms. -/
import Derived.Test.YtlkiofkkjbodjaaAN12
namespace Go.Proofs
open Go Go.Pe Go.Dg
namespace Try
set_option linter.unusedSimpArgs false
set_option linter.unusedVariables false
variable {P : Program} {gl : List (Nat × Obj)}

end Try
end Go.Proofs
