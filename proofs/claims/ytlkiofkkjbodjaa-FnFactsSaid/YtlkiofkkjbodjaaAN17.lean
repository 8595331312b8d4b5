/- Contracts: spans. -/
import Derived.Test.YtlkiofkkjbodjaaAN16
namespace Go.Proofs
open Go Go.Pe Go.Dg
namespace Try
set_option linter.unusedSimpArgs false
set_option linter.unusedVariables false
variable {P : Program} {gl : List (Nat × Obj)}

end Try
end Go.Proofs
