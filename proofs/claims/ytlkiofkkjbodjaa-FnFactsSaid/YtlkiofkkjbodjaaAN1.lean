/- Contracts of functions over numbers as lists of digits to the base 65536. -/
import Derived.Test.YtlkiofkkjbodjaaASx
import Derived.Test.YtlkiofkkjbodjaaAEvD
namespace Go.Proofs
open Go Go.Pe Go.Dg
namespace Try
set_option linter.unusedSimpArgs false
set_option linter.unusedVariables false
set_option linter.unusedSimpArgs false
variable {P : Program} {gl : List (Nat × Obj)}

end Try
end Go.Proofs
