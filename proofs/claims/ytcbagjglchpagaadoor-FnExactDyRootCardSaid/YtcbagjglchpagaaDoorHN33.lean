/- Contracts: the quotient in the reference. -/
import Derived.Test.YtcbagjglchpagaaDoorHN31
import Derived.Test.YtcbagjglchpagaaDoorHN32
namespace Go.Proofs
open Go Go.Pe Go.Dg
namespace Tryd
set_option linter.unusedSimpArgs false
set_option linter.unusedVariables false
variable {P : Program} {gl : List (Nat × Obj)}

end Tryd
end Go.Proofs
