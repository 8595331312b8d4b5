/- Contracts: the quotient in the reference. -/
import Derived.Test.YtcbagjglchpagaaGreatDoorHN31
import Derived.Test.YtcbagjglchpagaaGreatDoorHN32
namespace Go.Proofs
open Go Go.Pe Go.Dg
namespace Tryz
set_option linter.unusedSimpArgs false
set_option linter.unusedVariables false
variable {P : Program} {gl : List (Nat × Obj)}

end Tryz
end Go.Proofs
