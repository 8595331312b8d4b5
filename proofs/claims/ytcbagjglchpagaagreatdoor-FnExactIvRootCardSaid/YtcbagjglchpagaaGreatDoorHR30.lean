/- Contracts: numbers rounded, in the program. -/
import Derived.Test.YtcbagjglchpagaaGreatDoorHN30
import Derived.Test.YtcbagjglchpagaaGreatDoorHEvD
namespace Go.Proofs
open Go Go.Pe Go.Dg
namespace Tryz
set_option linter.unusedSimpArgs false
set_option linter.unusedVariables false
variable {P : Program} {gl : List (Nat × Obj)}

end Tryz
end Go.Proofs
