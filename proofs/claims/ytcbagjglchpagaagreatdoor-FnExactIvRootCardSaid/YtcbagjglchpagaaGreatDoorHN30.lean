/- Contracts: DyDiv as the program has it. -/
import Derived.Test.YtcbagjglchpagaaGreatDoorHD6
import Derived.Test.YtcbagjglchpagaaGreatDoorHN21
import Derived.Test.YtcbagjglchpagaaGreatDoorHN29
namespace Go.Proofs
open Go Go.Pe Go.Dg
namespace Tryz
set_option linter.unusedSimpArgs false
set_option linter.unusedVariables false
variable {P : Program} {gl : List (Nat × Obj)}

end Tryz
end Go.Proofs
