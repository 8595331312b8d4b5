/- Contracts: numbers rounded, in the program. -/
import Derived.Test.YtcbagjglchpagaaGreatDoorGN30
import Derived.Test.YtcbagjglchpagaaGreatDoorGEvD
namespace Go.Proofs
open Go Go.Pe Go.Dg
namespace Tryz
set_option linter.unusedSimpArgs false
set_option linter.unusedVariables false
variable {P : Program} {gl : List (Nat × Obj)}

end Tryz
end Go.Proofs
