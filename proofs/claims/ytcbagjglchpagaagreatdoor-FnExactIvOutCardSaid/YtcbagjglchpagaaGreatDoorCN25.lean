/- Contracts: lists of intervals that all are in form. -/
import Derived.Test.YtcbagjglchpagaaGreatDoorCN22
import Derived.Test.YtcbagjglchpagaaGreatDoorCPeTj
namespace Go.Proofs
open Go Go.Pe Go.Dg
namespace Tryz
set_option linter.unusedSimpArgs false
set_option linter.unusedVariables false
variable {P : Program} {gl : List (Nat × Obj)}

end Tryz
end Go.Proofs
