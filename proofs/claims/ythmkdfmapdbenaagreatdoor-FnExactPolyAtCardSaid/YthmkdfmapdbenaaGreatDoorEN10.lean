/- Contracts: the reference's intervals. -/
import Derived.Test.YthmkdfmapdbenaaGreatDoorEN9
namespace Go.Proofs
open Go Go.Pe Go.Dg
namespace Tryz
set_option linter.unusedSimpArgs false
set_option linter.unusedVariables false
variable {P : Program} {gl : List (Nat × Obj)}

end Tryz
end Go.Proofs
