/- Contracts: sums and differences of numbers in any form, and of matrices of them. -/
import Derived.Test.YthmkdfmapdbenaaGreatDoorAM7
namespace Go.Proofs
open Go Go.Pe Go.Dg
namespace Tryz
set_option linter.unusedSimpArgs false
set_option linter.unusedVariables false
variable {P : Program} {gl : List (Nat × Obj)}

end Tryz
end Go.Proofs
