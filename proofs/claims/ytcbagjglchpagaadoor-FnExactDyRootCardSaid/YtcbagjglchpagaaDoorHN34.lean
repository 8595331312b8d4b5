/- Contracts: the quotient in the reference, l4div. -/
import Derived.Test.YtcbagjglchpagaaDoorHN33
namespace Go.Proofs
open Go Go.Pe Go.Dg
namespace Tryd
set_option linter.unusedSimpArgs false
set_option linter.unusedVariables false
variable {P : Program} {gl : List (Nat × Obj)}

end Tryd
end Go.Proofs
