/- Contracts: lists of dyadic numbers that all are in form. -/
import Derived.Test.YtcbagjglchpagaaDoorHN20
import Derived.Test.YtcbagjglchpagaaDoorHEvD
namespace Go.Proofs
open Go Go.Pe Go.Dg
namespace Tryd
set_option linter.unusedSimpArgs false
set_option linter.unusedVariables false
variable {P : Program} {gl : List (Nat × Obj)}

end Tryd
end Go.Proofs
