/- Contracts: lists of numbers, each in a canonical form in memory of its own. -/
import Derived.Test.YthmkdfmapdbenaaDoorTM5
import Derived.Test.YthmkdfmapdbenaaDoorTN29
import Derived.Test.YthmkdfmapdbenaaDoorTEvD
namespace Go.Proofs
open Go Go.Pe Go.Dg
namespace Tryd
set_option linter.unusedSimpArgs false
set_option linter.unusedVariables false
variable {P : Program} {gl : List (Nat × Obj)}

end Tryd
end Go.Proofs
