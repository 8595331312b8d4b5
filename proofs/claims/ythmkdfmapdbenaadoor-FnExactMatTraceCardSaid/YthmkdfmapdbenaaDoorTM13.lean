/- Contracts: products of numbers in any form, sums of products. -/
import Derived.Test.YthmkdfmapdbenaaDoorTM6
namespace Go.Proofs
open Go Go.Pe Go.Dg
namespace Tryd
set_option linter.unusedSimpArgs false
set_option linter.unusedVariables false
variable {P : Program} {gl : List (Nat × Obj)}

/-- what exact.OP of two cells yields -/
def callP (gl : List (Nat × Obj)) (f : FuncId) (y1 y2 y : Cell3) : Prop := ∀ (P : Program) (p q r : List PV), Cx P gl → p = intsL y1.2.1 → q = intsL y2.2.1 → r = intsL y.2.1 → FS P gl f [.agg [B y1.1, .lst p, I y1.2.2], .agg [B y2.1, .lst q, I y2.2.2]] (· = .agg [B y.1, .lst r, I y.2.2])

end Tryd
end Go.Proofs
