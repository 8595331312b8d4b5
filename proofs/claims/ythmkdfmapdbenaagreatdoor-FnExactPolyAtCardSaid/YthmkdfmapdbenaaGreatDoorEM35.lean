/- Contracts: matrices without a row and a column, determinants, in the reference. -/
import Derived.Test.YthmkdfmapdbenaaGreatDoorEM9
import Derived.Test.YthmkdfmapdbenaaGreatDoorEM15
import Derived.Test.YthmkdfmapdbenaaGreatDoorEPeTe
namespace Go.Proofs
open Go Go.Pe Go.Dg
namespace Tryz
set_option linter.unusedSimpArgs false
set_option linter.unusedVariables false
variable {P : Program} {gl : List (Nat × Obj)}

/-- the sum of the first j summands of a determinant -/
noncomputable def dsum (w : Nat) (d : Nat → Dyadic) (j : Nat) : Dyadic := psum (fun a => sgnD a (d a * detD (w - 1) (minorD w 0 a d))) j

theorem dsum_zero (w : Nat) (d : Nat → Dyadic) : dsum w d 0 = 0 := rfl
theorem dsum_succ (w : Nat) (d : Nat → Dyadic) (j : Nat) : dsum w d (j + 1) = dsum w d j + sgnD j (d j * detD (w - 1) (minorD w 0 j d)) := rfl

end Tryz
end Go.Proofs
