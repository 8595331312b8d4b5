/- Contracts: how wide an interval is, as the program tells it. -/
import Derived.Test.YtcbagjglchpagaaDoorHN22
namespace Go.Proofs
open Go Go.Pe Go.Dg
namespace Tryd
set_option linter.unusedSimpArgs false
set_option linter.unusedVariables false
variable {P : Program} {gl : List (Nat × Obj)}

theorem dg_zero : dg 0 = [] := List.eq_nil_of_length_eq_zero (dg_len0.2 rfl)

theorem fits_zero : fits 0 := by
  have : cZ (0 : Dyadic) = 0 := cZ_eq_zero.2 rfl
  refine ⟨by rw [this, show Int.natAbs 0 = 0 from rfl, dg_zero]; decide, by decide, by decide⟩

end Tryd
end Go.Proofs
