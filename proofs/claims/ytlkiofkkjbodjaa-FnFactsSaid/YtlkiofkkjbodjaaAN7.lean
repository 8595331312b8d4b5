/- Contracts: the reference's signed numbers, more. -/
import Derived.Test.YtlkiofkkjbodjaaAN6
import Derived.Test.YtlkiofkkjbodjaaAEvD
namespace Go.Proofs
open Go Go.Pe Go.Dg
namespace Try
set_option linter.unusedSimpArgs false
set_option linter.unusedVariables false
variable {P : Program} {gl : List (Nat × Obj)}

theorem bne_t {A : AR} (hA : A = AR.std) {s t : Bool} (h : A.bnot (A.beq s t) = true) : t = !s := by subst hA; cases s <;> cases t <;> first | rfl | exact absurd h (by decide)
theorem bne_f {A : AR} (hA : A = AR.std) {s t : Bool} (h : A.bnot (A.beq s t) = false) : t = s := by subst hA; cases s <;> cases t <;> first | rfl | exact absurd h (by decide)
theorem beq_t {A : AR} (hA : A = AR.std) {s t : Bool} (h : A.beq s t = true) : t = s := by subst hA; cases s <;> cases t <;> first | rfl | exact absurd h (by decide)
theorem beq_f {A : AR} (hA : A = AR.std) {s t : Bool} (h : A.beq s t = false) : t = !s := by subst hA; cases s <;> cases t <;> first | rfl | exact absurd h (by decide)

end Try
end Go.Proofs
