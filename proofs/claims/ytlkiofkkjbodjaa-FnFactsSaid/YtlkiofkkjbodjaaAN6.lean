/- Contracts: the reference's signed numbers. -/
import Derived.Test.YtlkiofkkjbodjaaAN5
namespace Go.Proofs
open Go Go.Pe Go.Dg
namespace Try
set_option linter.unusedSimpArgs false
set_option linter.unusedVariables false
variable {P : Program} {gl : List (Nat × Obj)}

theorem dg_pos {n : Nat} (h : n ≠ 0) : 0 < (dg n).length := by
 rcases Nat.eq_zero_or_pos (dg n).length with e | e
 ·have := List.eq_nil_of_length_eq_zero e
  rw [← dg_zero] at this
  exact absurd (dg_inj this) h
 ·exact e

end Try
end Go.Proofs
