/- Plain laws: square roots by Newton's steps; a root rounded. -/
import Derived.Test.YtlkiofkkjbodjaaAEvD
set_option linter.unusedSimpArgs false
set_option linter.unusedVariables false
namespace Go.Pe
open Go Go.Dg

def isRt (a r : Nat) : Prop := r * r ≤ a ∧ a < (r + 1) * (r + 1)

theorem isRt_unique {a r s : Nat} (h : isRt a r) (g : isRt a s) : r = s := by
 rcases Nat.lt_trichotomy r s with h1 | h1 | h1
 ·have := Nat.mul_le_mul (show r + 1 ≤ s from h1) (show r + 1 ≤ s from h1)
  have h2 := h.2
  have g1 := g.1
  omega
 ·exact h1
 ·have := Nat.mul_le_mul (show s + 1 ≤ r from h1) (show s + 1 ≤ r from h1)
  have h2 := g.2
  have g1 := h.1
  omega

end Go.Pe
