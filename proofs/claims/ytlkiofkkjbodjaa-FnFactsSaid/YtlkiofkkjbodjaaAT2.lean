/- The law FnFacts at every code. -/
import Derived.Test.YtlkiofkkjbodjaaAT1
import Derived.Test.YtlkiofkkjbodjaaAPeTo
namespace Go.Proofs
open Go Go.Pe Go.Dg
namespace Try
set_option linter.unusedSimpArgs false
set_option linter.unusedVariables false
variable {P : Program} {gl : List (Nat × Obj)}

theorem fac_pos : ∀ n : Nat, 0 < fac n
 | 0 => by decide
 | n + 1 => by simp only [fac]; exact Nat.mul_pos (by omega) (fac_pos n)

theorem facts_enough {m t : Nat} (h : 2 ^ m ≤ fac (t + 1) * 2 ^ t) : (m : Int) ≤ t + bl (fac (t + 1)) - 1 := by
 have hf := fac_pos (t + 1)
 have h0 : fac (t + 1) * 2 ^ t ≠ 0 := Nat.ne_of_gt (Nat.mul_pos hf (Nat.two_pow_pos _))
 have h1 := bl_shl (x := fac (t + 1)) (k := t) (by omega)
 have h2 := bl_le m (fac (t + 1) * 2 ^ t)
 omega

theorem facts_few {m t : Nat} (h : fac (t + 1) * 2 ^ t < 2 ^ m) : (t : Int) + bl (fac (t + 1)) - 1 < m := by
 have hf := fac_pos (t + 1)
 have h1 := bl_shl (x := fac (t + 1)) (k := t) (by omega)
 have h2 := bl_le m (fac (t + 1) * 2 ^ t)
 omega

end Try
end Go.Proofs
