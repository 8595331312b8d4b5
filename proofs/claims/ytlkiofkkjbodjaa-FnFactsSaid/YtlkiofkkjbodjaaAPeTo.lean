/- Quotients and roots with more bits than are asked for: rounded, exact, their tops. -/
import Derived.Test.YtlkiofkkjbodjaaAPeRu
set_option linter.unusedSimpArgs false
set_option linter.unusedVariables false
namespace Go.Dg
open Go Go.Pe

theorem bl_iff {x t : Nat} : bl x = t + 1 ↔ 2 ^ t ≤ x ∧ x < 2 ^ (t + 1) := by
 have h1 := bl_le (t + 1) x
 have h2 := bl_le t x
 omega

theorem bl_shl {x k : Nat} (hx : x ≠ 0) : bl (x * 2 ^ k) = bl x + k := by
 obtain ⟨t, ht⟩ : ∃ t, bl x = t + 1 := by
  refine ⟨bl x - 1, ?_⟩
  have := bl_le 0 x
  rw [Nat.pow_zero] at this
  omega
 obtain ⟨h1, h2⟩ := bl_iff.1 ht
 rw [ht, show t + 1 + k = (t + k) + 1 by omega, bl_iff, show t + k + 1 = (t + 1) + k by omega, Nat.pow_add, Nat.pow_add]
 exact ⟨Nat.mul_le_mul_right _ h1, Nat.mul_lt_mul_of_pos_right h2 (Nat.two_pow_pos k)⟩

end Go.Dg
