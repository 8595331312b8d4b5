/- Plain laws: the root of a dyadic number rounded. -/
import Derived.Test.YtlkiofkkjbodjaaAPeRt
set_option linter.unusedSimpArgs false
set_option linter.unusedVariables false
namespace Go.Pe
open Go Go.Dg

theorem rt_ex (a : Nat) : ∃ r, isRt a r := by
 have key : ∀ n r : Nat, r * r ≤ a → a < (r + n + 1) * (r + n + 1) → ∃ r, isRt a r := by
  intro n
  induction n with
  | zero => intro r h1 h2; exact ⟨r, h1, h2⟩
  | succ n ih =>
   intro r h1 h2
   by_cases h : a < (r + 1) * (r + 1)
   ·exact ⟨r, h1, h⟩
   ·exact ih (r + 1) (by omega) (by rw [show r + 1 + n + 1 = r + (n + 1) + 1 by omega]; exact h2)
 refine key a 0 (Nat.zero_le _) ?_
 have : a + 1 ≤ (0 + a + 1) * (0 + a + 1) := by rw [Nat.zero_add]; exact Nat.le_mul_of_pos_right _ (by omega)
 omega

noncomputable def rtN (a : Nat) : Nat := Classical.choose (rt_ex a)
theorem rtN_spec (a : Nat) : isRt a (rtN a) := Classical.choose_spec (rt_ex a)
theorem rtN_zero : rtN 0 = 0 := isRt_unique (rtN_spec 0) ⟨Nat.le_refl _, by decide⟩
theorem rtN_le (a : Nat) : rtN a ≤ a := by
 have h := (rtN_spec a).1
 rcases Nat.eq_zero_or_pos (rtN a) with h0 | h0
 ·omega
 ·exact Nat.le_trans (Nat.le_mul_of_pos_right _ h0) h

end Go.Pe
