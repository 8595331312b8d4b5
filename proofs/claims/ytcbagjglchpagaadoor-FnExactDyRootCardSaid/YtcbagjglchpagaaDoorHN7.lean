/- Contracts: the reference's signed numbers, more. -/
import Derived.Test.YtcbagjglchpagaaDoorHN6
import Derived.Test.YtcbagjglchpagaaDoorHEvD
namespace Go.Proofs
open Go Go.Pe Go.Dg
namespace Tryd
set_option linter.unusedSimpArgs false
set_option linter.unusedVariables false
variable {P : Program} {gl : List (Nat × Obj)}

theorem bne_t {A : AR} (hA : A = AR.std) {s t : Bool} (h : A.bnot (A.beq s t) = true) : t = !s := by subst hA; cases s <;> cases t <;> first | rfl | exact absurd h (by decide)
theorem bne_f {A : AR} (hA : A = AR.std) {s t : Bool} (h : A.bnot (A.beq s t) = false) : t = s := by subst hA; cases s <;> cases t <;> first | rfl | exact absurd h (by decide)
theorem beq_t {A : AR} (hA : A = AR.std) {s t : Bool} (h : A.beq s t = true) : t = s := by subst hA; cases s <;> cases t <;> first | rfl | exact absurd h (by decide)
theorem beq_f {A : AR} (hA : A = AR.std) {s t : Bool} (h : A.beq s t = false) : t = !s := by subst hA; cases s <;> cases t <;> first | rfl | exact absurd h (by decide)

theorem dg_len_mono {x y : Nat} (h : x ≤ y) : (dg x).length ≤ (dg y).length := by
  rcases Nat.lt_or_ge (dg y).length (dg x).length with h' | h'
  · have := dg_len_lt h'; omega
  · exact h'

theorem dg_len_add (x y : Nat) : (dg (x + y)).length ≤ (dg x).length + (dg y).length + 1 := by
  refine dg_len_le _ _ ?_
  have h1 := dg_lt_pow x
  have h2 := dg_lt_pow y
  have h3 : 65536 ^ (dg x).length ≤ 65536 ^ ((dg x).length + (dg y).length) := Nat.pow_le_pow_right (by decide) (by omega)
  have h4 : 65536 ^ (dg y).length ≤ 65536 ^ ((dg x).length + (dg y).length) := Nat.pow_le_pow_right (by decide) (by omega)
  rw [Nat.pow_succ]
  omega

end Tryd
end Go.Proofs
