/- Contracts: the reference's forms. -/
import Derived.Test.YtlkiofkkjbodjaaAN8
import Derived.Test.YtlkiofkkjbodjaaAEvD
namespace Go.Proofs
open Go Go.Pe Go.Dg
namespace Try
set_option linter.unusedSimpArgs false
set_option linter.unusedVariables false
variable {P : Program} {gl : List (Nat × Obj)}

theorem dyok_t {A : AR} (hA : A = AR.std) {c : Bool} {e : Int} (h : A.pick (A.pick (A.bnot c) true (A.lt e (-3000))) true (A.lt 3000 e) = true) : c = false ∨ e < -3000 ∨ 3000 < e := by
 subst hA; cases c
 ·exact .inl rfl
 ·right; simp only [AR.std, AR.std, natCast_eq, sH, reduceCtorEq] at h; simpa using h
theorem dyok_f {A : AR} (hA : A = AR.std) {c : Bool} {e : Int} (h : A.pick (A.pick (A.bnot c) true (A.lt e (-3000))) true (A.lt 3000 e) = false) : c = true ∧ -3000 ≤ e ∧ e ≤ 3000 := by
 subst hA; cases c
 ·exact absurd h (by simp [AR.std])
 ·simp [AR.std] at h; exact ⟨rfl, by omega, by omega⟩

theorem bool_of (p : Prop) : ∃ b : Bool, b = true ↔ p := by
 classical
 exact ⟨decide p, by simp⟩

end Try
end Go.Proofs
