/- Contracts: the reference's dyadic numbers. -/
import Derived.Test.YtlkiofkkjbodjaaAN7
namespace Go.Proofs
open Go Go.Pe Go.Dg
namespace Try
set_option linter.unusedSimpArgs false
set_option linter.unusedVariables false
variable {P : Program} {gl : List (Nat × Obj)}

theorem len_t {A : AR} (hA : A = AR.std) {p : List PV} {l : List Int} (hp : p = intsL l) (h : A.eq (A.cast (A.len p)) 0 = true) : l.length = 0 := by
 (subst hA; subst_vars; simp only [AR.std, natCast_eq, sH, reduceCtorEq] at *; try simp (disch := omega) only [AR.std, natCast_eq, sH, reduceCtorEq] at *); omega
theorem len_f {A : AR} (hA : A = AR.std) {p : List PV} {l : List Int} (hp : p = intsL l) (h : A.eq (A.cast (A.len p)) 0 = false) : l.length ≠ 0 := by
 (subst hA; subst_vars; simp only [AR.std, natCast_eq, sH, reduceCtorEq] at *; try simp (disch := omega) only [AR.std, natCast_eq, sH, reduceCtorEq] at *); omega

end Try
end Go.Proofs
