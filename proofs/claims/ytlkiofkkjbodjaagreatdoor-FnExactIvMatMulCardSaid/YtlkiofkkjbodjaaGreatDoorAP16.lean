/- Contracts: products of interval matrices in form. -/
import Derived.Test.YtlkiofkkjbodjaaGreatDoorAP16a
import Derived.Test.YtlkiofkkjbodjaaGreatDoorAP16b
namespace Go.Proofs
open Go Go.Pe Go.Dg
namespace Tryz
set_option linter.unusedSimpArgs false
set_option linter.unusedVariables false
variable {P : Program} {gl : List (Nat × Obj)}

theorem ivTimes_ex {vs ws : List Cell6} {n : Int} (n1 : 1 ≤ n) (n4 : n ≤ 4) (hvl : (vs.length : Int) = n * n) (hwl : (ws.length : Int) = n * n) (hva : allV vs) (hwa : allV ws) :
  ∃ xs, xs.length = vs.length ∧ XV (ivmLo n vs ws) (ivmHi n vs ws) 24208 6000 xs ∧
   ∀ (P : Program) (gl : List (Nat × Obj)) (p q r : List PV), Cx P gl → p = cells6 vs → q = cells6 ws → r = cells6 xs → FS P gl 64 [.agg [I n, .lst p], .agg [I n, .lst q]] (· = .agg [I n, .lst r]) :=
 fieldTimes_ex (allV_XV hva) (allV_XV hwa) (by omega) n4 hvl hwl (by omega) (by omega) (by omega) (by omega)

theorem vmul_len {vs ws : List Cell6} {n : Int} (n1 : 1 ≤ n) (n4 : n ≤ 4) (hvl : (vs.length : Int) = n * n) (hwl : (ws.length : Int) = n * n) (hva : allV vs) (hwa : allV ws) {k : Nat} (hk : k < vs.length) :
  (dg (cZ (ivmLo n vs ws k)).natAbs).length ≤ 100000 ∧ (dg (cZ (ivmHi n vs ws k)).natAbs).length ≤ 100000 := by
 obtain ⟨xs, x1, x2, _⟩ := ivTimes_ex n1 n4 hvl hwl hva hwa
 obtain ⟨h1, h2⟩ := x2 k (by omega)
 have c1 := X_can h1
 have c2 := X_can h2
 omega

theorem ivm_le {vs ws : List Cell6} {n : Int} (n1 : 1 ≤ n) (n4 : n ≤ 4) (hvl : (vs.length : Int) = n * n) (hwl : (ws.length : Int) = n * n) (hva : allV vs) (hwa : allV ws) {k : Nat} (hk : k < vs.length) :
  ivmLo n vs ws k ≤ ivmHi n vs ws k := ivm_le0 n vs ws k

end Tryz
end Go.Proofs
