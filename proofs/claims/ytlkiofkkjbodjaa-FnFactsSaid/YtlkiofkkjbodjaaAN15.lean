/- Contracts: results that own nothing. -/
import Derived.Test.YtlkiofkkjbodjaaAN14
set_option maxHeartbeats 1000000
set_option maxRecDepth 100000
namespace Go.Proofs
open Go Go.Pe Go.Dg
namespace Try
set_option linter.unusedSimpArgs false
set_option linter.unusedVariables false
variable {P : Program} {gl : List (Nat × Obj)}

theorem clone0_fs (C : Cx P gl) : FS P gl 24 [.lst []] (· = .lst []) := by
 obtain ⟨rfl, hG⟩ := C
 refine FS_ofT (args := fun A => [.lst []]) (R := fun A rr => rr = .lst []) Try.hT Try.mix Try.func24 rfl rfl (Nat.le_of_ble_eq_true rfl) ?_
 generalize hP : Try.prog = P
 intro A hA
 have C : Try.Cx P gl := ⟨hP.symm, hG⟩
 have hI : intsL = A.ints := by subst hA; rfl
 iterate 2 (all_goals try cbv; all_goals with_reducible repeat' first | exact True.intro | refine And.intro ?_ ?_ | intro _)
 all_goals try exact oH
 iterate 2 (all_goals try cbv; all_goals with_reducible repeat' first | exact True.intro | refine And.intro ?_ ?_ | intro _)
 all_goals try exact oH
 ·subst hA; intro p hp; cases hp
 ·subst hA; intro p hp; cases hp
 ·subst hA; rfl

theorem natOf0_fs (C : Cx P gl) : FS P gl 15 [.lst []] (· = .tup [.agg [.lst []], B true]) := by
 obtain ⟨rfl, hG⟩ := C
 refine FS_ofT (args := fun A => [.lst []]) (R := fun A rr => rr = .tup [.agg [.lst []], B true]) Try.hT Try.mix Try.func15 rfl rfl (Nat.le_of_ble_eq_true rfl) ?_
 generalize hP : Try.prog = P
 intro A hA
 have C : Try.Cx P gl := ⟨hP.symm, hG⟩
 have hI : intsL = A.ints := by subst hA; rfl
 iterate 2 (all_goals try cbv; all_goals with_reducible repeat' first | exact True.intro | refine And.intro ?_ ?_ | intro _)
 all_goals try exact oH
 refine callS hA rfl (clone0_fs C) ?_; rintro _ rfl
 iterate 2 (all_goals try cbv; all_goals with_reducible repeat' first | exact True.intro | refine And.intro ?_ ?_ | intro _)
 all_goals try exact oH

end Try
end Go.Proofs
