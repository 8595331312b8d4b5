/- Contracts: DyDiv as the program has it. -/
import Derived.Test.YtcbagjglchpagaaDoorHD6
import Derived.Test.YtcbagjglchpagaaDoorHN21
import Derived.Test.YtcbagjglchpagaaDoorHN29
namespace Go.Proofs
open Go Go.Pe Go.Dg
namespace Tryd
set_option linter.unusedSimpArgs false
set_option linter.unusedVariables false
variable {P : Program} {gl : List (Nat × Obj)}

set_option maxRecDepth 100000 in
theorem isLow_fs (C : Cx P gl) {n : Int} {b : Bool} (hb : b = (decide (-3000 ≤ n) && decide (n ≤ 3000))) : FS P gl 55 [I n] (· = B b) := by
  obtain ⟨rfl, hG⟩ := C
  refine FS_ofT (args := fun A => [I n]) (R := fun A rr => rr = B b) Tryd.hT Tryd.mix Tryd.func55 rfl rfl (Nat.le_of_ble_eq_true rfl) ?_
  generalize hP : Tryd.prog = P
  intro A hA
  have C : Tryd.Cx P gl := ⟨hP.symm, hG⟩
  have hI : intsL = A.ints := by subst hA; rfl
  iterate 2 (all_goals try cbv; all_goals repeat' (first | with_reducible exact True.intro | with_reducible refine And.intro ?_ ?_ | intro _))
  all_goals try exact oH
  refine callS hA rfl (within_fs C hb) ?_; rintro _ rfl
  iterate 2 (all_goals try cbv; all_goals repeat' (first | with_reducible exact True.intro | with_reducible refine And.intro ?_ ?_ | intro _))
  all_goals try exact oH

set_option maxRecDepth 100000 in
theorem isMode_fs (C : Cx P gl) {n : Int} {b : Bool} (hb : b = (decide (0 ≤ n) && decide (n ≤ 4))) : FS P gl 56 [I n] (· = B b) := by
  obtain ⟨rfl, hG⟩ := C
  refine FS_ofT (args := fun A => [I n]) (R := fun A rr => rr = B b) Tryd.hT Tryd.mix Tryd.func56 rfl rfl (Nat.le_of_ble_eq_true rfl) ?_
  generalize hP : Tryd.prog = P
  intro A hA
  have C : Tryd.Cx P gl := ⟨hP.symm, hG⟩
  have hI : intsL = A.ints := by subst hA; rfl
  iterate 2 (all_goals try cbv; all_goals repeat' (first | with_reducible exact True.intro | with_reducible refine And.intro ?_ ?_ | intro _))
  all_goals try exact oH
  refine callS hA rfl (within_fs C hb) ?_; rintro _ rfl
  iterate 2 (all_goals try cbv; all_goals repeat' (first | with_reducible exact True.intro | with_reducible refine And.intro ?_ ?_ | intro _))
  all_goals try exact oH

end Tryd
end Go.Proofs
