/- Contracts: DyDiv in the reference. -/
import Derived.Test.YtcbagjglchpagaaDoorHN10
import Derived.Test.YtcbagjglchpagaaDoorHN34
namespace Go.Proofs
open Go Go.Pe Go.Dg
namespace Tryd
set_option linter.unusedSimpArgs false
set_option linter.unusedVariables false
variable {P : Program} {gl : List (Nat × Obj)}

set_option maxRecDepth 100000 in
theorem l4mode_fs (C : Cx P gl) {n : Int} {b : Bool} (hb : b = (decide (0 ≤ n) && decide (n ≤ 4))) : FS P gl 29 [I n] (· = B b) := by
  obtain ⟨rfl, hG⟩ := C
  refine FS_ofT (args := fun A => [I n]) (R := fun A rr => rr = B b) Tryd.hT Tryd.mix Tryd.func29 rfl rfl (Nat.le_of_ble_eq_true rfl) ?_
  generalize hP : Tryd.prog = P
  intro A hA
  have C : Tryd.Cx P gl := ⟨hP.symm, hG⟩
  have hI : intsL = A.ints := by subst hA; rfl
  iterate 2 (all_goals try cbv; all_goals repeat' (first | with_reducible exact True.intro | with_reducible refine And.intro ?_ ?_ | intro _))
  all_goals try exact pH
  rw [hb]
  subst hA
  show PV.val (.bool (bif decide (0 ≤ n) then decide (n ≤ 4) else false)) = _
  cases decide (0 ≤ n) <;> rfl

end Tryd
end Go.Proofs
