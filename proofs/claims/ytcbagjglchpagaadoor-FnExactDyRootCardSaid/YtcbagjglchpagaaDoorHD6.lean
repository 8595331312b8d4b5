/- Contracts: rounding of quotients. -/
import Derived.Test.YtcbagjglchpagaaDoorHD5
import Derived.Test.YtcbagjglchpagaaDoorHEvD
namespace Go.Proofs
open Go Go.Pe Go.Dg
namespace Tryd
set_option linter.unusedSimpArgs false
set_option linter.unusedVariables false
variable {P : Program} {gl : List (Nat × Obj)}

set_option maxHeartbeats 1000000 in
set_option maxRecDepth 100000 in
theorem roundUp_fs (C : Cx P gl) {s o r : Bool} {h m : Int} (hr : r = rup s o h m) : FS P gl 137 [B s, B o, I h, I m] (· = B r) := by
  obtain ⟨rfl, hG⟩ := C
  refine FS_ofT (args := fun A => [B s, B o, I h, I m]) (R := fun A rr => rr = B r) Tryd.hT Tryd.mix Tryd.func137 rfl rfl (Nat.le_of_ble_eq_true rfl) ?_
  generalize hP : Tryd.prog = P
  intro A hA
  have C : Tryd.Cx P gl := ⟨hP.symm, hG⟩
  have hI : intsL = A.ints := by subst hA; rfl
  iterate 2 (all_goals try cbv; all_goals repeat' (first | with_reducible exact True.intro | with_reducible refine And.intro ?_ ?_ | intro _))
  all_goals try exact oH
  iterate 2 (all_goals try cbv; all_goals repeat' (first | with_reducible exact True.intro | with_reducible refine And.intro ?_ ?_ | intro _))
  all_goals try exact oH
  iterate 2 (all_goals try cbv; all_goals repeat' (first | with_reducible exact True.intro | with_reducible refine And.intro ?_ ?_ | intro _))
  all_goals try exact oH
  iterate 2 (all_goals try cbv; all_goals repeat' (first | with_reducible exact True.intro | with_reducible refine And.intro ?_ ?_ | intro _))
  all_goals try exact oH
  all_goals subst hA
  all_goals simp only [AR.std, beq_iff_eq, beq_eq_false_iff_ne] at *
  all_goals rw [hr]; unfold rup
  all_goals have hh : (h == 0) = decide (h = 0) := by rw [Bool.eq_iff_iff]; simp
  all_goals simp_all

end Tryd
end Go.Proofs
