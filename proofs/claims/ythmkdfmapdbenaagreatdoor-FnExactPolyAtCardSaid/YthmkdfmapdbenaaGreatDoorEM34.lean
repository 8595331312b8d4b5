/- Contracts: determinants in the program. -/
import Derived.Test.YthmkdfmapdbenaaGreatDoorEM5
import Derived.Test.YthmkdfmapdbenaaGreatDoorEN11
import Derived.Test.YthmkdfmapdbenaaGreatDoorEPeTe
import Derived.Test.YthmkdfmapdbenaaGreatDoorEM13
namespace Go.Proofs
open Go Go.Pe Go.Dg
namespace Tryz
set_option linter.unusedSimpArgs false
set_option linter.unusedVariables false
variable {P : Program} {gl : List (Nat × Obj)}

end Tryz
end Go.Proofs

namespace Go.Proofs
open Go Go.Pe Go.Dg
namespace Tryz
set_option linter.unusedSimpArgs false
set_option linter.unusedVariables false
variable {P : Program} {gl : List (Nat × Obj)}

set_option maxHeartbeats 1000000 in
set_option maxRecDepth 100000 in
theorem one_fs (C : Cx P gl) {p : List PV} (hp : p = intsL (dg 1)) : FS P gl 120 [] (· = .agg [B false, .lst p, I 0]) := by
  have hsm := fun (P' : Program) (C' : Cx P' gl) => small_fs C' (k := 1) (n := 1) rfl hp (by decide)
  clear hp
  obtain ⟨rfl, hG⟩ := C
  refine FS_ofT (args := fun A => []) (R := fun A rr => rr = .agg [B false, .lst p, I 0]) Tryz.hT Tryz.mix Tryz.func120 rfl rfl (Nat.le_of_ble_eq_true rfl) ?_
  generalize hP : Tryz.prog = P
  intro A hA
  have C : Tryz.Cx P gl := ⟨hP.symm, hG⟩
  have hI : intsL = A.ints := by subst hA; rfl
  iterate 2 (all_goals try cbv; all_goals repeat' (first | with_reducible exact True.intro | with_reducible refine And.intro ?_ ?_ | intro _))
  all_goals try exact oG
  refine callS hA rfl (hsm P C) ?_; rintro _ rfl
  iterate 2 (all_goals try cbv; all_goals repeat' (first | with_reducible exact True.intro | with_reducible refine And.intro ?_ ?_ | intro _))
  all_goals try exact oG

end Tryz
end Go.Proofs

