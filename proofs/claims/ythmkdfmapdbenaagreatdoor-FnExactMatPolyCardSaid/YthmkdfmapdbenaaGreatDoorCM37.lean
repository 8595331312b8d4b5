/- Contracts: the identity and the adjugate in the reference. -/
import Derived.Test.YthmkdfmapdbenaaGreatDoorCM10
import Derived.Test.YthmkdfmapdbenaaGreatDoorCM35
import Derived.Test.YthmkdfmapdbenaaGreatDoorCPeTb
namespace Go.Proofs
open Go Go.Pe Go.Dg
namespace Tryz
set_option linter.unusedSimpArgs false
set_option linter.unusedVariables false
variable {P : Program} {gl : List (Nat × Obj)}

set_option maxHeartbeats 1000000 in
set_option maxRecDepth 100000 in
theorem l3of1_fs (C : Cx P gl) {p : List PV} (hp : p = intsL (dg 1)) : FS P gl 127 [I 1] (· = .agg [B false, .lst p]) := by
  have h1 := fun (P' : Program) (C' : Cx P' gl) => l2of_fs C' (k := 1) (n := 1) rfl hp (by decide)
  have h2 := fun (P' : Program) (C' : Cx P' gl) => l3make_fs C' (n := 1) (s := false) (s' := false) hp rfl (Nat.le_trans (dg_len 1 (by decide)) (by decide))
  clear hp
  obtain ⟨rfl, hG⟩ := C
  refine FS_ofT (args := fun A => [I 1]) (R := fun A rr => rr = .agg [B false, .lst p]) Tryz.hT Tryz.mix Tryz.func127 rfl rfl (Nat.le_of_ble_eq_true rfl) ?_
  generalize hP : Tryz.prog = P
  intro A hA
  have C : Tryz.Cx P gl := ⟨hP.symm, hG⟩
  have hI : intsL = A.ints := by subst hA; rfl
  iterate 2 (all_goals try cbv; all_goals repeat' (first | with_reducible exact True.intro | with_reducible refine And.intro ?_ ?_ | intro _))
  all_goals try exact oG
  refine callS hA rfl (h1 P C) ?_; rintro _ rfl
  iterate 2 (all_goals try cbv; all_goals repeat' (first | with_reducible exact True.intro | with_reducible refine And.intro ?_ ?_ | intro _))
  all_goals try exact oG
  refine callS hA rfl (h2 P C) ?_; rintro _ rfl
  iterate 2 (all_goals try cbv; all_goals repeat' (first | with_reducible exact True.intro | with_reducible refine And.intro ?_ ?_ | intro _))
  all_goals try exact oG

end Tryz
end Go.Proofs
