/- Contracts: DyDiv as the program has it. -/
import Derived.Test.YtcbagjglchpagaaDoorFN15
import Derived.Test.YtcbagjglchpagaaDoorFEvD
import Derived.Test.YtcbagjglchpagaaDoorFD6
namespace Go.Proofs
open Go Go.Pe Go.Dg
namespace Tryd
set_option linter.unusedSimpArgs false
set_option linter.unusedVariables false
variable {P : Program} {gl : List (Nat × Obj)}

end Tryd
end Go.Proofs

namespace Go.Proofs
open Go Go.Pe Go.Dg
namespace Tryd
set_option linter.unusedSimpArgs false
set_option linter.unusedVariables false
variable {P : Program} {gl : List (Nat × Obj)}

end Tryd
end Go.Proofs

namespace Go.Proofs
open Go Go.Pe Go.Dg
namespace Tryd
set_option linter.unusedSimpArgs false
set_option linter.unusedVariables false
variable {P : Program} {gl : List (Nat × Obj)}

end Tryd
end Go.Proofs

namespace Go.Proofs
open Go Go.Pe Go.Dg
namespace Tryd
set_option linter.unusedSimpArgs false
set_option linter.unusedVariables false
variable {P : Program} {gl : List (Nat × Obj)}

end Tryd
end Go.Proofs

namespace Go.Proofs
open Go Go.Pe Go.Dg
namespace Tryd
set_option linter.unusedSimpArgs false
set_option linter.unusedVariables false
variable {P : Program} {gl : List (Nat × Obj)}

theorem zeroCells : dyOk false [] 0 := ⟨⟨⟨by decide, Valid.nil, .inl rfl⟩, by simp⟩, by decide, by decide, fun _ => rfl, fun h => absurd rfl h⟩

end Tryd
end Go.Proofs

namespace Go.Proofs
open Go Go.Pe Go.Dg
namespace Tryd
set_option linter.unusedSimpArgs false
set_option linter.unusedVariables false
variable {P : Program} {gl : List (Nat × Obj)}

end Tryd
end Go.Proofs

namespace Go.Proofs
open Go Go.Pe Go.Dg
namespace Tryd
set_option linter.unusedSimpArgs false
set_option linter.unusedVariables false
variable {P : Program} {gl : List (Nat × Obj)}

end Tryd
end Go.Proofs

namespace Go.Proofs
open Go Go.Pe Go.Dg
namespace Tryd
set_option linter.unusedSimpArgs false
set_option linter.unusedVariables false
variable {P : Program} {gl : List (Nat × Obj)}

set_option maxRecDepth 100000 in
theorem isMode_fs (C : Cx P gl) {n : Int} {b : Bool} (hb : b = (decide (0 ≤ n) && decide (n ≤ 4))) : FS P gl 56 [I n] (· = B b) := by
  obtain ⟨rfl, hG⟩ := C
  refine FS_ofT (args := fun A => [I n]) (R := fun A rr => rr = B b) Tryd.hT Tryd.mix Tryd.func56 rfl rfl (Nat.le_of_ble_eq_true rfl) ?_
  generalize hP : Tryd.prog = P
  intro A hA
  have C : Tryd.Cx P gl := ⟨hP.symm, hG⟩
  have hI : intsL = A.ints := by subst hA; rfl
  iterate 2 (all_goals try cbv; all_goals repeat' (first | with_reducible exact True.intro | with_reducible refine And.intro ?_ ?_ | intro _))
  all_goals try exact oH
  refine callS hA rfl (within_fs C hb) ?_; rintro _ rfl
  iterate 2 (all_goals try cbv; all_goals repeat' (first | with_reducible exact True.intro | with_reducible refine And.intro ?_ ?_ | intro _))
  all_goals try exact oH

set_option maxRecDepth 100000 in
theorem isZero_fs (C : Cx P gl) {l : List Int} {p : List PV} {s b : Bool} {e : Int} (hp : p = intsL l) (hb : b = decide (l.length = 0)) : FS P gl 85 [.agg [B s, .lst p, I e]] (· = B b) := by
  obtain ⟨rfl, hG⟩ := C
  refine FS_ofT (args := fun A => [.agg [B s, .lst p, I e]]) (R := fun A rr => rr = B b) Tryd.hT Tryd.mix Tryd.func85 rfl rfl (Nat.le_of_ble_eq_true rfl) ?_
  generalize hP : Tryd.prog = P
  intro A hA
  have C : Tryd.Cx P gl := ⟨hP.symm, hG⟩
  have hI : intsL = A.ints := by subst hA; rfl
  iterate 2 (all_goals try cbv; all_goals repeat' (first | with_reducible exact True.intro | with_reducible refine And.intro ?_ ?_ | intro _))
  all_goals try exact oH
  have e1 : A.eq (A.cast (A.len p)) 0 = b := by
    rw [hb]; subst hA; subst hp; rw [Bool.eq_iff_iff]; simp [AR.std, ints_len]
  exact congrArg (fun x => PV.val (.bool x)) e1

end Tryd
end Go.Proofs

