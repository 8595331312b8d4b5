/- The types' table of the seat's program, and what its contracts take for granted: the program itself. -/
import Derived.Test.YtlkiofkkjbodjaaProg
import Derived.Test.YtlkiofkkjbodjaaAEvD
set_option linter.unusedSimpArgs false
set_option linter.unusedVariables false
namespace Go.Proofs
open Go Go.Pe Go.Dg
noncomputable def Try.Tcells (t : Nat) : Nat := Try.prog.cellsOf t
noncomputable def Try.Tund (t : Nat) : Option TypeDesc := Try.prog.underlying t
noncomputable def Try.Tinf (t : Nat) : Option TypeInfo := Try.prog.info? t
noncomputable def Try.Tbytes (t : Nat) : Nat := Try.prog.bytesOf t
noncomputable def Try.T : TT := ⟨Try.Tcells, Try.Tund, Try.Tinf, Try.Tbytes⟩
theorem Try.hT : Try.T = TT.of Try.prog := rfl
theorem Try.mix : Try.prog.follows .mixedOrders = true := by kernel_rfl
def Try.Cx (P : Program) (gl : List (Nat × Obj)) : Prop := P = Try.prog ∧ gl = gl
end Go.Proofs
