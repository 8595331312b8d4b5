/- The types' table of the seat's program, and what its contracts take for granted: the program itself, and where the tables of math/bits lie. -/
import Derived.Test.YtlkiofkkjbodjaaGreatDoorProg
import Derived.Test.YtlkiofkkjbodjaaGreatDoorAEvD
import Derived.Lib.TrailingZeros
set_option linter.unusedSimpArgs false
set_option linter.unusedVariables false
namespace Go.Proofs
open Go Go.Pe Go.Dg
noncomputable def Tryz.Tcells (t : Nat) : Nat := Tryz.prog.cellsOf t
noncomputable def Tryz.Tund (t : Nat) : Option TypeDesc := Tryz.prog.underlying t
noncomputable def Tryz.Tinf (t : Nat) : Option TypeInfo := Tryz.prog.info? t
noncomputable def Tryz.Tbytes (t : Nat) : Nat := Tryz.prog.bytesOf t
noncomputable def Tryz.T : TT := ⟨Tryz.Tcells, Tryz.Tund, Tryz.Tinf, Tryz.Tbytes⟩
theorem Tryz.hT : Tryz.T = TT.of Tryz.prog := rfl
theorem Tryz.mix : Tryz.prog.follows .mixedOrders = true := by kernel_rfl
def Tryz.Tab (gl : List (Nat × Obj)) : Prop := ∃ (cs : Array Value) (t : TypeId) (fr : Nat × Nat), (1, Obj.cells cs t fr) ∈ gl ∧ ∀ j, j < 64 → cs[j]? = some (.int .u8 (Lib.deBruijn64tab.getD j 0))
def Tryz.Cx (P : Program) (gl : List (Nat × Obj)) : Prop := P = Tryz.prog ∧ Tryz.Tab gl
end Go.Proofs
