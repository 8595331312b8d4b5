/- The types' table of the seat's program, and what its contracts take for granted: the program itself, and where the tables of math/bits lie. -/
import Derived.Test.YtcbagjglchpagaaDoorProg
import Derived.Test.YtcbagjglchpagaaDoorFEvD
import Derived.Lib.TrailingZeros
set_option linter.unusedSimpArgs false
set_option linter.unusedVariables false
namespace Go.Proofs
open Go Go.Pe Go.Dg
noncomputable def Tryd.Tcells (t : Nat) : Nat := Tryd.prog.cellsOf t
noncomputable def Tryd.Tund (t : Nat) : Option TypeDesc := Tryd.prog.underlying t
noncomputable def Tryd.Tinf (t : Nat) : Option TypeInfo := Tryd.prog.info? t
noncomputable def Tryd.Tbytes (t : Nat) : Nat := Tryd.prog.bytesOf t
noncomputable def Tryd.T : TT := ⟨Tryd.Tcells, Tryd.Tund, Tryd.Tinf, Tryd.Tbytes⟩
theorem Tryd.hT : Tryd.T = TT.of Tryd.prog := rfl
theorem Tryd.mix : Tryd.prog.follows .mixedOrders = true := by kernel_rfl
/-- the table of 64 bytes lies in the variable -/
def Tryd.Tab (gl : List (Nat × Obj)) : Prop := ∃ (cs : Array Value) (t : TypeId) (fr : Nat × Nat), (1, Obj.cells cs t fr) ∈ gl ∧ ∀ j, j < 64 → cs[j]? = some (.int .u8 (Lib.deBruijn64tab.getD j 0))
/-- the program, and its tables -/
def Tryd.Cx (P : Program) (gl : List (Nat × Obj)) : Prop := P = Tryd.prog ∧ Tryd.Tab gl
end Go.Proofs
