/- Contracts of functions of the program (Sx), each under the conditions that its own statement names. -/
import Derived.Test.YtoiomklhpleceaaProg
import Derived.Test.YtoiomklhpleceaaPeC
import Derived.Test.YtoiomklhpleceaaPeDg
namespace Go.Proofs
open Go Go.Pe Go.Dg
noncomputable def Try.Tcells (t : Nat) : Nat := Try.prog.cellsOf t
noncomputable def Try.Tund (t : Nat) : Option TypeDesc := Try.prog.underlying t
noncomputable def Try.Tinf (t : Nat) : Option TypeInfo := Try.prog.info? t
noncomputable def Try.Tbytes (t : Nat) : Nat := Try.prog.bytesOf t
noncomputable def Try.T : TT := ⟨Try.Tcells, Try.Tund, Try.Tinf, Try.Tbytes⟩
theorem Try.hT : Try.T = TT.of Try.prog := rfl
theorem Try.mix : Try.prog.follows .mixedOrders = true := by kernel_rfl
end Go.Proofs
