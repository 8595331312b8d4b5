/- The types' table of the seat's program, and what its contracts take for granted: the program itself, and where the tables of math/bits lie. -/
import Derived.Test.YtlkiofkkjbodjaaGreatDoorProg
import Derived.Test.YtlkiofkkjbodjaaGreatDoorBEvD
import Derived.Lib.TrailingZeros
set_option linter.unusedSimpArgs false
set_option linter.unusedVariables false
namespace Go.Proofs
open Go Go.Pe Go.Dg
noncomputable def Tryz.aWB (t : Nat) : Nat := Tryz.prog.cellsOf t
noncomputable def Tryz.bAA (t : Nat) : Option TypeDesc := Tryz.prog.underlying t
noncomputable def Tryz.bAB (t : Nat) : Option TypeInfo := Tryz.prog.info? t
noncomputable def Tryz.aWC (t : Nat) : Nat := Tryz.prog.bytesOf t
noncomputable def Tryz.T : TT := ⟨Tryz.aWB, Tryz.bAA, Tryz.bAB, Tryz.aWC⟩
theorem Tryz.hT : Tryz.T = TT.of Tryz.prog := rfl
theorem Tryz.mix : Tryz.prog.follows .mixedOrders = true := by kernel_rfl
def Tryz.Tab (gl : List (Nat × Obj)) : Prop := ∃ (cs : Array Value) (t : TypeId) (fr : Nat × Nat), (1, Obj.cells cs t fr) ∈ gl ∧ ∀ j, j < 64 → cs[j]? = some (.int .u8 (Lib.deBruijn64tab.getD j 0))
def Tryz.Cx (P : Program) (gl : List (Nat × Obj)) : Prop := P = Tryz.prog ∧ Tryz.Tab gl
theorem Tryz.gS {P : Program} {gl : List (Nat × Obj)} (C : Tryz.Cx P gl) {f : FuncId} {fn : Func} {c : Code} {args : List PV} {R : PV → Prop} (hf : Tryz.prog.funcs[f]? = some fn) (hb : fn.body = some c) (hm : (fn.name == "runtime.NumGoroutine") = false) (hn : Nat.ble args.length fn.ntmps = true)
 (hv : ∀ A, A = AR.std → aA = A.ints → iU P Tryz.T A gl .any c (aUX Tryz.T A fn.results.toList R) ⟨cS 0 (args.map .pv), [], fn.ntmps, 0⟩) : FS P gl f args R := by
 obtain ⟨rfl, hG⟩ := C
 exact eN (args := fun _ => args) (R := fun _ => R) Tryz.hT Tryz.mix hf hb hm (Nat.le_of_ble_eq_true hn) fun A hA => hv A hA (by subst hA; rfl)

end Go.Proofs
