/- The types' table of the seat's program, and what its contracts take for granted: the program itself, and where the tables of math/bits lie. -/
import Derived.Test.YtlkiofkkjbodjaaGreatDoorProg
import Derived.Test.YtlkiofkkjbodjaaGreatDoorDEvD
import Derived.Lib.TrailingZeros
set_option linter.unusedSimpArgs false
set_option linter.unusedVariables false
namespace Go.Proofs
open Go Go.Pe Go.Dg
noncomputable def Tryz.Tcells (t : Nat) : Nat := Tryz.prog.cellsOf t
noncomputable def Tryz.Tund (t : Nat) : Option TypeDesc := Tryz.prog.underlying t
noncomputable def Tryz.Tinf (t : Nat) : Option TypeInfo := Tryz.prog.info? t
noncomputable def Tryz.Tbytes (t : Nat) : Nat := Tryz.prog.bytesOf t
noncomputable def Tryz.T : TT := ⟨Tryz.Tcells, Tryz.Tund, Tryz.Tinf, Tryz.Tbytes⟩
theorem Tryz.hT : Tryz.T = TT.of Tryz.prog := rfl
theorem Tryz.mix : Tryz.prog.follows .mixedOrders = true := by kernel_rfl
def Tryz.Tab (gl : List (Nat × Obj)) : Prop := ∃ (cs : Array Value) (t : TypeId) (fr : Nat × Nat), (1, Obj.cells cs t fr) ∈ gl ∧ ∀ j, j < 64 → cs[j]? = some (.int .u8 (Lib.deBruijn64tab.getD j 0))
def Tryz.Cx (P : Program) (gl : List (Nat × Obj)) : Prop := P = Tryz.prog ∧ Tryz.Tab gl
theorem Tryz.gS {P : Program} {gl : List (Nat × Obj)} (C : Tryz.Cx P gl) {f : FuncId} {fn : Func} {c : Code} {args : List PV} {R : PV → Prop} (hf : Tryz.prog.funcs[f]? = some fn) (hb : fn.body = some c) (hm : (fn.name == "runtime.NumGoroutine") = false) (hn : Nat.ble args.length fn.ntmps = true)
 (hv : ∀ A, A = AR.std → intsL = A.ints → codeVC' P Tryz.T A gl .any c (endR Tryz.T A fn.results.toList R) ⟨startSlots 0 (args.map .pv), [], fn.ntmps, 0⟩) : FS P gl f args R := by
 obtain ⟨rfl, hG⟩ := C
 exact FS_ofT (args := fun _ => args) (R := fun _ => R) Tryz.hT Tryz.mix hf hb hm (Nat.le_of_ble_eq_true hn) fun A hA => hv A hA (by subst hA; rfl)

theorem Tryz.gSa {P : Program} {gl : List (Nat × Obj)} (C : Tryz.Cx P gl) {f : FuncId} {fn : Func} {c : Code} {args : AR → List PV} {R : AR → PV → Prop} (hf : Tryz.prog.funcs[f]? = some fn) (hb : fn.body = some c) (hm : (fn.name == "runtime.NumGoroutine") = false) (hn : Nat.ble (args AR.std).length fn.ntmps = true)
 (hv : ∀ A, A = AR.std → intsL = A.ints → codeVC' P Tryz.T A gl .any c (endR Tryz.T A fn.results.toList (R A)) ⟨startSlots 0 ((args A).map .pv), [], fn.ntmps, 0⟩) : FS P gl f (args AR.std) (R AR.std) := by
 obtain ⟨rfl, hG⟩ := C
 exact FS_ofT (args := args) (R := R) Tryz.hT Tryz.mix hf hb hm (Nat.le_of_ble_eq_true hn) fun A hA => hv A hA (by subst hA; rfl)

theorem Tryz.gX {P : Program} {gl : List (Nat × Obj)} (C : Tryz.Cx P gl) {f : FuncId} {fn : Func} {c : Code} {own : List Blk} {args : List FV} {R : List Blk → FV → Prop} (hf : Tryz.prog.funcs[f]? = some fn) (hb : fn.body = some c) (hm : (fn.name == "runtime.NumGoroutine") = false) (hn : Nat.ble args.length fn.ntmps = true)
 (hv : ∀ A, A = AR.std → intsL = A.ints → codeVC' P Tryz.T A gl .any c (endXR Tryz.T A fn.results.toList own.length R) ⟨startSlots 0 args, own, fn.ntmps, own.length⟩) : FX P gl f own args R := by
 obtain ⟨rfl, hG⟩ := C
 exact FX_ofT (own := fun _ => own) (args := fun _ => args) (R := fun _ => R) Tryz.hT Tryz.mix hf hb hm (Nat.le_of_ble_eq_true hn) fun A hA => hv A hA (by subst hA; rfl)

end Go.Proofs
