/- Contracts: an interval made coarser. -/
import Derived.Test.YtlkiofkkjbodjaaGreatDoorRows
import Derived.ProofKit
import Derived.LaidMore
import Derived.OpenShut
import Derived.Stop.Joined
import Derived.Lib.LaidTab
import Derived.Test.YtlkiofkkjbodjaaGreatDoorBSx
import Derived.Test.YtlkiofkkjbodjaaGreatDoorBEvD
import Derived.Test.YtlkiofkkjbodjaaGreatDoorBN36
import Derived.Test.YtlkiofkkjbodjaaGreatDoorBN29
import Derived.Test.YtlkiofkkjbodjaaGreatDoorBN32
set_option linter.unusedSimpArgs false
set_option linter.unusedVariables false
namespace Go.Proofs.YtlkiofkkjbodjaaGreatDoor
open Go Go.Pe Go.ChangeShapes Go.WideShapes Go.ChangeAt Go.RowKit
set_option linter.unusedVariables false

theorem own : ownKnob Tryz.prog.godebug = none := by kernel_rfl
theorem kids : Kids Tryz.prog (· < Tryz.prog.types.size) := kids_rows (by kernel_rfl) (by kernel_rfl)
theorem full : ∀ t e, t < Tryz.prog.types.size → Tryz.prog.underlying t = some (.slice e) → 0 < Tryz.prog.cellsOf e := slices_full_of Tryz.prog (by kernel_rfl)

abbrev laidB : List (String × DataW Unit) := [("math/bits.deBruijn32tab", Rows.laid_math_bits_deBruijn32tab), ("math/bits.deBruijn64tab", Rows.laid_math_bits_deBruijn64tab)]

theorem g32 : Tryz.prog.globalNamed "math/bits.deBruijn32tab" = some 0 := by kernel_rfl
theorem g64 : Tryz.prog.globalNamed "math/bits.deBruijn64tab" = some 1 := by kernel_rfl
theorem t64 : (Tryz.prog.globals[1]?).map (·.type) = some 263 := by kernel_rfl

theorem aRR (os : Os) (args : Array Value) : laidMetH Tryz.prog laidB ((World.doorLaid Tryz.prog 400 os).forCall (fun _ _ => 0) ⟨#[], args, []⟩).memory :=
 laidMetH_of_parts3 (fuel := 8) (laidMet_of_run' 8 (by kernel_rfl) (by kernel_rfl)) (by kernel_rfl) (by kernel_rfl)

theorem aTM {W : World} (h : laidMetH Tryz.prog laidB W) : ∃ gl, Tryz.Tab gl ∧ aCP gl W := by
 rw [MakeChecks.laidMetH_plain _ _ _ (by kernel_rfl)] at h
 obtain ⟨ps, ⟨g0, t0, cs0, f0, p0, q0, hg0, ht0, hv0, hd0, ⟨g1, t1, cs1, f1, p1, q1, hg1, ht1, hv1, hd1, _, _⟩, _⟩, _, _⟩ := h
 obtain rfl := Option.some.inj (g64.symm.trans hg1)
 obtain rfl := Option.some.inj (t64.symm.trans ht1)
 have hc := Lib.cells_of_tab (zs := Lib.deBruijn64tab.map Int.ofNat) Tryz.underlying263 Tryz.underlying5 (by kernel_rfl) (by kernel_rfl) (show DataW.trod _ Tryz.prog W 0 _ _ f1 263 cs1.toList = some (Lib.tabData .u8 (Lib.deBruijn64tab.map Int.ofNat), p1) from hd1)
 unfold World.var? at hv1
 rw [g64] at hv1
 simp only [Option.bind_some] at hv1
 split at hv1
 ·rename_i cs ty fr hb
  obtain rfl := Option.some.inj hv1
  refine ⟨[(1, .cells cs ty fr)], ⟨cs, ty, fr, by simp, fun j hj => ?_⟩, fun x hx => ?_⟩
  ·rw [← Array.getElem?_toList, hc]
   have hl : Lib.deBruijn64tab.length = 64 := by decide
   simp only [List.getElem?_map, List.getD]
   rw [List.getElem?_eq_getElem (by omega)]
   rfl
  ·simp only [List.mem_singleton] at hx
   rw [hx]; exact hb
 ·cases hv1

end Go.Proofs.YtlkiofkkjbodjaaGreatDoor

namespace Go.Proofs
open Go Go.Pe Go.Dg
namespace Tryz
set_option linter.unusedSimpArgs false
set_option linter.unusedVariables false
variable {P : Program} {gl : List (Nat × Obj)}

end Tryz
end Go.Proofs

set_option maxHeartbeats 2000000
set_option maxRecDepth 100000
namespace Go.Proofs
open Go Go.Pe Go.Dg
namespace Tryz
set_option linter.unusedSimpArgs false
set_option linter.unusedVariables false
variable {P : Program} {gl : List (Nat × Obj)}

theorem aRC (C : Cx P gl) {n : Int} {b : Bool} (hb : b = (decide (-200 ≤ n) && decide (n ≤ 200))) : FS P gl 49 [I n] (· = B b) := by
 refine gS C func49 rfl rfl rfl fun A hA hI => ?_
 iterate 2 all_goals try cbv; with_reducible repeat' first | exact ⟨⟩ | apply And.intro | intro _
 all_goals try exact pH
 rw [hb]
 subst hA
 show PV.val (.bool (bif decide (-200 ≤ n) then decide (n ≤ 200) else false)) = _
 cases decide (-200 ≤ n) <;> rfl

theorem mO (C : Cx P gl) {n : Int} {b : Bool} (hb : b = (decide (-200 ≤ n) && decide (n ≤ 200))) : FS P gl 54 [I n] (· = B b) := by
 refine gS C func54 rfl rfl rfl fun A hA hI => ?_
 iterate 2 all_goals try cbv; with_reducible repeat' first | exact ⟨⟩ | apply And.intro | intro _
 all_goals try exact oH
 refine aD hA rfl (gN C hb) ?_; rintro _ rfl
 iterate 2 all_goals try cbv; with_reducible repeat' first | exact ⟨⟩ | apply And.intro | intro _
 all_goals try exact oH

end Tryz
end Go.Proofs

