/- The law FnExactSolve at all arguments. -/
import Derived.Test.YtlkiofkkjbodjaaGreatDoorDW57
import Derived.Test.YtlkiofkkjbodjaaGreatDoorDP17
import Derived.Test.YtlkiofkkjbodjaaGreatDoorDP18
namespace Go.Proofs
open Go Go.Pe Go.Dg
namespace Tryz
set_option linter.unusedSimpArgs false
set_option linter.unusedVariables false
variable {P : Program} {gl : List (Nat × Obj)}

theorem law_fs (C : Cx P gl) {l0 l1 : List Cell3} {p0 p1 : List PV} {n0 n2 : Int} (hp0 : p0 = cells3 l0) (hp1 : p1 = cells3 l1)
  (h0 : l0.length ≤ 9223372036854775807) (y0 : ∀ y ∈ l0, y.2.1.length ≤ 9223372036854775807) (h1 : l1.length ≤ 9223372036854775807) (y1 : ∀ y ∈ l1, y.2.1.length ≤ 9223372036854775807) :
  FS P gl 6 [.agg [I n0, .lst p0], .lst p1, I n2] (· = B true) := by
 rcases Nat.lt_or_ge 1048576 (l0.length + tot l0 + l1.length + tot l1) with hbig | hbig
 ·exact lawL_fs C hp0 hp1 h0 h1 y0 y1 hbig
 have b0 : l0.length ≤ 2000000 := by omega
 have b1 : l1.length ≤ 2000000 := by omega
 have z0 : ∀ y ∈ l0, y.2.1.length ≤ 2000000 := fun y hy => Nat.le_trans (tot_mem hy) (by omega)
 have z1 : ∀ y ∈ l1, y.2.1.length ≤ 2000000 := fun y hy => Nat.le_trans (tot_mem hy) (by omega)
 by_cases hok : solOk n0 l0 l1 n2 ∧ detD n0.toNat (dvY l0) ≠ 0
 ·have hn4 := hok.1.1.2.1
  by_cases hf : ∀ k, k < n0.toNat → fits ((solLo n0.toNat (dvY l0) (dvY l1) n2) k) ∧ fits ((solHi n0.toNat (dvY l0) (dvY l1) n2) k)
  ·have hw : true = true ↔ (solOk n0 l0 l1 n2 ∧ detD n0.toNat (dvY l0) ≠ 0) ∧ ∀ k, k < n0.toNat → fits ((solLo n0.toNat (dvY l0) (dvY l1) n2) k) ∧ fits ((solHi n0.toNat (dvY l0) (dvY l1) n2) k) := ⟨fun _ => ⟨hok, hf⟩, fun _ => rfl⟩
   refine law_o_fs C hp0 hp1 (w := true) (r := cells6 (canV (solLo n0.toNat (dvY l0) (dvY l1) n2) (solHi n0.toNat (dvY l0) (dvY l1) n2) n0.toNat)) rfl (by rw [canV_len]; omega) (fun y hy => ?_) hbig (fun P' C' => specSolve_fs C' hp0 hp1 hw (fun _ => rfl) (fun h => absurd h (by decide)) b0 z0 b1 z1) (fun P' C' => implSolve_o_fn C' hp0 hp1 hok.1 hok.2 hf rfl b0 z0 b1 z1)
   obtain ⟨k, hk, rfl⟩ := List.mem_map.1 hy
   exact ⟨(hf k (List.mem_range.1 hk)).1.1, (hf k (List.mem_range.1 hk)).2.1⟩
  ·have hw : false = true ↔ (solOk n0 l0 l1 n2 ∧ detD n0.toNat (dvY l0) ≠ 0) ∧ ∀ k, k < n0.toNat → fits ((solLo n0.toNat (dvY l0) (dvY l1) n2) k) ∧ fits ((solHi n0.toNat (dvY l0) (dvY l1) n2) k) := ⟨fun h => absurd h (by decide), fun h => absurd h.2 hf⟩
   exact law_n_fs C hp0 hp1 (w := false) hbig (fun P' C' => specSolve_fs C' hp0 hp1 hw (fun h => absurd h (by decide)) (fun _ => rfl) b0 z0 b1 z1) (fun P' C' => implSolve_X_fs C' hp0 hp1 hok.1 hok.2 hf b0 z0 b1 z1)
 ·have hw : false = true ↔ (solOk n0 l0 l1 n2 ∧ detD n0.toNat (dvY l0) ≠ 0) ∧ ∀ k, k < n0.toNat → fits ((solLo n0.toNat (dvY l0) (dvY l1) n2) k) ∧ fits ((solHi n0.toNat (dvY l0) (dvY l1) n2) k) := ⟨fun h => absurd h (by decide), fun h => absurd h.1 hok⟩
  refine law_n_fs C hp0 hp1 (w := false) hbig (fun P' C' => specSolve_fs C' hp0 hp1 hw (fun h => absurd h (by decide)) (fun _ => rfl) b0 z0 b1 z1) (fun P' C' => ?_)
  by_cases hs : solOk n0 l0 l1 n2
  ·by_cases hd : detD n0.toNat (dvY l0) = 0
   ·exact implSolve_Z_fs C' hp0 hp1 hs hd b0 z0 b1 z1
   ·exact absurd ⟨hs, hd⟩ hok
  ·exact implSolve_N_fs C' hp0 hp1 hs b0 z0 b1 z1

end Tryz
end Go.Proofs
